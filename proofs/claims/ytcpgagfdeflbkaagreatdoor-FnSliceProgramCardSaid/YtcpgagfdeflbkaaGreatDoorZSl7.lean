/- Texts written: spec.l2Text and its kin, l4Text, FormatClause. -/
import Derived.Test.YtcpgagfdeflbkaaGreatDoorZSl6
namespace Go.Proofs.YtcpgagfdeflbkaaGreatDoor
open Go Go.RowKit
theorem Pc:Tryz.prog.underlying Ir=some (.slice Hh):=by kernel_rfl
section
variable {w:World} {S:ad}
attribute [local irreducible] Run CondV aq aK
theorem jN {t:T} {cs:List Value} (h:RdT S cs t):Pure Tryz.prog Lq [.agg cs.toArray] S (.bool (AO t)):=by
 intro w hI
 obtain ⟨kv,rfl,_,_,_,hk⟩:=RdT.iff.1 h
 obtain ⟨ka,kc,rfl,_⟩:=id hk
 refine yT.2 ?_
 dsimp only[yT,aG]
 refine bp hI fun b1 w' hI=>?_
 refine ae hI 0 rfl aV aI rfl ?_
 by_cases h3:t.kind=3
 ·refine eW h3 ?_
  refine rpG ?_
  refine ae hI 0 rfl aW aN rfl ?_
  refine bt (b:=st [46]) ?_
  cases hn:decide (t.name=st [46])
  ·refine rpG ?_
   exact done hI (by rw [AO,hn,gJ,vq])
  ·refine rpG ?_
   refine ae hI 0 rfl av ao rfl ?_
   refine gL ah ?_
   refine bl ?_
   refine rpG ?_
   refine done hI ?_
   rw [AO,hn,aS h3,dU,dU]
   congr 1
   rw [fq]
   omega
 ·refine ei h3 ?_
  refine rpG ?_
  exact done hI (by rw [AO,bg h3,gJ])
theorem C9 {t:T} {cs:List Value} (h:RdT S cs t):Pure Tryz.prog Nh [.agg cs.toArray] S (.bool (Ob t)):=by
 intro w hI
 obtain ⟨kv,rfl,_,_,_,hk⟩:=RdT.iff.1 h
 obtain ⟨ka,kc,rfl,_⟩:=id hk
 refine At.2 ?_
 dsimp only[At,aG]
 refine bp hI fun b1 w' hI=>?_
 refine ae hI 0 rfl aV aI rfl ?_
 by_cases h3:t.kind=3
 ·refine eW h3 ?_
  refine rpG ?_
  refine ae hI 0 rfl aW aN rfl ?_
  refine bt (b:=st [91,93]) ?_
  cases hn:decide (t.name=st [91,93])
  ·refine rpG ?_
   exact done hI (by rw [Ob,hn,gJ,vq])
  ·refine rpG ?_
   refine ae hI 0 rfl av ao rfl ?_
   refine gL ah ?_
   refine bl ?_
   refine rpG ?_
   refine done hI ?_
   rw [Ob,hn,aS h3,dU,dU]
   congr 1
   rw [fq]
   omega
 ·refine ei h3 ?_
  refine rpG ?_
  exact done hI (by rw [Ob,bg h3,gJ])
theorem oV {t:T} {cs:List Value} (h:RdT S cs t):Pure Tryz.prog IM [.agg cs.toArray] S (.bool (nN t)):=by
 intro w hI
 obtain ⟨kv,rfl,_,_,_,hk⟩:=RdT.iff.1 h
 obtain ⟨ka,kc,rfl,_⟩:=id hk
 refine ui.2 ?_
 dsimp only[ui,aG]
 refine bp hI fun b1 w' hI=>?_
 refine ae hI 0 rfl aV aI rfl ?_
 by_cases h3:t.kind=3
 ·refine eW h3 ?_
  refine rpG ?_
  refine ae hI 0 rfl av ao rfl ?_
  refine gL ah ?_
  by_cases hn:t.kids.length=2
  ·refine eW (by omega) ?_
   refine rpG ?_
   refine ae hI 0 rfl aW aN rfl ?_
   refine Run.callPure eY fe hI (dK _ S) fun w' hI=>?_
   refine eU ?_
   refine rpG ?_
   exact done hI (by rw [nN,aS h3,aS hn,dU,dU])
  ·refine ei (by omega) ?_
   refine rpG ?_
   exact done hI (by rw [nN,bg hn,gJ,vq])
 ·refine ei h3 ?_
  refine rpG ?_
  exact done hI (by rw [nN,bg h3,gJ])
theorem qu {t:T} {cs:List Value} (h:RdT S cs t):Pure Tryz.prog JZ [.agg cs.toArray] S (.bool (yh t)):=by
 intro w hI
 obtain ⟨kv,rfl,_,_,_,hk⟩:=RdT.iff.1 h
 obtain ⟨ka,kc,rfl,_⟩:=id hk
 refine yl.2 ?_
 dsimp only[yl,aG]
 refine bp hI fun b1 w' hI=>?_
 refine ae hI 0 rfl aV aI rfl ?_
 by_cases h3:t.kind=3
 ·refine eW h3 ?_
  refine rpG ?_
  refine ae hI 0 rfl av ao rfl ?_
  refine gL ah ?_
  by_cases hn:t.kids.length=0
  ·refine eW (by omega) ?_
   refine rpG ?_
   refine ae hI 0 rfl aW aN rfl ?_
   refine Run.callPure eY fe hI (dK _ S) fun w' hI=>?_
   refine eU ?_
   refine rpG ?_
   exact done hI (by rw [yh,aS h3,aS hn,dU,dU])
  ·refine ei (by omega) ?_
   refine rpG ?_
   exact done hI (by rw [yh,bg hn,gJ,vq])
 ·refine ei h3 ?_
  refine rpG ?_
  exact done hI (by rw [yh,bg h3,gJ])
theorem Bv (n:Bs) (hn:n.length<=1000000):Pure Tryz.prog Ga [.string (st n)] S (.string (st (hO n))):=by
 intro w hI
 refine rS.2 ?_
 dsimp only[rS,aG]
 refine ⟨fun b w'=>b=.bool (decide (n=[105,115]) || decide (n=[109,111,100]))/\Inv w [] [] S w',?_,?_⟩
 ·refine Bp (b:=[105,115]) ?_
  cases h5:decide (n=[105,115])
  ·refine rpG ?_
   refine Bp (b:=[109,111,100]) ?_
   refine rpG ?_
   exact ⟨by rw [gc],hI⟩
  ·refine rpG ?_
   exact ⟨by rw [uV],hI⟩
 intro t8 _ _ _ _ _ w'
 rintro ⟨rfl,hI⟩
 refine aw (fun hb=>?_) (fun hb=>?_)
 ·rw [iS,bC,bC] at hb
  refine dx (a:=[32]) (by simp; omega) ?_
  refine dx (b:=[32]) (by simp; omega) ?_
  exact done hI (by rw [hO,ai hb]; rfl)
 ·rw [Mq,lM,lM] at hb
  exact done hI (by rw [hO,af (by rintro (h|h); exact hb.1 h; exact hb.2 h)])
theorem CV (s:Bs) (h0:0<s.length):Pure Tryz.prog Ju [.string (st s)] S (.bool (E3 s)):=by
 intro w hI
 refine vJ.2 ?_
 dsimp only[vJ,aG]
 have e1:E3 s=(sml s 0 || (dig s 0 || (upp s 0 || (sgn s 0 91 || sgn s 0 40)))):=rfl
 have eu:upp s 0=(decide (65<=s[0].toNat) && decide (s[0].toNat<=90)):=nW h0 65 90
 have ea:sgn s 0 91=decide (s[0].toNat=91):=j0 h0 91
 have eb:sgn s 0 40=decide (s[0].toNat=40):=j0 h0 40
 refine Run.callPure uC vS hI (oi s 0 S) fun w' hI=>?_
 cases hs:sml s 0
 ·refine rpG ?_
  refine Run.callPure ju jt hI (gB s 0 S) fun w' hI=>?_
  cases hd:dig s 0
  ·refine rpG ?_
   refine dV (i:=0) aJ h0 ?_
   rw [hs,hd,gc,gc] at e1
   by_cases h65:65<=s[0].toNat
   ·refine ni (by omega) ?_
    refine rpG ?_
    refine dV (i:=0) aJ h0 ?_
    by_cases h90:s[0].toNat<=90
    ·refine GN (by omega) ?_
     refine rpG ?_
     exact done hI (by rw [e1,eu,aS h65,aS h90]; rfl)
    ·refine On (by omega) ?_
     refine rpG ?_
     refine dV (i:=0) aJ h0 ?_
     by_cases h91:s[0].toNat=91
     ·refine eW (by omega) ?_
      refine rpG ?_
      exact done hI (by rw [e1,ea,aS h91,uV,My])
     ·refine ei (by omega) ?_
      refine rpG ?_
      refine dV (i:=0) aJ h0 ?_
      refine ei (by omega) ?_
      refine rpG ?_
      exact done hI (by rw [e1,eu,ea,eb,bg h90,bg h91,bg (show ¬ s[0].toNat=40 by omega),vq]; rfl)
   ·refine ww (by omega) ?_
    refine rpG ?_
    refine dV (i:=0) aJ h0 ?_
    refine ei (by omega) ?_
    refine rpG ?_
    refine dV (i:=0) aJ h0 ?_
    by_cases h40:s[0].toNat=40
    ·refine eW (by omega) ?_
     refine rpG ?_
     exact done hI (by rw [e1,eb,aS h40,My,My])
    ·refine ei (by omega) ?_
     refine rpG ?_
     exact done hI (by rw [e1,eu,ea,eb,bg h65,bg (show ¬ s[0].toNat=91 by omega),bg h40,gJ]; rfl)
  ·refine rpG ?_
   exact done hI (by rw [e1,hd,uV,My])
 ·refine rpG ?_
  exact done hI (by rw [e1,hs,uV])
theorem Ad {n:Int} (h:0<=n/\n<=25):Pure Tryz.prog Fd [.int .i64 n] S (.string (st [UInt8.ofNat (65+n.toNat)])):=by
 intro w hI
 refine r3.2 ?_
 dsimp only[r3,aG]
 refine qk gd fK (IntWalk.u8_in _ (by omega)) ?_
 refine Rr (c:=((65+n.toNat:Nat):Int)) ?_ ?_
 ·rw [IntWalk.u8_in _ (by omega)]; omega
 refine AU hI wu Pc fK aJ fun w' hI=>?_
 exact done hI rfl
theorem Jg:∀ (f n:Nat) (out r:Bs),DG f n out=some r->out.length<r.length/\r.length<=out.length+f
 | 0,_,_,_,h=>by simp [DG] at h
 | f+1,n,out,r,h=>by
  rw [DG] at h
  split at h
  ·have:=Jg f _ _ _ h
   simp only [bk] at this
   omega
  ·simp only [aT] at h
   subst h
   simp only [bk]
   omega
theorem uE {f n:Nat} {r:Bs} (h:DG f n []=some r) (hn:n<=100000) (hf:f<=1000):Pure Tryz.prog LI [.int .i64 (n:Int)] S (.string (st r)):=by
 intro w hI
 refine y0.2 ?_
 dsimp only[y0,aG]
 refine eA (by omega) ?_
 refine aw (fun hb=>by cases hb) (fun _=>?_)
 refine eA (by omega) ?_
 refine aw (fun hb=>by cases hb) (fun _=>?_)
 refine ⟨fun a b w'=>∃ (f' m:Nat) (out:Bs),a=.int .i64 (m:Int)/\b=.string (st out)/\m<=100000/\out.length+f'<=1000/\DG f' m out=some r/\Inv w [] [] S w',fun a _ _=>(intOf a).toNat,⟨f,n,[],rfl,rfl,hn,by simpa using hf,h,hI⟩,?_⟩
 intro t0 _ _ t3 _ _ _ _ _ _ _ _ _ _ w'
 rintro ⟨f',m,out,rfl,rfl,hm,hof,hd,hI⟩
 cases f' with
 | zero=>simp [DG] at hd
 | succ g=>
 rw [DG] at hd
 split at hd
 ·rename_i h9
  refine JS (by omega) ?_
  refine aw (fun _=>?_) (fun hb=>by cases hb)
  refine Kd (a:=m) (b:=10) rfl rfl (by omega) ?_
  refine eD (a:=48) (b:=m % 10) rfl rfl (by omega) ?_
  refine qk gd fK (IntWalk.u8_in _ (by omega)) ?_
  refine AU hI wu Pc fK aJ fun w' hI=>?_
  refine dx (by simp; omega) ?_
  refine K7 (a:=m) (b:=10) rfl rfl (by omega) (by omega) ?_
  refine ⟨⟨g,m / 10,UInt8.ofNat (48+m % 10)::out,rfl,rfl,by omega,by simp only [bk]; omega,hd,hI⟩,?_⟩
  simp only [intOf,dF]
  omega
 ·rename_i h9
  refine ku (by omega) ?_
  refine aw (fun hb=>by cases hb) (fun _=>?_)
  refine eD (a:=48) (b:=m) rfl rfl (by omega) ?_
  refine qk gd fK (IntWalk.u8_in _ (by omega)) ?_
  refine AU hI wu Pc fK aJ fun w' hI=>?_
  refine dx (by simp; omega) ?_
  simp only [aT] at hd
  exact done hI (by rw [<- hd]; rfl)
theorem IX {n:Int} {r:Bs} (h:RS n=some r) (hn:-999<=n/\n<=999):Pure Tryz.prog NE [.int .i64 n] S (.string (st r)):=by
 intro w hI
 refine Ci.2 ?_
 dsimp only[Ci,aG]
 unfold RS at h
 split at h
 ·rename_i h0
  refine BA h0 ?_
  refine aw (fun _=>?_) (fun hb=>by cases hb)
  refine Rp (by omega) ?_
  obtain ⟨m,hm⟩:∃ m:Nat,-n=(m:Int):=⟨(-n).toNat,by omega⟩
  rw [hm] at h ⊢
  rw [dF,LP] at h
  obtain ⟨l,hl,rfl⟩:=h
  have:=Jg _ _ _ _ hl
  refine Run.callPure yY yP hI (uE hl (by omega) (by omega)) fun w' hI=>?_
  refine dx (a:=[45]) (by simp only [bG,bk] at this ⊢; omega) ?_
  exact done hI rfl
 ·rename_i h0
  refine eA h0 ?_
  refine aw (fun hb=>by cases hb) (fun _=>?_)
  obtain ⟨m,rfl⟩:∃ m:Nat,n=(m:Int):=⟨n.toNat,by omega⟩
  rw [dF] at h
  refine Run.callPure yY yP hI (uE h (by omega) (by omega)) fun w' hI=>?_
  exact done hI rfl
theorem Hc {t:T} {cs:List Value} {x:Bs} (h:RdT S cs t) (hp:AO t=false) (hx:N1 t=some x):Pure Tryz.prog Lb [.agg cs.toArray] S (.string (st x)):=by
 intro w hI
 have h0:=h
 obtain ⟨kv,rfl,_,_,_,hk⟩:=RdT.iff.1 h
 obtain ⟨ka,kc,rfl,_⟩:=id hk
 refine yd.2 ?_
 dsimp only[yd,aG]
 unfold N1 at hx
 refine bp hI fun b1 w' hI=>?_
 refine ae hI 0 rfl aV aI rfl ?_
 split at hx
 ·rename_i h1
  refine eW h1 ?_
  refine aw (fun _=>?_) (fun hb=>by cases hb)
  refine ae hI 0 rfl bm aI rfl ?_
  split at hx
  ·rename_i h2
   refine Run.callPure CL Dy hI (Ad h2) fun w' hI=>?_
   simp only [aT] at hx
   exact done hI (by rw [<- hx])
  ·cases hx
 ·rename_i h1
  refine ei h1 ?_
  refine aw (fun hb=>by cases hb) (fun _=>?_)
  split at hx
  ·rename_i h2
   refine eW h2 ?_
   refine aw (fun _=>?_) (fun hb=>by cases hb)
   refine ae hI 0 rfl bm aI rfl ?_
   split at hx
   ·rename_i h3
    refine Run.callPure LN LF hI (IX hx h3) fun w' hI=>?_
    exact done hI rfl
   ·cases hx
  ·rename_i h2
   refine ei h2 ?_
   refine aw (fun hb=>by cases hb) (fun _=>?_)
   split at hx
   ·rename_i h3
    simp only [aT] at hx
    refine az hI 0 ac rfl rfl ?_
    refine Run.callPure qP pz hI (jN h0) fun w' hI=>?_
    rw [hp]
    refine aw (fun hb=>by cases hb) (fun _=>?_)
    refine ae hI 0 rfl aW aN rfl ?_
    refine ⟨fun a b w'=>a=.int .i64 0/\b=.string t.name/\Inv w [] [.blk b1 (.cells #[.int .i64 t.kind,.int .i64 t.n,.string t.name,.slice ka t.kids.length kc] ab)] S w',fun _ _ _=>0,⟨rfl,rfl,hI⟩,?_⟩
    intro t4 _ _ _ _ _ _ _ _ _ _ _ _ t3 _ _ _ _ _ _ _ _ _ w'
    rintro ⟨rfl,rfl,hI⟩
    refine ae hI 0 rfl av ao rfl ?_
    refine gL ah ?_
    refine eA (by omega) ?_
    refine aw (fun hb=>by cases hb) (fun _=>?_)
    refine ⟨fun b w'=>b=.string t.name/\Inv w [] [.blk b1 (.cells #[.int .i64 t.kind,.int .i64 t.n,.string t.name,.slice ka t.kids.length kc] ab)] S w',?_,?_⟩
    ·refine ae hI 0 rfl av ao rfl ?_
     refine gL ah ?_
     refine ku (by omega) ?_
     refine aw (fun hb=>by cases hb) (fun _=>?_)
     exact ⟨rfl,hI⟩
    intro t3 _ _ _ _ _ _ w'
    rintro ⟨rfl,hI⟩
    exact done hI (by rw [<- hx])
   ·cases hx
end
theorem DV:∀ (f:Nat) (l:List T) (out x:Bs),ou f l out=some x->out.length<=x.length
 | 0,_,_,_,h=>by simp [ou] at h
 | _+1,[],out,x,h=>by simp [ou] at h; subst h; exact aM _
 | f+1,t::l,out,x,h=>by
  rw [ou] at h
  split at h
  ·cases h
  ·have:=DV f _ _ _ h
   simp only [bh] at this
   omega
def lenOf:Value->Nat
 | .slice _ n _=>n
 | _=>0
def yQ (f:Nat):Prop:=∀ (t:T) (x:Bs) (S:ad) (cs:List Value),Gg f t=some x->x.length<=1000000->RdT S cs t->Pure Tryz.prog Lr [.agg cs.toArray] S (.string (st x))
def Ks (f:Nat):Prop:=∀ (t:T) (x:Bs) (S:ad) (cs:List Value),Ez f t []=some x->x.length<=1000000->RdT S cs t->Pure Tryz.prog Kl [.agg cs.toArray] S (.string (st x))
def Fz (f:Nat):Prop:=∀ (ts:List T) (x:Bs) (S:ad) (u:Value),ou f ts []=some x->x.length<=1000000->RdSl S 4 (RdT S) u ts->Pure Tryz.prog JR [u] S (.string (st x))
def ri (f:Nat):Prop:=∀ (t:T) (l:Int) (x:Bs) (S:ad) (cs:List Value),pG f t l=some x->x.length<=1000000->RdT S cs t->Pure Tryz.prog Di [.agg cs.toArray,.int .i64 l] S (.string (st x))
def Lf (f:Nat):Prop:=∀ (t:T) (l:Int) (x:Bs) (S:ad) (cs:List Value),MF f t l=some x->x.length<=1000000->RdT S cs t->Pure Tryz.prog Kf [.agg cs.toArray,.int .i64 l] S (.string (st x))
def Hi (f:Nat):Prop:=∀ (t:T) (l:Int) (x:Bs) (S:ad) (cs:List Value),FQ f t l=some x->x.length<=1000000->RdT S cs t->Pure Tryz.prog HV [.agg cs.toArray,.int .i64 l] S (.string (st x))
section
attribute [local irreducible] Run CondV aq aK
theorem Qf {f:Nat} (ih:∀ g,g<f->yQ g):Fz f:=by
 intro ts x S u h hx hu w hI
 refine yt.2 ?_
 dsimp only[yt,aG]
 refine ⟨fun a b w'=>∃ (f' j:Nat) (out acc:Bs),f'<=f/\j<=ts.length/\a=.int .i64 (j:Int)/\b=.string (st out)/\acc=out++(if 0<j/\j<ts.length then [44] else [])/\ou f' (ts.drop j) acc=some x/\Inv w [] [] S w',
  fun a _ _=>ts.length - (intOf a).toNat,⟨f,0,[],[],aM _,aR _,rfl,rfl,by simp,h,hI⟩,?_⟩
 intro t4 _ _ _ _ _ _ _ _ _ t3 _ _ _ _ _ _ _ _ w'
 rintro ⟨f',j,out,acc,hf',hj,rfl,rfl,hacc,ha,hI⟩
 cases f' with
 | zero=>simp [ou] at ha
 | succ g=>
 refine aF hu ah ?_
 refine bL ?_
 refine aH (fun hji=>?_) (fun hji=>?_)
 ·have hj':j<ts.length:=by omega
  rw [di hj',ou] at ha
  split at ha
  ·cases ha
  rename_i y hy
  have hlen:=DV _ _ _ _ ha
  simp only [bh] at hlen
  refine ⟨fun b w'=>b=.string (st acc)/\Inv w [] [] S w',?_,?_⟩
  ·refine eU ?_
   refine aH (fun h0=>?_) (fun h0=>?_)
   ·rw [ai (by omega)] at hacc
    refine dx (b:=[44]) (by rw [hacc,bh] at hlen; simp only [bk,bG] at hlen ⊢; omega) ?_
    exact ⟨by rw [hacc],hI⟩
   ·rw [af (by omega),cX] at hacc
    exact ⟨by rw [hacc],hI⟩
  intro t3 _ _ _ _ w'
  rintro ⟨rfl,hI⟩
  refine cj hI hu ah ac hj' (fun _ _=>RdT.length) fun cs hcs=>?_
  refine Run.callPure fC fF hI (ih g (by omega) _ y S cs hy (by omega) hcs) fun w' hI=>?_
  refine dx (by omega) ?_
  refine bn (by have:=hu.le; simp only [maxLen] at this; omega) ?_
  refine ⟨⟨g,j+1,acc++y,_,by omega,hj',rfl,rfl,rfl,?_,hI⟩,by simp only [intOf,dF]; omega⟩
  have e:(if ts.drop (j+1)=[] then [] else [44]:Bs)=if 0<j+1/\j+1<ts.length then [44] else []:=by
   by_cases h1:j+1<ts.length
   ·rw [af (fun h2=>by rw [List.drop_eq_nil_iff] at h2; omega),ai (by omega)]
   ·rw [ai (tM (by omega)),af (by omega)]
  rw [<- e]
  exact ha
 ·have:j=ts.length:=by omega
  subst this
  rw [dP,ou] at ha
  simp only [aT] at ha
  rw [af (by omega),cX] at hacc
  exact done hI (by rw [<- ha,hacc])
theorem KC {f:Nat} (ih:∀ g,g<f->yQ g):ri f:=by
 intro t l x S cs h hx hc w hI
 cases f with
 | zero=>simp [pG] at h
 | succ g=>
 rw [pG] at h
 split at h
 ·cases h
 rename_i y hy
 simp only [aT] at h
 have h0:=hc
 obtain ⟨kv,rfl,_,_,_,hk⟩:=RdT.iff.1 hc
 obtain ⟨ka,kc,rfl,_⟩:=id hk
 have hyx:y.length<=1000000/\y.length+2<=9000000:=by
  have:y.length<=x.length:=by
   rw [<- h]; split
   ·simp; omega
   ·omega
  omega
 refine pT.2 ?_
 dsimp only[pT,aO]
 refine bp hI fun b1 w' hI=>?_
 refine ⟨fun b w'=>b=.bool (nN t && decide (l<bV t.name))/\Inv w [] [.blk b1 (.cells #[.int .i64 t.kind,.int .i64 t.n,.string t.name,.slice ka t.kids.length kc] ab)] S w',?_,?_⟩
 ·refine az hI 0 ac rfl rfl ?_
  refine Run.callPure tQ vh hI (oV h0) fun w' hI=>?_
  cases hf:nN t
  ·refine rpG ?_
   exact ⟨by rw [gJ],hI⟩
  ·refine rpG ?_
   refine ae hI 0 rfl aW aN rfl ?_
   refine Run.callPure eY fe hI (dK _ S) fun w' hI=>?_
   refine eU ?_
   refine rpG ?_
   exact ⟨by rw [dU],hI⟩
 intro t13 _ _ _ _ _ _ _ _ w'
 rintro ⟨rfl,hI⟩
 refine aw (fun hb=>?_) (fun hb=>?_)
 ·rw [bN,bC] at hb
  rw [ai hb] at h
  refine az hI 0 ac rfl rfl ?_
  refine Run.callPure fC fF hI (ih g (by omega) t y S _ hy hyx.1 h0) fun w' hI=>?_
  refine dx (a:=[40]) (by simp only [bk,bG]; omega) ?_
  refine dx (b:=[41]) (by simp only [bh,bk,bG]; omega) ?_
  exact done hI (by rw [<- h])
 ·rw [af (fun hh=>by rw [Bool.and_eq_false_iff,lM] at hb; rcases hb with hb|hb; rw [hh.1] at hb; cases hb; exact hb hh.2)] at h
  refine az hI 0 ac rfl rfl ?_
  refine Run.callPure fC fF hI (ih g (by omega) t y S _ hy hyx.1 h0) fun w' hI=>?_
  exact done hI (by rw [<- h])
theorem Qt {f:Nat} (ih:∀ g,g<f->yQ g) (ihB:∀ g,g<f->ri g):Lf f:=by
 intro t l x S cs h hx hc w hI
 cases f with
 | zero=>simp [MF] at h
 | succ g=>
 rw [MF] at h
 have h0:=hc
 obtain ⟨kv,rfl,_,_,_,hk⟩:=RdT.iff.1 hc
 obtain ⟨ka,kc,rfl,_⟩:=id hk
 refine yA.2 ?_
 dsimp only[yA,aO]
 refine bp hI fun b1 w' hI=>?_
 refine az hI 0 ac rfl rfl ?_
 refine Run.callPure yp yK hI (qu h0) fun w' hI=>?_
 split at h
 ·rename_i hs
  split at h
  ·cases h
  rename_i y hy
  simp only [aT] at h
  have hyx:y.length+2=x.length:=by rw [<- h]; simp only [bh,bk,bG]; omega
  rw [hs]
  refine aw (fun _=>?_) (fun hb=>by cases hb)
  refine az hI 0 ac rfl rfl ?_
  refine Run.callPure fC fF hI (ih g (by omega) t y S _ hy (by omega) h0) fun w' hI=>?_
  refine dx (a:=[40]) (by simp only [bk,bG]; omega) ?_
  refine dx (b:=[41]) (by simp only [bh,bk,bG]; omega) ?_
  exact done hI (by rw [<- h])
 ·rename_i hs
  rw [cq.2 hs]
  refine aw (fun hb=>by cases hb) (fun _=>?_)
  refine az hI 0 ac rfl rfl ?_
  refine Run.callPure pg qt hI (ihB g (by omega) t l x S _ h hx h0) fun w' hI=>?_
  exact done hI rfl
theorem ON {f:Nat} (ihB:∀ g,g<f->ri g):Hi f:=by
 intro t l x S cs h hx hc w hI
 cases f with
 | zero=>simp [FQ] at h
 | succ g=>
 rw [FQ] at h
 split at h
 ·cases h
 rename_i y hy
 split at h
 ·cases h
 rename_i hne
 simp only [aT] at h
 have hy0:0<y.length:=by
  cases y with
  | nil=>exact absurd rfl hne
  | cons a l=>simp
 have hyx:y.length<=1000000:=by
  have:y.length<=x.length:=by
   rw [<- h]; split
   ·simp; omega
   ·omega
  omega
 have h0:=hc
 obtain ⟨kv,rfl,_,_,_,hk⟩:=RdT.iff.1 hc
 obtain ⟨ka,kc,rfl,_⟩:=id hk
 refine uL.2 ?_
 dsimp only[uL,aO]
 refine bp hI fun b1 w' hI=>?_
 refine az hI 0 ac rfl rfl ?_
 refine Run.callPure pg qt hI (ihB g (by omega) t l y S _ hy hyx h0) fun w' hI=>?_
 refine ⟨fun b w'=>b=.bool (yh t || !E3 y)/\Inv w [] [.blk b1 (.cells #[.int .i64 t.kind,.int .i64 t.n,.string t.name,.slice ka t.kids.length kc] ab)] S w',?_,?_⟩
 ·refine az hI 0 ac rfl rfl ?_
  refine Run.callPure yp yK hI (qu h0) fun w' hI=>?_
  cases hs:yh t
  ·refine rpG ?_
   refine Run.callPure GH E6 hI (CV y hy0) fun w' hI=>?_
   refine ct ?_
   refine rpG ?_
   exact ⟨by rw [gc],hI⟩
  ·refine rpG ?_
   exact ⟨by rw [uV],hI⟩
 intro t15 _ _ _ _ _ _ w'
 rintro ⟨rfl,hI⟩
 refine aw (fun hb=>?_) (fun hb=>?_)
 ·rw [iS,oN] at hb
  rw [ai hb] at h
  refine dx (a:=[40]) (by simp only [bk,bG]; omega) ?_
  refine dx (b:=[41]) (by simp only [bh,bk,bG]; omega) ?_
  exact done hI (by rw [<- h])
 ·rw [af (fun hh=>by rw [<- oN,<- iS,hb] at hh; cases hh)] at h
  exact done hI (by rw [<- h])
theorem Qj {f:Nat} (hf:f<=100000) (ih:∀ g,g<f->yQ g) (ihA:∀ g,g<f->Fz g):Ks f:=by
 intro t x S cs h hx hc w hI
 obtain ⟨kv,rfl,_,_,_,hk⟩:=RdT.iff.1 hc
 refine yZ.2 ?_
 dsimp only[yZ,aG]
 refine bp hI fun b1 w' hI=>?_
 refine d3 hI bA fun v0 w' hI=>?_
 refine ⟨fun a w'=>∃ (f':Nat) (t':T) (items:List T) (ds:List Value) (css:List (List Value)),f'+items.length=f/\Ez f' t' items=some x/\RdT S ds t'/\Rows 4 (RdT S) css items/\(∃ p m,a=.slice p items.length m)/\Inv w [] [.blk b1 (.cells ds.toArray ab),aE a ab 4 css] S w',
  fun a _=>f+1 - lenOf a,⟨f,t,[],_,[],by simp,h,hc,Rows.nil _ _,?_,hI⟩,?_⟩
 ·have hI2:Inv w [] ([Item.blk b1 (.cells #[.int .i64 t.kind,.int .i64 t.n,.string t.name,kv] ab)]++[aE v0 ab 4 []]) S w':=hI
  obtain ⟨S1,_,hrd,_⟩:=Inv.lendExt hI2
  obtain ⟨p,m,e,_⟩:=RowRd.rows (Rows.nil 4 (RdT S)) hrd
  exact ⟨p,m,e⟩
 clear h hc hk hI
 intro _ _ _ _ t3 _ _ _ _ _ _ _ _ _ w'
 rintro ⟨f',t',items,ds,css,hfl,hl,hd,hR,⟨p,m,rfl⟩,hI⟩
 have hd0:=hd
 obtain ⟨kd,rfl,_,_,_,hk⟩:=RdT.iff.1 hd
 have hcl:=hR.hc
 cases f' with
 | zero=>simp [Ez] at hl
 | succ g=>
 rw [Ez] at hl
 refine az hI 0 ac rfl rfl ?_
 refine Run.callPure qP pz hI (jN hd0) fun w' hI=>?_
 split at hl
 ·rename_i hp
  split at hl
  ·rename_i a b hab
   rw [hp]
   refine aw (fun _=>?_) (fun hb=>by cases hb)
   rw [hab] at hk
   refine ae hI 0 rfl av ao rfl ?_
   refine cj (i:=0) hI hk ah ac (by simp) (fun _ _=>RdT.length) fun es hes=>?_
   rw [kQ] at hes
   refine cM (css:=css) hI 1 es bA (by omega) (by omega) rfl hes.length hes.one (by omega) (by omega) fun v' w' hI=>?_
   refine ae hI 0 rfl av ao rfl ?_
   refine cj (i:=1) hI hk ah ac (by simp) (fun _ _=>RdT.length) fun gs hgs=>?_
   rw [Pr,kQ] at hgs
   have hg1:=hgs.length
   refine aA hI 0 rfl ac (by simpa using hg1) rfl (by simpa using hgs.one) fun w' hI=>?_
   have hR2:=hR.snoc hes hes.length
   have hI2:Inv w [] ([Item.blk b1 (.cells gs.toArray ab)]++[aE v' ab 4 (css++[es])]) S w':=hI
   obtain ⟨S1,hE1,hrd,_⟩:=Inv.lendExt hI2
   obtain ⟨p',m',e',_⟩:=RowRd.rows hR2 hrd
   refine ⟨⟨g,b,items++[a],gs,css++[es],by rw [bh]; simp only [bk,bG]; omega,hl,hgs,hR2,⟨p',m',e'⟩,hI⟩,?_⟩
   rw [e']
   simp only [lenOf,bh,bk,bG]
   omega
  ·cases hl
 ·rename_i hp
  rw [cq.2 hp]
  refine aw (fun hb=>by cases hb) (fun _=>?_)
  split at hl
  ·cases hl
  rename_i y hy
  refine az hI 0 ac rfl rfl ?_
  refine Run.callPure KR Ki hI (C9 hd0) fun w' hI=>?_
  have hI2:Inv w [] ([Item.blk b1 (.cells #[.int .i64 t'.kind,.int .i64 t'.n,.string t'.name,kd] ab)]++[aE (.slice p items.length m) ab 4 css]) S w':=hI
  obtain ⟨S1,hE1,hrd,hI⟩:=Inv.lendExt hI2
  have hrs:=RowRd.rows (hR.monoR fun _ _ h=>RdT.mono hE1.1 h) hrd
  have hd1:=RdT.mono hE1.1 hd0
  split at hl
  ·rename_i hn
   simp only [aT] at hl
   have hyx:y.length+2=x.length:=by rw [<- hl]; simp only [bh,bk,bG]; omega
   rw [hn]
   refine aw (fun _=>?_) (fun hb=>by cases hb)
   refine Run.callPure pl qf hI (ihA g (by omega) items y S1 _ hy (by omega) hrs) fun w' hI=>?_
   refine dx (a:=[91]) (by simp only [bk,bG]; omega) ?_
   refine dx (b:=[93]) (by simp only [bh,bk,bG]; omega) ?_
   exact kC hI hE1.1 (by rw [<- hl])
  ·rename_i hn
   split at hl
   ·cases hl
   rename_i z hz
   simp only [aT] at hl
   have hyx:y.length+z.length+3=x.length:=by rw [<- hl]; simp only [bh,bk,bG]; omega
   rw [cq.2 hn]
   refine aw (fun hb=>by cases hb) (fun _=>?_)
   refine ⟨fun D x2 Jz mG zV lq Ak qm ge pu w_=>Fx D 0 [pu=.slice p items.length m,ge=.string (st y),qm=.string (st ([91]++y)),Ak=.string (st ([91]++y++[124])),lq=.agg #[.int .i64 t'.kind,.int .i64 t'.n,.string t'.name,kd],zV=.string (st z),mG=.string (st ([91]++y++[124]++z)),Jz=.string (st ([91]++y++[124]++z++[93])),x2=.string (st ([91]++y++[124]++z++[93]))]/\Inv w [] [.blk b1 (.cells #[.int .i64 t'.kind,.int .i64 t'.n,.string t'.name,kd] ab)] S1 w_,⟨Fx.nil _ _,hI.draw⟩,⟨?_,?_,?_,?_,?_,?_,?_,?_,?_,trivial⟩,?_⟩
   all_goals (intro D bI; intros; rename_i x2 Jz mG zV lq Ak qm ge pu w_ hA_; have hF_:=hA_.1; obtain ⟨⟨cJ,cH,cK,cI,cN,cP,cz,dC,ek,_⟩,hI⟩:=hA_)
   ·exact ⟨hF_.set 0 rfl,hI⟩
   ·obtain rfl:=cJ ‹_›
    refine Run.callPure pl qf hI (ihA g (by omega) items y S1 _ hy (by omega) hrs) fun w_ hI=>?_
    exact ⟨hF_.set 1 rfl,hI⟩
   ·obtain rfl:=cH ‹_›
    refine dx (a:=[91]) (by simp only [bk,bG]; omega) ?_
    exact ⟨hF_.set 2 rfl,hI⟩
   ·obtain rfl:=cK ‹_›
    refine dx (b:=[124]) (by simp only [bh,bk,bG]; omega) ?_
    exact ⟨hF_.set 3 rfl,hI⟩
   ·refine az hI 0 ac rfl rfl ?_
    exact ⟨hF_.set 4 rfl,hI⟩
   ·obtain rfl:=cN ‹_›
    refine Run.callPure fC fF hI (ih g (by omega) t' z S1 _ hz (by omega) hd1) fun w_ hI=>?_
    exact ⟨hF_.set 5 rfl,hI⟩
   ·obtain rfl:=cI ‹_›
    obtain rfl:=cP ‹_›
    refine dx (by simp only [bh,bk,bG]; omega) ?_
    exact ⟨hF_.set 6 rfl,hI⟩
   ·obtain rfl:=cz ‹_›
    refine dx (b:=[93]) (by simp only [bh,bk,bG]; omega) ?_
    exact ⟨hF_.set 7 rfl,hI⟩
   ·obtain rfl:=dC ‹_›
    exact ⟨hF_.set 8 rfl,hI⟩
   obtain ⟨rfl,rfl,rfl,rfl,rfl,rfl,rfl,rfl,rfl,_⟩:=hF_.all
   clear hF_ cJ cH cK cI cN cP cz dC ek
   exact kC hI hE1.1 (by rw [<- hl])
theorem RP {f:Nat} (ihL:∀ g,g<f->Ks g) (ihA:∀ g,g<f->Fz g) (ihF:∀ g,g<f->Lf g) (ihR:∀ g,g<f->Hi g):yQ f:=by
 intro t x S cs h hx hc w hI
 cases f with
 | zero=>simp [Gg] at h
 | succ g=>
 rw [Gg] at h
 have h0:=hc
 obtain ⟨kv,rfl,_,_,_,hk⟩:=RdT.iff.1 hc
 refine yE.2 ?_
 dsimp only[yE,aG]
 refine bp hI fun b1 w' hI=>?_
 obtain ⟨B1,hB1⟩:∃ B1,B1=Item.blk b1 (.cells #[.int .i64 t.kind,.int .i64 t.n,.string t.name,kv] ab):=⟨_,rfl⟩
 refine az hI 0 ac rfl rfl ?_
 refine Run.callPure qP pz hI (jN h0) fun w' hI=>?_
 split at h
 ·rename_i hp
  rw [hp]
  refine aw (fun _=>?_) (fun hb=>by cases hb)
  refine az hI 0 ac rfl rfl ?_
  refine Run.callPure IB Ji hI (ihL g (by omega) t x S _ h hx h0) fun w' hI=>?_
  exact done hI rfl
 rename_i hp
 have hp:=cq.2 hp
 rw [hp]
 refine aw (fun hb=>by cases hb) (fun _=>?_)
 refine az hI 0 ac rfl rfl ?_
 refine Run.callPure tQ vh hI (oV h0) fun w' hI=>?_
 split at h
 ·rename_i hf
  rw [hf]
  refine aw (fun _=>?_) (fun hb=>by cases hb)
  split at h
  ·rename_i a b hab
   obtain ⟨lv,hlv⟩:∃ lv,lv=bV t.name:=⟨_,rfl⟩
   rw [<- hlv] at h
   have hlr:1<=lv/\lv<=3:=by
    have h1:0<bV t.name:=by
     unfold nN at hf
     simp only [bN,bC] at hf
     exact hf.2.2
    have h2:bV t.name<=3:=by
     unfold bV
     split
     ·omega
     ·split
      ·omega
      ·split <;> omega
    omega
   split at h
   ·rename_i y z hy hz
    simp only [aT] at h
    have hlen:y.length+(hO (bs t.name)).length+z.length=x.length:=by rw [<- h]; simp only [bh]
    have hsp:(bs t.name).length<=(hO (bs t.name)).length:=by
     unfold hO
     split
     ·simp; omega
     ·omega
    rw [hab] at hk
    obtain ⟨b2,o2,cap2,c2,E2,fz2,rfl,hS,hRa⟩:=hk.at_ (i:=0) (by simp)
    obtain ⟨b2',o2',cap2',c2',E2',fz2',hsl,hS',hRb⟩:=hk.at_ (i:=1) (by simp)
    cases hsl
    rw [hS] at hS'
    cases hS'
    rw [kQ] at hRa
    rw [Pr,kQ] at hRb
    refine ae hI 0 rfl aW aN rfl ?_
    refine Run.callPure eY fe hI (dK _ S) fun w' hI=>?_
    rw [<- hlv]
    have hI:Inv w [] [B1] S w':=by rw [hB1]; exact hI
    refine ⟨fun v w'=>v=.int .i64 (if lv=3 then 2 else lv)/\Inv w [] [B1] S w',?_,?_⟩
    ·refine bl ?_
     refine aH (fun h3=>⟨by rw [ai h3],hI⟩) (fun h3=>⟨by rw [af h3],hI⟩)
    intro t4 _ _ w'
    rintro ⟨rfl,hI⟩
    subst hB1
    skip
    refine ⟨fun D x2 MR MA NR Re Rb Jz mG zV lq Ak qm ge pu z5 Cm s5 pf pH w_=>Fx D 0 [pH=.pointer (some ⟨b1,3,none⟩),pf=.slice (some ⟨b2,o2,none⟩) [a,b].length cap2,s5=.pointer (some ⟨b2,o2+0 * 4,none⟩),Cm=.agg (ba c2 (o2+0 * 4) 4).toArray,z5=.int .i64 (if lv=3 then 2 else lv),pu=.string (st y),ge=.pointer (some ⟨b1,2,none⟩),qm=.string t.name,Ak=.string (st (hO (bs t.name))),lq=.string (st (y++hO (bs t.name))),zV=.pointer (some ⟨b1,3,none⟩),mG=.slice (some ⟨b2,o2,none⟩) [a,b].length cap2,Jz=.pointer (some ⟨b2,o2+1 * 4,none⟩),Rb=.agg (ba c2 (o2+1 * 4) 4).toArray,Re=.int .i64 lv,NR=.int .i64 (lv - 1),MA=.string (st z),MR=.string (st (y++hO (bs t.name)++z)),x2=.string (st (y++hO (bs t.name)++z))]/\Inv w [] [.blk b1 (.cells #[.int .i64 t.kind,.int .i64 t.n,.string t.name,.slice (some ⟨b2,o2,none⟩) [a,b].length cap2] ab)] S w_,⟨Fx.nil _ _,hI.draw⟩,⟨?_,?_,?_,?_,?_,?_,?_,?_,?_,?_,?_,?_,?_,?_,?_,?_,?_,?_,?_,trivial⟩,?_⟩
    all_goals (intro D bI; intros; rename_i x2 MR MA NR Re Rb Jz mG zV lq Ak qm ge pu z5 Cm s5 pf pH w_ hA_; have hF_:=hA_.1; obtain ⟨⟨cJ,cH,cK,cI,cN,cP,cz,dC,ek,fZ,dr,dM,fj,gN,ic,i9,kF,n4,rH,_⟩,hI⟩:=hA_)
    ·refine aC av ?_
     exact ⟨hF_.set 0 rfl,hI⟩
    ·obtain rfl:=cJ ‹_›
     refine bb hI 0 ao rfl rfl ?_
     exact ⟨hF_.set 1 rfl,hI⟩
    ·obtain rfl:=cH ‹_›
     refine aD (i:=0) ah (by simp) ?_
     exact ⟨hF_.set 2 rfl,hI⟩
    ·obtain rfl:=cK ‹_›
     refine cm ac hRa.length (fun j v hj=>by rw [hI.cellS hS]; exact aL rfl j v hj) ?_
     exact ⟨hF_.set 3 rfl,hI⟩
    ·exact ⟨hF_.set 4 rfl,hI⟩
    ·obtain rfl:=cI ‹_›
     obtain rfl:=cN ‹_›
     refine Run.callPure HB Jh hI (ihF g (by omega) a _ y S _ hy (by omega) hRa) fun w_ hI=>?_
     exact ⟨hF_.set 5 rfl,hI⟩
    ·refine aC aW ?_
     exact ⟨hF_.set 6 rfl,hI⟩
    ·obtain rfl:=cz ‹_›
     refine bb hI 0 aN rfl rfl ?_
     exact ⟨hF_.set 7 rfl,hI⟩
    ·obtain rfl:=dC ‹_›
     refine Run.callPure Dc CN hI (Bv (bs t.name) (by omega)) fun w_ hI=>?_
     exact ⟨hF_.set 8 rfl,hI⟩
    ·obtain rfl:=cP ‹_›
     obtain rfl:=ek ‹_›
     refine dx (by omega) ?_
     exact ⟨hF_.set 9 rfl,hI⟩
    ·refine aC av ?_
     exact ⟨hF_.set 10 rfl,hI⟩
    ·obtain rfl:=dr ‹_›
     refine bb hI 0 ao rfl rfl ?_
     exact ⟨hF_.set 11 rfl,hI⟩
    ·obtain rfl:=dM ‹_›
     refine aD (i:=1) ah (by simp) ?_
     exact ⟨hF_.set 12 rfl,hI⟩
    ·obtain rfl:=fj ‹_›
     refine cm ac hRb.length (fun j v hj=>by rw [hI.cellS hS]; exact aL rfl j v hj) ?_
     exact ⟨hF_.set 13 rfl,hI⟩
    ·exact ⟨hF_.set 14 rfl,hI⟩
    ·obtain rfl:=ic ‹_›
     refine kY (by omega) ?_
     exact ⟨hF_.set 15 rfl,hI⟩
    ·obtain rfl:=gN ‹_›
     obtain rfl:=i9 ‹_›
     refine Run.callPure GT GE hI (ihR g (by omega) b _ z S _ hz (by omega) hRb) fun w_ hI=>?_
     exact ⟨hF_.set 16 rfl,hI⟩
    ·obtain rfl:=fZ ‹_›
     obtain rfl:=kF ‹_›
     refine dx (by rw [bh]; omega) ?_
     exact ⟨hF_.set 17 rfl,hI⟩
    ·obtain rfl:=n4 ‹_›
     exact ⟨hF_.set 18 rfl,hI⟩
    obtain ⟨rfl,rfl,rfl,rfl,rfl,rfl,rfl,rfl,rfl,rfl,rfl,rfl,rfl,rfl,rfl,rfl,rfl,rfl,rfl,_⟩:=hF_.all
    clear hF_ cJ cH cK cI cN cP cz dC ek fZ dr dM fj gN ic i9 kF n4 rH
    exact done hI (by rw [<- h])
   ·cases h
  ·cases h
 ·rename_i hf
  rw [cq.2 hf]
  refine aw (fun hb=>by cases hb) (fun _=>?_)
  obtain ⟨ka,kc,rfl,_⟩:=id hk
  refine ⟨fun v w'=>v=.bool (decide (t.kind=3) && decide (0<t.kids.length))/\Inv w [] [B1] S w',?_,?_⟩
  ·refine ae hI 0 rfl aV aI rfl ?_
   by_cases h3:t.kind=3
   ·refine eW h3 ?_
    refine rpG ?_
    refine ae hI 0 rfl av ao rfl ?_
    refine gL ah ?_
    refine eU ?_
    refine rpG ?_
    refine ⟨?_,by rw [hB1]; exact hI⟩
    rw [aS h3,dU]
    congr 1
    rw [fq]
    omega
   ·refine ei h3 ?_
    refine rpG ?_
    exact ⟨by rw [bg h3,gJ],by rw [hB1]; exact hI⟩
  intro t37 _ _ _ _ _ _ _ _ _ w'
  rintro ⟨rfl,hI⟩
  subst hB1
  split at h
  ·rename_i hc3
   rw [aS hc3.1,aS hc3.2]
   refine aw (fun _=>?_) (fun hb=>by cases hb)
   split at h
   ·rename_i y hy
    simp only [aT] at h
    have hlen:(bs t.name).length+y.length+2=x.length:=by rw [<- h]; simp only [bh,bk,bG]; omega
    skip
    refine ⟨fun D x2 EV DO Eh DN D6 CD Bn Af w_=>Fx D 0 [Af=.pointer (some ⟨b1,2,none⟩),Bn=.string t.name,CD=.string (st (bs t.name++[40])),D6=.pointer (some ⟨b1,3,none⟩),DN=.slice ka t.kids.length kc,Eh=.string (st y),DO=.string (st (bs t.name++[40]++y)),EV=.string (st (bs t.name++[40]++y++[41])),x2=.string (st (bs t.name++[40]++y++[41]))]/\Inv w [] [.blk b1 (.cells #[.int .i64 t.kind,.int .i64 t.n,.string t.name,.slice ka t.kids.length kc] ab)] S w_,⟨Fx.nil _ _,hI.draw⟩,⟨?_,?_,?_,?_,?_,?_,?_,?_,?_,trivial⟩,?_⟩
    all_goals (intro D bI; intros; rename_i x2 EV DO Eh DN D6 CD Bn Af w_ hA_; have hF_:=hA_.1; obtain ⟨⟨cJ,cH,cK,cI,cN,cP,cz,dC,ek,_⟩,hI⟩:=hA_)
    ·refine aC aW ?_
     exact ⟨hF_.set 0 rfl,hI⟩
    ·obtain rfl:=cJ ‹_›
     refine bb hI 0 aN rfl rfl ?_
     exact ⟨hF_.set 1 rfl,hI⟩
    ·obtain rfl:=cH ‹_›
     refine dx (a:=bs t.name) (b:=[40]) (by simp only [bk,bG]; omega) ?_
     exact ⟨hF_.set 2 rfl,hI⟩
    ·refine aC av ?_
     exact ⟨hF_.set 3 rfl,hI⟩
    ·obtain rfl:=cI ‹_›
     refine bb hI 0 ao rfl rfl ?_
     exact ⟨hF_.set 4 rfl,hI⟩
    ·obtain rfl:=cN ‹_›
     refine Run.callPure pl qf hI (ihA g (by omega) t.kids y S _ hy (by omega) hk) fun w_ hI=>?_
     exact ⟨hF_.set 5 rfl,hI⟩
    ·obtain rfl:=cK ‹_›
     obtain rfl:=cP ‹_›
     refine dx (by simp only [bh,bk,bG]; omega) ?_
     exact ⟨hF_.set 6 rfl,hI⟩
    ·obtain rfl:=cz ‹_›
     refine dx (b:=[41]) (by simp only [bh,bk,bG]; omega) ?_
     exact ⟨hF_.set 7 rfl,hI⟩
    ·obtain rfl:=dC ‹_›
     exact ⟨hF_.set 8 rfl,hI⟩
    obtain ⟨rfl,rfl,rfl,rfl,rfl,rfl,rfl,rfl,rfl,_⟩:=hF_.all
    clear hF_ cJ cH cK cI cN cP cz dC ek
    exact done hI (by rw [<- h])
   ·cases h
  ·rename_i hc3
   have e:(decide (t.kind=3) && decide (0<t.kids.length))=false:=by
    rw [cq,ne_eq,bN,bC,bC]; exact hc3
   rw [e]
   refine aw (fun hb=>by cases hb) (fun _=>?_)
   refine az hI 0 ac rfl rfl ?_
   refine Run.callPure HG IC hI (Hc h0 hp h) fun w' hI=>?_
   exact done hI rfl
theorem LW:∀ F f,f<F->F<=1000->yQ f/\Ks f/\Fz f/\ri f/\Lf f/\Hi f
 | 0,f,h,_=>by omega
 | F+1,f,h,hF=>by
  have ih:=fun g (hg:g<f)=>LW F g (by omega) (by omega)
  have hT:yQ f:=RP (fun g hg=>(ih g hg).2.1) (fun g hg=>(ih g hg).2.2.1) (fun g hg=>(ih g hg).2.2.2.2.1) (fun g hg=>(ih g hg).2.2.2.2.2)
  exact ⟨hT,Qj (by omega) (fun g hg=>(ih g hg).1) (fun g hg=>(ih g hg).2.2.1),Qf fun g hg=>(ih g hg).1,KC fun g hg=>(ih g hg).1,Qt (fun g hg=>(ih g hg).1) (fun g hg=>(ih g hg).2.2.2.1),ON fun g hg=>(ih g hg).2.2.2.1⟩
theorem DY {f:Nat} (hf:f<=100):yQ f:=(LW (f+1) f (by omega) (by omega)).1
end
end Go.Proofs.YtcpgagfdeflbkaaGreatDoor
