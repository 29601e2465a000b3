/- impl's search in memory: a run. -/
import Derived.Test.YtgllldjiaglkcaaGreatDoorZUf22
import Derived.Test.YtgllldjiaglkcaaGreatDoorZUf7
import Derived.Test.YtgllldjiaglkcaaGreatDoorZUf5
import Derived.Test.YtgllldjiaglkcaaGreatDoorZUf6
import Derived.Test.YtgllldjiaglkcaaGreatDoorZUf20
import Derived.Test.YtgllldjiaglkcaaGreatDoorZUf4
import Derived.Test.YtgllldjiaglkcaaGreatDoorZUf14
namespace Go.Proofs.YtgllldjiaglkcaaGreatDoor
section
open Go Go.RowKit
theorem RunI.invG {p:List C} {vars:List Int} {most n:Nat} {s:SI} {out:List (List T)} {r:List (List T) × Int} (h:RunI p vars most n s out r) (a:s.goals≠[]) :
  (n=0/\r=(out,2)) ∨ ∃ m o e,n=m+1/\StepI p false s o e/\((o=none/\r=(out,e)) ∨ ∃ f,o=some f/\RunI p vars most m f out r):=by
 cases h with
 | fuel _=>exact .inl ⟨rfl,rfl⟩
 | stop _ h=>exact .inr ⟨_,_,_,rfl,h,.inl ⟨rfl,rfl⟩⟩
 | step _ h g=>exact .inr ⟨_,_,_,rfl,h,.inr ⟨_,rfl,g⟩⟩
 | more h=>exact absurd h a
 | large h=>exact absurd h a
 | last h=>exact absurd h a
 | next h=>exact absurd h a
theorem RunI.invN {p:List C} {vars:List Int} {most n:Nat} {s:SI} {out:List (List T)} {r:List (List T) × Int} (h:RunI p vars most n s out r) (g:s.goals=[]) :
  (out.length=most/\r=(out,1)) ∨ (out.length≠most/\∃ v,ValsI s.st vars v/\((v=none/\r=(out,3)) ∨ ∃ vs o,v=some vs/\BackI p s.chs s.st.length s.nodes o/\((o=none/\r=(out++[vs],0)) ∨ ∃ i,o=some i/\RunI p vars most n i (out++[vs]) r))):=by
 cases h with
 | fuel h=>exact absurd g h
 | stop h=>exact absurd g h
 | step h=>exact absurd g h
 | more _ h=>exact .inl ⟨h,rfl⟩
 | large _ h f=>exact .inr ⟨h,_,f,.inl ⟨rfl,rfl⟩⟩
 | last _ h f a=>exact .inr ⟨h,_,f,.inr ⟨_,_,rfl,a,.inl ⟨rfl,rfl⟩⟩⟩
 | next _ h f a l=>exact .inr ⟨h,_,f,.inr ⟨_,_,rfl,a,.inr ⟨_,rfl,l⟩⟩⟩
theorem WJ (c:Int):N7 c≠-1:=by
 unfold N7;split
 ·decide
 ·split
  ·decide
  ·split <;> decide
theorem StepI.ne {p:List C} {nc:Bool} {s:SI} {e:Int} (h:StepI p nc s none e):e≠-1:=by
 obtain ⟨g,gs,t,_,_,h⟩:=h.inv;rcases h with ⟨_,_,rfl⟩|⟨_,h⟩
 ·decide
 rcases h with ⟨_,h⟩|⟨_,h⟩
 ·rcases h with ⟨_,_,rfl⟩|⟨_,h,_⟩
  ·decide
  ·cases h
 rcases h with ⟨_,st,c,_,h⟩|⟨_,h⟩
 ·rcases h with ⟨_,h,_⟩|⟨_,_,rfl⟩|⟨_,_,_,rfl⟩
  ·cases h
  ·decide
  ·exact WJ c
 rcases h with ⟨_,_,rfl⟩|⟨_,a,m,_,h⟩
 ·decide
 rcases h with ⟨r,_,h,_⟩|⟨_,_,rfl⟩
 ·cases h
 ·decide
def RdAns (S:ae) (cs:List Value) (ts:List T):Prop:=∃ v,cs=[v]/\RdSl S 4 (RdT S) v ts
theorem RdAns.mono {S S':ae} (a:Sle S S') {cs:List Value} {ts:List T} (h:RdAns S cs ts):RdAns S' cs ts:=by
 obtain ⟨v,rfl,h⟩:=h;exact ⟨v,rfl,h.monoT a⟩
def lenZ:Value->Nat
 | .slice _ n _=>n
 | _=>0
def fuN (sp:Nat) (w:World):Nat:=match w.heap[sp]? with
 | some (.cells c _ _)=>(match (c[5]?:Option Value),(c[6]?:Option Value) with|some (.int _ a),some (.int _ b)=>(a - b).toNat|_,_=>0)
 | _=>0
def VC (sp most:Nat) (t9 t10:Value) (w:World):Nat:=match t10 with
 | .int _ x=>if x=-1 then 1+fuN sp w+(most - lenZ t9) else 0
 | _=>0
theorem Inv.fuN {w0 w:World} {X:List Nat} {L:List Item} {S:ae} (h:Inv w0 X L S w) (i:Nat) {sp sb:Nat} {a f:Value} {nc:Bool} {fuel used fr:Int} {g cv nv:Value} {mo:Int}
  (l:L[i]?=some (fK sp (dX sb a f nc fuel used fr g cv nv mo))):fuN sp w=(fuel - used).toNat:=by
 have m:w.heap[sp]?=some (.cells (dX sb a f nc fuel used fr g cv nv mo) o8):=h.its _ (cA l);unfold Go.Proofs.YtgllldjiaglkcaaGreatDoor.fuN;rw [m];rfl
theorem Inv.lenZ {w0 w:World} {X:List Nat} {L:List Item} {S:ae} (h:Inv w0 X L S w) (i:Nat) {v:Value} {e:TypeId} {k n:Nat} {xs:List Value} (f:L[i]?=some (.row v e k n xs)):lenZ v=n:=by
 obtain ⟨a,cap,rfl,_⟩:=h.rowSlice' f;rfl
section
variable {w:World} {K:Value->World->Prop}
attribute [local irreducible] Run
theorem QE {p:Option Addr} {n m:Nat} (hk:K (.agg #[.slice p n m]) w):Run Tryz.prog (cS eE [(0,.slice p n m)]) w K:=by
 refine Run.of (v:=.agg #[.slice p n m]) (w':=w) ?_ hk;unfold cS;rw [Sem.run_bind,run_build w eE _ #[.slice p n m] (by kernel_rfl),Result.andThen_ok];rfl
end
theorem Ll (S:ae):Pure Tryz.prog Da [] S (.tuple #[]):=by
 intro w a;refine yq.2 ?_;dsimp only[yq,nY];exact done a rfl
structure YU (p:List C) (n:Nat) (s:SI):Prop where
 ok:uu p.length s
 h26:26<=s.st.length
 hn:s.st.length+26 * iu s.chs+26 * p.length * (n+1)<=900000
 hc:s.chs.length+n<=100000
 hl:s.nodes.length+n<=100000
section
attribute [local irreducible] Run CondV aq aK
set_option maxHeartbeats 4000000 in
theorem SW {p:List C} (hp:∀ cl∈p,im cl) (c2:∀ cl∈p,cl.body.length<=1048576) (d4:p.length<=20000) {q:List T} {most n:Nat} (e7:most<=1000) {s:SI} {r:List (List T) × Int} (hr:RunI p (cU q []) most n s [] r)
  (D:YU p n s) (hv:∀ n∈cU q [],0<=n/\n<26) (c3:(cU q []).length<=1000) (d6:cY q<=1000000000) {fuel used:Int} (hu:0<=used) (a0:used+n=fuel) (hf:fuel<=100000)
  {S:ae} {Y pv qv cv nv tv:Value} {ms:List Nat} {tr:List Int} {Z:Array MapEntry} {g ncs:List (List Value)} {sp sb mb ck:Nat} {mo:Int}
  (h4:RdSl S 5 (RdC S) pv p) (hq:RdSl S 4 (RdT S) qv q) (hG:GL S Y s.goals) (hK:SeaK S s.chs s.nodes s.st ms tr Z g ncs) :
  Tri Tryz.prog GY [.pointer (some ⟨sp,0,none⟩),.int .i64 (most:Int),.func (.func Da) #[] #[]] (tI sp sb mb pv qv false fuel used s.st.length Y cv g nv ncs mo Z ck tv tr) S
   fun x I' S'=>∃ v css,x=.tuple #[v,.int .i64 r.2]/\I'=[aA v eE 1 css]/\Rows 1 (RdAns S') css r.1:=by
 intro w l;obtain ⟨X,hX⟩:∃ X,X=bP (tI sp sb mb pv qv false fuel used s.st.length Y cv g nv ncs mo Z ck tv tr):=⟨_,rfl⟩
 rw [<- hX] at l ⊢;refine rx.2 ?_;dsimp only[rx,fV];refine aE ?_;refine af l 0 rfl Kx al rfl ?_;refine Run.call0 uI sS l (qA hq d6) fun v1 I' S3 w'=>?_;rintro ⟨rfl,rfl⟩ _ c4;obtain ⟨S0,G,c7,N⟩:=Inv.lendI c4;generalize e5:cU q []=vars at hr hv c3 c7;have N:Inv w X ([aA (.slice none 0 0) eE 1 []]++tI sp sb mb pv qv false fuel used s.st.length Y cv g nv ncs mo Z ck tv tr) S0 w':=(N.rowNil eE 1).perm (cj (l₁:=[_]));refine ⟨fun t9 a6 w'=>∃ (out:List (List T)) (css:List (List Value)) (S1:ae),Ext w.heap.size X S0 S1/\Rows 1 (RdAns S1) css out/\
   ((∃ (n:Nat) (s:SI) (used:Int) (Y cv nv tv:Value) (ms:List Nat) (tr:List Int) (Z:Array MapEntry) (g ncs:List (List Value)) (ck:Nat) (mo:Int),a6=.int .i64 (-1)/\RunI p vars most n s out r/\YU p n s/\0<=used/\used+n=fuel/\out.length<=most/\
    GL S1 Y s.goals/\SeaK S1 s.chs s.nodes s.st ms tr Z g ncs/\Inv w X ([aA t9 eE 1 css]++tI sp sb mb pv qv false fuel used s.st.length Y cv g nv ncs mo Z ck tv tr) S1 w') ∨
       (∃ e L',e≠-1/\a6=.int .i64 e/\r=(out,e)/\Inv w X ([aA t9 eE 1 css]++L') S1 w')),
  VC sp most,⟨[],[],S0,Ext.refl _ _ _,Rows.nil _ _,.inl ⟨n,s,used,Y,cv,nv,tv,ms,tr,Z,g,ncs,ck,mo,rfl,hr,D,hu,a0,bk _,hG.mono G.1,hK.mono G.1,N⟩⟩,?_⟩
 clear l c4 N hr D hu a0 hG hK hX;clear N;clear n s used Y cv nv tv ms tr Z g ncs ck mo;have c8:=h4.monoC G.1;intro _ _ t9 _ _ _ _ _ _ _ _ _ _ _ _ _ _ _ _ _ _ _ _ _ _ _ _ _ _ a6 _ _ _ _ _ _ _ _ _ _ _ w';rintro ⟨out,css,S1,i,hR,a7⟩;have e9:=hR.hc;rcases a7 with ⟨n,s,used,Y,cv,nv,tv,ms,tr,Z,g,ncs,ck,mo,rfl,hr,D,hu,a0,e4,hG,hK,l⟩|⟨e,L',he,rfl,a,l⟩
 ·refine bw ?_;refine aL (fun _=>?_) (fun h=>absurd rfl h);have c9:=l.fuN 1 rfl;have d0:=l.lenZ 0 rfl;refine Run.callPure LX LR l (Ll S1) fun w2 l=>?_;refine aE ?_;refine af l 1 rfl ij dO rfl ?_;obtain ⟨gp,rfl⟩:=hG.ptr;refine T1 (e:=nT) (by kernel_rfl) ?_;have f0:=D.hn;have f1:=D.hc;have f2:=D.hl;have e6:26 * p.length * (n+1)=26 * p.length * n+26 * p.length:=Nat.mul_succ _ _;by_cases hg:s.goals=[]
  ·rw [hg] at hG;cases hG;refine aD (fun h=>by cases h) (fun _=>?_);refine kJ l 0 rfl fh ?_;refine bw ?_;rcases hr.invN hg with ⟨hm,a⟩|⟨hm,v,d2,f⟩
   ·refine aL (fun _=>?_) (fun h=>absurd (by omega) h);exact ⟨_,_,S1,rfl,l.sub (dw _ _),G.trans i,_,css,by rw [a],rfl,by rw [a]; exact hR⟩
   ·refine aL (fun h=>absurd (by omega) hm) (fun _=>?_);refine aE ?_;refine af l 1 rfl gi fx rfl ?_;have h26:=D.h26;refine Run.callE (A:=[_,_,_,_]) xM yA l (Mb D.ok.good (by omega) (fun n hn=>⟨(hv n hn).1,by have:=(hv n hn).2; omega⟩) c3 d2 (c7.mono i.1 fun _ _ h=>h) hK.km) fun v' I' S2 w3=>?_;rintro ⟨rfl,a8⟩ J c5;rcases f with ⟨rfl,a⟩|⟨vs,o,rfl,hb,f⟩
    ·simp only at a8;subst a8;refine av rfl ?_;refine av rfl ?_;refine cw ?_;refine aD (fun _=>?_) (fun h=>by cases h);exact ⟨_,_,S2,rfl,c5.sub (dw [_] _),(G.trans i).trans J,_,css,by rw [a],rfl,by rw [a]; exact hR.monoR fun _ _=>RdAns.mono J.1⟩
    ·obtain ⟨u,rfl,a2⟩:=a8;obtain ⟨ua,a4,rfl,-⟩:=id a2;refine av rfl ?_;refine av rfl ?_;refine cw ?_;refine aD (fun h=>by cases h) (fun _=>?_);refine QE ?_;refine de c5 0 [.slice ua vs.length a4] NM (by omega) (by omega) rfl rfl (by simp [Value.oneCell']) (by omega) (by omega) fun e8 w4 M=>?_;refine Run.callE (A:=[_]) kr jV M (wZ hp c2 hb D.ok.chs (by omega) (by omega) rfl ((c8.monoC i.1).monoC J.1) (hK.mono J.1)) fun v' I' S5 w5=>?_;rintro ⟨rfl,hQ⟩ c6 a1;have V:=J.trans c6;obtain ⟨a9,b0,b1,b2,b3,b4,b5,O,b6,U,b7,d9,rfl,t⟩:=hQ;have d1:Rows 1 (RdAns S5) (css++[[.slice ua vs.length a4]]) (out++[vs]):=(hR.monoR fun _ _=>RdAns.mono V.1).snoc ⟨_,rfl,a2.monoT c6.1⟩ rfl;rcases f with ⟨rfl,a⟩|⟨B,rfl,c1⟩
     ·refine ⟨⟨out++[vs],_,S5,i.trans V,d1,.inr ⟨0,_,by decide,rfl,a,a1⟩⟩,?_⟩;unfold VC;simp only [Option.isSome_none,FY,if_false,if_true];rw [ag (by decide)];omega
     ·obtain ⟨j1,j2,j3,j4⟩:=hb.ok hp D.ok.chs B rfl;have j5:=hb.chs B rfl;obtain ⟨rfl,b8,b9⟩:=t B rfl;refine ⟨⟨out++[vs],_,S5,i.trans V,d1,.inl ⟨n,B,used,b4,b5,b6,b1,b3,b2,a9,O,U,b0,b7,rfl,c1,⟨j1,by omega,by omega,by omega,by omega⟩,hu,a0,by rw [bA,bq,bW]; omega,b8,b9,a1⟩⟩,?_⟩;unfold VC;have c0:=a1.fuN 1 rfl;have e1:=a1.lenZ 0 rfl;simp only [Option.isSome_some,if_true];rw [c0,c9,d0,e1,bA,bq,bW];omega
  ·have e2:gp.isSome=true:=by
    cases gp with
    | none=>
     generalize f3:s.goals=gl at hG hg;cases hG with
     | nil=>exact absurd rfl hg
    | some=>rfl
   rw [e2];refine aD (fun _=>?_) (fun h=>by cases h);obtain ⟨o,e,e0,f⟩:∃ o e,((used=fuel/\o=none/\e=2) ∨ (used≠fuel/\StepI p false s o e))/\((o=none/\e≠-1/\r=(out,e)) ∨ ∃ B m,n=m+1/\o=some B/\StepI p false s (some B) e/\RunI p vars most m B out r):=by
    rcases hr.invG hg with ⟨rfl,h2⟩|⟨m,o,e,rfl,h2,h3⟩
    ·exact ⟨none,2,.inl ⟨by omega,rfl,rfl⟩,.inl ⟨rfl,by decide,h2⟩⟩
    ·refine ⟨o,e,.inr ⟨by omega,h2⟩,?_⟩;rcases h3 with ⟨rfl,h3⟩|⟨B,rfl,h3⟩
     ·exact .inl ⟨rfl,h2.ne,h3⟩
     ·exact .inr ⟨B,m,rfl,rfl,h2,h3⟩
   refine Run.callE (A:=[_]) As Av l (QY hp c2 d4 ⟨hu,by omega⟩ e0 D.ok (by omega) (by omega) (by omega) (c8.monoC i.1) hG hK) fun v' I' S4 w4=>?_;rintro ⟨rfl,d7,hQ,a2⟩ a3 M;obtain ⟨a9,b0,b1,b2,b3,b4,b5,O,b6,U,b7,d9,rfl,t⟩:=hQ;rcases f with ⟨rfl,d3,a⟩|⟨B,m,rfl,rfl,a5,c1⟩
   ·refine ⟨⟨out,css,S4,i.trans a3,hR.monoR fun _ _=>RdAns.mono a3.1,.inr ⟨e,_,d3,rfl,a,M⟩⟩,?_⟩;unfold VC;simp only [ag d3,if_true];omega
   ·obtain ⟨j1,j2,j3,rfl,j5⟩:=a5.ok hp D.ok B rfl;have j6:=a5.chs;obtain ⟨rfl,b8,b9⟩:=t B rfl;obtain rfl:=a2 rfl;have e3:26 * p.length * (m+1)=26 * p.length * m+26 * p.length:=Nat.mul_succ _ _;have h26:=D.h26;refine ⟨⟨out,css,S4,i.trans a3,hR.monoR fun _ _=>RdAns.mono a3.1,.inl ⟨m,B,used+1,b4,b5,b6,b1,b3,b2,a9,O,U,b0,b7,rfl,c1,⟨j1,by omega,by omega,by omega,by omega⟩,by omega,by omega,e4,b8,b9,M⟩⟩,?_⟩;unfold VC;have c0:=M.fuN 1 rfl;simp only [if_true];rw [c0,c9,d0];omega
 ·refine bw ?_;refine aL (fun h=>absurd h he) (fun _=>?_);exact ⟨_,_,S1,rfl,l.sub (dw _ _),G.trans i,_,css,by rw [a],rfl,by rw [a]; exact hR⟩
end
end
section
open Go Go.RowKit
mutual
def mvT (f:Int->Int):T->T
 | .mk k n s ks=>.mk k (if k=1 then f n else n) s (mvL f ks)
def mvL (f:Int->Int):List T->List T
 | []=>[]
 | t::ts=>mvT f t::mvL f ts
end
theorem Si (f:Int->Int):∀ ts:List T,(mvL f ts).length=ts.length
 | []=>rfl
 | t::ts=>by rw [mvL,bq,bq,Si f ts]
theorem Sh (f:Int->Int):∀ ts:List T,mvL f ts=ts.map (mvT f)
 | []=>rfl
 | t::ts=>by rw [mvL,lq,Sh f ts]
mutual
theorem NZ (vs:List Int):∀ t:T,dq vs t=mvT (fun n=>k0 vs n n 0) t
 | .mk k n s ks=>by rw [dq,mvT,EW vs ks]
theorem EW (vs:List Int):∀ ts:List T,er vs ts=mvL (fun n=>k0 vs n n 0) ts
 | []=>rfl
 | t::ts=>by rw [er,mvL,NZ vs t,EW vs ts]
end
mutual
theorem Rp {f g:Int->Int} {a:List Int} (h:∀ n∈a,f n=g n):∀ t:T,inT a t->mvT f t=mvT g t
 | .mk k n s ks,hi=>by
  rw [inT] at hi;rw [mvT,mvT,KG h ks hi.2];split
  ·rename_i hk; rw [h n (hi.1 hk)]
  ·rfl
theorem KG {f g:Int->Int} {a:List Int} (h:∀ n∈a,f n=g n):∀ ts:List T,inL a ts->mvL f ts=mvL g ts
 | [],_=>rfl
 | t::ts,hi=>by
  rw [inL] at hi;rw [mvL,mvL,Rp h t hi.1,KG h ts hi.2]
end
theorem UE {f:Int->Int} {l:List Int} {n:Int} (h:∀ m∈l,f m=f n->m=n):jk (l.map f) (f n)=(jk l n).map f:=by
 have e:vt (l.map f) (f n)=vt l n:=by
  rw [oh,tT,tT,dp];constructor
  ·rintro ⟨m,a,e⟩;rw [<- h m a e]; exact a
  ·intro hn;exact ⟨n,hn,rfl⟩
 unfold jk;rw [e];split
 ·rfl
 ·simp
mutual
theorem Vh {f:Int->Int} {h:List Int} (hf:∀ a∈h,∀ b∈h,f a=f b->a=b):∀ (t:T) (l:List Int),(∀ m∈l,m∈h)->inT h t->iA (mvT f t) (l.map f)=(iA t l).map f/\∀ m∈iA t l,m∈h
 | .mk k n s ks,l,hl,hi=>by
  rw [inT] at hi;rw [mvT,iA,iA];by_cases hk:k=1
  ·rw [ai hk,ai hk,ai hk,UE fun m g e=>hf m (hl m g) n (hi.1 hk) e];refine yV hf ks _ (fun m g=>?_) hi.2;unfold jk at g;split at g
   ·exact hl m g
   ·rcases bF.1 g with g|g
    ·exact hl m g
    ·rw [bK.1 g]; exact hi.1 hk
  ·rw [ag hk,ag hk];exact yV hf ks l hl hi.2
theorem yV {f:Int->Int} {g:List Int} (hf:∀ a∈g,∀ b∈g,f a=f b->a=b):∀ (ts:List T) (l:List Int),(∀ m∈l,m∈g)->inL g ts->cU (mvL f ts) (l.map f)=(cU ts l).map f/\∀ m∈cU ts l,m∈g
 | [],l,hl,_=>⟨rfl,hl⟩
 | t::ts,l,hl,hi=>by
  rw [inL] at hi;obtain ⟨e,h⟩:=Vh hf t l hl hi.1;rw [mvL,cU,cU,e];exact yV hf ts _ h hi.2
end
theorem Ne:∀ (xs:List Int) (n:Int) (k:Nat),n∈xs->∃ i,xs[i]?=some n/\(cm (σ:=Unit) (fun _ x=>(decide (n=x),())) () xs k).1=((k+i:Nat):Int)
 | x::xs,n,k,h=>by
  rw [cm];by_cases e:n=x
  ·subst e;exact ⟨0,rfl,by simp⟩
  ·have g:n∈xs:=by
    rcases bY.1 h with h|h
    ·exact absurd h e
    ·exact h
   obtain ⟨i,a,f⟩:=Ne xs n (k+1) g;refine ⟨i+1,a,?_⟩;rw [aZ e];simp only [FY,if_false];rw [f];omega
theorem Bg {xs:List Int} {n:Int} (h:n∈xs):∃ i:Nat,xs[i]?=some n/\ou xs n=(i:Int)/\i<xs.length:=by
 obtain ⟨i,a,f⟩:=Ne xs n 0 h;exact ⟨i,a,by rw [ou,f,cQ],(fa.1 a).1⟩
theorem Sw {f:Int->Int} {n:Int}:∀ (xs:List Int) (k:Nat),(∀ m∈xs,f m=f n->m=n)->(cm (σ:=Unit) (fun _ x=>(decide (f n=x),())) () (xs.map f) k).1=(cm (σ:=Unit) (fun _ x=>(decide (n=x),())) () xs k).1
 | [],_,_=>rfl
 | x::xs,k,h=>by
  rw [lq,cm,cm];have:decide (f n=f x)=decide (n=x):=by
   rw [fY];exact ⟨fun e=>(h x (aM ..) e.symm).symm,fun e=>by rw [e]⟩
  rw [this];have g:=Sw xs (k+1) fun m a=>h m (aR _ a);split
  ·rfl
  ·exact g
theorem Us {f:Int->Int} {xs:List Int} {n:Int} (h:∀ m∈xs,f m=f n->m=n):ou (xs.map f) (f n)=ou xs n:=Sw xs 0 h
mutual
theorem RU (f:Int->Int):∀ t:T,dG (mvT f t)=dG t
 | .mk k n s ks=>by rw [mvT,dG,dG,RR f ks]
theorem RR (f:Int->Int):∀ ts:List T,cY (mvL f ts)=cY ts
 | []=>rfl
 | t::ts=>by rw [mvL,cY,cY,RU f t,RR f ts]
end
mutual
theorem SO:∀ (t:T) (l:List Int),okV t->(∀ m∈l,0<=m/\m<26)->∀ m∈iA t l,0<=m/\m<26
 | .mk k n s ks,l,ho,hl=>by
  rw [okV] at ho;rw [iA];refine Ag ks _ ho.2 fun m a=>?_;split at a
  ·rename_i hk
   unfold jk at a;split at a
   ·exact hl m a
   ·rcases bF.1 a with a|a
    ·exact hl m a
    ·have:=ho.1 hk;rw [bK.1 a];omega
  ·exact hl m a
theorem Ag:∀ (ts:List T) (l:List Int),Au ts->(∀ m∈l,0<=m/\m<26)->∀ m∈cU ts l,0<=m/\m<26
 | [],l,_,hl=>hl
 | t::ts,l,ho,hl=>by
  rw [Au] at ho;rw [cU];exact Ag ts _ ho.2 (SO t l ho.1 hl)
end
end
section
open Go Go.RowKit
mutual
theorem XH (vs:List Int):∀ t:T,wT (jN vs t)<=wT t
 | .mk k n s ks=>by
  rw [jN];split
  ·show (0+0+0:Nat)<=_;omega
  ·have:=Mg vs ks;rw [wT,wT,pO vs ks];omega
theorem Mg (vs:List Int):∀ ts:List T,wL (fB vs ts)<=wL ts
 | []=>by rw [fB]; exact aS _
 | t::ts=>by
  have a:=XH vs t;have f:=Mg vs ts;rw [fB,wL,wL];omega
end
def RY (vs:List T):Prop:=vs.length+wL vs<=1048576
theorem ValsI.small {N:Nat} {st:aj} (m:Good N st) {vars:List Int} (o:∀ n∈vars,0<=n/\n<N) (hl:vars.length<=1000) {vs:List T} (h:ValsI st vars (some vs)):RY vs:=by
 obtain ⟨us,a,f⟩:=h;have g:=Ld a;rw [jO] at g;split at f
 ·rename_i hc
  cases f;have r:=Gu (N:=N) (us:=us) fun u l=>by
   obtain ⟨i,q,rfl⟩:=BR l;refine ⟨dE.1 hc.1 _ l,fg m (AW a i (by rw [jO]; omega) q) ?_⟩;rw [F2];exact Hg (o _ (bG _))
  have:=Mg (cU us []) us;unfold RY;rw [pO];omega
 ·cases f
theorem RunI.small {p:List C} (t:∀ cl∈p,im cl) {vars:List Int} (l:∀ n∈vars,0<=n/\n<26) (hl:vars.length<=1000) {most n:Nat} {s:SI} {out:List (List T)} {r:List (List T) × Int} (h:RunI p vars most n s out r) :
  uu p.length s->26<=s.st.length->(∀ vs∈out,RY vs)->∀ vs∈r.1,RY vs:=by
 induction h with
 | fuel=>exact fun _ _ h=>h
 | stop=>exact fun _ _ h=>h
 | more=>exact fun _ _ h=>h
 | large=>exact fun _ _ h=>h
 | step _ o _ q=>
  intro g h26 i;obtain ⟨m,_,_,_,D⟩:=o.ok t g _ rfl;exact q m (by omega) i
 | last _ _ a _=>
  intro g h26 i vs f;rcases bF.1 f with h|h
  ·exact i vs h
  ·rw [bK.1 h];exact a.small g.good (fun n hn=>⟨(l n hn).1,by have:=(l n hn).2; omega⟩) hl
 | next _ _ a B _ q=>
  intro g h26 i;obtain ⟨m,_,_,G⟩:=B.ok t g.chs _ rfl;refine q m (by omega) fun vs f=>?_;rcases bF.1 f with h|h
  ·exact i vs h
  ·rw [bK.1 h];exact a.small g.good (fun n hn=>⟨(l n hn).1,by have:=(l n hn).2; omega⟩) hl
def SolR (p:List C) (q:List T) (most fuel:Nat) (r:List (List T) × Int):Prop:=((c8 p && dZ q)=true/\RunI p (cU q []) most fuel (ft q) [] r) ∨ ((c8 p && dZ q)=false/\r=([],9))
theorem hH {p:List C} (h:c8 p=true):(∀ cl∈p,im cl)/\(∀ cl∈p,cl.body.length<=1048576)/\p.length<=20:=by
 rw [c8,bM,bD,dE] at h;exact ⟨fun cl hc=>Nm (h.2 cl hc),fun cl hc=>by have:=(dS (h.2 cl hc)).2.2; omega,h.1⟩
theorem Cf {q:List T} (h:dZ q=true):q.length<=6/\(∀ t∈q,d4 t=true):=by
 rw [dZ,bM,bD,dE] at h;exact ⟨h.1,fun t a=>nW (h.2 t a)⟩
theorem Fl:∀ {q:List T},(∀ t∈q,d4 t=true)->cY q<=120 * (q.length:Int)
 | [],_=>by simp [cY]
 | t::q,h=>by
  have a:=h t (aM ..);rw [d4,bM] at a;have g:dG t<=120:=by simpa using a.2
  have i:=Fl fun x f=>h x (aR _ f);rw [cY,bq];omega
theorem wK {q:List T} (h:dZ q=true):(∀ n∈cU q [],0<=n/\n<26)/\(cU q []).length<=1000/\cY q<=1000:=by
 obtain ⟨i,a⟩:=Cf h;have l:=Fl a;have g:=xZ q [];rw [bW] at g;exact ⟨Ag q [] (LQ fun t f=>y0 t (kj (a t f))) (by simp),by omega,by omega⟩
theorem mJ {q:List T} (h:dZ q=true) (m:Nat):uu m (ft q):=SL m fun t f=>by
 have a:=(Cf h).2 t f;exact ⟨⟨kj a,by have:=uJ a; omega⟩,Bm a⟩
theorem SolR.ex (p:List C) (q:List T) (most fuel:Nat):∃ r,SolR p q most fuel r:=by
 by_cases h:(c8 p && dZ q)=true
 ·have a:=h;rw [bM] at a;obtain ⟨r,f⟩:=RunI.ex (hH a.1).1 (wK a.2).1 most _ fuel (ft q) [] (aS _) (bk _) (mJ a.2 _) (by show 26<=(List.replicate 26 (none:Option T)).length; simp);exact ⟨r,.inl ⟨h,f⟩⟩
 ·exact ⟨_,.inr ⟨by simpa using h,rfl⟩⟩
end
section
open Go Go.RowKit
def cls (p:List C) (l:List Int):List (Option C):=l.map fun i=>p[i.toNat]?
def sameHd (t u:T):Prop:=u.kind=t.kind/\u.name=t.name/\u.kids.length=t.kids.length
structure Alk (p s:List C) (R:T->Prop):Prop where
 for_:∀ t,R t->eA t=false->bV t=false->cls p (eX p t)=cls s (eX s t)
 body:∀ t,R t->∀ i∈eX p t,∀ cl,p[i.toNat]?=some cl->∀ b∈cl.body,R b
 hd:∀ t u,R t->sameHd t u->R u
 three:∀ t,R t->t.kind=3
def W2 (p:List C) (R:T->Prop) (l:List Int):Prop:=∀ i∈l,∀ cl,p[i.toNat]?=some cl->∀ b∈cl.body,R b
structure Y4 (p s:List C) (R:T->Prop) (c d:CI):Prop where
 goal:d.goal=c.goal
 node:d.node=c.node
 rest:d.rest=c.rest
 left:cls s d.left=cls p c.left
 binds:d.binds=c.binds
 taken:d.taken=c.taken
 rR:∀ g∈c.rest,R g.t
 lR:W2 p R c.left
def simCs (p s:List C) (R:T->Prop) (cs ds:List CI):Prop:=cs.length=ds.length/\∀ i (h:i<cs.length) (h':i<ds.length),Y4 p s R cs[i] ds[i]
structure T7 (p s:List C) (R:T->Prop) (x y:SI):Prop where
 st:y.st=x.st
 goals:y.goals=x.goals
 chs:simCs p s R x.chs y.chs
 nodes:y.nodes.length=x.nodes.length
 gR:∀ g∈x.goals,R g.t
def aa0 (p s:List C) (R:T->Prop) (o o':Option HI):Prop:=(o=none/\o'=none) ∨ ∃ r r':HI,o=some r/\o'=some r'/\r'.cl=r.cl/\r'.by_=r.by_/\r'.st=r.st/\cls s r'.l=cls p r.l/\W2 p R r.l/\∀ b∈r.cl.body,R b
def simO (p s:List C) (R:T->Prop) (o o':Option SI):Prop:=(o=none/\o'=none) ∨ ∃ x y,o=some x/\o'=some y/\T7 p s R x y
section
variable {p s:List C} {R:T->Prop}
theorem sameHd.shift (b:Int) (t:T) (h:t.kind≠1):sameHd t (bp b t):=by
 cases t with
 | mk k n m ks=>
  simp only [T.kind] at h;rw [bp,ag h];exact ⟨rfl,rfl,by simp [T.kids,eW]⟩
theorem wJ {st:aj} {t u:T} (h:Res st (.one t u)) (a:t.kind≠1):sameHd t u:=by
 cases h with
 | @one _ v us g hl=>
  have f:v=t:=by
   cases g with
   | stop _=>rfl
   | step hk _=>exact absurd (di.1 hk).1 a
  subst f;refine ⟨rfl,rfl,?_⟩;show us.length=v.kids.length;have:∀ {ts us:List T},Res st (.list ts us)->us.length=ts.length:=by
   intro ts;induction ts with
   | nil=>intro us h; cases h; rfl
   | cons t ts i=>intro us h; cases h with|cons _ h=>rw [bq,bq,i h]
  exact this hl
theorem ma {l a:List Int} (h:cls s a=cls p l):a=[]↔l=[]:=by
 have:=congrArg List.length h;simp only [cls,jO] at this;constructor
 ·rintro rfl; exact gF (by simpa using this.symm)
 ·rintro rfl; exact gF (by simpa using this)
theorem TryI.sim {g:T} {l:List Int} {st:aj} {o:Option HI} {n:Nat} (h:TryI p g l st o n):∀ a,cls s a=cls p l->W2 p R l->(∀ i∈a,0<=i)->∃ r,TryI s g a st r n/\aa0 p s R o r:=by
 induction h with
 | nil=>
  intro a hl _ _;obtain rfl:=(ma hl).2 rfl;exact ⟨none,.nil,.inl ⟨rfl,rfl⟩⟩
 | @hit i l cl st B t D=>
  intro a hl f m;cases a with
  | nil=>simp [cls] at hl
  | cons j a=>
   obtain ⟨k,rfl⟩:∃ k:Nat,j=(k:Int):=⟨j.toNat,by have:=m j (by simp); omega⟩
   simp only [cls,lq,dK,cu] at hl;rw [t] at hl;exact ⟨_,.hit hl.1 D,.inr ⟨_,_,rfl,rfl,rfl,rfl,rfl,hl.2,fun x q=>f x (aR _ q),f i (aM ..) cl (by rw [cu]; exact t)⟩⟩
 | @miss i l cl st B o n t D _ M=>
  intro a hl f m;cases a with
  | nil=>simp [cls] at hl
  | cons j a=>
   obtain ⟨k,rfl⟩:∃ k:Nat,j=(k:Int):=⟨j.toNat,by have:=m j (by simp); omega⟩
   simp only [cls,lq,dK,cu] at hl;rw [t] at hl;obtain ⟨r,G,J⟩:=M a hl.2 (fun x q=>f x (aR _ q)) fun x q=>m x (aR _ q);exact ⟨r,.miss hl.1 D G,J⟩
theorem simCs.snoc {cs ds:List CI} {c d:CI} (h:simCs p s R cs ds) (hc:Y4 p s R c d):simCs p s R (cs++[c]) (ds++[d]):=by
 refine ⟨by simp [h.1],fun i f g=>?_⟩;by_cases a:i<cs.length
 ·rw [fA a,fA (h:=by have:=h.1; omega)];exact h.2 i a _
 ·rw [bA,bq,bW] at f;have l:=h.1;obtain rfl:i=cs.length:=by omega
  rw [eZ (aS _),eZ (by omega)];simpa [l] using hc
theorem simCs.last {cs ds:List CI} {c d:CI} (h:simCs p s R (cs++[c]) (ds++[d])):simCs p s R cs ds/\Y4 p s R c d:=by
 have f:cs.length=ds.length:=by have:=h.1; simpa using this
 refine ⟨⟨f,fun i g a=>?_⟩,?_⟩
 ·have:=h.2 i (by rw [bA]; omega) (by rw [bA]; omega)
  rwa [fA g,fA a] at this
 ·have:=h.2 cs.length (by simp) (by simp [f]);rw [eZ (aS _),eZ (by omega)] at this;simpa [f] using this
theorem NT (hR:Alk p s R) {cs ds:List CI} {ns o:List NI} {g:T} {a:Int} {rest:List GI} {b:aj} {r h:HI} (m:simCs p s R cs ds) (hn:o.length=ns.length) (B:∀ x∈rest,R x.t)
  (M:h.cl=r.cl/\h.by_=r.by_/\h.st=r.st/\cls s h.l=cls p r.l/\W2 p R r.l/\∀ b∈r.cl.body,R b):T7 p s R (gD cs ns g a rest b r) (gD ds o g a rest b h):=by
 obtain ⟨O,U,D,q,V,G⟩:=M;refine ⟨D,?_,?_,?_,?_⟩
 ·show fC h.cl h.by_ ds.length a rest=fC r.cl r.by_ cs.length a rest;rw [O,U,m.1]
 ·show simCs p s R (cs++(if r.l=[] then [] else [⟨g,a,rest,r.l,b,ns.length⟩])) (ds++(if h.l=[] then [] else [⟨g,a,rest,h.l,b,o.length⟩]));by_cases hl:r.l=[]
  ·rw [ai hl,ai ((ma q).2 hl),bU,bU]; exact m
  ·rw [ag hl,ag (fun e=>hl ((ma q).1 e))];exact m.snoc ⟨rfl,rfl,rfl,q,rfl,hn,B,V⟩
 ·show (LW o a.toNat h.i).length=(LW ns a.toNat r.i).length;rw [z2,z2,hn]
 ·intro x N;have f:x∈fC r.cl r.by_ cs.length a rest:=N;unfold fC at f;rcases bF.1 f with f|f
  ·obtain ⟨t,J,rfl⟩:=dp.1 f;have D:=hR.three t (G t J);exact hR.hd t _ (G t J) (sameHd.shift _ t (by omega))
  ·exact B x f
theorem BackI.sim (hR:Alk p s R) {cs:List CI} {n:Nat} {ns:List NI} {o:Option SI} (h:BackI p cs n ns o):∀ ds l,simCs p s R cs ds->l.length=ns.length->(∀ d∈ds,∀ i∈d.left,0<=i)->∃ B,BackI s ds n l B/\simO p s R o B:=by
 induction h with
 | nil=>
  intro ds l hd _ _;obtain rfl:ds=[]:=gF (by simpa using hd.1.symm);exact ⟨none,.nil,.inl ⟨rfl,rfl⟩⟩
 | @hit cs c n m ns r J=>
  intro ds l hd hn t;obtain ⟨f,d,rfl⟩:∃ f d,ds=f++[d]:=⟨ds.dropLast,ds.getLast (by intro e; rw [e] at hd; simp [simCs] at hd),(Rc _).symm⟩
  obtain ⟨D,a⟩:=hd.last;obtain ⟨B,g,G⟩:=J.sim (s:=s) (R:=R) d.left a.left a.lR (t d (by simp));rcases G with ⟨q,_⟩|⟨Z,M,e1,rfl,hh⟩
  ·cases q
  simp only [aY] at e1;subst e1;have g:TryI s d.goal d.left (bH d.binds n) (some M) m:=by rw [a.goal,a.binds]; exact g
  refine ⟨_,.hit g,.inr ⟨_,_,rfl,rfl,?_⟩⟩;rw [a.goal,a.node,a.rest,a.binds,a.taken];exact NT hR D (by rw [cL,cL,hn]) a.rR hh
 | @miss cs c n m ns o J _ Y=>
  intro ds l hd hn t;obtain ⟨f,d,rfl⟩:∃ f d,ds=f++[d]:=⟨ds.dropLast,ds.getLast (by intro e; rw [e] at hd; simp [simCs] at hd),(Rc _).symm⟩
  obtain ⟨D,a⟩:=hd.last;obtain ⟨B,g,G⟩:=J.sim (s:=s) (R:=R) d.left a.left a.lR (t d (by simp));rcases G with ⟨_,rfl⟩|⟨Z,M,e1,_⟩
  ·have g:TryI s d.goal d.left (bH d.binds n) none m:=by rw [a.goal,a.binds]; exact g
   obtain ⟨O,U,V⟩:=Y f (l.take d.taken) D (by rw [cL,cL,hn,a.taken]) fun x N=>t x (cZ _ N);exact ⟨O,.miss g U,V⟩
  ·cases e1
theorem simO.isSome {o a:Option SI} (h:simO p s R o a):a.isSome=o.isSome:=by
 rcases h with ⟨rfl,rfl⟩|⟨x,y,rfl,rfl,_⟩ <;> rfl
theorem StepI.sim (hR:Alk p s R) {x y:SI} {o:Option SI} {e:Int} (h:StepI p false x o e) (M:T7 p s R x y) (h0:∀ d∈y.chs,∀ i∈d.left,0<=i):∃ V,StepI s false y V e/\simO p s R o V:=by
 have a:=M.st;have D:=M.goals;have O:=M.gR;have nd:∀ z:NI,(y.nodes++[z]).length=(x.nodes++[z]).length:=fun z=>by simp [M.nodes]
 have U:∀ {g:GI} {gs:List GI} {t:T},x.goals=g::gs->Res x.st (.one g.t t)->R t:=fun {g gs t} l B=>by
  have h1:=O g (by rw [l]; simp);have h3:=hR.three _ h1;exact hR.hd _ _ h1 (wJ B (by omega))
 cases h with
 | large l B f=>exact ⟨none,.large (by rw [D]; exact l) (by rw [a]; exact B) f,.inl ⟨rfl,rfl⟩⟩
 | noCut _ _ _ _ h=>cases h
 | @cut g gs t l B f hc a1=>
  refine ⟨_,.cut (by rw [D]; exact l) (by rw [a]; exact B) f hc rfl,.inr ⟨_,_,rfl,rfl,a,rfl,?_,nd _,fun z Y=>O z (by rw [l]; exact aR _ Y)⟩⟩;refine ⟨by rw [cL,cL,M.chs.1],fun i Z a0=>?_⟩;rw [cL] at Z a0;rw [CJ,CJ];exact M.chs.2 i (by omega) (by omega)
 | @solved g gs t st l B f hc J hB=>
  exact ⟨_,.solved (by rw [D]; exact l) (by rw [a]; exact B) f hc J (by rw [a]; exact hB),.inr ⟨_,_,rfl,rfl,rfl,rfl,M.chs,nd _,fun z Y=>O z (by rw [l]; exact aR _ Y)⟩⟩
 | @fail g gs t st o l B f hc J hB ho=>
  obtain ⟨V,k1,k2⟩:=ho.sim hR y.chs _ M.chs (nd ⟨t,g.up,-1⟩) h0;rw [<- k2.isSome];exact ⟨V,.fail (by rw [D]; exact l) (by rw [a]; exact B) f hc J (by rw [a]; exact hB) (by rw [a]; exact k1),k2⟩
 | err l B f hc J hB h1 h2=>exact ⟨none,.err (by rw [D]; exact l) (by rw [a]; exact B) f hc J (by rw [a]; exact hB) h1 h2,.inl ⟨rfl,rfl⟩⟩
 | unknown l B f hc J hf=>
  have G:=hR.for_ _ (U l B) hc J;exact ⟨none,.unknown (by rw [D]; exact l) (by rw [a]; exact B) f hc J ((ma G.symm).2 hf),.inl ⟨rfl,rfl⟩⟩
 | @took g gs t r m l B f hc J hf hT=>
  have N:=U l B;have G:=hR.for_ _ N hc J;obtain ⟨V,q1,q2⟩:=hT.sim (s:=s) (R:=R) (eX s t) G.symm (hR.body t N) fun i Z=>(l6 s t i Z).1;rcases q2 with ⟨q,_⟩|⟨r1,r',e1,rfl,hh⟩
  ·cases q
  simp only [aY] at e1;subst e1;refine ⟨_,.took (by rw [D]; exact l) (by rw [a]; exact B) f hc J (fun e=>hf ((ma G.symm).1 e)) (by rw [a]; exact q1),.inr ⟨_,_,rfl,rfl,?_⟩⟩;rw [a,M.nodes];exact NT hR M.chs (nd _) (fun z Y=>O z (by rw [l]; exact aR _ Y)) hh
 | @back g gs t m o l B f hc J hf hT ho=>
  have N:=U l B;have G:=hR.for_ _ N hc J;obtain ⟨V,q1,q2⟩:=hT.sim (s:=s) (R:=R) (eX s t) G.symm (hR.body t N) fun i Z=>(l6 s t i Z).1;rcases q2 with ⟨_,rfl⟩|⟨r1,r',e1,_⟩
  ·obtain ⟨o2,k1,k2⟩:=ho.sim hR y.chs _ M.chs (nd ⟨t,g.up,-1⟩) h0;rw [<- k2.isSome];exact ⟨o2,.back (by rw [D]; exact l) (by rw [a]; exact B) f hc J (fun e=>hf ((ma G.symm).1 e)) (by rw [a]; exact q1) k1,k2⟩
  ·cases e1
theorem okCs.pos {m n k:Nat} {cs:List CI} (h:okCs m n k cs):∀ d∈cs,∀ i∈d.left,0<=i:=fun d hd i a=>by
 obtain ⟨j,f,rfl⟩:=BR hd;exact ((h.at_ j f).1.left i a).1
theorem RunI.sim (hR:Alk p s R) (O:∀ cl∈p,im cl) (U:∀ cl∈s,im cl) {vars:List Int} {most n:Nat} {x:SI} {out:List (List T)} {r:List (List T) × Int} (h:RunI p vars most n x out r):∀ y,T7 p s R x y->uu p.length x->uu s.length y->RunI s vars most n y out r:=by
 induction h with
 | fuel f=>intro y a _ _; exact .fuel (by rw [a.goals]; exact f)
 | stop f l=>
  intro y a _ g;obtain ⟨J,i,m⟩:=l.sim hR a g.chs.pos;rcases m with ⟨_,rfl⟩|⟨_,_,e,_⟩
  ·exact .stop (by rw [a.goals]; exact f) i
  ·cases e
 | step f l _ M=>
  intro y a G g;obtain ⟨J,i,m⟩:=l.sim hR a g.chs.pos;rcases m with ⟨e,_⟩|⟨V,N,e,rfl,q⟩
  ·cases e
  simp only [aY] at e;subst e;exact .step (by rw [a.goals]; exact f) i (M N q (l.ok O G _ rfl).1 (i.ok U g _ rfl).1)
 | more f o=>intro y a _ _; exact .more (by rw [a.goals]; exact f) o
 | large f o B=>intro y a _ _; exact .large (by rw [a.goals]; exact f) o (by rw [a.st]; exact B)
 | last f o B D=>
  intro y a _ g;obtain ⟨J,i,m⟩:=D.sim hR y.chs y.nodes a.chs a.nodes g.chs.pos;rcases m with ⟨_,rfl⟩|⟨_,_,e,_⟩
  ·exact .last (by rw [a.goals]; exact f) o (by rw [a.st]; exact B) (by rw [a.st]; exact i)
  ·cases e
 | next f o B D _ M=>
  intro y a G g;obtain ⟨J,i,m⟩:=D.sim hR y.chs y.nodes a.chs a.nodes g.chs.pos;rcases m with ⟨e,_⟩|⟨V,N,e,rfl,q⟩
  ·cases e
  simp only [aY] at e;subst e;refine .next (by rw [a.goals]; exact f) o (by rw [a.st]; exact B) (by rw [a.st]; exact i) (M N q (D.ok O G.chs _ rfl).1 ?_);have t:=g.chs;rw [a.st] at t;exact (i.ok U t _ rfl).1
end
end
section
open Go Go.RowKit
attribute [local irreducible] Run CondV aq aK

def isP (x:Pd) (c:C):Bool:=gP (bN c.head) x
def fZ (p:List C) (x:Pd):List C:=(p.filter fun c=>!isP x c)++p.filter (isP x)
def qL (p:List C) (x:Pd):List C:=if c8 p=true then fZ p x else []
theorem Ni (p:List C) (x:Pd):(fZ p x).length+wP (fZ p x)=p.length+wP p:=by
 have:=Jf (isP x) p;rw [fZ,IB,bA];omega
end
section
open Go Go.RowKit
attribute [local irreducible] Run CondV aq aK

def inP (l:List Pd) (c:C):Bool:=Gg l (bN c.head)
def Rd (p:List C) (q:List T):List C:=if (c8 p && dZ q)=true then p.filter (inP (wG p (iG [] q))) else []
end
section
open Go Go.RowKit

theorem F6 {l:List Pd} {x:Pd}:Gg l x=true↔x∈l:=by
 simp [Gg,pK]
theorem Fe {l:List Pd} {x y:Pd}:y∈mO l x↔y∈l ∨ y=x:=by
 unfold mO;split
 ·rename_i h
  rw [F6] at h;exact ⟨.inl,fun a=>a.elim id fun e=>e ▸ h⟩
 ·simp
theorem Lg {l:List Pd} {x:Pd} (h:l.Nodup):(mO l x).Nodup:=by
 unfold mO;split
 ·exact h
 ·rename_i f
  rw [F6] at f;rw [oD];refine ⟨h,by simp,fun a i b g e=>?_⟩;simp at g;subst g;subst e;exact f i
theorem UA (l:List Pd) (x:Pd):∃ s,mO l x=l++s:=by
 unfold mO;split
 ·exact ⟨[],by simp⟩
 ·exact ⟨[x],rfl⟩
theorem xi:∀ (ts:List T) (l:List Pd) (y:Pd),y∈iG l ts↔y∈l ∨ ∃ t∈ts,dH t=true/\bN t=y
 | [],l,y=>by simp [iG]
 | t::ts,l,y=>by
  have e:iG l (t::ts)=iG (if dH t=true then mO l (bN t) else l) ts:=rfl;rw [e,xi ts];split
  ·rename_i h
   rw [Fe];constructor
   ·rintro ((a|a)|⟨u,a,h2⟩)
    ·exact .inl a
    ·exact .inr ⟨t,aM ..,h,a.symm⟩
    ·exact .inr ⟨u,aR _ a,h2⟩
   ·rintro (a|⟨u,a,h2,h3⟩)
    ·exact .inl (.inl a)
    ·rcases bY.1 a with rfl|a
     ·exact .inl (.inr h3.symm)
     ·exact .inr ⟨u,a,h2,h3⟩
  ·rename_i h
   constructor
   ·rintro (a|⟨u,a,h2⟩)
    ·exact .inl a
    ·exact .inr ⟨u,aR _ a,h2⟩
   ·rintro (a|⟨u,a,h2,h3⟩)
    ·exact .inl a
    ·rcases bY.1 a with rfl|a
     ·exact absurd h2 h
     ·exact .inr ⟨u,a,h2,h3⟩
theorem JD:∀ (ts:List T) (l:List Pd),l.Nodup->(iG l ts).Nodup
 | [],l,h=>h
 | t::ts,l,h=>by
  have e:iG l (t::ts)=iG (if dH t=true then mO l (bN t) else l) ts:=rfl;rw [e];refine JD ts _ ?_;split
  ·exact Lg h
  ·exact h
theorem vI (x:Pd):∀ (p:List C) (l:List Pd) (y:Pd),y∈jb l p x↔y∈l ∨ ∃ c∈p,bN c.head=x/\∃ t∈c.body,dH t=true/\bN t=y
 | [],l,y=>by simp [jb]
 | c::p,l,y=>by
  have e:jb l (c::p) x=jb (if gP (bN c.head) x=true then iG l c.body else l) p x:=rfl;rw [e,vI x p];split
  ·rename_i h
   rw [pK,bD] at h;rw [xi];constructor
   ·rintro ((a|a)|⟨u,a,h2⟩)
    ·exact .inl a
    ·exact .inr ⟨c,aM ..,h,a⟩
    ·exact .inr ⟨u,aR _ a,h2⟩
   ·rintro (a|⟨u,a,h2,h3⟩)
    ·exact .inl (.inl a)
    ·rcases bY.1 a with rfl|a
     ·exact .inl (.inr h3)
     ·exact .inr ⟨u,a,h2,h3⟩
  ·rename_i h
   rw [pK,bD] at h;constructor
   ·rintro (a|⟨u,a,h2⟩)
    ·exact .inl a
    ·exact .inr ⟨u,aR _ a,h2⟩
   ·rintro (a|⟨u,a,h2,h3⟩)
    ·exact .inl a
    ·rcases bY.1 a with rfl|a
     ·exact absurd h2 h
     ·exact .inr ⟨u,a,h2,h3⟩
theorem Po {p:List C} {x y:Pd}:y∈jA p x↔∃ c∈p,bN c.head=x/\∃ t∈c.body,dH t=true/\bN t=y:=by
 rw [jA,vI];simp
theorem oB:∀ (p:List C) (l:List Pd) (y:Pd),y∈gI l p↔y∈l ∨ ∃ c∈p,bN c.head=y
 | [],l,y=>by simp [gI]
 | c::p,l,y=>by
  have e:gI l (c::p)=gI (mO l (bN c.head)) p:=rfl;rw [e,oB p,Fe];constructor
  ·rintro ((a|a)|⟨u,a,h2⟩)
   ·exact .inl a
   ·exact .inr ⟨c,aM ..,a.symm⟩
   ·exact .inr ⟨u,aR _ a,h2⟩
  ·rintro (a|⟨u,a,h2⟩)
   ·exact .inl (.inl a)
   ·rcases bY.1 a with rfl|a
    ·exact .inl (.inr h2.symm)
    ·exact .inr ⟨u,a,h2⟩
theorem qQ:∀ (p:List C) (l:List Pd),l.Nodup->(gI l p).Nodup
 | [],l,h=>h
 | c::p,l,h=>by
  have e:gI l (c::p)=gI (mO l (bN c.head)) p:=rfl;rw [e];exact qQ p _ (Lg h)
theorem G6 {α:Type} [DecidableEq α]:∀ {l m:List α},l.Nodup->(∀ x∈l,x∈m)->l.length<=m.length
 | [],_,_,_=>bk _
 | x::l,m,h,hs=>by
  rw [Gt] at h;have g:=hs x (aM ..);have i:=G6 (l:=l) (m:=m.erase x) h.2 fun y f=>by
   have a:y≠x:=fun e=>h.1 (e ▸ f);exact (List.mem_erase_of_ne a).2 (hs y (aR _ f))
  rw [List.length_erase_of_mem g] at i;have:0<m.length:=List.length_pos_of_mem g;rw [bq];omega

inductive Star (p:List C) (x:Pd):Pd->Prop
 | refl:Star p x x
 | step {y z:Pd}:Star p x y->z∈jA p y->Star p x z
theorem Star.trans {p:List C} {x y z:Pd} (h:Star p x y) (a:Star p y z):Star p x z:=by
 induction a with
 | refl=>exact h
 | step _ f g=>exact .step g f
theorem rf:∀ (m l:List Pd) (y:Pd),y∈gZ l m↔y∈l ∨ y∈m
 | [],l,y=>by simp [gZ]
 | x::m,l,y=>by
  have e:gZ l (x::m)=gZ (mO l x) m:=rfl;rw [e,rf m,Fe,bY];constructor
  ·rintro ((h|h)|h)
   ·exact .inl h
   ·exact .inr (.inl h)
   ·exact .inr (.inr h)
  ·rintro (h|h|h)
   ·exact .inl (.inl h)
   ·exact .inl (.inr h)
   ·exact .inr h
theorem Iz:∀ (m l:List Pd),l.Nodup->(gZ l m).Nodup
 | [],_,h=>h
 | _::m,_,h=>Iz m _ (Lg h)
theorem Gn:∀ (m l:List Pd),∃ s,gZ l m=l++s
 | [],l=>⟨[],by simp [gZ]⟩
 | x::m,l=>by
  obtain ⟨s,f⟩:=UA l x;obtain ⟨g,a⟩:=Gn m (mO l x);have e:gZ l (x::m)=gZ (mO l x) m:=rfl;exact ⟨s++g,by rw [e,a,f,dx]⟩
theorem EA {G:List Pd}:∀ (m l:List Pd),(∀ x∈m,x∈G)->(gZ l m).length+pot G (gZ l m)<=l.length+pot G l
 | [],l,_=>aS _
 | x::m,l,h=>by
  have e:gZ l (x::m)=gZ (mO l x) m:=rfl;have f:=EA m (mO l x) fun y a=>h y (aR _ a);have g:=VA (l:=l) (h x (aM ..));rw [e];omega
theorem BN (p:List C):∀ (n:Nat) (l:List Pd) (i:Nat),l.length+pot (gPs p) l<=n+i->(∀ j (h:j<l.length),j<i->∀ z∈jA p l[j],z∈l)->l.Nodup->
  (qi n p l i).Nodup/\(∀ y∈qi n p l i,∃ x∈l,Star p x y)/\(∀ x∈l,x∈qi n p l i)/\∀ y∈qi n p l i,∀ z∈jA p y,z∈qi n p l i
 | 0,l,i,hn,hc,hd=>by
  simp only [qi];refine ⟨hd,fun y f=>⟨y,f,.refl⟩,fun x a=>a,fun y f z g=>?_⟩;obtain ⟨j,o,rfl⟩:=mG.1 f;exact hc j o (by omega) z g
 | n+1,l,i,hn,hc,hd=>by
  rw [qi];split
  ·rename_i r
   have U:=EA (G:=gPs p) (jA p l[i]) l fun x a=>Qd a;obtain ⟨s,B⟩:=Gn (jA p l[i]) l;obtain ⟨D,J,M,N⟩:=BN p n (gZ l (jA p l[i])) (i+1) (by omega) (fun j o t z g=>by
    rw [rf];have m:j<l.length:=by omega
    have O:(gZ l (jA p l[i]))[j]=l[j]:=by
     have:(gZ l (jA p l[i]))[j]?=l[j]?:=by rw [B,vB m]
     rw [ez o,ez m] at this;exact uD this
    rw [O] at g;by_cases e:j=i
    ·subst e; exact .inr g
    ·exact .inl (hc j m (by omega) z g)) (Iz _ _ hd)
   refine ⟨D,fun y f=>?_,fun x a=>M x ((rf _ _ _).2 (.inl a)),N⟩;obtain ⟨x,a,q⟩:=J y f;rcases (rf _ _ _).1 a with a|a
   ·exact ⟨x,a,q⟩
   ·exact ⟨l[i],bG r,Star.trans (.step .refl a) q⟩
  ·refine ⟨hd,fun y f=>⟨y,f,.refl⟩,fun x a=>a,fun y f z g=>?_⟩;obtain ⟨j,o,rfl⟩:=mG.1 f;exact hc j o (by omega) z g
theorem CE (p:List C) {l:List Pd} (hd:l.Nodup):(wG p l).Nodup/\(∀ y,y∈wG p l↔∃ x∈l,Star p x y)/\∀ y∈wG p l,∀ z∈jA p y,z∈wG p l:=by
 obtain ⟨i,m,o,a⟩:=BN p (l.length+(gPs p).length) l 0 (by have:=YW (gPs p) l; omega) (fun j _ h=>by omega) hd;refine ⟨i,fun y=>⟨m y,?_⟩,a⟩;rintro ⟨x,f,g⟩;induction g with
 | refl=>exact o x f
 | step _ q r=>exact a _ r _ q
theorem Qn {p:List C} {l:List Pd} (hd:l.Nodup) {y:Pd}:y∈wG p l↔∃ x∈l,Star p x y:=(CE p hd).2.1 y

theorem L3 (p:List C) (x:Pd):fZ (fZ p x) x=fZ p x:=by
 simp only [fZ,Rx,RZ];have f:(p.filter fun a=>(!isP x a) && isP x a)=[]:=by
  rw [M0]; intro c _; cases isP x c <;> simp
 have g:(p.filter fun a=>isP x a && !isP x a)=[]:=by
  rw [M0]; intro c _; cases isP x c <;> simp
 simp only [Bool.and_self,f,g,bU,ge]
theorem G4 {p:List C} {x:Pd} {c:C}:c∈fZ p x↔c∈p:=by
 simp only [fZ,bF,KO];cases isP x c <;> simp
theorem Qv (p:List C) (x:Pd):(fZ p x).length=p.length:=by
 have:=Ni p x;simp only [fZ,bA];induction p with
 | nil=>rfl
 | cons c p a=>
  have a:=a (Ni p x);rw [r4,r4];cases isP x c <;> simp <;> omega
theorem N2 {p:List C} (h:c8 p=true) (x:Pd):c8 (fZ p x)=true:=by
 rw [c8,bM,dE,bD] at h ⊢;exact ⟨by rw [Qv]; exact h.1,fun c hc=>h.2 c (G4.1 hc)⟩
theorem Kt {p:List C} (h:c8 p=true) (x:Pd):qL (qL p x) x=qL p x/\c8 (qL p x)=true/\(Eg (qL p x)).length=(Eg p).length:=by
 have f:=N2 h x;have e:qL p x=fZ p x:=ai h;refine ⟨by rw [e,qL,ai f,L3],by rw [e]; exact f,?_⟩;rw [e,Eg,Eg,ai h,ai f];have g:∀ y,y∈gI [] (fZ p x)↔y∈gI [] p:=fun y=>by
  rw [oB,oB];simp only [G4]
 exact Nat.le_antisymm (G6 (qQ _ _ xy) fun y a=>(g y).1 a) (G6 (qQ _ _ xy) fun y a=>(g y).2 a)
end
section
open Go Go.RowKit
theorem zg {x y:Pd}:gP x y=true↔x=y:=by rw [pK,bD]
theorem JX (f:C->Bool) (P:List C):∀ (p a:List C),P=a++p->(dT f p a.length).map (fun i=>P[i.toNat]?)=(p.filter f).map some
 | [],a,_=>by simp [dT]
 | c::p,a,h=>by
  have g:=JX f P p (a++[c]) (by rw [h]; simp);rw [bA,bq,bW] at g;have hc:P[a.length]?=some c:=by rw [h]; simp
  rw [dT];split
  ·rename_i hf
   rw [List.filter_cons_of_pos hf,lq,lq,cu,hc,g]
  ·rename_i hf
   rw [List.filter_cons_of_neg hf,g]
theorem p8 (p:List C) (t:T):cls p (eX p t)=(p.filter fun c=>gP (bN c.head) (bN t)).map some:=JX _ p p [] rfl
theorem jg {t u:T} (h:sameHd t u):bN u=bN t:=by
 unfold bN;rw [h.2.1,h.2.2]
theorem kz {t u:T} (h:sameHd t u):eA u=eA t:=by
 unfold eA;rw [h.1,h.2.1,h.2.2]
theorem eK {t u:T} (h:sameHd t u):bV u=bV t:=by
 unfold bV;rw [h.1,h.2.1,h.2.2]
theorem ID {p:List C} {t:T} {i:Int} (g:i∈eX p t) {cl:C} (a:p[i.toNat]?=some cl):cl∈p/\bN cl.head=bN t:=by
 obtain ⟨j,_,h,f,hf⟩:=mt _ p 0 i g;have:i.toNat=j:=by omega
 rw [this,ez f] at a;cases a;exact ⟨bG f,zg.1 hf⟩
theorem mS {t:T} (h:eN t=true):t.kind=3:=of_decide_eq_true (JL h)
theorem uS {p:List C} (h:c8 p=true) {cl:C} (hc:cl∈p) {b:T} (a:b∈cl.body):eN b=true:=by
 rw [c8,bM,dE] at h;have:=h.2 cl hc;rw [bt,bM,bM,dE] at this;exact this.2.1 b a
theorem SE {p s:List C} {R:T->Prop} {q:List T} (h:∀ t∈q,R t):T7 p s R (ft q) (ft q):=
 ⟨rfl,rfl,⟨rfl,fun i a=>by simp [ft] at a⟩,rfl,fun g f=>by
  obtain ⟨t,l,rfl⟩:=dp.1 f;exact h t l⟩
theorem SolR.sim {p s:List C} {R:T->Prop} {q:List T} {most fuel:Nat} {r:List (List T) × Int} (i:Alk p s R) (f:c8 p=true) (g:c8 s=true) (a:dZ q=true) (hR:∀ t∈q,R t) (h:SolR p q most fuel r):SolR s q most fuel r:=by
 rcases h with ⟨_,h⟩|⟨h,_⟩
 ·exact .inl ⟨by rw [g,a]; rfl,h.sim i (hH f).1 (hH g).1 _ (SE hR) (mJ a _) (mJ a _)⟩
 ·rw [f,a] at h;cases h
theorem SolR.bad {p s:List C} {q:List T} {most fuel:Nat} {r:List (List T) × Int} (f:c8 p=true) (g:c8 s=true) (a:dZ q=false) (h:SolR p q most fuel r):SolR s q most fuel r:=by
 rcases h with ⟨h,_⟩|⟨_,h⟩
 ·rw [f,a] at h;cases h
 ·exact .inr ⟨by rw [g,a]; rfl,h⟩
theorem LT (p:List C) (x:Pd) (f:C->Bool) (h:(∀ c,f c=true->isP x c=true) ∨ (∀ c,f c=true->isP x c=false)):(fZ p x).filter f=p.filter f:=by
 unfold fZ;rw [Rx,RZ,RZ];rcases h with h|h
 ·have e1:p.filter (fun c=>f c && !isP x c)=[]:=M0.2 fun c _ hc=>by
   rw [bM] at hc;rw [h c hc.1] at hc;exact absurd hc.2 (by decide)
  have e2:p.filter (fun c=>f c && isP x c)=p.filter f:=UY fun c _=>by
   cases hc:f c with
   | false=>rfl
   | true=>rw [h c hc]; rfl
  rw [e1,e2];rfl
 ·have e1:p.filter (fun c=>f c && !isP x c)=p.filter f:=UY fun c _=>by
   cases hc:f c with
   | false=>rfl
   | true=>rw [h c hc]; rfl
  have e2:p.filter (fun c=>f c && isP x c)=[]:=M0.2 fun c _ hc=>by
   rw [bM] at hc;rw [h c hc.1] at hc;exact absurd hc.2 (by decide)
  rw [e1,e2,bU]
theorem Tl {p:List C} (g:c8 p=true) (x:Pd):Alk p (fZ p x) fun t=>t.kind=3:=by
 refine ⟨fun t _ _ _=>?_,fun t _ i l cl a b m=>mS (uS g (ID l a).1 m),fun t u h o=>by rw [o.1]; exact h,fun t h=>h⟩;rw [p8,p8,LT]
 ·by_cases h:bN t=x
  ·left;intro c hc;unfold isP;rw [zg] at hc ⊢;rw [hc,h]
  ·right;intro c hc;rw [zg] at hc;cases f:isP x c with
   | false=>rfl
   | true=>
    unfold isP at f;rw [zg] at f;exact absurd (hc.symm.trans f) h
theorem SolR.moved {p:List C} {q:List T} {most fuel:Nat} {r:List (List T) × Int} (a:c8 p=true) (x:Pd) (h:SolR p q most fuel r):SolR (qL p x) q most fuel r:=by
 have g:=(Kt a x).2.1;have e:qL p x=fZ p x:=ai a;rw [e] at g ⊢;cases f:dZ q with
 | false=>exact h.bad a g f
 | true=>
  refine h.sim (Tl a x) a g f fun t i=>?_;rw [dZ,bM,dE] at f;exact mS (f.2 t i)
end
section
open Go Go.RowKit
theorem EO {t:T} (h:eN t=true) (hc:eA t=false) (a:bV t=false):dH t=true:=by
 rw [eN,hc,a] at h;simpa using (Bool.and_eq_true_iff.1 h).2
theorem uT {h t:T} (g:dH h=true) (i:bN h=bN t):eA t=false/\bV t=false:=by
 have e1:h.name=t.name:=congrArg Pd.name i;have e2:(h.kids.length:Int)=(t.kids.length:Int):=congrArg Pd.arity i;rw [dH,bM,bM,bM] at g;obtain ⟨_,a,f,_⟩:=g;rw [e1] at a;rw [e1,e2] at f;constructor
 ·cases hc:eA t with
  | false=>rfl
  | true=>
   rw [eA,bM,bM] at hc;have hn:=of_decide_eq_true hc.2.1;rw [hn] at a;exact absurd a (by decide +kernel)
 ·rw [bV];simp only [pZ] at f;rw [f,xI]
theorem PQ {p:List C} (h:c8 p=true) {cl:C} (hc:cl∈p):dH cl.head=true:=by
 rw [c8,bM,dE] at h;have:=h.2 cl hc;rw [bt,bM,bM,bM] at this;exact this.2.2.2
abbrev QK (p:List C) (q:List T):List Pd:=wG p (iG [] q)
theorem VX (q:List T):(iG [] q).Nodup:=JD q [] xy
theorem Vz {p:List C} {q:List T} {x z:Pd} (a:x∈QK p q) (f:z∈jA p x):z∈QK p q:=(CE p (VX q)).2.2 x a z f
theorem Uh {p:List C} {q:List T} {t:T} (a:t∈q) (f:dH t=true):bN t∈QK p q:=
 (Qn (VX q)).2 ⟨bN t,(xi q [] _).2 (.inr ⟨t,a,f,rfl⟩),.refl⟩
def slR (p:List C) (q:List T) (t:T):Prop:=t.kind=3/\(eA t=false->bV t=false->bN t∈QK p q)
theorem Ta {p:List C} (r:c8 p=true) (q:List T):Alk p (p.filter (inP (QK p q))) (slR p q):=by
 refine ⟨fun t h hc a=>?_,fun t h i g cl l b a=>?_,fun t u h f=>?_,fun t h=>h.1⟩
 ·rw [p8,p8,RZ]
  congr 1
  refine UY fun c _=>?_;cases hf:gP (bN c.head) (bN t) with
  | false=>rfl
  | true=>
   have g:inP (QK p q) c=true:=by
    rw [inP,F6,zg.1 hf];exact h.2 hc a
   rw [g];rfl
 ·obtain ⟨o,B⟩:=ID g l;obtain ⟨G,J⟩:=uT (PQ r o) B;have D:=uS r o a;refine ⟨mS D,fun hc m=>Vz (h.2 G J) (Po.2 ⟨cl,o,B,b,a,EO D hc m,rfl⟩)⟩
 ·refine ⟨by rw [f.1]; exact h.1,fun hc a=>?_⟩;rw [kz f] at hc;rw [eK f] at a;rw [jg f];exact h.2 hc a
theorem OS {p:List C} (a:c8 p=true) (f:C->Bool):c8 (p.filter f)=true:=by
 rw [c8,bM,bD,dE] at a ⊢;exact ⟨gy (U7 f p) a.1,fun c hc=>a.2 c (KO.1 hc).1⟩
theorem SolR.sliced {p:List C} {q:List T} {most fuel:Nat} {r:List (List T) × Int} (f:(c8 p && dZ q)=true) (h:SolR p q most fuel r):SolR (Rd p q) q most fuel r:=by
 have a:=f;rw [bM] at a;have e:Rd p q=p.filter (inP (QK p q)):=ai f;rw [e];refine h.sim (Ta a.1 q) a.1 (OS a.1 _) a.2 fun t g=>?_;have i:=a.2;rw [dZ,bM,dE] at i;have l:=i.2 t g;exact ⟨mS l,fun hc m=>Uh g (EO l hc m)⟩
end
end Go.Proofs.YtgllldjiaglkcaaGreatDoor
