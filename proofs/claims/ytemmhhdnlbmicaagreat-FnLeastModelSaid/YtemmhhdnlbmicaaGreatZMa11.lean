/- impl: rounds and stages. -/
import Derived.Test.YtemmhhdnlbmicaaGreatZMa10
import Derived.Test.YtemmhhdnlbmicaaGreatZMa6
import Derived.Test.YtemmhhdnlbmicaaGreatZMa1
import Derived.Test.YtemmhhdnlbmicaaGreatZMa8
import Derived.Test.YtemmhhdnlbmicaaGreatZMa3
import Derived.Test.YtemmhhdnlbmicaaGreatZMa7
import Derived.Test.YtemmhhdnlbmicaaGreatZMa2
namespace Go.Proofs.YtemmhhdnlbmicaaGreat
open Go Go.RowKit
theorem mj {p:List C} (h:ei p=true):Pf p:=by
 have h0:=h
 rw [ei,Bool.and_eq_true,List.all_eq_true] at h
 have h1:=h.1
 rw [nq] at h1
 simp only [Bool.and_eq_true,decide_eq_true_eq] at h1
 refine ⟨h1.1,wX h0,fun c hc=>?_⟩
 have h2:=h.2 c hc
 rw [gv] at h2
 simp only [Bool.and_eq_true,decide_eq_true_eq] at h2
 exact h2.2.1
def lenV:Value->Nat
 | .slice _ n _=>n
 | _=>0
theorem RdSl.lenV {α:Type} {S:aF} {k:Nat} {R:List Value->α->Prop} {v:Value} {xs:List α} (h:RdSl S k R v xs):lenV v=xs.length:=by
 obtain ⟨a,cap,rfl,_⟩:=h
 rfl
abbrev vO (ys:List T) (b:Bool):Value->List Item->aF->Prop:=fun r I' _=>∃ u L,r=.tuple #[u,.bool b]/\I'=bS L/\TrSl 4 TrT L u ys
theorem MY {w:World} {v:Value} {e:TypeId} {k n:Nat} {xs:List Value} (h:(Item.row v e k n xs).holds w):∃ a cap,v=.slice a n cap:=by
 have h:w.ownsRow 0 e k v n xs:=h
 rcases h.2 with ⟨rfl,rfl⟩|⟨g,cap,cur,rfl,_⟩ <;> exact ⟨_,_,rfl⟩
section
attribute [local irreducible] Run CondV ag be
theorem CT {p:List C} {f:List T} {S:aF} {v u:Value} (h:RdSl S 5 (RdC S) v p) (hq:RdSl S 4 (RdT S) u f) (hp:Pf p) (hf:Fs f) (hl:f.length<=60) :
  Tri Tryz.prog Md [v,u] [] S fun r I' S'=>I'=[]/\∃ x,r=.tuple #[x,.bool (decide ((gL p f).length<=60))]/\RdSl S' 4 (RdT S') x (gL p f):=by
 intro w hI
 have hlen:=hp.len
 have hI:Inv w [] [] S w:=hI
 refine CK ?_
 unfold Ad
 refine Run.call0 yt yX hI (vq hq (by omega)) fun x0 I' S' w'=>?_
 rintro ⟨eS,css,rfl,hR⟩ _ hI
 rw [eS] at hI
 clear eS
 have hz:iE Tryz.prog cg=some (.slice none 0 0):=by kernel_rfl
 refine bH hI hz fun b6 w' hI=>?_
 have hI:=hI.perm (M:=.blk b6 _::[bj x0 ac 4 css]) (List.perm_append_comm (l₁:=[_]))
 have hx0:=Di (hI.its (bj x0 ac 4 css) (by simp))
 refine eq hI 0 (n:=1) (by rw [hx0.1]; rfl) (by decide +kernel) rfl (by simp [Value.cells]) (by rw [hx0.1]; intro u hu; simp at hu; subst hu; exact hx0.2) fun w' hI=>?_
 have e:bw (Value.slice none 0 0).cells 0 x0.cells.toList=#[x0]:=by rw [hx0.1]; rfl
 rw [e] at hI
 have hI:Inv w [] [.blk b6 (.cells #[x0] cg),bj x0 ac 4 css] S w':=hI
 refine a9 h c4 ?_
 refine ⟨fun i w'=>∃ (j:Nat) (S':aF) (I':List Item),j<=p.length/\i=.int .i64 j/\Ext w.heap.size [] S S'/\ItR b6 ((fS (p.take j) f).foldl eP f) S' I'/\Inv w [] I' S' w',
  fun i _=>p.length - (intOf i).toNat,⟨0,S,_,Nat.zero_le _,rfl,Ext.refl _ _ _,⟨hf,x0,css,rfl,hR⟩,hI⟩,?_⟩
 intro t13 _ _ _ _ _ _ _ _ _ _ w'
 rintro ⟨j,S',I',hj,rfl,hE,hIt,hI⟩
 refine bU ?_
 refine bk (fun hji=>?_) (fun hji=>?_)
 ·have hj':j<p.length:=by omega
  obtain ⟨hp1,hp2,hp3⟩:=hp.parts _ (List.getElem_mem hj')
  have h3:=hp.three _ (List.getElem_mem hj')
  refine ec hI (h.monoC hE.1) c4 bF hj' (fun _ _=>RdC.length) fun cs hcs=>?_
  have hlc:=hcs.length
  refine bH hI eL fun b7 w' hI=>?_
  have hI:=hI.perm (M:=.blk b7 _::I') (List.perm_append_comm (l₁:=[_]))
  refine bf hI 0 rfl bF (by simpa using hlc) rfl (by simpa using hcs.one) fun w' hI=>?_
  refine bb hI 0 bF rfl (by simpa using hlc) ?_
  have hI:Inv w [] I' S' w':=hI.sub (List.sublist_cons_self _ _)
  refine Ds hI fun mb w' hI=>?_
  obtain ⟨S2,hI,hE2,hmb⟩:=hI.pub1
  refine g7 ?_
  have hI:Inv w [] ([]++I') S2 w':=hI
  have hle:=hE.1.trans hE2.1
  have hb1:=Db hp hl j (by omega)
  have hb2:=G1 h3 hl
  have hb3:=pS (fS (p.take j) f) f
  have hIt2:=(OX (b:=b6) (S0:=S2)).up _ _ _ _ hE2.1 hIt
  refine Run.callE (A:=[]) mR m7 hI (rb p[j] f hp1 hf.fct hp2 p[j].body 0 (by simp) rfl S2 cs _ mb 0 #[] _ _ st0 0 (OX (b:=b6)) (hcs.mono hE2.1) (hq.monoT hle) hmb (KnownM.empty S2) LA hp3 hIt2 (by unfold OW; omega)) fun v' I3 S3 w'=>?_
  rintro ⟨rfl,hIt3,_⟩ hE3 hI
  refine bP (by omega) ?_
  refine ⟨⟨j+1,S3,I3,hj',rfl,(hE.trans hE2).trans hE3,?_,hI⟩,by simp [intOf]; omega⟩
  rw [rZ p f j hj',List.foldl_append]
  exact hIt3
 ·have:j=p.length:=by omega
  subst this
  rw [List.take_length] at hIt
  obtain ⟨hFs,x,css2,rfl,hR2⟩:=hIt
  have hcl:=hR2.hc
  obtain ⟨ax,capx,rfl⟩:=MY (hI.its (bj x ac 4 css2) (by simp))
  refine ⟨fun D x5 x4 b0 bT bX ci w_=>(D 0=true->ci=.slice ax css2.length capx)/\(D 1=true->bX=.slice ax css2.length capx)/\(D 2=true->bT=.int .i64 css2.length)/\(D 3=true->b0=.bool (decide ((css2.length:Int)<=60)))/\(D 4=true->x4=.slice ax css2.length capx)/\(D 5=true->x5=.bool (decide ((css2.length:Int)<=60)))/\Inv w [] [.blk b6 (.cells #[.slice ax css2.length capx] cg),bj (.slice ax css2.length capx) ac 4 css2] S' w_,⟨ae,ae,ae,ae,ae,ae,hI.draw⟩,⟨?_,?_,?_,?_,?_,?_,trivial⟩,?_⟩
  ·intro D aY  x5 x4 b0 bT bX ci w_
   rintro ⟨az,ay,aA,aB,aw,aD,hI⟩
   refine bE hI 0 aQ rfl rfl ?_
   exact ⟨fun _=>rfl,ay,aA,aB,aw,aD,hI⟩
  ·intro D aY  x5 x4 b0 bT bX ci w_
   rintro ⟨az,ay,aA,aB,aw,aD,hI⟩
   refine bE hI 0 aQ rfl rfl ?_
   exact ⟨az,fun _=>rfl,aA,aB,aw,aD,hI⟩
  ·intro D aY dI x5 x4 b0 bT bX ci w_
   rintro ⟨az,ay,aA,aB,aw,aD,hI⟩
   obtain rfl:=ay dI
   refine gD av ?_
   exact ⟨az,ay,fun _=>rfl,aB,aw,aD,hI⟩
  ·intro D aY ev x5 x4 b0 bT bX ci w_
   rintro ⟨az,ay,aA,aB,aw,aD,hI⟩
   obtain rfl:=aA ev
   refine gk ?_
   exact ⟨az,ay,aA,fun _=>rfl,aw,aD,hI⟩
  ·intro D aY ce Q7 x5 x4 b0 bT bX ci w_
   rintro ⟨az,ay,aA,aB,aw,aD,hI⟩
   obtain rfl:=az ce
   exact ⟨az,ay,aA,aB,fun _=>rfl,aD,hI⟩
  ·intro D aY dF dS qK wn wF wJ vh x5 x4 b0 bT bX ci w_
   rintro ⟨az,ay,aA,aB,aw,aD,hI⟩
   obtain rfl:=aB dF
   exact ⟨az,ay,aA,aB,aw,fun _=>rfl,hI⟩
  intro D fM fF fI fK fL fN x5 x4 b0 bT bX ci w_
  rintro ⟨az,ay,aA,aB,aw,aD,hI⟩
  obtain rfl:=aD fM
  obtain rfl:=aw fF
  obtain rfl:=aB fI
  obtain rfl:=aA fK
  obtain rfl:=ay fL
  obtain rfl:=az fN
  clear az ay aA aB aw aD
  have hI:Inv w [] ([.blk b6 (.cells #[.slice ax css2.length capx] cg)]++[bj (.slice ax css2.length capx) ac 4 css2]) S' w_:=hI
  obtain ⟨S3,hE3,hrd,hI⟩:=hI.lendExt
  have hr:=RowRd.rows (hR2.monoR fun _ _ h=>RdT.mono hE3.1 h) hrd
  refine ⟨_,_,_,rfl,hI.nil,hE.trans hE3,rfl,_,?_,hr⟩
  have e1:(gL p f).length=css2.length:=by rw [hcl]; rfl
  have e2:decide ((css2.length:Int)<=60)=decide ((gL p f).length<=60):=by
   rw [e1,Bool.eq_iff_iff,decide_eq_true_eq,decide_eq_true_eq]
   omega
  rw [e2]
theorem pN {p:List C} {S:aF} {v:Value} (h:RdSl S 5 (RdC S) v p) (hw:wP p<=1048576) (k:Nat) (hk:k<=9223372036854775807) :
  Tri Tryz.prog Kd [v,.int .i64 k] [] S fun r I' S'=>I'=[]/\((ei p=true/\∃ x f n,stI p k [] 0=some (f,n)/\r=.tuple #[x,.int .i64 (n:Nat),.bool true]/\RdSl S' 4 (RdT S') x f) ∨
   ((ei p=false ∨ stI p k [] 0=none)/\r=.tuple #[.slice none 0 0,.int .i64 0,.bool false])):=by
 intro w hI
 have hI:Inv w [] [] S w:=hI
 refine zX ?_
 unfold xY
 refine Run.callPure iD iz hI (g6 h hw) fun w' hI=>?_
 refine cc ?_
 refine ba (fun hb=>?_) (fun hb=>?_)
 ·exact ⟨_,_,_,rfl,hI,Ext.refl _ _ _,rfl,.inr ⟨.inl (by simpa using hb),rfl⟩⟩
 have hfl:ei p=true:=by simpa using hb
 have hp:=mj hfl
 refine ⟨fun t8 t7 w'=>∃ (n:Nat) (f:List T) (S':aF),t8=.int .i64 n/\RdSl S' 4 (RdT S') t7 f/\stI p k [] 0=some (f,n)/\Ext w.heap.size [] S S'/\Inv w [] [] S' w',?_,?_⟩
 ·refine ⟨fun t8 t7 w'=>∃ (n:Nat) (f:List T) (S':aF),t8=.int .i64 n/\n<=k/\RdSl S' 4 (RdT S') t7 f/\Fs f/\f.length<=60/\stI p (k - n) f n=stI p k [] 0/\Ext w.heap.size [] S S'/\Inv w [] [] S' w',
   fun _ t7 _=>61 - lenV t7,⟨0,[],S,rfl,Nat.zero_le _,⟨none,0,rfl,Nat.le_refl _,Nat.zero_le _,.inl rfl⟩,Fs.nil,by simp,rfl,Ext.refl _ _ _,hI⟩,?_⟩
  intro t8 _ _ t7 _ _ _ _ _ _ _ _ _ _ _ _ _ _ _ _ _ _ _ _ _ _ w'
  rintro ⟨n,f,S',rfl,hnk,hq,hF,hl,hst,hE,hI⟩
  refine bU ?_
  refine bk (fun hnk'=>?_) (fun hnk'=>?_)
  ·have hnk2:n<k:=by omega
   rw [show k - n=(k - (n+1))+1 by omega,stI] at hst
   refine Run.call0E Ip KQ hI (CT (h.monoC hE.1) hq hp hF hl) fun v' I' S2 w'=>?_
   rintro ⟨rfl,x,rfl,hx⟩ hE2 hI
   have hI:Inv w [] [] S2 w':=hI
   have hE3:=hE.trans hE2
   refine a7 rfl ?_
   refine a7 rfl ?_
   refine cc ?_
   refine ba (fun hb=>?_) (fun hb=>?_)
   ·have hb':¬ (gL p f).length<=60:=by simpa using hb
    rw [if_pos (by omega)] at hst
    exact ⟨_,_,_,rfl,hI,hE3,rfl,.inr ⟨.inr hst.symm,rfl⟩⟩
   ·have hb':(gL p f).length<=60:=by simpa using hb
    rw [if_neg (by omega)] at hst
    refine a9 hx av ?_
    refine a9 (hq.monoT hE2.1) av ?_
    refine bR ?_
    refine bk (fun he=>?_) (fun he=>?_)
    ·rw [if_pos (by omega)] at hst
     exact ⟨n,f,S2,rfl,hq.monoT hE2.1,hst.symm,hE3,hI⟩
    ·rw [if_neg (by omega)] at hst
     have hgr:=(pS (fS p f) f).1
     have hgr:f.length<=(gL p f).length:=hgr
     refine bP (by omega) ?_
     refine ⟨⟨n+1,_,S2,rfl,hnk2,hx,L8 hp hF,hb',hst,hE3,hI⟩,?_⟩
     show 61 - lenV x<61 - lenV t7
     rw [hx.lenV,hq.lenV]
     omega
  ·have:n=k:=by omega
   subst this
   rw [Nat.sub_self,stI] at hst
   exact ⟨n,f,S',rfl,hq,hst.symm,hE,hI⟩
 ·intro t8 _ _ t7 _ _ _ _ _ _ _ _ _ _ _ _ _ _ _ _ _ _ _ _ _ _ w'
  rintro ⟨n,f,S',rfl,hq,hst,hE,hI⟩
  exact ⟨_,_,_,rfl,hI,hE,rfl,.inl ⟨hfl,t7,f,n,hst,rfl,hq⟩⟩
theorem fZ {p:List C} {S:aF} {v:Value} (h:RdSl S 5 (RdC S) v p) (hw:wP p<=1048576) (r:Int) (hr:r<=9223372036854775807) :
  Tri Tryz.prog BB [v,.int .i64 r] [] S (vO (bt p r).1 (bt p r).2):=by
 intro w hI
 have hI:Inv w [] [] S w:=hI
 refine sf ?_
 unfold ny
 refine bU ?_
 refine bk (fun hr0=>?_) (fun hr0=>?_)
 ·have e:bt p r=([],false):=by
   rw [bt,decide_eq_true (by omega:r<0),Bool.not_true,Bool.and_false,if_neg (by decide)]
  rw [e]
  exact ⟨_,_,_,rfl,hI,Ext.refl _ _ _,_,[],rfl,rfl,TrSl.nil (Nat.zero_le _)⟩
 have hr0':0<=r:=by omega
 obtain ⟨k,rfl⟩:∃ k:Nat,r=k:=⟨r.toNat,by omega⟩
 refine Run.call0E yl wU hI (pN h hw k (by omega)) fun v' I' S2 w'=>?_
 rintro ⟨rfl,hcase⟩ hE hI
 have hI:Inv w [] [] S2 w':=hI
 have key:∃ x n,v'=.tuple #[x,.int .i64 n,.bool (bt p k).2]/\RdSl S2 4 (RdT S2) x (bt p k).1:=by
  rcases hcase with ⟨hfl,x,f,n,hst,rfl,hx⟩|⟨hno,rfl⟩
  ·rcases F9 p (k:Int) with ⟨h1,h2⟩|⟨h1,h2⟩
   ·rw [Int.toNat_natCast,hst] at h1; cases h1
   ·rw [Int.toNat_natCast,hst,Option.some.injEq] at h1
    have e:bt p k=((stS p (fy k) [] 0).1,true):=by
     rw [bt,hfl,decide_eq_false (by omega),if_pos (by decide),if_pos h2]
    rw [e,<- h1]
    exact ⟨x,n,rfl,hx⟩
  ·have e:bt p k=([],false):=by
    rcases hno with hno|hno
    ·rw [bt,hno,Bool.false_and,if_neg (by decide)]
    ·rcases F9 p (k:Int) with ⟨h1,h2⟩|⟨h1,h2⟩
     ·rw [bt]
      split
      ·rw [if_neg (by omega)]
      ·rfl
     ·rw [Int.toNat_natCast,hno] at h1; cases h1
   rw [e]
   exact ⟨_,0,rfl,none,0,rfl,Nat.le_refl _,Nat.zero_le _,.inl rfl⟩
 obtain ⟨x,n,rfl,hx⟩:=key
 have hsw:=Ia (fun h=>mj h) (p:=p) (k:Int)
 refine a7 rfl ?_
 refine a7 rfl ?_
 refine a7 rfl ?_
 refine Run.call0E tL uF hI (C5 hx (by omega)) fun v' I' S3 w'=>?_
 rintro ⟨rfl,L,rfl,hT⟩ hE2 hI
 have hI:Inv w [] (bS L) S3 w':=hI
 exact ⟨_,_,_,rfl,hI,hE.trans hE2,_,L,rfl,rfl,hT⟩
theorem kC {p:List C} {S:aF} {v:Value} (h:RdSl S 5 (RdC S) v p) (hw:wP p<=1048576) :
  Tri Tryz.prog z8 [v] [] S (vO (bt p 61).1 (bt p 61).2):=by
 intro w hI
 have hI:Inv w [] [] S w:=hI
 refine rT ?_
 unfold nv
 refine Run.call0E gY gW hI (fZ h hw 61 (by omega)) fun v' I' S2 w'=>?_
 rintro ⟨u,L,rfl,rfl,hT⟩ hE hI
 have hI:Inv w [] (bS L) S2 w':=hI
 refine a7 rfl ?_
 refine a7 rfl ?_
 exact ⟨_,_,_,rfl,hI,hE,_,L,rfl,rfl,hT⟩
theorem mn {p:List C} {S:aF} {v:Value} (h:RdSl S 5 (RdC S) v p) (hw:wP p<=1048576):Tri Tryz.prog EO [v] [] S fun r I' _=>I'=[]/\r=.int .i64 (er p):=by
 intro w hI
 have hI:Inv w [] [] S w:=hI
 refine vV ?_
 unfold rz
 refine Run.call0E yl wU hI (pN h hw 61 (by omega)) fun v' I' S2 w'=>?_
 rintro ⟨rfl,hcase⟩ hE hI
 have hI:Inv w [] [] S2 w':=hI
 rcases hcase with ⟨hfl,x,f,n,hst,rfl,hx⟩|⟨hno,rfl⟩
 ·refine a7 rfl ?_
  refine a7 rfl ?_
  refine a7 rfl ?_
  refine cc ?_
  refine ba (fun hb=>by cases hb) (fun _=>?_)
  refine ⟨_,_,_,rfl,hI,hE,rfl,?_⟩
  rcases zq p 61 [] 0 (by simp) with ⟨h1,h2⟩|⟨h1,h2⟩
  ·rw [hst] at h1; cases h1
  ·rw [hst,Option.some.injEq] at h1
   rw [er,if_pos hfl,if_pos h2,<- h1]
   rfl
 ·refine a7 rfl ?_
  refine a7 rfl ?_
  refine a7 rfl ?_
  refine cc ?_
  refine ba (fun _=>?_) (fun hb=>by cases hb)
  refine ⟨_,_,_,rfl,hI,hE,rfl,?_⟩
  rcases hno with hno|hno
  ·rw [er,if_neg (by rw [hno]; decide)]
  ·rcases zq p 61 [] 0 (by simp) with ⟨h1,h2⟩|⟨h1,h2⟩
   ·rw [er]
    split
    ·rw [if_neg (by omega)]
    ·rfl
   ·rw [hno] at h1; cases h1
end

end Go.Proofs.YtemmhhdnlbmicaaGreat

/- spec: rounds and stages. -/
namespace Go.Proofs.YtemmhhdnlbmicaaGreat
open Go Go.RowKit
section
attribute [local irreducible] Run CondV ag be
theorem C4 {ts:List T} {S:aF} {v:Value} (h:RdSl S 4 (RdT S) v ts) (hw:ts.length+wL ts<=1048576):Tri Tryz.prog HK [v] [] S (M7 4 TrT S ts):=by
 intro w hI
 refine y7 ?_
 unfold te
 refine fk hI bM fun v0 w' hI=>?_
 refine ⟨fun i t w'=>∃ (k:Nat) (Ls:List bG) (css:List (List Value)),k<=ts.length/\i=.int .i64 k/\Grown 4 TrT Ls css (ts.take k)/\Inv w [] (bj t ac 4 css::bS Ls.flatten) S w',
  fun i _ _=>ts.length - (intOf i).toNat,⟨0,[],[],Nat.zero_le _,rfl,Grown.nil _ _,hI⟩,?_⟩
 intro t4 _ _ t3 _ _ _ _ _ _ _ _ _ _ _ _ w'
 rintro ⟨k,Ls,css,hk,rfl,hg,hI⟩
 refine a9 h av ?_
 refine bU ?_
 refine bk (fun hki=>?_) (fun hki=>?_)
 ·have hk':k<ts.length:=by omega
  have htl:(ts.take k).length=k:=by simp; omega
  have hcl:=hg.hc
  refine ec hI h av al hk' (fun _ _=>RdT.length) fun cs hcs=>?_
  have hm:=List.getElem_mem hk'
  have hwm:=jn hm
  refine Run.call0 fi fj hI (fT _ S cs hcs (by omega)) fun v' I' S' w'=>?_
  rintro ⟨rfl,cs',L,rfl,rfl,hT⟩ _ hI
  refine gG hI 0 cs' bM (by omega) (by omega) rfl hT.length hT.one (by omega) (by omega) fun v' w' hI=>?_
  refine bP (by omega) ?_
  refine ⟨⟨k+1,Ls++[L],css++[cs'],hk',rfl,?_,?_⟩,by simp [intOf]; omega⟩
  ·rw [List.take_succ_eq_append_getElem hk']
   exact hg.snoc hT hT.length
  ·simp only [List.flatten_append,List.flatten_cons,List.flatten_nil,List.append_nil,ff]
   exact hI
 ·have:k=ts.length:=by omega
  subst this
  rw [List.take_length] at hg
  obtain ⟨L,hT,hI⟩:=Inv.rowTree (A:=[]) hI hg
  exact ⟨_,_,_,rfl,hI,Ext.refl _ _ _,rfl,_,rfl,hT⟩
theorem zK {p:List C} {f:List T} {S:aF} {v u:Value} (h:RdSl S 5 (RdC S) v p) (hq:RdSl S 4 (RdT S) u f) (hp:Pf p) (hf:Fs f) (hl:f.length<=61) :
  Tri Tryz.prog Es [v,u] [] S (M5 (eH p f)):=by
 intro w hI
 have hlen:=hp.len
 have hI:Inv w [] [] S w:=hI
 refine wm ?_
 unfold q5
 refine ⟨fun i t w'=>∃ (j:Nat) (S':aF),j<=p.length/\i=.int .i64 j/\Ext w.heap.size [] S S'/\RdSl S' 4 (RdT S') t ((fS (p.take j) f).foldl ij f)/\Inv w [] [] S' w',
  fun i _ _=>p.length - (intOf i).toNat,⟨0,S,Nat.zero_le _,rfl,Ext.refl _ _ _,hq,hI⟩,?_⟩
 intro t6 _ _ t5 t21 t20 t19 t18 t17 t16 t15 t14 _ _ _ _ w'
 rintro ⟨j,S',hj,rfl,hE,hout,hI⟩
 have h':=h.monoC hE.1
 have hq':=hq.monoT hE.1
 refine a9 h' c4 ?_
 refine bU ?_
 refine bk (fun hji=>?_) (fun hji=>?_)
 ·have hj':j<p.length:=by omega
  obtain ⟨hp1,hp2,hp3⟩:=hp.parts _ (List.getElem_mem hj')
  obtain ⟨out,ho⟩:∃ out,out=(fS (p.take j) f).foldl ij f:=⟨_,rfl⟩
  obtain ⟨l,hle⟩:∃ l,l=(fS (p.take (j+1)) f).foldl ij f:=⟨_,rfl⟩
  have hbl:jq p[j].head f p[j].body out st0=l:=by
   rw [hle,rZ p f j hj',List.foldl_append,<- ho,vA]
  have hFo:=vw (hp.take j) hf
  have hlo:=si (p.take j) f hl
  have ho':out=eH (p.take j) f:=ho
  rw [<- ho'] at hFo hlo
  rw [<- ho] at hout
  obtain ⟨b,o,cap,c,E,fz,rfl,hS,hR⟩:=h'.at_ hj'
  refine ⟨fun D x5 cF cd bZ dz dr dC ey eU w_=>(D 0=true->eU=t5)/\(D 1=true->ey=.slice (some ⟨b,o,none⟩) p.length cap)/\(D 2=true->dC=.int .i64 j)/\(D 3=true->dr=.pointer (some ⟨b,o+j * 5,none⟩))/\(D 4=true->dz=.agg (bv c (o+j * 5) 5).toArray)/\(D 5=true->bZ=u)/\(D 6=true->True)/\(D 7=true->True)/\(D 8=true->True)/\∃ SN,Ext w.heap.size [] S' SN/\(D 8=true->D 0=true)/\(D 8=false->x5=t5)/\(D 6=true->IsKn SN cd st0)/\(D 7=true->RdSl SN 4 (RdT SN) cF l)/\(D 8=true->RdSl SN 4 (RdT SN) x5 l)/\Inv w [] [] SN w_,⟨ae,ae,ae,ae,ae,ae,ae,ae,ae,⟨S',Ext.refl _ _ _,ae,fun _=>rfl,ae,ae,ae,hI.draw⟩⟩,⟨?_,?_,?_,?_,?_,?_,?_,?_,?_,trivial⟩,?_⟩
  ·intro D aY  x5 cF cd bZ dz dr dC ey eU w_
   rintro ⟨az,ay,aA,aB,aw,aD,aE,aI,aL,⟨SN,hN,k8,e5,e6,e7,e8,hI⟩⟩
   have hx5:x5=t5:=e5 (by cases h:D 8 with|false=>rfl|true=>have:=k8 h; rw [this] at aY; exact aY)
   have k8:=fun (_:aC D 0 8=true)=>(rfl:aC D 0 0=true)
   exact ⟨fun _=>by first|assumption|trivial,ay,aA,aB,aw,aD,aE,aI,aL,⟨SN,hN,k8,e5,e6,e7,e8,hI⟩⟩
  ·intro D aY  x5 cF cd bZ dz dr dC ey eU w_
   rintro ⟨az,ay,aA,aB,aw,aD,aE,aI,aL,⟨SN,hN,k8,e5,e6,e7,e8,hI⟩⟩
   exact ⟨az,fun _=>rfl,aA,aB,aw,aD,aE,aI,aL,⟨SN,hN,k8,e5,e6,e7,e8,hI⟩⟩
  ·intro D aY  x5 cF cd bZ dz dr dC ey eU w_
   rintro ⟨az,ay,aA,aB,aw,aD,aE,aI,aL,⟨SN,hN,k8,e5,e6,e7,e8,hI⟩⟩
   exact ⟨az,ay,fun _=>rfl,aB,aw,aD,aE,aI,aL,⟨SN,hN,k8,e5,e6,e7,e8,hI⟩⟩
  ·intro D aY dI gJ x5 cF cd bZ dz dr dC ey eU w_
   rintro ⟨az,ay,aA,aB,aw,aD,aE,aI,aL,⟨SN,hN,k8,e5,e6,e7,e8,hI⟩⟩
   obtain rfl:=ay dI
   obtain rfl:=aA gJ
   refine bh c4 hj' ?_
   exact ⟨az,ay,aA,fun _=>rfl,aw,aD,aE,aI,aL,⟨SN,hN,k8,e5,e6,e7,e8,hI⟩⟩
  ·intro D aY dF x5 cF cd bZ dz dr dC ey eU w_
   rintro ⟨az,ay,aA,aB,aw,aD,aE,aI,aL,⟨SN,hN,k8,e5,e6,e7,e8,hI⟩⟩
   obtain rfl:=aB dF
   refine cJ bF hR.length (fun j v hj=>by rw [hI.cellS (hN.1 _ _ hS)]; exact bl rfl j v hj) ?_
   exact ⟨az,ay,aA,aB,fun _=>rfl,aD,aE,aI,aL,⟨SN,hN,k8,e5,e6,e7,e8,hI⟩⟩
  ·intro D aY  x5 cF cd bZ dz dr dC ey eU w_
   rintro ⟨az,ay,aA,aB,aw,aD,aE,aI,aL,⟨SN,hN,k8,e5,e6,e7,e8,hI⟩⟩
   exact ⟨az,ay,aA,aB,aw,fun _=>rfl,aE,aI,aL,⟨SN,hN,k8,e5,e6,e7,e8,hI⟩⟩
  ·intro D aY  x5 cF cd bZ dz dr dC ey eU w_
   rintro ⟨az,ay,aA,aB,aw,aD,aE,aI,aL,⟨SN,hN,k8,e5,e6,e7,e8,hI⟩⟩
   refine Er (n:=26) hI bM (by omega) (by omega) (by omega) fun kb w_ hI=>?_
   have hkc0:=OC _ rfl SN
   obtain ⟨kc,hkce⟩:∃ kc,kc=(Array.range 104).map ((#[.int .i64 0,.int .i64 0,.string ⟨#[]⟩,.slice none 0 0]:Array Value)[· % (#[.int .i64 0,.int .i64 0,.string ⟨#[]⟩,.slice none 0 0]:Array Value).size]!):=⟨_,rfl⟩
   rw [<- hkce] at hkc0
   have hI:Inv w [] ([]++bS [(kb,.cells kc ac)]) SN w_:=by rw [hkce]; exact hI
   obtain ⟨SN,hI,hE2,hins⟩:=hI.pubExt
   have e7:=fun (e:aC D 6 7=true)=>(e7 e).monoT hE2.1
   have e8:=fun (e:aC D 6 8=true)=>(e8 e).monoT hE2.1
   have hN:=hN.trans hE2
   have e6:=fun (_:aC D 6 6=true)=>(⟨kb,26,kc,rfl,Nat.le_refl _,by simp [maxLen],hins _ (List.mem_singleton.2 rfl),hkc0.mono hE2.1⟩:IsKn SN (kvn kb 26) st0)
   exact ⟨az,ay,aA,aB,aw,aD,fun _=>by first|assumption|trivial,aI,aL,⟨SN,hN,k8,e5,e6,e7,e8,hI⟩⟩
  ·intro D aY ce dS MG GF x5 cF cd bZ dz dr dC ey eU w_
   rintro ⟨az,ay,aA,aB,aw,aD,aE,aI,aL,⟨SN,hN,k8,e5,e6,e7,e8,hI⟩⟩
   have Rv:=az ce
   obtain rfl:=aw dS
   obtain rfl:=aD MG
   have O8:=aE GF
   refine Run.call0E ug td hI (CU p[j] f hp1 hf.fct hp2 p[j].body 0 (by simp) rfl SN _ _ _ _ out st0 (hR.mono hN.1) (by rw [Rv]; exact hout.monoT hN.1) (hq'.monoT hN.1) (e6 GF) LA hp3 hFo.okO (by omega)) fun v' I' SN w_=>?_
   rw [hbl]
   rintro ⟨rfl,hr⟩ hE2 hI
   have e6:=fun (e:aC D 7 6=true)=>(e6 e).mono hE2.1
   have e8:=fun (e:aC D 7 8=true)=>(e8 e).monoT hE2.1
   have hN:=hN.trans hE2
   have e7:=fun (_:aC D 7 7=true)=>hr
   exact ⟨az,ay,aA,aB,aw,aD,aE,fun _=>by first|assumption|trivial,aL,⟨SN,hN,k8,e5,e6,e7,e8,hI⟩⟩
  ·intro D aY el jL qK wn wF wJ vh Bl AA FC x5 cF cd bZ dz dr dC ey eU w_
   rintro ⟨az,ay,aA,aB,aw,aD,aE,aI,aL,⟨SN,hN,k8,e5,e6,e7,e8,hI⟩⟩
   have NY:=aI el
   have k8:=fun (_:aC D 8 8=true)=>qK
   have e5:=fun (h:aC D 8 8=false)=>(Bool.noConfusion h:cF=t5)
   have e8:=fun (_:aC D 8 8=true)=>e7 el
   exact ⟨az,ay,aA,aB,aw,aD,aE,aI,fun _=>by first|assumption|trivial,⟨SN,hN,k8,e5,e6,e7,e8,hI⟩⟩
  intro D gN f0 f1 fM fF fI fK fL fN x5 cF cd bZ dz dr dC ey eU w_
  rintro ⟨az,ay,aA,aB,aw,aD,aE,aI,aL,⟨SN,hN,k8,e5,e6,e7,e8,hI⟩⟩
  have O1:=aL gN
  have NY:=aI f0
  have O8:=aE f1
  obtain rfl:=aD fM
  obtain rfl:=aw fF
  obtain rfl:=aB fI
  obtain rfl:=aA fK
  obtain rfl:=ay fL
  have Rv:=az fN
  clear az ay aA aB aw aD aE aI aL
  have hx:=e8 gN
  have hE2:=hE.trans hN
  clear e5 e6 e7 e8
  refine bP (by omega) ?_
  rw [hle] at hx
  exact ⟨⟨j+1,SN,hj',rfl,hE2,hx,hI⟩,by simp [intOf]; omega⟩
 ·have:j=p.length:=by omega
  subst this
  rw [List.take_length] at hout
  exact ⟨_,_,_,rfl,hI,hE,rfl,hout⟩
theorem o4 {p:List C} {S:aF} {v:Value} (h:RdSl S 5 (RdC S) v p) (hp:Pf p) (k:Nat) (hk:k<=61) :
  Tri Tryz.prog Eb [v,.int .i64 k] [] S fun r I' S'=>I'=[]/\∃ x,r=.tuple #[x,.int .i64 ((stS p k [] 0).2:Nat)]/\RdSl S' 4 (RdT S') x (stS p k [] 0).1:=by
 intro w hI
 have hI:Inv w [] [] S w:=hI
 refine wh ?_
 unfold qP
 refine fk hI bM fun v0 w' hI=>?_
 obtain ⟨S1,hE1,hrd,hI⟩:=Inv.lendExt (A:=[]) (css:=[]) hI
 have hr0:=RowRd.rows (Rows.nil 4 (RdT S1)) hrd
 refine ⟨fun i t w'=>∃ (n:Nat) (f:List T) (S':aF),i=.int .i64 n/\n<=k/\RdSl S' 4 (RdT S') t f/\Fs f/\f.length<=61/\stS p (k - n) f n=stS p k [] 0/\Ext w.heap.size [] S S'/\Inv w [] [] S' w',
  fun i _ _=>k - (intOf i).toNat,⟨0,[],S1,rfl,Nat.zero_le _,hr0,Fs.nil,by simp,rfl,hE1,hI⟩,?_⟩
 intro t7 _ _ t6 _ _ _ _ _ _ _ _ _ _ _ _ _ _ _ _ _ _ _ _ _ _ w'
 rintro ⟨n,f,S',rfl,hnk,hq,hF,hl,hst,hE,hI⟩
 refine bU ?_
 refine bk (fun hnk'=>?_) (fun hnk'=>?_)
 ·have hnk2:n<k:=by omega
  rw [show k - n=(k - (n+1))+1 by omega,stS] at hst
  refine Run.call0E B5 Cv hI (zK (h.monoC hE.1) hq hp hF hl) fun x I' S2 w'=>?_
  rintro ⟨rfl,hx⟩ hE2 hI
  have hI:Inv w [] [] S2 w':=hI
  have hE3:=hE.trans hE2
  refine ⟨fun t w'=>t=.bool (decide ((eH p f).length=f.length ∨ 60<f.length))/\Inv w [] [] S2 w',?_,?_⟩
  ·refine a9 hx av ?_
   refine a9 (hq.monoT hE2.1) av ?_
   refine bR ?_
   by_cases he:(eH p f).length=f.length
   ·rw [decide_eq_true (show (((eH p f).length:Nat):Int)=((f.length:Nat):Int) by omega)]
    repeat (first|refine ad ?_|refine af (by decide) ?_|refine ab ?_|refine ai ?_|refine ah ?_)
    refine ⟨?_,hI⟩
    rw [decide_eq_true (Or.inl he)]
   ·rw [decide_eq_false (show ¬ (((eH p f).length:Nat):Int)=((f.length:Nat):Int) by omega)]
    repeat (first|refine ad ?_|refine af (by decide) ?_|refine ab ?_|refine ai ?_|refine ah ?_)
    refine a9 (hq.monoT hE2.1) av ?_
    refine dX ?_
    repeat (first|refine ad ?_|refine af (by decide) ?_|refine ab ?_|refine ai ?_|refine ah ?_)
    refine ⟨?_,hI⟩
    congr 1
    rw [Bool.eq_iff_iff,decide_eq_true_eq,decide_eq_true_eq]
    omega
  ·intro t _ _ _ _ _ _ _ _ _ w'
   rintro ⟨rfl,hI⟩
   refine bk (fun hc=>?_) (fun hc=>?_)
   ·rw [if_pos hc] at hst
    rw [<- hst]
    exact ⟨_,_,_,rfl,hI,hE3,rfl,_,rfl,hq.monoT hE2.1⟩
   ·rw [if_neg hc] at hst
    refine bP (by omega) ?_
    exact ⟨⟨n+1,_,S2,rfl,hnk2,hx,vw hp hF,(si p f hl).2,hst,hE3,hI⟩,by simp [intOf]; omega⟩
 ·have:n=k:=by omega
  subst this
  rw [Nat.sub_self,stS] at hst
  rw [<- hst]
  exact ⟨_,_,_,rfl,hI,hE,rfl,_,rfl,hq⟩
theorem j9 {p:List C} {S:aF} {v:Value} (h:RdSl S 5 (RdC S) v p) (hw:wP p<=1048576) (r:Int) :
  Tri Tryz.prog AN [v,.int .i64 r] [] S (vO (bt p r).1 (bt p r).2):=by
 intro w hI
 have hI:Inv w [] [] S w:=hI
 have hno:∀ (S':aF) (w':World),Ext w.heap.size [] S S'->Inv w [] [] S' w'->Run Tryz.prog (aT cg 0 []) w' fun t w2=>∃ v I' S',Ending.returned (.tuple #[t,.bool false])=.returned v/\Inv w [] I' S' w2/\Ext w.heap.size [] S S'/\vO [] false v I' S':=by
  intro S' w' hE hI
  refine fk hI bM fun v0 w' hI=>?_
  have hI:Inv w [] ([]++(bj v0 ac 4 []::bS ([]:List bG).flatten)) S' w':=hI
  obtain ⟨L,hT,hI⟩:=Inv.rowTree hI (Grown.nil 4 TrT)
  exact ⟨_,_,_,rfl,hI,hE,_,L,rfl,rfl,hT⟩
 refine su ?_
 unfold nI
 refine ⟨fun t w'=>t=.bool (!(ei p && !decide (r<0)))/\Inv w [] [] S w',?_,?_⟩
 ·refine Run.callPure iK iH hI (g5 h hw) fun w' hI=>?_
  refine cc ?_
  cases hv:ei p
  ·repeat (first|refine ad ?_|refine af (by decide) ?_|refine ab ?_|refine ai ?_|refine ah ?_)
   exact ⟨rfl,hI⟩
  ·repeat (first|refine ad ?_|refine af (by decide) ?_|refine ab ?_|refine ai ?_|refine ah ?_)
   refine bU ?_
   repeat (first|refine ad ?_|refine af (by decide) ?_|refine ab ?_|refine ai ?_|refine ah ?_)
   refine ⟨?_,hI⟩
   rw [Bool.true_and,Bool.not_not]
 intro t _ _ _ _ _ _ w'
 rintro ⟨rfl,hI⟩
 refine ba (fun hb=>?_) (fun hb=>?_)
 ·have hb':(ei p && !decide (r<0))=false:=by rwa [Bool.not_eq_true'] at hb
  have e:bt p r=([],false):=by rw [bt,if_neg (by rw [hb']; decide)]
  rw [e]
  exact hno _ _ (Ext.refl _ _ _) hI
 have hb':(ei p && !decide (r<0))=true:=by rwa [Bool.not_eq_false'] at hb
 have hb2:=hb'
 rw [Bool.and_eq_true] at hb2
 have hr0:0<=r:=by
  have:=hb2.2
  simp at this
  exact this
 have hp:=mj hb2.1
 have hfu:fy r<=61:=by unfold fy; split <;> omega
 have hsF:=EQ hp (fy r) [] 0 Fs.nil (by simp)
 refine ⟨fun t w'=>t=.int .i64 (fy r)/\Inv w [] [] S w',?_,?_⟩
 ·refine dX ?_
  refine bk (fun hg=>⟨?_,hI⟩) (fun hg=>⟨?_,hI⟩)
  ·rw [fy,if_pos hg]; rfl
  ·rw [fy,if_neg hg,Int.toNat_of_nonneg hr0]
 intro t _ _ w'
 rintro ⟨rfl,hI⟩
 refine Run.call0E rc q4 hI (o4 h hp (fy r) hfu) fun v' I' S2 w'=>?_
 rintro ⟨rfl,x,rfl,hx⟩ hE hI
 have hI:Inv w [] [] S2 w':=hI
 refine a7 rfl ?_
 refine a7 rfl ?_
 refine a9 hx av ?_
 refine dX ?_
 refine bk (fun hg=>?_) (fun hg=>?_)
 ·have e:bt p r=([],false):=by rw [bt,if_pos hb',if_neg (by omega)]
  rw [e]
  exact hno _ _ hE hI
 ·have e:bt p r=((stS p (fy r) [] 0).1,true):=by rw [bt,if_pos hb',if_pos (by omega)]
  have hw':=hsF.1.w
  rw [e]
  refine Run.call0E FD FG hI (C4 hx (by omega)) fun v' I' S3 w'=>?_
  rintro ⟨rfl,L,rfl,hT⟩ hE2 hI
  have hI:Inv w [] (bS L) S3 w':=hI
  exact ⟨_,_,_,rfl,hI,hE.trans hE2,_,L,rfl,rfl,hT⟩
theorem rB {p:List C} {S:aF} {v:Value} (h:RdSl S 5 (RdC S) v p) (hw:wP p<=1048576) :
  Tri Tryz.prog AE [v] [] S (vO (bt p 61).1 (bt p 61).2):=by
 intro w hI
 have hI:Inv w [] [] S w:=hI
 refine rQ ?_
 unfold nC
 refine Run.call0E nO nt hI (j9 h hw 61) fun v' I' S2 w'=>?_
 rintro ⟨u,L,rfl,rfl,hT⟩ hE hI
 have hI:Inv w [] (bS L) S2 w':=hI
 refine a7 rfl ?_
 refine a7 rfl ?_
 exact ⟨_,_,_,rfl,hI,hE,_,L,rfl,rfl,hT⟩
theorem ww {p:List C} {S:aF} {v:Value} (h:RdSl S 5 (RdC S) v p) (hw:wP p<=1048576):Tri Tryz.prog Eh [v] [] S fun r I' _=>I'=[]/\r=.int .i64 (er p):=by
 intro w hI
 have hI:Inv w [] [] S w:=hI
 refine wl ?_
 unfold ry
 refine Run.callPure iK iH hI (g5 h hw) fun w' hI=>?_
 refine cc ?_
 refine ba (fun hb=>?_) (fun hb=>?_)
 ·have hb':ei p=false:=by simpa using hb
  exact ⟨_,_,_,rfl,hI,Ext.refl _ _ _,rfl,by rw [er,if_neg (by rw [hb']; decide)]⟩
 have hb':ei p=true:=by simpa using hb
 have hp:=mj hb'
 refine Run.call0E rc q4 hI (o4 h hp 61 (Nat.le_refl _)) fun v' I' S2 w'=>?_
 rintro ⟨rfl,x,rfl,hx⟩ hE hI
 have hI:Inv w [] [] S2 w':=hI
 refine a7 rfl ?_
 refine a7 rfl ?_
 refine a9 hx av ?_
 refine dX ?_
 refine bk (fun hg=>?_) (fun hg=>?_)
 ·exact ⟨_,_,_,rfl,hI,hE,rfl,by rw [er,if_pos hb',if_neg (by omega)]⟩
 ·exact ⟨_,_,_,rfl,hI,hE,rfl,by rw [er,if_pos hb',if_pos (by omega)]; rfl⟩
end

end Go.Proofs.YtemmhhdnlbmicaaGreat

/- impl.ModelClosed. -/
namespace Go.Proofs.YtemmhhdnlbmicaaGreat
open Go Go.RowKit
theorem F3 (q:T->Bool):∀ (l:List T) (s:Bool),l.foldl (fun s x=>s && q x) s=(s && l.all q)
 | [],s=>by simp
 | x::l,s=>by rw [List.foldl_cons,F3 q l,List.all_cons,Bool.and_assoc]
section
attribute [local irreducible] Run CondV ag be
theorem FV {t:T} {S:aF} {cs:List Value} (h:RdT S cs t) (hw:wT t<=1048576):Pure Tryz.prog Kv [.agg cs.toArray] S (.bool (rA t)):=by
 intro w hI
 have hlc:=h.length
 have hcn:=Ah t
 refine zP ?_
 unfold wV;dsimp only
 refine bO hI fun b1 w' hI=>?_
 refine bb hI 0 al rfl (by simpa [Value.cells] using hlc) ?_
 refine Run.callPure gx gw hI (fH h) fun w' hI=>?_
 rw [rA]
 cases hv:eA t
 ·repeat (first|refine ad ?_|refine af (by decide) ?_|refine ab ?_|refine ai ?_|refine ah ?_)
  exact done hI rfl
 ·repeat (first|refine ad ?_|refine af (by decide) ?_|refine ab ?_|refine ai ?_|refine ah ?_)
  refine bb hI 0 al rfl (by simpa [Value.cells] using hlc) ?_
  refine Run.callPure pL pn hI (mX h) fun w' hI=>?_
  cases hf:ew t
  ·repeat (first|refine ad ?_|refine af (by decide) ?_|refine ab ?_|refine ai ?_|refine ah ?_)
   exact done hI rfl
  ·repeat (first|refine ad ?_|refine af (by decide) ?_|refine ab ?_|refine ai ?_|refine ah ?_)
   refine bb hI 0 al rfl (by simpa [Value.cells] using hlc) ?_
   have hI:=hI.rowNil fx 1
   refine Run.call (A:=[_]) jI jG hI (l5 _ S cs (.slice none 0 0) [] h (by simp only [List.length_nil]; omega)) fun v' I' S' w'=>?_
   rintro ⟨rfl,rfl⟩ _ hI
   obtain ⟨S1,hle1,hrd,hI,_⟩:=Inv.lend (A:=[_]) hI
   refine a9 hrd.ints fU ?_
   refine bR ?_
   repeat (first|refine ad ?_|refine af (by decide) ?_|refine ab ?_|refine ai ?_|refine ah ?_)
   refine gQ hI hle1 ?_
   congr 1
   rw [Bool.true_and,Bool.true_and,Bool.eq_iff_iff,decide_eq_true_eq,decide_eq_true_eq]
   omega
theorem qd {t:T} {S:aF} {cs:List Value} (h:RdT S cs t) (hw:wT t<=1048576):Pure Tryz.prog kZ [.agg cs.toArray] S (.bool (!rA t)):=by
 intro w hI
 have hlc:=h.length
 refine nQ ?_
 unfold kN
 refine bO hI fun b1 w' hI=>?_
 refine bb hI 0 al rfl (by simpa [Value.cells] using hlc) ?_
 refine Run.callPure Gx HT hI (FV h hw) fun w' hI=>?_
 refine cc ?_
 exact done hI rfl
theorem n3 {x t:T} {S:aF} {cs ds:List Value} {b:Nat} {E:TypeId} (h:RdT S cs x) (hg:RdT S ds t) (hb:S b=some (.cells ds.toArray E)):Pure Tryz.prog jp [.agg cs.toArray,.pointer (some ⟨b,0,none⟩)] S (.bool (eqT x t)):=by
 intro w hI
 have hlc:=h.length
 have hlg:=hg.length
 refine mh ?_
 unfold i6
 refine bO hI fun b1 w' hI=>?_
 refine bb hI 0 al rfl (by simpa [Value.cells] using hlc) ?_
 refine cJ (cs:=ds) al hlg (fun j v hj=>by rw [hI.cellS hb,Nat.zero_add]; simpa using hj) ?_
 refine Run.callPure gR gT hI (gE _ _ S _ _ h hg) fun w' hI=>?_
 exact done hI rfl
def ItB (b5:Nat) (s:Bool) (_:aF) (I:List Item):Prop:=I=[.blk b5 (.cells #[.bool s] l0)]
theorem P3 {facts:List T} {S0:aF} {b3 b5:Nat} {u:Value} {E:TypeId} (hu:RdSl S0 4 (RdT S0) u facts) (hb:S0 b3=some (.cells #[u] E)) :
  Tell tR Tryz.f67 [.pointer (some ⟨b5,0,none⟩),.pointer (some ⟨b3,0,none⟩)] (ItB b5) (fun _ _=>True) (fun s x=>s && HD facts x) S0:=by
 refine ⟨r8,rU,fun _ _ _ _ _ h=>h,fun _ _ _ _ _=>trivial,fun S s x cs I n hle hx hcs hIt _ w hI=>?_⟩
 unfold ItB at hIt
 subst hIt
 have hlc:=hcs.length
 obtain ⟨X,hX⟩:∃ X,X=bY [Item.blk b5 (.cells #[.bool s] l0)]:=⟨_,rfl⟩
 rw [<- hX] at hI ⊢
 refine n7 ?_
 unfold ku
 refine bO hI fun b1 w' hI=>?_
 have hI:Inv w X ([.blk b5 (.cells #[.bool s] l0)]++[.blk b1 (.cells cs.toArray ac)]) S w':=hI
 obtain ⟨S1,hI,hE1,hb1⟩:=hI.pub1
 refine bE hI 0 (by decide +kernel) rfl rfl ?_
 cases s with
 | false=>
  repeat (first|refine ad ?_|refine af (by decide) ?_|refine ab ?_|refine ai ?_|refine ah ?_)
  refine eq hI 0 (n:=1) rfl (by decide +kernel) rfl (by simp) (by simp [Value.cells,Value.oneCell']) fun w' hI=>?_
  exact ⟨_,_,_,rfl,hI,hE1,rfl,rfl⟩
 | true=>
  repeat (first|refine ad ?_|refine af (by decide) ?_|refine ab ?_|refine ai ?_|refine ah ?_)
  refine dM aQ (by rw [hI.cellS (hE1.1 _ _ (hle _ _ hb))]; rfl) ?_
  refine g7 ?_
  have hcb:Cb Tryz.prog jp _ [.pointer (some ⟨b1,0,none⟩)] S1 (fun _:Unit=>[]) (fun _=>True) (fun _ y=>(eqT y x,())) (fun v y=>∃ cs,v=.agg cs.toArray/\RdT S1 cs y) facts:=
   Cb.pure [] oV oS fun y v _=>by
    rintro ⟨ds,rfl,hds⟩ w1 hI
    exact (n3 hds (hcs.mono hE1.1) hb1 w1 hI).mono fun e w' ⟨he,hI⟩=>⟨_,_,_,he,hI,Ext.refl _ _ _,rfl,rfl,rfl⟩
  refine Run.call0 dk dq hI (dG hcb ((hu.monoT hle).monoT hE1.1) (st:=()) trivial) fun v' I' S' w'=>?_
  rintro ⟨e1,rfl,e2⟩ _ hI
  subst e1
  rw [e2] at hI
  repeat (first|refine ad ?_|refine af (by decide) ?_|refine ab ?_|refine ai ?_|refine ah ?_)
  refine eq hI 0 (n:=1) rfl (by decide +kernel) rfl (by simp) (by simp [Value.cells,Value.oneCell']) fun w' hI=>?_
  refine ⟨_,_,_,rfl,hI,hE1,rfl,?_⟩
  rw [eK (fun y=>eqT y x) facts,ItB,Bool.true_and]
  rfl
theorem qm {p:List C} {facts:List T} {S:aF} {v u:Value} (h:RdSl S 5 (RdC S) v p) (hq:RdSl S 4 (RdT S) u facts) (hw:wP p<=1048576) (hw2:wL facts<=1048576) :
  Pure Tryz.prog yr [v,u] S (.bool (sm p facts)):=by
 intro w hI
 have hlen:=h.le
 simp only [maxLen] at hlen
 obtain ⟨au,mu,hu,_⟩:=id hq
 subst hu
 refine qC ?_
 unfold mI;dsimp only
 refine bO hI fun b3 w' hI=>?_
 obtain ⟨S1,hI,hE1,hb3⟩:=hI.pub1
 have h:=h.monoC hE1.1
 have hq:=hq.monoT hE1.1
 have hb3:S1 b3=some (.cells #[.slice au facts.length mu] _):=hb3
 refine ⟨fun t w'=>t=.bool (!(ei p && sj facts))/\Inv w [] [] S1 w',?_,?_⟩
 ·refine Run.callPure iD iz hI (g6 h hw) fun w' hI=>?_
  refine cc ?_
  cases hv:ei p
  ·repeat (first|refine ad ?_|refine af (by decide) ?_|refine ab ?_|refine ai ?_|refine ah ?_)
   exact ⟨rfl,hI⟩
  ·repeat (first|refine ad ?_|refine af (by decide) ?_|refine ab ?_|refine ai ?_|refine ah ?_)
   refine dM aQ (by rw [hI.cellS hb3]; rfl) ?_
   refine a9 hq av ?_
   refine dX ?_
   by_cases hl:(60:Int)<(facts.length:Int)
   ·rw [decide_eq_true hl]
    repeat (first|refine ad ?_|refine af (by decide) ?_|refine ab ?_|refine ai ?_|refine ah ?_)
    refine ⟨?_,hI⟩
    rw [sj,decide_eq_false (show ¬ facts.length<=60 by omega),Bool.and_false]; rfl
   ·rw [decide_eq_false hl]
    repeat (first|refine ad ?_|refine af (by decide) ?_|refine ab ?_|refine ai ?_|refine ah ?_)
    refine dM aQ (by rw [hI.cellS hb3]; rfl) ?_
    have hcb:Cb Tryz.prog kZ _ [] S1 (fun _:Unit=>[]) (fun _=>True) (fun _ y=>(!rA y,())) (fun v y=>∃ cs,v=.agg cs.toArray/\RdT S1 cs y) facts:=
     Cb.pure [] sC sB fun y v hy=>by
      rintro ⟨ds,rfl,hds⟩ w1 hI
      have hwy:=jn hy
      exact (qd hds (by omega) w1 hI).mono fun e w' ⟨he,hI⟩=>⟨_,_,_,he,hI,Ext.refl _ _ _,rfl,rfl,rfl⟩
    refine Run.call0 dk dq hI (dG hcb hq (st:=()) trivial) fun v' I' S' w'=>?_
    rintro ⟨e1,rfl,e2⟩ _ hI
    subst e1
    rw [e2] at hI
    repeat (first|refine ad ?_|refine af (by decide) ?_|refine ab ?_|refine ai ?_|refine ah ?_)
    refine ⟨?_,hI⟩
    rw [eK (fun y=>!rA y) facts,sj,decide_eq_true (show facts.length<=60 by omega),Bool.and_true,Bool.true_and,<- lI,Bool.not_not]
 intro t _ _ _ _ _ _ _ _ _ _ _ w'
 rintro ⟨rfl,hI⟩
 refine ba (fun hb=>gQ hI hE1.1 ?_) (fun hb=>?_)
 ·rw [Bool.not_eq_true'] at hb
  rw [sm,<- Bool.and_assoc,hb]; rfl
 rw [Bool.not_eq_false',Bool.and_eq_true] at hb
 have hm:sm p facts=p.all (lx facts):=by rw [sm,hb.1,hb.2]; rfl
 have hparts:=wX hb.1
 obtain ⟨hfs,hfl⟩:=Ix hb.2
 have hz:iE Tryz.prog l0=some (.bool false):=by kernel_rfl
 refine bH hI hz fun b5 w' hI=>?_
 refine eq hI 0 (n:=1) rfl (by decide +kernel) rfl (by simp [Value.cells]) (by simp [Value.cells,Value.oneCell']) fun w' hI=>?_
 have hI:Inv w [] [.blk b5 (.cells #[.bool true] l0)] S1 w':=hI
 refine a9 h c4 ?_
 refine ⟨fun i w'=>∃ (j:Nat) (S':aF),j<=p.length/\i=.int .i64 j/\Ext w.heap.size [] S S'/\Sle S1 S'/\Inv w [] [.blk b5 (.cells #[.bool ((p.take j).all (lx facts))] l0)] S' w',fun i _=>p.length - (intOf i).toNat,⟨0,S1,Nat.zero_le _,rfl,hE1,Sle.refl _,hI⟩,?_⟩
 intro t22 _ _ _ _ _ _ _ _ _ _ w'
 rintro ⟨j,S',hj,rfl,hE,hle,hI⟩
 refine bU ?_
 refine bk (fun hji=>?_) (fun hji=>?_)
 ·have hj':j<p.length:=by omega
  have hpj:=hparts _ (List.getElem_mem hj')
  refine ec hI (h.monoC hle) c4 bF hj' (fun _ _=>RdC.length) fun cs hcs=>?_
  have hlc:=hcs.length
  refine bH hI eL fun b7 w' hI=>?_
  refine bf hI 1 rfl bF (by simpa using hlc) rfl (by simpa using hcs.one) fun w' hI=>?_
  refine bb hI 1 bF rfl (by simpa using hlc) ?_
  have hI:Inv w [] [.blk b5 (.cells #[.bool ((p.take j).all (lx facts))] l0)] S' w':=hI.pick [true,false]
  refine dM aQ (by rw [hI.cellS (hle _ _ hb3)]; rfl) ?_
  refine Ds hI fun mb w' hI=>?_
  obtain ⟨S2,hI,hE2,hmb⟩:=hI.pub1
  refine g7 ?_
  have hI:Inv w [] ([]++[.blk b5 (.cells #[.bool ((p.take j).all (lx facts))] l0)]) S2 w':=hI
  have hle2:=hle.trans hE2.1
  refine Run.callE (A:=[]) mR m7 hI (rb p[j] facts hpj.1 hfs hpj.2.1 p[j].body 0 (by simp) rfl S2 cs _ mb 0 #[] _ _ st0 0 (P3 (hq.monoT hle2) (hle2 _ _ hb3)) (hcs.mono hE2.1) (hq.monoT hle2) hmb (KnownM.empty S2) LA hpj.2.2 rfl trivial) fun v' I' S3 w'=>?_
  rintro ⟨rfl,hIt,_⟩ hE3 hI
  rw [ItB,F3] at hIt
  subst hIt
  refine bP (by omega) ?_
  refine ⟨⟨j+1,S3,hj',rfl,(hE.trans hE2).trans hE3,hle2.trans hE3.1,?_⟩,by simp [intOf]; omega⟩
  have e:(p.take (j+1)).all (lx facts)=((p.take j).all (lx facts) && (fc p[j].head facts p[j].body st0).all (HD facts)):=by
   rw [List.take_succ_eq_append_getElem hj',List.all_append,List.all_cons,List.all_nil,Bool.and_true]; rfl
  rw [e]
  exact hI
 ·have:j=p.length:=by omega
  subst this
  rw [List.take_length] at hI
  refine bE hI 0 (by decide +kernel) rfl rfl ?_
  exact gQ hI hE.1 (by rw [hm]; rfl)
end

end Go.Proofs.YtemmhhdnlbmicaaGreat

/- spec: walks, occurrence, unification. -/
namespace Go.Proofs.YtemmhhdnlbmicaaGreat
open Go Go.RowKit
/- bindings as a row of terms -/
def KnU (S:aF) (c:Array Value) (st:bq):Prop:=st.length * 4<=c.size/\∀ i (h:i<st.length),(st[i]=none->bv c (i * 4) 4=qb)/\(∀ t,st[i]=some t->RdT S (bv c (i * 4) 4) t)
theorem KnU.set {S:aF} {c:Array Value} {st:bq} (h:KnU S c st) {n:Nat} (hn:n<st.length) {cs:List Value} {u:T} (hu:RdT S cs u):KnU S (bw c (n * 4) cs) (st.set n (some u)):=by
 have hlc:=hu.length
 have h1:=h.1
 have hs:st.length * 4<=(bw c (n * 4) cs).size:=by rw [gd _ _ _ (by omega)]; exact h1
 refine ⟨by rw [List.length_set]; exact hs,fun i hi=>?_⟩
 rw [List.length_set] at hi
 by_cases e:n=i
 ·subst e
  rw [List.getElem_set_self]
  refine ⟨fun h=>(by cases h),fun t ht=>?_⟩
  simp only [Option.some.injEq] at ht
  subst ht
  have:=iu (c:=c) (o:=n * 4) (vs:=cs) (by omega)
  rw [hlc] at this
  rw [this]
  exact hu
 ·rw [List.getElem_set_ne e,kL (by omega) (by omega)]
  exact h.2 i hi
theorem KnU.mono {S S':aF} {c:Array Value} {st:bq} (h:KnU S c st) (hs:Sle S S'):KnU S' c st:=⟨h.1,fun i hi=>⟨(h.2 i hi).1,fun t ht=>((h.2 i hi).2 t ht).mono hs⟩⟩
section
attribute [local irreducible] Run CondV ag be
end
/- the variables of a term in a list of numbers -/
section
attribute [local irreducible] Run CondV ag be
open Classical in
end

end Go.Proofs.YtemmhhdnlbmicaaGreat

/- spec.l3Unify. -/
namespace Go.Proofs.YtemmhhdnlbmicaaGreat
open Go Go.RowKit
/- the calls of a loop over two lists -/
inductive Chain (Call:bq->T->T->Bool->bq->Prop):bq->List T->List T->Bool->bq->Prop
 | nil {st:bq}:Chain Call st [] [] true st
 | stop {st st':bq} {a b:T} {xs ys:List T}:Call st a b false st'->Chain Call st (a::xs) (b::ys) false st'
 | go {st st1 st':bq} {a b:T} {xs ys:List T} {r:Bool}:Call st a b true st1->Chain Call st1 xs ys r st'->Chain Call st (a::xs) (b::ys) r st'
theorem Chain.head {Call:bq->T->T->Bool->bq->Prop} {st st':bq} {a b:T} {xs ys:List T} {r:Bool} (h:Chain Call st (a::xs) (b::ys) r st') :
  ∃ r1 st1,Call st a b r1 st1/\(r1=false->r=false/\st'=st1)/\(r1=true->Chain Call st1 xs ys r st'):=by
 cases h with
 | stop h=>exact ⟨false,_,h,fun _=>⟨rfl,rfl⟩,fun e=>(by cases e)⟩
 | go h h'=>exact ⟨true,_,h,fun e=>(by cases e),fun _=>h'⟩
theorem Chain.done {Call:bq->T->T->Bool->bq->Prop} {st st':bq} {r:Bool} (h:Chain Call st [] [] r st'):r=true/\st'=st:=by
 cases h
 exact ⟨rfl,rfl⟩
/- how a unification of walked terms ends -/
def Rf (Call:bq->T->T->Bool->bq->Prop) (st:bq) (a' b':T) (r:Bool) (st':bq):Prop:=
 (a'.kind=1/\b'.kind=1/\a'.n=b'.n/\r=true/\st'=st) ∨
 (a'.kind=1/\¬ (b'.kind=1/\a'.n=b'.n)/\((¬ Fr st a'.n.toNat b'/\r=true/\st'=st.set a'.n.toNat (some b')) ∨ (Fr st a'.n.toNat b'/\r=false/\st'=st))) ∨
 (a'.kind≠1/\b'.kind=1/\((¬ Fr st b'.n.toNat a'/\r=true/\st'=st.set b'.n.toNat (some a')) ∨ (Fr st b'.n.toNat a'/\r=false/\st'=st))) ∨
 (a'.kind≠1/\b'.kind≠1/\((mM a' b'=false/\r=false/\st'=st) ∨ (mM a' b'=true/\Chain Call st a'.kids b'.kids r st')))
theorem Uni.calls {N:Nat} {Call:bq->T->T->Bool->bq->Prop} (hcall:∀ st a b a' b' r st',Good N st->okJ N (.one a b)->gO st a a'->gO st b b'->Rf Call st a' b' r st'->Call st a b r st') {st st':bq} {j:Job} {r:Bool} (hu:Uni st j r st') :
  Good N st->okJ N j->match j with
   | .one a b=>Call st a b r st'
   | .list xs ys=>Chain Call st xs ys r st':=by
 induction hu with
 | same h1 h2 h3 h4 h5=>exact fun hg hj=>hcall _ _ _ _ _ _ _ hg hj h1 h2 (.inl ⟨h3,h4,h5,rfl,rfl⟩)
 | bindA h1 h2 h3 h4 h5=>exact fun hg hj=>hcall _ _ _ _ _ _ _ hg hj h1 h2 (.inr (.inl ⟨h3,h4,.inl ⟨h5,rfl,rfl⟩⟩))
 | occA h1 h2 h3 h4 h5=>exact fun hg hj=>hcall _ _ _ _ _ _ _ hg hj h1 h2 (.inr (.inl ⟨h3,h4,.inr ⟨h5,rfl,rfl⟩⟩))
 | bindB h1 h2 h3 h4 h5=>exact fun hg hj=>hcall _ _ _ _ _ _ _ hg hj h1 h2 (.inr (.inr (.inl ⟨h3,h4,.inl ⟨h5,rfl,rfl⟩⟩)))
 | occB h1 h2 h3 h4 h5=>exact fun hg hj=>hcall _ _ _ _ _ _ _ hg hj h1 h2 (.inr (.inr (.inl ⟨h3,h4,.inr ⟨h5,rfl,rfl⟩⟩)))
 | clash h1 h2 h3 h4 h5=>exact fun hg hj=>hcall _ _ _ _ _ _ _ hg hj h1 h2 (.inr (.inr (.inr ⟨h3,h4,.inl ⟨h5,rfl,rfl⟩⟩)))
 | kids h1 h2 h3 h4 h5 _ ih=>
  exact fun hg hj=>hcall _ _ _ _ _ _ _ hg hj h1 h2 (.inr (.inr (.inr ⟨h3,h4,.inr ⟨h5,ih hg ⟨zr (lM hg h1 hj.1),zr (lM hg h2 hj.2),GR h5⟩⟩⟩)))
 | nil=>exact fun _ _=>.nil
 | stop _ ih=>exact fun hg hj=>.stop (ih hg ⟨hj.1 _ (List.mem_cons_self ..),hj.2.1 _ (List.mem_cons_self ..)⟩)
 | go h1 _ ih1 ih2=>
  intro hg hj
  have hj1:okJ N (.one _ _):=⟨hj.1 _ (List.mem_cons_self ..),hj.2.1 _ (List.mem_cons_self ..)⟩
  exact .go (ih1 hg hj1) (ih2 (h1.good hg hj1).1 ⟨fun a ha=>hj.1 a (List.mem_cons_of_mem _ ha),fun b hb=>hj.2.1 b (List.mem_cons_of_mem _ hb),by have:=hj.2.2; simpa using this⟩)
section
attribute [local irreducible] Run CondV ag be
set_option maxHeartbeats 1000000 in
/- the case that a nonvariable meets a variable is handed on, so it comes with a contract -/
end

end Go.Proofs.YtemmhhdnlbmicaaGreat

/- DropClause: both sides. -/
namespace Go.Proofs.YtemmhhdnlbmicaaGreat
open Go Go.RowKit
attribute [local irreducible] Run CondV ag be

end Go.Proofs.YtemmhhdnlbmicaaGreat

/- DropClause: both sides. -/
namespace Go.Proofs.YtemmhhdnlbmicaaGreat
open Go Go.RowKit
attribute [local irreducible] Run CondV ag be

end Go.Proofs.YtemmhhdnlbmicaaGreat

/- spec.RenumberClause. -/
namespace Go.Proofs.YtemmhhdnlbmicaaGreat
open Go Go.RowKit
section
attribute [local irreducible] Run CondV ag be
end

end Go.Proofs.YtemmhhdnlbmicaaGreat

/- spec.RenumberClause: lists and clauses. -/
namespace Go.Proofs.YtemmhhdnlbmicaaGreat
open Go Go.RowKit
section
variable {w:World} {K:Value->World->Prop}
attribute [local irreducible] Run
end
section
attribute [local irreducible] Run CondV ag be
theorem RdC.zero (S:aF):RdC S [.int .i64 0,.int .i64 0,.string ⟨#[]⟩,.slice none 0 0,.slice none 0 0] ⟨⟨0,0,⟨#[]⟩,[]⟩,[]⟩:=
 ⟨[.int .i64 0,.int .i64 0,.string ⟨#[]⟩,.slice none 0 0],.slice none 0 0,rfl,RdT.iff.2 ⟨_,rfl,by simp [inI,T.kind],by simp [inI,T.n],by rw [T.name]; decide +kernel,⟨none,0,rfl,Nat.le_refl _,Nat.zero_le _,.inl rfl⟩⟩,⟨none,0,rfl,Nat.le_refl _,Nat.zero_le _,.inl rfl⟩⟩
end

end Go.Proofs.YtemmhhdnlbmicaaGreat

/- spec: resolved terms, if they are small. -/
namespace Go.Proofs.YtemmhhdnlbmicaaGreat
open Go Go.RowKit
section
attribute [local irreducible] Run CondV ag be
/- a tuple of a term and of how many nodes are left -/
end

end Go.Proofs.YtemmhhdnlbmicaaGreat

/- spec: shifted terms and clauses. -/
namespace Go.Proofs.YtemmhhdnlbmicaaGreat
open Go Go.RowKit
section
attribute [local irreducible] Run CondV ag be
end

end Go.Proofs.YtemmhhdnlbmicaaGreat

/- Resolvents: the plain form. -/
namespace Go.Proofs.YtemmhhdnlbmicaaGreat
open Go Go.RowKit
/- weights by nodes -/
/- numbered anew -/
/- the resolvent -/
/- small terms have small weights -/
end Go.Proofs.YtemmhhdnlbmicaaGreat

/- spec.l4Clause. -/
namespace Go.Proofs.YtemmhhdnlbmicaaGreat
open Go Go.RowKit
section
variable {br:Nat} {sl:Value} {ys:List Nat}
attribute [local irreducible] Run CondV ag be
end
end Go.Proofs.YtemmhhdnlbmicaaGreat

/- What calls what, and what can be reached: both sides. -/
namespace Go.Proofs.YtemmhhdnlbmicaaGreat
open Go Go.RowKit
attribute [local irreducible] Run CondV ag be

end Go.Proofs.YtemmhhdnlbmicaaGreat

/- The graph of calls: the plain form. -/
namespace Go.Proofs.YtemmhhdnlbmicaaGreat
open Go Go.RowKit
attribute [local irreducible] Run CondV ag be

/- what may still come in -/
/- rows of predicates: their length, an element -/
section
variable {P:Program} {w w0:World} {X:List Nat} {L:List Item} {S:aF} {K:Value->World->Prop}
end

end Go.Proofs.YtemmhhdnlbmicaaGreat

/- What the clauses for a name call: both sides. -/
namespace Go.Proofs.YtemmhhdnlbmicaaGreat
open Go Go.RowKit
attribute [local irreducible] Run CondV ag be

/- the program's side goes over the clauses' numbers -/
end Go.Proofs.YtemmhhdnlbmicaaGreat

/- What some predicates can lead to: both sides. -/
namespace Go.Proofs.YtemmhhdnlbmicaaGreat
open Go Go.RowKit
attribute [local irreducible] Run CondV ag be

end Go.Proofs.YtemmhhdnlbmicaaGreat

/- Which predicates can lead to themselves: both sides. -/
namespace Go.Proofs.YtemmhhdnlbmicaaGreat
open Go Go.RowKit
attribute [local irreducible] Run CondV ag be

end Go.Proofs.YtemmhhdnlbmicaaGreat

/- PredsOf, CallsOf, ReachOf: both sides. -/
namespace Go.Proofs.YtemmhhdnlbmicaaGreat
open Go Go.RowKit
attribute [local irreducible] Run CondV ag be

end Go.Proofs.YtemmhhdnlbmicaaGreat

/- A predicate that comes in: its size, its copy, its reading. -/
namespace Go.Proofs.YtemmhhdnlbmicaaGreat
open Go Go.ChangeShapes Go.WideShapes Go.ChangeAt Go.RowKit
section
attribute [local irreducible] Run CondV ag be
end
theorem two {cs:List Value} (h:cs.length=2):∃ a b,cs=[a,b]:=by
 match cs,h with
 | [a,b],_=>exact ⟨a,b,rfl⟩
end Go.Proofs.YtemmhhdnlbmicaaGreat

/- spec.l14Pred, DrawPredsOf, DrawCallsOf, DrawRecursivePred. -/
namespace Go.Proofs.YtemmhhdnlbmicaaGreat
open Go Go.RowKit
section
variable {br:Nat} {sl:Value} {ys:List Nat}
attribute [local irreducible] Run CondV ag be
theorem Pd.one (x:Pd):∀ u∈x.cells,u.oneCell'=true:=by
 intro u hu
 have hu':u∈([.string x.name,.int .i64 x.arity]:List Value):=hu
 simp at hu'
 rcases hu' with rfl|rfl <;> rfl
end
end Go.Proofs.YtemmhhdnlbmicaaGreat

/- What the laws compare with: pgPreds, pgPred, impl.ClauseSame, pgClauses; bytes that come in. -/
namespace Go.Proofs.YtemmhhdnlbmicaaGreat
open Go Go.ChangeShapes Go.WideShapes Go.ChangeAt Go.RowKit
theorem PL:Tryz.prog.underlying D7=some (.int .u8):=by kernel_rfl
theorem ON {H:Type} {enc:TypeId × Value->H} {W:World} {sp:Nat->Bool} {held:Bool} {fuel:Nat} {cs:List Value} {x:DataW H × List MemPlace} (h:DataW.trod enc Tryz.prog W 0 sp held fuel D7 cs=some x) :
  ∃ n,iU cs n:=by
 cases fuel with
 | zero=>simp [DataW.trod] at h
 | succ n=>
  unfold DataW.trod at h
  rw [PL] at h
  split at h <;> simp_all
  rename_i k1 k2 m he
  subst he
  obtain ⟨⟨_,h⟩,_⟩:=h
  simp only [Lit.wf,Bool.and_eq_true,decide_eq_true_eq] at h
  have h1:0<=m/\m<=255:=h
  exact ⟨m.toNat,by rw [iU,Int.toNat_of_nonneg (by omega)]; exact ⟨rfl,by omega⟩⟩
theorem rC {H:Type} {enc:TypeId × Value->H} {W:World} {sp:Nat->Bool} {held:Bool} {fuel:Nat} {v:Value} {x:DataW H × List MemPlace} (h:DataW.trod enc Tryz.prog W 0 sp held fuel Hg [v]=some x) :
  ∃ ys,RdSl (Ll W) 1 iU v ys:=OO dU (by omega) h fun _ _ _ _ hy=>ON hy
section
variable {w0 w:World} {X:List Nat} {L:List Item} {S:aF} {K:Value->World->Prop}
attribute [local irreducible] Run CondV ag be
theorem AM {P:Program} {T:TypeId} {cx cy:Bool} {a b:Bool} (hu:P.underlying T=some .bool) (hk:K (.bool (a == b)) w):Run P (aq .eql T cx cy (.bool a) (.bool b)) w K:=
 Run.of (by
  have he:(Op.equal T (.bool a) (.bool b)).run P w=.ok (a == b) w:=by
   rw [Op.equal,Op.maxDepth,Op.equalIn.eq_def]
   simp [run_underlying hu]
  simp only [aq,binOp,Sem.run_bind,sE,Result.andThen_ok,he,Sem.run_pure]) hk
theorem M2 (t:T):eqT t t=true:=(jJ t t).2 rfl
end
end Go.Proofs.YtemmhhdnlbmicaaGreat

/- What the laws about models compare with: pgTerms, pgFact, impl.CompareTerms, impl.PureProgram. -/
namespace Go.Proofs.YtemmhhdnlbmicaaGreat
open Go Go.RowKit
section
variable {S:aF} {ys:List Nat} {v:Value}
attribute [local irreducible] Run CondV ag be
theorem CO {t:T} {cs ds:List Value} (h:RdT S cs t) (g:RdT S ds t):Pure Tryz.prog jB [.agg cs.toArray,.agg ds.toArray] S (.bool true):=by
 have:=gE t t S cs ds h g
 rwa [M2] at this
theorem gS {l:List T} {u v:Value} (h:RdSl S 4 (RdT S) u l) (g:RdSl S 4 (RdT S) v l):Pure Tryz.prog Hw [u,v] S (.bool true):=by
 intro w hI
 have hlen:=h.le
 simp only [maxLen] at hlen
 refine yA ?_
 unfold ux
 refine a9 h av ?_
 refine a9 g av ?_
 refine gr ?_
 refine ba (fun hb=>by simp at hb) (fun _=>?_)
 refine ⟨fun i w'=>∃ k:Nat,k<=l.length/\i=.int .i64 k/\Inv w [] [] S w',fun i _=>l.length - (intOf i).toNat,⟨0,Nat.zero_le _,rfl,hI⟩,?_⟩
 intro t5 _ _ _ t26 t25 t24 t23 t22 t21 t20 t19 t18 t17 _ _ _ _ w'
 rintro ⟨k,hk,rfl,hI⟩
 refine a9 h av ?_
 refine bU ?_
 refine bk (fun hki=>?_) (fun hki=>done hI rfl)
 have hk':k<l.length:=by omega
 obtain ⟨b,o,cap,c,E,fz,rfl,hS,hR⟩:=h.at_ hk'
 obtain ⟨b2,o2,cap2,c2,E2,fz2,rfl,hS2,hR2⟩:=g.at_ hk'
 refine ⟨fun D b0 bT bX ci cf cF cd bZ dz dr w_=>(D 0=true->dr=.slice (some ⟨b,o,none⟩) l.length cap)/\(D 1=true->dz=.int .i64 k)/\(D 2=true->bZ=.pointer (some ⟨b,o+k * 4,none⟩))/\(D 3=true->cd=.agg (bv c (o+k * 4) 4).toArray)/\(D 4=true->cF=.slice (some ⟨b2,o2,none⟩) l.length cap2)/\(D 5=true->cf=.int .i64 k)/\(D 6=true->ci=.pointer (some ⟨b2,o2+k * 4,none⟩))/\(D 7=true->bX=.agg (bv c2 (o2+k * 4) 4).toArray)/\(D 8=true->bT=.bool true)/\(D 9=true->b0=.bool false)/\Inv w [] [] S w_,⟨ae,ae,ae,ae,ae,ae,ae,ae,ae,ae,hI.draw⟩,⟨?_,?_,?_,?_,?_,?_,?_,?_,?_,?_,trivial⟩,?_⟩
 ·intro D aY  b0 bT bX ci cf cF cd bZ dz dr w_
  rintro ⟨az,ay,aA,aB,aw,aD,aE,aI,aL,aP,hI⟩
  exact ⟨fun _=>rfl,ay,aA,aB,aw,aD,aE,aI,aL,aP,hI⟩
 ·intro D aY  b0 bT bX ci cf cF cd bZ dz dr w_
  rintro ⟨az,ay,aA,aB,aw,aD,aE,aI,aL,aP,hI⟩
  exact ⟨az,fun _=>rfl,aA,aB,aw,aD,aE,aI,aL,aP,hI⟩
 ·intro D aY ce iL b0 bT bX ci cf cF cd bZ dz dr w_
  rintro ⟨az,ay,aA,aB,aw,aD,aE,aI,aL,aP,hI⟩
  obtain rfl:=az ce
  obtain rfl:=ay iL
  refine bh av hk' ?_
  exact ⟨az,ay,fun _=>rfl,aB,aw,aD,aE,aI,aL,aP,hI⟩
 ·intro D aY ev b0 bT bX ci cf cF cd bZ dz dr w_
  rintro ⟨az,ay,aA,aB,aw,aD,aE,aI,aL,aP,hI⟩
  obtain rfl:=aA ev
  refine cJ al hR.length (fun j v hj=>by rw [hI.cellS hS]; exact bl rfl j v hj) ?_
  exact ⟨az,ay,aA,fun _=>rfl,aw,aD,aE,aI,aL,aP,hI⟩
 ·intro D aY  b0 bT bX ci cf cF cd bZ dz dr w_
  rintro ⟨az,ay,aA,aB,aw,aD,aE,aI,aL,aP,hI⟩
  exact ⟨az,ay,aA,aB,fun _=>rfl,aD,aE,aI,aL,aP,hI⟩
 ·intro D aY  b0 bT bX ci cf cF cd bZ dz dr w_
  rintro ⟨az,ay,aA,aB,aw,aD,aE,aI,aL,aP,hI⟩
  exact ⟨az,ay,aA,aB,aw,fun _=>rfl,aE,aI,aL,aP,hI⟩
 ·intro D aY cK jk b0 bT bX ci cf cF cd bZ dz dr w_
  rintro ⟨az,ay,aA,aB,aw,aD,aE,aI,aL,aP,hI⟩
  obtain rfl:=aw cK
  obtain rfl:=aD jk
  refine bh av hk' ?_
  exact ⟨az,ay,aA,aB,aw,aD,fun _=>rfl,aI,aL,aP,hI⟩
 ·intro D aY c9 b0 bT bX ci cf cF cd bZ dz dr w_
  rintro ⟨az,ay,aA,aB,aw,aD,aE,aI,aL,aP,hI⟩
  obtain rfl:=aE c9
  refine cJ al hR2.length (fun j v hj=>by rw [hI.cellS hS2]; exact bl rfl j v hj) ?_
  exact ⟨az,ay,aA,aB,aw,aD,aE,fun _=>rfl,aL,aP,hI⟩
 ·intro D aY dF jL b0 bT bX ci cf cF cd bZ dz dr w_
  rintro ⟨az,ay,aA,aB,aw,aD,aE,aI,aL,aP,hI⟩
  obtain rfl:=aB dF
  obtain rfl:=aI jL
  refine Run.callPure gR gT hI (CO hR hR2) fun w_ hI=>?_
  exact ⟨az,ay,aA,aB,aw,aD,aE,aI,fun _=>rfl,aP,hI⟩
 ·intro D aY iM b0 bT bX ci cf cF cd bZ dz dr w_
  rintro ⟨az,ay,aA,aB,aw,aD,aE,aI,aL,aP,hI⟩
  obtain rfl:=aL iM
  refine cc ?_
  exact ⟨az,ay,aA,aB,aw,aD,aE,aI,aL,fun _=>rfl,hI⟩
 intro D iW gN f0 f1 fM fF fI fK fL fN b0 bT bX ci cf cF cd bZ dz dr w_
 rintro ⟨az,ay,aA,aB,aw,aD,aE,aI,aL,aP,hI⟩
 obtain rfl:=aP iW
 obtain rfl:=aL gN
 obtain rfl:=aI f0
 obtain rfl:=aE f1
 obtain rfl:=aD fM
 obtain rfl:=aw fF
 obtain rfl:=aB fI
 obtain rfl:=aA fK
 obtain rfl:=ay fL
 obtain rfl:=az fN
 clear az ay aA aB aw aD aE aI aL aP
 refine ba (fun hb=>by cases hb) (fun _=>?_)
 refine bP (by omega) ?_
 exact ⟨⟨k+1,hk',rfl,hI⟩,by simp [intOf]; omega⟩
theorem EH {l:List T} {x:T} {u:Value} {ds:List Value} (h:RdSl S 4 (RdT S) u l) (hx:RdT S ds x) (hm:x∈l):Pure Tryz.prog JC [u,.agg ds.toArray] S (.bool true):=by
 intro w hI
 have hlen:=h.le
 simp only [maxLen] at hlen
 have hl4:=hx.length
 refine zL ?_
 unfold xP
 refine bO hI fun b3 w' hI=>?_
 have hI:Inv w [] [.blk b3 (.cells ds.toArray ac)] S w':=hI
 refine ⟨fun i w'=>∃ k:Nat,k<=l.length/\i=.int .i64 k/\HD (l.drop k) x=true/\Inv w [] [.blk b3 (.cells ds.toArray ac)] S w',fun i _=>l.length - (intOf i).toNat,⟨0,Nat.zero_le _,rfl,(HC _ _).2 hm,hI⟩,?_⟩
 intro t5 _ _ _ t17 t16 t15 t14 t13 t12 _ _ _ _ w'
 rintro ⟨k,hk,rfl,hrel,hI⟩
 refine a9 h av ?_
 refine bU ?_
 refine bk (fun hki=>?_) (fun hki=>?_)
 ·have hk':k<l.length:=by omega
  have hstep:HD (l.drop k) x=(eqT l[k] x || HD (l.drop (k+1)) x):=tI _ l k hk'
  obtain ⟨b,o,cap,c,E,fz,rfl,hS,hR⟩:=h.at_ hk'
  refine ⟨fun D dr dC ey eU eE eD w_=>(D 0=true->eD=.slice (some ⟨b,o,none⟩) l.length cap)/\(D 1=true->eE=.int .i64 k)/\(D 2=true->eU=.pointer (some ⟨b,o+k * 4,none⟩))/\(D 3=true->ey=.agg (bv c (o+k * 4) 4).toArray)/\(D 4=true->dC=.agg ds.toArray)/\(D 5=true->dr=.bool (eqT l[k] x))/\Inv w [] [.blk b3 (.cells ds.toArray ac)] S w_,⟨ae,ae,ae,ae,ae,ae,hI.draw⟩,⟨?_,?_,?_,?_,?_,?_,trivial⟩,?_⟩
  ·intro D aY  dr dC ey eU eE eD w_
   rintro ⟨az,ay,aA,aB,aw,aD,hI⟩
   exact ⟨fun _=>rfl,ay,aA,aB,aw,aD,hI⟩
  ·intro D aY  dr dC ey eU eE eD w_
   rintro ⟨az,ay,aA,aB,aw,aD,hI⟩
   exact ⟨az,fun _=>rfl,aA,aB,aw,aD,hI⟩
  ·intro D aY ce iL dr dC ey eU eE eD w_
   rintro ⟨az,ay,aA,aB,aw,aD,hI⟩
   obtain rfl:=az ce
   obtain rfl:=ay iL
   refine bh av hk' ?_
   exact ⟨az,ay,fun _=>rfl,aB,aw,aD,hI⟩
  ·intro D aY ev dr dC ey eU eE eD w_
   rintro ⟨az,ay,aA,aB,aw,aD,hI⟩
   obtain rfl:=aA ev
   refine cJ al hR.length (fun j v hj=>by rw [hI.cellS hS]; exact bl rfl j v hj) ?_
   exact ⟨az,ay,aA,fun _=>rfl,aw,aD,hI⟩
  ·intro D aY  dr dC ey eU eE eD w_
   rintro ⟨az,ay,aA,aB,aw,aD,hI⟩
   refine bb hI 0 al rfl (by simpa using hl4) ?_
   exact ⟨az,ay,aA,aB,fun _=>rfl,aD,hI⟩
  ·intro D aY dF dS dr dC ey eU eE eD w_
   rintro ⟨az,ay,aA,aB,aw,aD,hI⟩
   obtain rfl:=aB dF
   obtain rfl:=aw dS
   refine Run.callPure gR gT hI (gE _ _ S _ _ hR hx) fun w_ hI=>?_
   exact ⟨az,ay,aA,aB,aw,fun _=>rfl,hI⟩
  intro D fM fF fI fK fL fN dr dC ey eU eE eD w_
  rintro ⟨az,ay,aA,aB,aw,aD,hI⟩
  obtain rfl:=aD fM
  obtain rfl:=aw fF
  obtain rfl:=aB fI
  obtain rfl:=aA fK
  obtain rfl:=ay fL
  obtain rfl:=az fN
  clear az ay aA aB aw aD
  refine ba (fun hb=>done hI rfl) (fun hb=>?_)
  refine bP (by omega) ?_
  exact ⟨⟨k+1,hk',rfl,by rw [hstep,hb,Bool.false_or] at hrel; exact hrel,hI⟩,by simp [intOf]; omega⟩
 ·have:k=l.length:=by omega
  subst this
  rw [List.drop_length] at hrel
  cases hrel
theorem r6 {t x:T} {cs ds:List Value} (h:RdT S cs t) (g:RdT S ds x) (ht:eA t=true) (hx:eA x=true):Pure Tryz.prog wQ [.agg cs.toArray,.agg ds.toArray] S (.int .i64 (dQ t x)):=by
 intro w hI
 have hl4:=h.length
 have hl4':=g.length
 refine pD ?_
 unfold kU
 refine bO hI fun b1 w' hI=>?_
 refine bO hI fun b2 w' hI=>?_
 have hI:Inv w [] [.blk b1 (.cells cs.toArray ac),.blk b2 (.cells ds.toArray ac)] S w':=hI
 refine ⟨fun t w'=>t=.bool false/\Inv w [] [.blk b1 (.cells cs.toArray ac),.blk b2 (.cells ds.toArray ac)] S w',?_,?_⟩
 ·refine bb hI 0 al rfl (by simpa using hl4) ?_
  refine Run.callPure gx gw hI (fH h) fun w' hI=>?_
  rw [ht]
  refine cc ?_
  repeat (first|refine ad ?_|refine af (by decide) ?_|refine ab ?_|refine ai ?_|refine ah ?_)
  refine bb hI 1 al rfl (by simpa using hl4') ?_
  refine Run.callPure gx gw hI (fH g) fun w' hI=>?_
  rw [hx]
  refine cc ?_
  repeat (first|refine ad ?_|refine af (by decide) ?_|refine ab ?_|refine ai ?_|refine ah ?_)
  exact ⟨rfl,hI⟩
 intro t12 _ _ _ _ _ _ _ w'
 rintro ⟨rfl,hI⟩
 refine ba (fun hb=>by cases hb) (fun _=>?_)
 refine bb hI 0 al rfl (by simpa using hl4) ?_
 refine bb hI 1 al rfl (by simpa using hl4') ?_
 refine Run.callPure jP jE hI (lT _ _ S _ _ h g (Dw ht) (Dw hx)) fun w' hI=>?_
 exact done hI rfl
theorem qs {t:T} {cs:List Value} (h:RdT S cs t) (hp:ef t=true):Pure Tryz.prog gj [.agg cs.toArray] S (.bool false):=by
 intro w hI
 have hl4:=h.length
 refine nV ?_
 unfold km
 refine bO hI fun b1 w' hI=>?_
 refine bb hI 0 al rfl (by simpa [Value.cells] using hl4) ?_
 refine Run.callPure jz jF hI (iO h) fun w' hI=>?_
 rw [hp]
 refine cc ?_
 repeat (first|refine ad ?_|refine af (by decide) ?_|refine ab ?_|refine ai ?_|refine ah ?_)
 exact done hI rfl
theorem I7 {p:List C} (h:ei p=true) {c:C} (hc:c∈p) {g:T} (hg:g∈c.body):ef g=true:=by
 rw [ei,Bool.and_eq_true,List.all_eq_true] at h
 have:=h.2 c hc
 rw [gv] at this
 simp only [Bool.and_eq_true,List.all_eq_true] at this
 have:=this.2.2.1 g hg
 rw [ew,Bool.and_eq_true] at this
 exact this.2
theorem qw {c:C} {cs:List Value} {b3:Nat} {E:TypeId} (h:RdC S cs c) (hp:∀ g∈c.body,ef g=true) (hb:S b3=some (.cells #[.func (.func gj) #[] #[]] E)) :
  Pure Tryz.prog kY [.agg cs.toArray,.pointer (some ⟨b3,0,none⟩)] S (.bool false):=by
 intro w hI
 obtain ⟨hd,kb,rfl,h1,h2⟩:=h
 obtain ⟨kv,rfl,_⟩:=RdT.iff.1 h1
 refine n9 ?_
 unfold kD
 refine bO hI fun b1 w' hI=>?_
 have hI:Inv w [] [.blk b1 (.cells #[.int .i64 c.head.kind,.int .i64 c.head.n,.string c.head.name,kv,kb] aR)] S w':=hI
 refine aJ hI 0 rfl bp aQ rfl ?_
 refine dM (by kernel_rfl) (by rw [hI.cellS hb]; rfl) ?_
 have hcb:Cb Tryz.prog gj _ [] S (fun _:Unit=>[]) (fun _=>True) (fun _ _=>(false,())) (fun v x=>∃ cs,v=.agg cs.toArray/\RdT S cs x) c.body:=
  Cb.pure [] rG r7 fun x v hx=>by
   rintro ⟨cs,rfl,hcs⟩ w1 hI
   exact (qs hcs (hp x hx) w1 hI).mono fun e w' ⟨he,hI⟩=>⟨_,_,_,he,hI,Ext.refl _ _ _,rfl,rfl,rfl⟩
 refine Run.call0 dk dq hI (dG hcb h2 (st:=()) trivial) fun v' I' S' w'=>?_
 rintro ⟨rfl,rfl,rfl⟩ _ hI
 refine done hI ?_
 rw [eK (fun _=>false) c.body]
 simp
theorem uS {p:List C} {u:Value} (h:RdSl S 5 (RdC S) u p) (hp:ei p=true):Pure Tryz.prog yV [u] S (.bool true):=by
 intro w hI
 refine qf ?_
 unfold mL
 refine bH hI (z:=.nilFunc) (by kernel_rfl) fun b3 w' hI=>?_
 refine eq hI 0 (n:=1) rfl (by decide +kernel) rfl (by simp [Value.cells]) (by simp [Value.cells,Value.oneCell']) fun w' hI=>?_
 have hI:Inv w [] ([]++[.blk b3 (.cells #[.func (.func gj) #[] #[]] uo)]) S w':=hI
 obtain ⟨S1,hI,hE1,hb3⟩:=hI.pub1
 have h:=h.monoC hE1.1
 refine Run.callPure lK ll hI (ju h) fun w' hI=>?_
 have hv:nq p=true:=by
  rw [ei,Bool.and_eq_true] at hp
  exact hp.1
 rw [hv]
 repeat (first|refine ad ?_|refine af (by decide) ?_|refine ab ?_|refine ai ?_|refine ah ?_)
 refine g7 ?_
 have hcb:Cb Tryz.prog kY _ [.pointer (some ⟨b3,0,none⟩)] S1 (fun _:Unit=>[]) (fun _=>True) (fun _ _=>(false,())) (fun v x=>∃ cs,v=.agg cs.toArray/\RdC S1 cs x) p:=
  Cb.pure [] ss sy fun x v hx=>by
   rintro ⟨cs,rfl,hcs⟩ w1 hI
   exact (qw hcs (fun g hg=>I7 hp hx hg) hb3 w1 hI).mono fun e w' ⟨he,hI⟩=>⟨_,_,_,he,hI,Ext.refl _ _ _,rfl,rfl,rfl⟩
 refine Run.call0 fp fo hI (fY hcb h (st:=()) trivial) fun v' I' S' w'=>?_
 rintro ⟨rfl,rfl,rfl⟩ _ hI
 refine cc ?_
 rw [eK (fun _=>false) p]
 rw [show (p.any fun _=>false)=false from by simp]
 repeat (first|refine ad ?_|refine af (by decide) ?_|refine ab ?_|refine ai ?_|refine ah ?_)
 exact gQ hI hE1.1 rfl
end
end Go.Proofs.YtemmhhdnlbmicaaGreat

/- Rounds of facts in plain Lean: they grow, end, are closed and least. -/
namespace Go.Proofs.YtemmhhdnlbmicaaGreat
open Go Go.RowKit
theorem Br (p:List C) (f:List T) {y:T} (h:y∈f):y∈eH p f:=vU _ _ _ h
theorem L5 {p:List C} {f:List T} (hl:(eH p f).length<=60) {y:T} (h:y∈fS p f):y∈eH p f:=by
 rcases H4 (fS p f) f y h with h1|h1
 ·have h1:60<(eH p f).length:=h1
  omega
 ·exact h1
theorem L6 {p:List C} {f:List T} {y:T} (h:y∈eH p f):y∈f ∨ y∈fS p f:=tZ _ _ _ h
theorem DJ (p:List C) (f:List T):f.length<=(eH p f).length:=(o3 (fS p f) f).1
theorem Lj (p:List C):∀ (k:Nat) (f:List T) (n:Nat) (y:T),y∈f->y∈(stS p k f n).1
 | 0,f,n,y,h=>h
 | k+1,f,n,y,h=>by
  rw [stS]
  split
  ·exact h
  ·exact Lj p k _ _ y (Br p f h)
theorem Gs (p:List C):∀ (k:Nat) (f:List T) (n:Nat) (y:T),y∈(stS p k f n).1->y∈(stS p (k+1) f n).1
 | 0,f,n,y,h=>Lj p 1 f n y h
 | k+1,f,n,y,h=>by
  rw [stS] at h ⊢
  split at h
  ·rename_i hc
   rw [if_pos hc]
   exact h
  ·rename_i hc
   rw [if_neg hc]
   exact Gs p k _ _ y h
theorem K4 (p:List C):∀ (k:Nat) (f:List T) (n:Nat),61<=k+f.length->(stS p k f n).1.length<=60->(eH p (stS p k f n).1).length=(stS p k f n).1.length
 | 0,f,n,h1,h2=>by rw [stS] at h2; simp only [] at h2; omega
 | k+1,f,n,h1,h2=>by
  rw [stS] at h2 ⊢
  split at h2
  ·rename_i hc
   rw [if_pos hc]
   rcases hc with hc|hc
   ·exact hc
   ·simp only [] at h2
    omega
  ·rename_i hc
   rw [if_neg hc]
   have:=DJ p f
   exact K4 p k _ _ (by omega) h2
theorem vY (p:List C):∀ (k:Nat) (f:List T) (n:Nat),n<=(stS p k f n).2/\(stS p k f n).2+f.length<=n+(stS p k f n).1.length
 | 0,f,n=>by rw [stS]; exact ⟨Nat.le_refl _,Nat.le_refl _⟩
 | k+1,f,n=>by
  rw [stS]
  split
  ·exact ⟨Nat.le_refl _,Nat.le_refl _⟩
  ·have h1:=DJ p f
   have h2:=vY p k (eH p f) (n+1)
   omega
theorem D3 (p:List C):∀ (k:Nat) (f:List T) (n j:Nat),j+n=(stS p k f n).2->stS p j f n=stS p k f n
 | 0,f,n,j,h=>by
  rw [stS] at h ⊢
  have:j=0:=by simp only [] at h; omega
  subst this
  rw [stS]
 | k+1,f,n,j,h=>by
  rw [stS] at h ⊢
  split at h
  ·rename_i hc
   rw [if_pos hc]
   have:j=0:=by simp only [] at h; omega
   subst this
   rw [stS]
  ·rename_i hc
   rw [if_neg hc]
   have h2:=(vY p k (eH p f) (n+1)).1
   obtain ⟨i,rfl⟩:∃ i,j=i+1:=⟨j - 1,by omega⟩
   rw [stS,if_neg hc]
   exact D3 p k _ _ i (by omega)
theorem OM (a b:T):a=b ∨ a≠b:=by
 cases h:eqT a b
 ·exact .inr fun e=>by rw [(jJ a b).2 e] at h; cases h
 ·exact .inl ((jJ a b).1 h)
/- sorted lists with the same members are the same -/
theorem qQ:∀ {l:List T} {x:T},x∈l->∃ l':List T,l'.length+1=l.length/\∀ y,y∈l->y=x ∨ y∈l'
 | [],x,h=>by cases h
 | z::l,x,h=>by
  rcases OM z x with e|e
  ·exact ⟨l,rfl,fun y hy=>by rcases List.mem_cons.1 hy with rfl|hy; exact .inl e; exact .inr hy⟩
  ·rcases List.mem_cons.1 h with rfl|h
   ·exact absurd rfl e
   ·obtain ⟨l',h1,h2⟩:=qQ h
    refine ⟨z::l',by simp [h1],fun y hy=>?_⟩
    rcases List.mem_cons.1 hy with rfl|hy
    ·exact .inr (List.mem_cons_self ..)
    ·exact (h2 y hy).imp_right fun h=>List.mem_cons_of_mem _ h
theorem rx:∀ {l m:List T},l.Nodup->(∀ x∈l,x∈m)->l.length<=m.length
 | [],_,_,_=>Nat.zero_le _
 | x::l,m,h,hs=>by
  rw [List.nodup_cons] at h
  obtain ⟨m',h1,h2⟩:=qQ (hs x (List.mem_cons_self ..))
  have h3:=rx (l:=l) (m:=m') h.2 fun y hy=>by
   rcases h2 y (hs y (List.mem_cons_of_mem _ hy)) with e|h4
   ·rw [e] at hy; exact absurd hy h.1
   ·exact h4
  rw [List.length_cons]
  omega
theorem Jg {a b:List T} (ha:a.Nodup) (h:∀ x∈a,x∈b) (hl:b.length=a.length) {y:T} (hy:y∈b):y∈a:=by
 refine Classical.byContradiction fun hn=>?_
 have:=rx (l:=y::a) (m:=b) (List.nodup_cons.2 ⟨hn,ha⟩) fun x hx=>by
  rcases List.mem_cons.1 hx with rfl|hx
  ·exact hy
  ·exact h x hx
 rw [List.length_cons] at this
 omega
theorem KN {p:List C} {m:List T} (hm:Fs m) (hl:m.length<=60) (hfix:(eH p m).length=m.length) {y:T} (hy:y∈fS p m):y∈m:=
 Jg hm.sorted.nodup (fun x hx=>Br p m hx) hfix (L5 (by omega) hy)
/- facts have plain names -/
theorem KR (h:T) (st:bq):ef (qM h st)=ef h:=by
 cases h
 simp only [ef,qM,T.kind,T.name,T.kids,List.length_map]
 rfl
theorem zU {hd:T} {facts:List T}:∀ (gs:List T) (st:bq) (y:T),y∈fc hd facts gs st->ef y=ef hd
 | [],st,y,h=>by
  rw [fc,List.mem_singleton] at h
  rw [h,KR]
 | g::gs,st,y,h=>by
  rw [fc,List.mem_flatMap] at h
  obtain ⟨f,_,h⟩:=h
  split at h
  ·exact zU gs _ y h
  ·cases h
theorem I6 {p:List C} (h:ei p=true):∀ c∈p,ef c.head=true:=by
 intro c hc
 rw [ei,Bool.and_eq_true,List.all_eq_true] at h
 have:=h.2 c hc
 rw [gv,Bool.and_eq_true,ew,Bool.and_eq_true] at this
 exact this.1.2
theorem DE {p:List C} (hp:ei p=true):∀ (k:Nat) (f:List T) (n:Nat),(∀ y∈f,ef y=true)->∀ y∈(stS p k f n).1,ef y=true
 | 0,f,n,hf,y,h=>hf y h
 | k+1,f,n,hf,y,h=>by
  rw [stS] at h
  split at h
  ·exact hf y h
  ·refine DE hp k _ _ (fun x hx=>?_) y h
   rcases L6 hx with hx|hx
   ·exact hf x hx
   ·rw [fS,List.mem_flatMap] at hx
    obtain ⟨c,hc,hx⟩:=hx
    rw [zU _ _ _ hx]
    exact I6 hp c hc
theorem JG {y:T} (h:Ge y) (d:Int) (hd:1<=d):eO y d=true:=by
 obtain ⟨h1,h2,_⟩:=h
 obtain ⟨k,n,s,ks⟩:=y
 simp only [T.kids] at h2
 subst h2
 rw [eO,if_neg (by omega),h1,eF]
 rfl
theorem xN (d:Int) (hd:1<=d):∀ ks:List T,(∀ y∈ks,Ge y)->eF ks d=true
 | [],_=>rfl
 | y::ks,h=>by
  rw [eF,JG (h y (List.mem_cons_self ..)) d hd,xN d hd ks fun z hz=>h z (List.mem_cons_of_mem _ hz)]
  rfl
theorem Dq:∀ ks:List T,(∀ y∈ks,Ge y)->eh ks=ks.length
 | [],_=>rfl
 | y::ks,h=>by
  rw [eh,Dq ks fun z hz=>h z (List.mem_cons_of_mem _ hz)]
  obtain ⟨_,h2,_⟩:=h y (List.mem_cons_self ..)
  obtain ⟨k,n,s,l⟩:=y
  simp only [T.kids] at h2
  subst h2
  rw [eV,eh,List.length_cons]
  omega
theorem Fct.valid {x:T} (h:Fct x):eA x=true:=by
 obtain ⟨hk,ho,hy⟩:=h
 have hlen:=(vj ho).2
 obtain ⟨k,n,s,ks⟩:=x
 simp only [T.kids] at hy hlen
 rw [eA,eO,if_neg (by omega),ho,xN (30 - 1) (by omega) ks hy,eV,Dq ks hy,decide_eq_true (by omega)]
 rfl
theorem Fct.fact {x:T} (h:Fct x) (hp:ef x=true):rA x=true:=by
 have hv:=h.valid
 have hg:Gl x:=⟨h.1,h.2.1,fun y hy=>⟨(h.2.2 y hy).1,(h.2.2 y hy).2.1⟩⟩
 have hvars:(gq x []).length=0:=by
  cases e:gq x [] with
  | nil=>rfl
  | cons a l=>
   have:a∈gq x []:=by rw [e]; exact List.mem_cons_self ..
   rcases (u5 hg [] a).1 this with h1|⟨z,hz,hk,_⟩
   ·cases h1
   ·exact absurd hk (h.2.2 z hz).2.2
 rw [rA,hv,ew,hp,hvars]
 simp only [Bool.true_and,Bool.and_true,decide_true,List.all_eq_true]
 intro y hy
 rw [iJ,(h.2.2 y hy).2.1]
 rfl
/- the least model -/
abbrev jj (p:List C):List T:=(stS p 61 [] 0).1
theorem Bv {p:List C} (h:ei p=true):Fs (jj p):=(EQ (mj h) 61 [] 0 Fs.nil (by simp)).1
theorem Cp {p:List C} (h:ei p=true) (hl:(jj p).length<=60) {y:T} (hy:y∈fS p (jj p)):y∈jj p:=
 KN (Bv h) hl (K4 p 61 [] 0 (by simp) hl) hy
theorem Gt {p:List C} (h:ei p=true) (hl:(jj p).length<=60):sm p (jj p)=true:=by
 have hF:=Bv h
 have hP:=DE h 61 [] 0 (by simp)
 rw [sm,h,sj,decide_eq_true hl]
 simp only [Bool.true_and,Bool.and_true,Bool.and_eq_true,List.all_eq_true]
 refine ⟨fun x hx=>(hF.fct x hx).fact (hP x hx),fun c hc=>?_⟩
 rw [lx,List.all_eq_true]
 intro y hy
 rw [HC]
 refine Cp h hl ?_
 rw [fS,List.mem_flatMap]
 exact ⟨c,hc,hy⟩
theorem mA {p:List C} {r:Int} (h:(bt p r).2=true):ei p=true/\0<=r/\(stS p (fy r) [] 0).1.length<=60/\(bt p r).1=(stS p (fy r) [] 0).1:=by
 unfold bt at h ⊢
 split at h
 ·rename_i h1
  rw [if_pos h1]
  rw [Bool.and_eq_true] at h1
  split at h
  ·rename_i h2
   rw [if_pos h2]
   refine ⟨h1.1,?_,h2,rfl⟩
   have:=h1.2
   simp at this
   omega
  ·cases h
 ·cases h
theorem KS {p:List C} {r:Int} (h:(bt p r).2=true) (h':(bt p (r+1)).2=true):(∀ y∈(bt p r).1,y∈(bt p (r+1)).1)/\(0<r ∨ (bt p r).1.length=0):=by
 obtain ⟨_,h0,_,e⟩:=mA h
 obtain ⟨_,_,_,e'⟩:=mA h'
 rw [e,e']
 constructor
 ·intro y hy
  by_cases hr:60<r
  ·rw [fy,if_pos (by omega)]
   rw [fy,if_pos hr] at hy
   exact hy
  ·have:fy (r+1)=fy r+1:=by
    rw [fy,fy,if_neg hr]
    split <;> omega
   rw [this]
   exact Gs p _ _ _ y hy
 ·by_cases hr:0<r
  ·exact .inl hr
  ·right
   have:r=0:=by omega
   subst this
   rfl
theorem Iw {p:List C} (h:(bt p 0).2=true):(bt p 0).1.length=0:=by
 rw [(mA h).2.2.2]; rfl
theorem Fx {p:List C}:(0<=er p↔(bt p 61).2=true)/\((bt p 61).2=true->ei p=true):=by
 refine ⟨?_,fun h=>(mA h).1⟩
 have hs:bt p 61=if ei p=true then (if (jj p).length<=60 then (jj p,true) else ([],false)) else ([],false):=by
  unfold bt
  simp only [show decide ((61:Int)<0)=false from rfl,Bool.not_false,Bool.and_true]
  rfl
 rw [hs,er]
 split
 ·split
  ·exact ⟨fun _=>rfl,fun _=>by omega⟩
  ·exact ⟨fun h=>by omega,fun h=>by cases h⟩
 ·exact ⟨fun h=>by omega,fun h=>by cases h⟩
/- what a law about the least model asks -/
theorem KT {p:List C} (h:(bt p 61).2=true):Fs (bt p 61).1/\sm p (bt p 61).1=true/\0<=er p/\er p<=(bt p 61).1.length/\(bt p (er p)).2=true/\(bt p (er p)).1=(bt p 61).1/\(bt p 61).1.length<=60:=by
 obtain ⟨hf,_,hl,e⟩:=mA h
 have hl:(jj p).length<=60:=hl
 have e:(bt p 61).1=jj p:=e
 have hr:er p=((stS p 61 [] 0).2:Int):=by
  rw [er,if_pos hf,if_pos hl]
 have hc:=(vY p 61 [] 0).2
 simp only [List.length_nil,Nat.add_zero,Nat.zero_add] at hc
 have hc:(stS p 61 [] 0).2<=(jj p).length:=hc
 have hst:stS p (fy (er p)) [] 0=stS p 61 [] 0:=by
  rw [hr,fy,if_neg (by omega),Int.toNat_natCast]
  exact D3 p 61 [] 0 _ (by simp)
 have hsr:bt p (er p)=(jj p,true):=by
  unfold bt
  rw [hst,hf,hr,decide_eq_false (by omega),Bool.not_false,Bool.and_true,if_pos rfl,if_pos hl]
 refine ⟨by rw [e]; exact Bv hf,by rw [e]; exact Gt hf hl,by rw [hr]; omega,by rw [hr,e]; omega,by rw [hsr],by rw [hsr,e],by rw [e]; exact hl⟩
/- a fact that holds adds nothing -/
end Go.Proofs.YtemmhhdnlbmicaaGreat

/- Steps that the laws' walks share: copies lent and marked, results compared, marked and read again. -/
namespace Go.Proofs.YtemmhhdnlbmicaaGreat
open Go Go.RowKit
section
variable {w w0:World} {X:List Nat} {L A:List Item} {S:aF} {K:Value->World->Prop}
attribute [local irreducible] Run CondV ag be
/- copies that will be marked: their blocks are known -/
/- they are marked, and nobody looks at them again -/
/- rows of predicates -/
end

end Go.Proofs.YtemmhhdnlbmicaaGreat

/- Steps that the laws' walks share: results that are trees. -/
namespace Go.Proofs.YtemmhhdnlbmicaaGreat
open Go Go.RowKit
section
variable {w w0:World} {X:List Nat} {L A:List Item} {S:aF} {K:Value->World->Prop}
attribute [local irreducible] Run CondV ag be
end

end Go.Proofs.YtemmhhdnlbmicaaGreat

/- FnExactStageModel returns true, whatever program and number of rounds come in. -/
namespace Go.Proofs.YtemmhhdnlbmicaaGreat
open Go Go.RowKit
section
variable {w w0:World} {X:List Nat} {L:List Item} {S:aF} {K:Value->World->Prop}
attribute [local irreducible] Run CondV ag be
theorem Run.pubTreeB {f:FuncId} {fn:Func} {args:List Value} {ys:List T} {b:Bool} (hf:Tryz.prog.funcs[f]?=some fn) (hn:(fn.name == "runtime.NumGoroutine" || fn.body.isNone)=false) (hI:Inv w0 X L S w)
  (hc:Tri Tryz.prog f args [] S (vO ys b)) (hk:∀ u S' w',Sle S S'->RdSl S' 4 (RdT S') u ys->Inv w0 X L S' w'->K (.tuple #[u,.bool b]) w'):Run Tryz.prog (aG (.func (.func f) #[] #[]) args) w K:=by
 refine Run.call0 hf hn hI hc fun v' I' S' w'=>?_
 rintro ⟨u,M,rfl,rfl,hT⟩ hle hI
 obtain ⟨S1,hle1,hins,hI,_⟩:=Inv.lendAll M hI
 exact hk _ _ _ (hle.trans hle1) (hT.rd hins fun _ _ _ hi h=>h.rd hi) hI
end
section
attribute [local irreducible] Run CondV ag be
end

end Go.Proofs.YtemmhhdnlbmicaaGreat
