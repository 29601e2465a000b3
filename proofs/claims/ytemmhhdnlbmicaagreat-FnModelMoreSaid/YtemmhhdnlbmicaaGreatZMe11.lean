/- impl: rounds and stages. -/
import Derived.Test.YtemmhhdnlbmicaaGreatZMe10
import Derived.Test.YtemmhhdnlbmicaaGreatZMe6
import Derived.Test.YtemmhhdnlbmicaaGreatZMe1
import Derived.Test.YtemmhhdnlbmicaaGreatZMe8
import Derived.Test.YtemmhhdnlbmicaaGreatZMe3
import Derived.Test.YtemmhhdnlbmicaaGreatZMe7
import Derived.Test.YtemmhhdnlbmicaaGreatZMe2
namespace Go.Proofs.YtemmhhdnlbmicaaGreat
open Go Go.RowKit
theorem r8 {p:List C} (h:eI p=true):Pf p:=by
 have h0:=h
 rw [eI,Bool.and_eq_true,List.all_eq_true] at h
 have h1:=h.1
 rw [lo] at h1
 simp only [Bool.and_eq_true,decide_eq_true_eq] at h1
 refine ⟨h1.1,Fy h0,fun c hc=>?_⟩
 have h2:=h.2 c hc
 rw [gl] at h2
 simp only [Bool.and_eq_true,decide_eq_true_eq] at h2
 exact h2.2.1
def lenV:Value->Nat
 | .slice _ n _=>n
 | _=>0
theorem RdSl.lenV {α:Type} {S:aF} {k:Nat} {R:List Value->α->Prop} {v:Value} {xs:List α} (h:RdSl S k R v xs):lenV v=xs.length:=by
 obtain ⟨a,cap,rfl,_⟩:=h
 rfl
abbrev uW (ys:List T) (b:Bool):Value->List Item->aF->Prop:=fun r I' _=>∃ u L,r=.tuple #[u,.bool b]/\I'=bO L/\TrSl 4 TrT L u ys
theorem JK {w:World} {v:Value} {e:TypeId} {k n:Nat} {xs:List Value} (h:(Item.row v e k n xs).holds w):∃ a cap,v=.slice a n cap:=by
 have h:w.ownsRow 0 e k v n xs:=h
 rcases h.2 with ⟨rfl,rfl⟩|⟨g,cap,cur,rfl,_⟩ <;> exact ⟨_,_,rfl⟩
section
attribute [local irreducible] Run CondV ah be
theorem Aj {p:List C} {f:List T} {S:aF} {v u:Value} (h:RdSl S 5 (RdC S) v p) (hq:RdSl S 4 (RdT S) u f) (hp:Pf p) (hf:Fs f) (hl:f.length<=60) :
  Tri Tryz.prog JL [v,u] [] S fun r I' S'=>I'=[]/\∃ x,r=.tuple #[x,.bool (decide ((gw p f).length<=60))]/\RdSl S' 4 (RdT S') x (gw p f):=by
 intro w hI
 have hlen:=hp.len
 have hI:Inv w [] [] S w:=hI
 refine Bu ?_
 unfold zX
 refine Run.call0 wI xI hI (uT hq (by omega)) fun x0 I' S' w'=>?_
 rintro ⟨eS,css,rfl,hR⟩ _ hI
 rw [eS] at hI
 clear eS
 have hz:iL Tryz.prog ce=some (.slice none 0 0):=by kernel_rfl
 refine bH hI hz fun b6 w' hI=>?_
 have hI:=hI.perm (M:=.blk b6 _::[bh x0 ab 4 css]) (List.perm_append_comm (l₁:=[_]))
 have hx0:=B6 (hI.its (bh x0 ab 4 css) (by simp))
 refine fg hI 0 (n:=1) (by rw [hx0.1]; rfl) (by decide +kernel) rfl (by simp [Value.cells]) (by rw [hx0.1]; intro u hu; simp at hu; subst hu; exact hx0.2) fun w' hI=>?_
 have e:bu (Value.slice none 0 0).cells 0 x0.cells.toList=#[x0]:=by rw [hx0.1]; rfl
 rw [e] at hI
 have hI:Inv w [] [.blk b6 (.cells #[x0] ce),bh x0 ab 4 css] S w':=hI
 refine a9 h dt ?_
 refine ⟨fun i w'=>∃ (j:Nat) (S':aF) (I':List Item),j<=p.length/\i=.int .i64 j/\Ext w.heap.size [] S S'/\ItR b6 ((d4 (p.take j) f).foldl eP f) S' I'/\Inv w [] I' S' w',
  fun i _=>p.length - (intOf i).toNat,⟨0,S,_,Nat.zero_le _,rfl,Ext.refl _ _ _,⟨hf,x0,css,rfl,hR⟩,hI⟩,?_⟩
 intro t13 _ _ _ _ _ _ _ _ _ _ w'
 rintro ⟨j,S',I',hj,rfl,hE,hIt,hI⟩
 refine bW ?_
 refine bl (fun hji=>?_) (fun hji=>?_)
 ·have hj':j<p.length:=by omega
  obtain ⟨hp1,hp2,hp3⟩:=hp.parts _ (List.getElem_mem hj')
  have h3:=hp.three _ (List.getElem_mem hj')
  refine dZ hI (h.monoC hE.1) dt bM hj' (fun _ _=>RdC.length) fun cs hcs=>?_
  have hlc:=hcs.length
  refine bH hI fh fun b7 w' hI=>?_
  have hI:=hI.perm (M:=.blk b7 _::I') (List.perm_append_comm (l₁:=[_]))
  refine bg hI 0 rfl bM (by simpa using hlc) rfl (by simpa using hcs.one) fun w' hI=>?_
  refine bb hI 0 bM rfl (by simpa using hlc) ?_
  have hI:Inv w [] I' S' w':=hI.sub (List.sublist_cons_self _ _)
  refine JA hI fun mb w' hI=>?_
  obtain ⟨S2,hI,hE2,hmb⟩:=hI.pub1
  refine mq ?_
  have hI:Inv w [] ([]++I') S2 w':=hI
  have hle:=hE.1.trans hE2.1
  have hb1:=Cd hp hl j (by omega)
  have hb2:=F2 h3 hl
  have hb3:=nn (d4 (p.take j) f) f
  have hIt2:=(Ma (b:=b6) (S0:=S2)).up _ _ _ _ hE2.1 hIt
  refine Run.callE (A:=[]) sM sG hI (A8 p[j] f hp1 hf.fct hp2 p[j].body 0 (by simp) rfl S2 cs _ mb 0 #[] _ _ st0 0 (Ma (b:=b6)) (hcs.mono hE2.1) (hq.monoT hle) hmb (KnownM.empty S2) Lh hp3 hIt2 (by unfold LP; omega)) fun v' I3 S3 w'=>?_
  rintro ⟨rfl,hIt3,_⟩ hE3 hI
  refine bN (by omega) ?_
  refine ⟨⟨j+1,S3,I3,hj',rfl,(hE.trans hE2).trans hE3,?_,hI⟩,by simp [intOf]; omega⟩
  rw [qu p f j hj',List.foldl_append]
  exact hIt3
 ·have:j=p.length:=by omega
  subst this
  rw [List.take_length] at hIt
  obtain ⟨hFs,x,css2,rfl,hR2⟩:=hIt
  have hcl:=hR2.hc
  obtain ⟨ax,capx,rfl⟩:=JK (hI.its (bh x ab 4 css2) (by simp))
  refine ⟨fun D x5 x4 bZ bS bV cf w_=>(D 0=true->cf=.slice ax css2.length capx)/\(D 1=true->bV=.slice ax css2.length capx)/\(D 2=true->bS=.int .i64 css2.length)/\(D 3=true->bZ=.bool (decide ((css2.length:Int)<=60)))/\(D 4=true->x4=.slice ax css2.length capx)/\(D 5=true->x5=.bool (decide ((css2.length:Int)<=60)))/\Inv w [] [.blk b6 (.cells #[.slice ax css2.length capx] ce),bh (.slice ax css2.length capx) ab 4 css2] S' w_,⟨ae,ae,ae,ae,ae,ae,hI.draw⟩,⟨?_,?_,?_,?_,?_,?_,trivial⟩,?_⟩
  ·intro D aY  x5 x4 bZ bS bV cf w_
   rintro ⟨aA,aB,aC,az,av,aE,hI⟩
   refine bG hI 0 aR rfl rfl ?_
   exact ⟨fun _=>rfl,aB,aC,az,av,aE,hI⟩
  ·intro D aY  x5 x4 bZ bS bV cf w_
   rintro ⟨aA,aB,aC,az,av,aE,hI⟩
   refine bG hI 0 aR rfl rfl ?_
   exact ⟨aA,fun _=>rfl,aC,az,av,aE,hI⟩
  ·intro D aY dE x5 x4 bZ bS bV cf w_
   rintro ⟨aA,aB,aC,az,av,aE,hI⟩
   obtain rfl:=aB dE
   refine ge ay ?_
   exact ⟨aA,aB,fun _=>rfl,az,av,aE,hI⟩
  ·intro D aY ec x5 x4 bZ bS bV cf w_
   rintro ⟨aA,aB,aC,az,av,aE,hI⟩
   obtain rfl:=aC ec
   refine fX ?_
   exact ⟨aA,aB,aC,fun _=>rfl,av,aE,hI⟩
  ·intro D aY b0 NK x5 x4 bZ bS bV cf w_
   rintro ⟨aA,aB,aC,az,av,aE,hI⟩
   obtain rfl:=aA b0
   exact ⟨aA,aB,aC,az,fun _=>rfl,aE,hI⟩
  ·intro D aY dB dM nY tb s0 qY s5 x5 x4 bZ bS bV cf w_
   rintro ⟨aA,aB,aC,az,av,aE,hI⟩
   obtain rfl:=az dB
   exact ⟨aA,aB,aC,az,av,fun _=>rfl,hI⟩
  intro D fH fC fB fE fM fJ x5 x4 bZ bS bV cf w_
  rintro ⟨aA,aB,aC,az,av,aE,hI⟩
  obtain rfl:=aE fH
  obtain rfl:=av fC
  obtain rfl:=az fB
  obtain rfl:=aC fE
  obtain rfl:=aB fM
  obtain rfl:=aA fJ
  clear aA aB aC az av aE
  have hI:Inv w [] ([.blk b6 (.cells #[.slice ax css2.length capx] ce)]++[bh (.slice ax css2.length capx) ab 4 css2]) S' w_:=hI
  obtain ⟨S3,hE3,hrd,hI⟩:=hI.lendExt
  have hr:=RowRd.rows (hR2.monoR fun _ _ h=>RdT.mono hE3.1 h) hrd
  refine ⟨_,_,_,rfl,hI.nil,hE.trans hE3,rfl,_,?_,hr⟩
  have e1:(gw p f).length=css2.length:=by rw [hcl]; rfl
  have e2:decide ((css2.length:Int)<=60)=decide ((gw p f).length<=60):=by
   rw [e1,Bool.eq_iff_iff,decide_eq_true_eq,decide_eq_true_eq]
   omega
  rw [e2]
theorem xZ {p:List C} {S:aF} {v:Value} (h:RdSl S 5 (RdC S) v p) (hw:wP p<=1048576) (k:Nat) (hk:k<=9223372036854775807) :
  Tri Tryz.prog Hu [v,.int .i64 k] [] S fun r I' S'=>I'=[]/\((eI p=true/\∃ x f n,stI p k [] 0=some (f,n)/\r=.tuple #[x,.int .i64 (n:Nat),.bool true]/\RdSl S' 4 (RdT S') x f) ∨
   ((eI p=false ∨ stI p k [] 0=none)/\r=.tuple #[.slice none 0 0,.int .i64 0,.bool false])):=by
 intro w hI
 have hI:Inv w [] [] S w:=hI
 refine yy ?_
 unfold vi
 refine Run.callPure tG uD hI (qO h hw) fun w' hI=>?_
 refine dh ?_
 refine ba (fun hb=>?_) (fun hb=>?_)
 ·exact ⟨_,_,_,rfl,hI,Ext.refl _ _ _,rfl,.inr ⟨.inl (by simpa using hb),rfl⟩⟩
 have hfl:eI p=true:=by simpa using hb
 have hp:=r8 hfl
 refine ⟨fun t8 t7 w'=>∃ (n:Nat) (f:List T) (S':aF),t8=.int .i64 n/\RdSl S' 4 (RdT S') t7 f/\stI p k [] 0=some (f,n)/\Ext w.heap.size [] S S'/\Inv w [] [] S' w',?_,?_⟩
 ·refine ⟨fun t8 t7 w'=>∃ (n:Nat) (f:List T) (S':aF),t8=.int .i64 n/\n<=k/\RdSl S' 4 (RdT S') t7 f/\Fs f/\f.length<=60/\stI p (k - n) f n=stI p k [] 0/\Ext w.heap.size [] S S'/\Inv w [] [] S' w',
   fun _ t7 _=>61 - lenV t7,⟨0,[],S,rfl,Nat.zero_le _,⟨none,0,rfl,Nat.le_refl _,Nat.zero_le _,.inl rfl⟩,Fs.nil,by simp,rfl,Ext.refl _ _ _,hI⟩,?_⟩
  intro t8 _ _ t7 _ _ _ _ _ _ _ _ _ _ _ _ _ _ _ _ _ _ _ _ _ _ w'
  rintro ⟨n,f,S',rfl,hnk,hq,hF,hl,hst,hE,hI⟩
  refine bW ?_
  refine bl (fun hnk'=>?_) (fun hnk'=>?_)
  ·have hnk2:n<k:=by omega
   rw [show k - n=(k - (n+1))+1 by omega,stI] at hst
   refine Run.call0E Hq HQ hI (Aj (h.monoC hE.1) hq hp hF hl) fun v' I' S2 w'=>?_
   rintro ⟨rfl,x,rfl,hx⟩ hE2 hI
   have hI:Inv w [] [] S2 w':=hI
   have hE3:=hE.trans hE2
   refine bd rfl ?_
   refine bd rfl ?_
   refine dh ?_
   refine ba (fun hb=>?_) (fun hb=>?_)
   ·have hb':¬ (gw p f).length<=60:=by simpa using hb
    rw [if_pos (by omega)] at hst
    exact ⟨_,_,_,rfl,hI,hE3,rfl,.inr ⟨.inr hst.symm,rfl⟩⟩
   ·have hb':(gw p f).length<=60:=by simpa using hb
    rw [if_neg (by omega)] at hst
    refine a9 hx ay ?_
    refine a9 (hq.monoT hE2.1) ay ?_
    refine bR ?_
    refine bl (fun he=>?_) (fun he=>?_)
    ·rw [if_pos (by omega)] at hst
     exact ⟨n,f,S2,rfl,hq.monoT hE2.1,hst.symm,hE3,hI⟩
    ·rw [if_neg (by omega)] at hst
     have hgr:=(nn (d4 p f) f).1
     have hgr:f.length<=(gw p f).length:=hgr
     refine bN (by omega) ?_
     refine ⟨⟨n+1,_,S2,rfl,hnk2,hx,Jy hp hF,hb',hst,hE3,hI⟩,?_⟩
     show 61 - lenV x<61 - lenV t7
     rw [hx.lenV,hq.lenV]
     omega
  ·have:n=k:=by omega
   subst this
   rw [Nat.sub_self,stI] at hst
   exact ⟨n,f,S',rfl,hq,hst.symm,hE,hI⟩
 ·intro t8 _ _ t7 _ _ _ _ _ _ _ _ _ _ _ _ _ _ _ _ _ _ _ _ _ _ w'
  rintro ⟨n,f,S',rfl,hq,hst,hE,hI⟩
  exact ⟨_,_,_,rfl,hI,hE,rfl,.inl ⟨hfl,t7,f,n,hst,rfl,hq⟩⟩
theorem qo {p:List C} {S:aF} {v:Value} (h:RdSl S 5 (RdC S) v p) (hw:wP p<=1048576) (r:Int) (hr:r<=9223372036854775807) :
  Tri Tryz.prog yL [v,.int .i64 r] [] S (uW (bP p r).1 (bP p r).2):=by
 intro w hI
 have hI:Inv w [] [] S w:=hI
 refine qn ?_
 unfold mI
 refine bW ?_
 refine bl (fun hr0=>?_) (fun hr0=>?_)
 ·have e:bP p r=([],false):=by
   rw [bP,decide_eq_true (by omega:r<0),Bool.not_true,Bool.and_false,if_neg (by decide)]
  rw [e]
  exact ⟨_,_,_,rfl,hI,Ext.refl _ _ _,_,[],rfl,rfl,TrSl.nil (Nat.zero_le _)⟩
 have hr0':0<=r:=by omega
 obtain ⟨k,rfl⟩:∃ k:Nat,r=k:=⟨r.toNat,by omega⟩
 refine Run.call0E Gb Eu hI (xZ h hw k (by omega)) fun v' I' S2 w'=>?_
 rintro ⟨rfl,hcase⟩ hE hI
 have hI:Inv w [] [] S2 w':=hI
 have key:∃ x n,v'=.tuple #[x,.int .i64 n,.bool (bP p k).2]/\RdSl S2 4 (RdT S2) x (bP p k).1:=by
  rcases hcase with ⟨hfl,x,f,n,hst,rfl,hx⟩|⟨hno,rfl⟩
  ·rcases Gj p (k:Int) with ⟨h1,h2⟩|⟨h1,h2⟩
   ·rw [Int.toNat_natCast,hst] at h1; cases h1
   ·rw [Int.toNat_natCast,hst,Option.some.injEq] at h1
    have e:bP p k=((stS p (gu k) [] 0).1,true):=by
     rw [bP,hfl,decide_eq_false (by omega),if_pos (by decide),if_pos h2]
    rw [e,<- h1]
    exact ⟨x,n,rfl,hx⟩
  ·have e:bP p k=([],false):=by
    rcases hno with hno|hno
    ·rw [bP,hno,Bool.false_and,if_neg (by decide)]
    ·rcases Gj p (k:Int) with ⟨h1,h2⟩|⟨h1,h2⟩
     ·rw [bP]
      split
      ·rw [if_neg (by omega)]
      ·rfl
     ·rw [Int.toNat_natCast,hno] at h1; cases h1
   rw [e]
   exact ⟨_,0,rfl,none,0,rfl,Nat.le_refl _,Nat.zero_le _,.inl rfl⟩
 obtain ⟨x,n,rfl,hx⟩:=key
 have hsw:=K4 (fun h=>r8 h) (p:=p) (k:Int)
 refine bd rfl ?_
 refine bd rfl ?_
 refine bd rfl ?_
 refine Run.call0E rX rc hI (AC hx (by omega)) fun v' I' S3 w'=>?_
 rintro ⟨rfl,L,rfl,hT⟩ hE2 hI
 have hI:Inv w [] (bO L) S3 w':=hI
 exact ⟨_,_,_,rfl,hI,hE.trans hE2,_,L,rfl,rfl,hT⟩
theorem jt {p:List C} {S:aF} {v:Value} (h:RdSl S 5 (RdC S) v p) (hw:wP p<=1048576) :
  Tri Tryz.prog yI [v] [] S (uW (bP p 61).1 (bP p 61).2):=by
 intro w hI
 have hI:Inv w [] [] S w:=hI
 refine qw ?_
 unfold mt
 refine Run.call0E xo xp hI (qo h hw 61 (by omega)) fun v' I' S2 w'=>?_
 rintro ⟨u,L,rfl,rfl,hT⟩ hE hI
 have hI:Inv w [] (bO L) S2 w':=hI
 refine bd rfl ?_
 refine bd rfl ?_
 exact ⟨_,_,_,rfl,hI,hE,_,L,rfl,rfl,hT⟩
end

end Go.Proofs.YtemmhhdnlbmicaaGreat

/- spec: rounds and stages. -/
namespace Go.Proofs.YtemmhhdnlbmicaaGreat
open Go Go.RowKit
section
attribute [local irreducible] Run CondV ah be
theorem A0 {ts:List T} {S:aF} {v:Value} (h:RdSl S 4 (RdT S) v ts) (hw:ts.length+wL ts<=1048576):Tri Tryz.prog FE [v] [] S (Lg 4 TrT S ts):=by
 intro w hI
 refine xB ?_
 unfold rv
 refine eO hI bK fun v0 w' hI=>?_
 refine ⟨fun i t w'=>∃ (k:Nat) (Ls:List bE) (css:List (List Value)),k<=ts.length/\i=.int .i64 k/\Grown 4 TrT Ls css (ts.take k)/\Inv w [] (bh t ab 4 css::bO Ls.flatten) S w',
  fun i _ _=>ts.length - (intOf i).toNat,⟨0,[],[],Nat.zero_le _,rfl,Grown.nil _ _,hI⟩,?_⟩
 intro t4 _ _ t3 _ _ _ _ _ _ _ _ _ _ _ _ w'
 rintro ⟨k,Ls,css,hk,rfl,hg,hI⟩
 refine a9 h ay ?_
 refine bW ?_
 refine bl (fun hki=>?_) (fun hki=>?_)
 ·have hk':k<ts.length:=by omega
  have htl:(ts.take k).length=k:=by simp; omega
  have hcl:=hg.hc
  refine dZ hI h ay ao hk' (fun _ _=>RdT.length) fun cs hcs=>?_
  have hm:=List.getElem_mem hk'
  have hwm:=jS hm
  refine Run.call0 eZ fc hI (fN _ S cs hcs (by omega)) fun v' I' S' w'=>?_
  rintro ⟨rfl,cs',L,rfl,rfl,hT⟩ _ hI
  refine gt hI 0 cs' bK (by omega) (by omega) rfl hT.length hT.one (by omega) (by omega) fun v' w' hI=>?_
  refine bN (by omega) ?_
  refine ⟨⟨k+1,Ls++[L],css++[cs'],hk',rfl,?_,?_⟩,by simp [intOf]; omega⟩
  ·rw [List.take_succ_eq_append_getElem hk']
   exact hg.snoc hT hT.length
  ·simp only [List.flatten_append,List.flatten_cons,List.flatten_nil,List.append_nil,e9]
   exact hI
 ·have:k=ts.length:=by omega
  subst this
  rw [List.take_length] at hg
  obtain ⟨L,hT,hI⟩:=Inv.rowTree (A:=[]) hI hg
  exact ⟨_,_,_,rfl,hI,Ext.refl _ _ _,rfl,_,rfl,hT⟩
theorem yj {p:List C} {f:List T} {S:aF} {v u:Value} (h:RdSl S 5 (RdC S) v p) (hq:RdSl S 4 (RdT S) u f) (hp:Pf p) (hf:Fs f) (hl:f.length<=61) :
  Tri Tryz.prog DB [v,u] [] S (Kr (eD p f)):=by
 intro w hI
 have hlen:=hp.len
 have hI:Inv w [] [] S w:=hI
 refine tT ?_
 unfold pA
 refine ⟨fun i t w'=>∃ (j:Nat) (S':aF),j<=p.length/\i=.int .i64 j/\Ext w.heap.size [] S S'/\RdSl S' 4 (RdT S') t ((d4 (p.take j) f).foldl g5 f)/\Inv w [] [] S' w',
  fun i _ _=>p.length - (intOf i).toNat,⟨0,S,Nat.zero_le _,rfl,Ext.refl _ _ _,hq,hI⟩,?_⟩
 intro t6 _ _ t5 t21 t20 t19 t18 t17 t16 t15 t14 _ _ _ _ w'
 rintro ⟨j,S',hj,rfl,hE,hout,hI⟩
 have h':=h.monoC hE.1
 have hq':=hq.monoT hE.1
 refine a9 h' dt ?_
 refine bW ?_
 refine bl (fun hji=>?_) (fun hji=>?_)
 ·have hj':j<p.length:=by omega
  obtain ⟨hp1,hp2,hp3⟩:=hp.parts _ (List.getElem_mem hj')
  obtain ⟨out,ho⟩:∃ out,out=(d4 (p.take j) f).foldl g5 f:=⟨_,rfl⟩
  obtain ⟨l,hle⟩:∃ l,l=(d4 (p.take (j+1)) f).foldl g5 f:=⟨_,rfl⟩
  have hbl:iQ p[j].head f p[j].body out st0=l:=by
   rw [hle,qu p f j hj',List.foldl_append,<- ho,uM]
  have hFo:=uR (hp.take j) hf
  have hlo:=qa (p.take j) f hl
  have ho':out=eD (p.take j) f:=ho
  rw [<- ho'] at hFo hlo
  rw [<- ho] at hout
  obtain ⟨b,o,cap,c,E,fz,rfl,hS,hR⟩:=h'.at_ hj'
  refine ⟨fun D x5 cC cc bY du dw dF eH fp w_=>(D 0=true->fp=t5)/\(D 1=true->eH=.slice (some ⟨b,o,none⟩) p.length cap)/\(D 2=true->dF=.int .i64 j)/\(D 3=true->dw=.pointer (some ⟨b,o+j * 5,none⟩))/\(D 4=true->du=.agg (bw c (o+j * 5) 5).toArray)/\(D 5=true->bY=u)/\(D 6=true->True)/\(D 7=true->True)/\(D 8=true->True)/\∃ SN,Ext w.heap.size [] S' SN/\(D 8=true->D 0=true)/\(D 8=false->x5=t5)/\(D 6=true->IsKn SN cc st0)/\(D 7=true->RdSl SN 4 (RdT SN) cC l)/\(D 8=true->RdSl SN 4 (RdT SN) x5 l)/\Inv w [] [] SN w_,⟨ae,ae,ae,ae,ae,ae,ae,ae,ae,⟨S',Ext.refl _ _ _,ae,fun _=>rfl,ae,ae,ae,hI.draw⟩⟩,⟨?_,?_,?_,?_,?_,?_,?_,?_,?_,trivial⟩,?_⟩
  ·intro D aY  x5 cC cc bY du dw dF eH fp w_
   rintro ⟨aA,aB,aC,az,av,aE,aD,aH,aK,⟨SN,hN,k8,e5,e6,e7,e8,hI⟩⟩
   have hx5:x5=t5:=e5 (by cases h:D 8 with|false=>rfl|true=>have:=k8 h; rw [this] at aY; exact aY)
   have k8:=fun (_:aw D 0 8=true)=>(rfl:aw D 0 0=true)
   exact ⟨fun _=>by first|assumption|trivial,aB,aC,az,av,aE,aD,aH,aK,⟨SN,hN,k8,e5,e6,e7,e8,hI⟩⟩
  ·intro D aY  x5 cC cc bY du dw dF eH fp w_
   rintro ⟨aA,aB,aC,az,av,aE,aD,aH,aK,⟨SN,hN,k8,e5,e6,e7,e8,hI⟩⟩
   exact ⟨aA,fun _=>rfl,aC,az,av,aE,aD,aH,aK,⟨SN,hN,k8,e5,e6,e7,e8,hI⟩⟩
  ·intro D aY  x5 cC cc bY du dw dF eH fp w_
   rintro ⟨aA,aB,aC,az,av,aE,aD,aH,aK,⟨SN,hN,k8,e5,e6,e7,e8,hI⟩⟩
   exact ⟨aA,aB,fun _=>rfl,az,av,aE,aD,aH,aK,⟨SN,hN,k8,e5,e6,e7,e8,hI⟩⟩
  ·intro D aY dE gK x5 cC cc bY du dw dF eH fp w_
   rintro ⟨aA,aB,aC,az,av,aE,aD,aH,aK,⟨SN,hN,k8,e5,e6,e7,e8,hI⟩⟩
   obtain rfl:=aB dE
   obtain rfl:=aC gK
   refine bk dt hj' ?_
   exact ⟨aA,aB,aC,fun _=>rfl,av,aE,aD,aH,aK,⟨SN,hN,k8,e5,e6,e7,e8,hI⟩⟩
  ·intro D aY dB x5 cC cc bY du dw dF eH fp w_
   rintro ⟨aA,aB,aC,az,av,aE,aD,aH,aK,⟨SN,hN,k8,e5,e6,e7,e8,hI⟩⟩
   obtain rfl:=az dB
   refine cU bM hR.length (fun j v hj=>by rw [hI.cellS (hN.1 _ _ hS)]; exact bn rfl j v hj) ?_
   exact ⟨aA,aB,aC,az,fun _=>rfl,aE,aD,aH,aK,⟨SN,hN,k8,e5,e6,e7,e8,hI⟩⟩
  ·intro D aY  x5 cC cc bY du dw dF eH fp w_
   rintro ⟨aA,aB,aC,az,av,aE,aD,aH,aK,⟨SN,hN,k8,e5,e6,e7,e8,hI⟩⟩
   exact ⟨aA,aB,aC,az,av,fun _=>rfl,aD,aH,aK,⟨SN,hN,k8,e5,e6,e7,e8,hI⟩⟩
  ·intro D aY  x5 cC cc bY du dw dF eH fp w_
   rintro ⟨aA,aB,aC,az,av,aE,aD,aH,aK,⟨SN,hN,k8,e5,e6,e7,e8,hI⟩⟩
   refine Dy (n:=26) hI bK (by omega) (by omega) (by omega) fun kb w_ hI=>?_
   have hkc0:=L5 _ rfl SN
   obtain ⟨kc,hkce⟩:∃ kc,kc=(Array.range 104).map ((#[.int .i64 0,.int .i64 0,.string ⟨#[]⟩,.slice none 0 0]:Array Value)[· % (#[.int .i64 0,.int .i64 0,.string ⟨#[]⟩,.slice none 0 0]:Array Value).size]!):=⟨_,rfl⟩
   rw [<- hkce] at hkc0
   have hI:Inv w [] ([]++bO [(kb,.cells kc ab)]) SN w_:=by rw [hkce]; exact hI
   obtain ⟨SN,hI,hE2,hins⟩:=hI.pubExt
   have e7:=fun (e:aw D 6 7=true)=>(e7 e).monoT hE2.1
   have e8:=fun (e:aw D 6 8=true)=>(e8 e).monoT hE2.1
   have hN:=hN.trans hE2
   have e6:=fun (_:aw D 6 6=true)=>(⟨kb,26,kc,rfl,Nat.le_refl _,by simp [maxLen],hins _ (List.mem_singleton.2 rfl),hkc0.mono hE2.1⟩:IsKn SN (kvn kb 26) st0)
   exact ⟨aA,aB,aC,az,av,aE,fun _=>by first|assumption|trivial,aH,aK,⟨SN,hN,k8,e5,e6,e7,e8,hI⟩⟩
  ·intro D aY b0 dM JH Gv x5 cC cc bY du dw dF eH fp w_
   rintro ⟨aA,aB,aC,az,av,aE,aD,aH,aK,⟨SN,hN,k8,e5,e6,e7,e8,hI⟩⟩
   have Nx:=aA b0
   obtain rfl:=av dM
   obtain rfl:=aE JH
   have L4:=aD Gv
   refine Run.call0E s6 tp hI (Bq p[j] f hp1 hf.fct hp2 p[j].body 0 (by simp) rfl SN _ _ _ _ out st0 (hR.mono hN.1) (by rw [Nx]; exact hout.monoT hN.1) (hq'.monoT hN.1) (e6 Gv) Lh hp3 hFo.okO (by omega)) fun v' I' SN w_=>?_
   rw [hbl]
   rintro ⟨rfl,hr⟩ hE2 hI
   have e6:=fun (e:aw D 7 6=true)=>(e6 e).mono hE2.1
   have e8:=fun (e:aw D 7 8=true)=>(e8 e).monoT hE2.1
   have hN:=hN.trans hE2
   have e7:=fun (_:aw D 7 7=true)=>hr
   exact ⟨aA,aB,aC,az,av,aE,aD,fun _=>by first|assumption|trivial,aK,⟨SN,hN,k8,e5,e6,e7,e8,hI⟩⟩
  ·intro D aY d6 i7 nY tb s0 qY s5 xu wt Ei x5 cC cc bY du dw dF eH fp w_
   rintro ⟨aA,aB,aC,az,av,aE,aD,aH,aK,⟨SN,hN,k8,e5,e6,e7,e8,hI⟩⟩
   have Kh:=aH d6
   have k8:=fun (_:aw D 8 8=true)=>nY
   have e5:=fun (h:aw D 8 8=false)=>(Bool.noConfusion h:cC=t5)
   have e8:=fun (_:aw D 8 8=true)=>e7 d6
   exact ⟨aA,aB,aC,az,av,aE,aD,aH,fun _=>by first|assumption|trivial,⟨SN,hN,k8,e5,e6,e7,e8,hI⟩⟩
  intro D gI fK fL fH fC fB fE fM fJ x5 cC cc bY du dw dF eH fp w_
  rintro ⟨aA,aB,aC,az,av,aE,aD,aH,aK,⟨SN,hN,k8,e5,e6,e7,e8,hI⟩⟩
  have Mg:=aK gI
  have Kh:=aH fK
  have L4:=aD fL
  obtain rfl:=aE fH
  obtain rfl:=av fC
  obtain rfl:=az fB
  obtain rfl:=aC fE
  obtain rfl:=aB fM
  have Nx:=aA fJ
  clear aA aB aC az av aE aD aH aK
  have hx:=e8 gI
  have hE2:=hE.trans hN
  clear e5 e6 e7 e8
  refine bN (by omega) ?_
  rw [hle] at hx
  exact ⟨⟨j+1,SN,hj',rfl,hE2,hx,hI⟩,by simp [intOf]; omega⟩
 ·have:j=p.length:=by omega
  subst this
  rw [List.take_length] at hout
  exact ⟨_,_,_,rfl,hI,hE,rfl,hout⟩
theorem zh {p:List C} {S:aF} {v:Value} (h:RdSl S 5 (RdC S) v p) (hp:Pf p) (k:Nat) (hk:k<=61) :
  Tri Tryz.prog De [v,.int .i64 k] [] S fun r I' S'=>I'=[]/\∃ x,r=.tuple #[x,.int .i64 ((stS p k [] 0).2:Nat)]/\RdSl S' 4 (RdT S') x (stS p k [] 0).1:=by
 intro w hI
 have hI:Inv w [] [] S w:=hI
 refine ud ?_
 unfold pY
 refine eO hI bK fun v0 w' hI=>?_
 obtain ⟨S1,hE1,hrd,hI⟩:=Inv.lendExt (A:=[]) (css:=[]) hI
 have hr0:=RowRd.rows (Rows.nil 4 (RdT S1)) hrd
 refine ⟨fun i t w'=>∃ (n:Nat) (f:List T) (S':aF),i=.int .i64 n/\n<=k/\RdSl S' 4 (RdT S') t f/\Fs f/\f.length<=61/\stS p (k - n) f n=stS p k [] 0/\Ext w.heap.size [] S S'/\Inv w [] [] S' w',
  fun i _ _=>k - (intOf i).toNat,⟨0,[],S1,rfl,Nat.zero_le _,hr0,Fs.nil,by simp,rfl,hE1,hI⟩,?_⟩
 intro t7 _ _ t6 _ _ _ _ _ _ _ _ _ _ _ _ _ _ _ _ _ _ _ _ _ _ w'
 rintro ⟨n,f,S',rfl,hnk,hq,hF,hl,hst,hE,hI⟩
 refine bW ?_
 refine bl (fun hnk'=>?_) (fun hnk'=>?_)
 ·have hnk2:n<k:=by omega
  rw [show k - n=(k - (n+1))+1 by omega,stS] at hst
  refine Run.call0E AQ Ap hI (yj (h.monoC hE.1) hq hp hF hl) fun x I' S2 w'=>?_
  rintro ⟨rfl,hx⟩ hE2 hI
  have hI:Inv w [] [] S2 w':=hI
  have hE3:=hE.trans hE2
  refine ⟨fun t w'=>t=.bool (decide ((eD p f).length=f.length ∨ 60<f.length))/\Inv w [] [] S2 w',?_,?_⟩
  ·refine a9 hx ay ?_
   refine a9 (hq.monoT hE2.1) ay ?_
   refine bR ?_
   by_cases he:(eD p f).length=f.length
   ·rw [decide_eq_true (show (((eD p f).length:Nat):Int)=((f.length:Nat):Int) by omega)]
    repeat (first|refine ad ?_|refine af (by decide) ?_|refine ac ?_|refine al ?_|refine aj ?_)
    refine ⟨?_,hI⟩
    rw [decide_eq_true (Or.inl he)]
   ·rw [decide_eq_false (show ¬ (((eD p f).length:Nat):Int)=((f.length:Nat):Int) by omega)]
    repeat (first|refine ad ?_|refine af (by decide) ?_|refine ac ?_|refine al ?_|refine aj ?_)
    refine a9 (hq.monoT hE2.1) ay ?_
    refine eh ?_
    repeat (first|refine ad ?_|refine af (by decide) ?_|refine ac ?_|refine al ?_|refine aj ?_)
    refine ⟨?_,hI⟩
    congr 1
    rw [Bool.eq_iff_iff,decide_eq_true_eq,decide_eq_true_eq]
    omega
  ·intro t _ _ _ _ _ _ _ _ _ w'
   rintro ⟨rfl,hI⟩
   refine bl (fun hc=>?_) (fun hc=>?_)
   ·rw [if_pos hc] at hst
    rw [<- hst]
    exact ⟨_,_,_,rfl,hI,hE3,rfl,_,rfl,hq.monoT hE2.1⟩
   ·rw [if_neg hc] at hst
    refine bN (by omega) ?_
    exact ⟨⟨n+1,_,S2,rfl,hnk2,hx,uR hp hF,(qa p f hl).2,hst,hE3,hI⟩,by simp [intOf]; omega⟩
 ·have:n=k:=by omega
  subst this
  rw [Nat.sub_self,stS] at hst
  rw [<- hst]
  exact ⟨_,_,_,rfl,hI,hE,rfl,_,rfl,hq⟩
theorem qb {p:List C} {S:aF} {v:Value} (h:RdSl S 5 (RdC S) v p) (hw:wP p<=1048576) (r:Int) :
  Tri Tryz.prog zV [v,.int .i64 r] [] S (uW (bP p r).1 (bP p r).2):=by
 intro w hI
 have hI:Inv w [] [] S w:=hI
 have hno:∀ (S':aF) (w':World),Ext w.heap.size [] S S'->Inv w [] [] S' w'->Run Tryz.prog (aS ce 0 []) w' fun t w2=>∃ v I' S',Ending.returned (.tuple #[t,.bool false])=.returned v/\Inv w [] I' S' w2/\Ext w.heap.size [] S S'/\uW [] false v I' S':=by
  intro S' w' hE hI
  refine eO hI bK fun v0 w' hI=>?_
  have hI:Inv w [] ([]++(bh v0 ab 4 []::bO ([]:List bE).flatten)) S' w':=hI
  obtain ⟨L,hT,hI⟩:=Inv.rowTree hI (Grown.nil 4 TrT)
  exact ⟨_,_,_,rfl,hI,hE,_,L,rfl,rfl,hT⟩
 refine qP ?_
 unfold ms
 refine ⟨fun t w'=>t=.bool (!(eI p && !decide (r<0)))/\Inv w [] [] S w',?_,?_⟩
 ·refine Run.callPure uw u0 hI (qB h hw) fun w' hI=>?_
  refine dh ?_
  cases hv:eI p
  ·repeat (first|refine ad ?_|refine af (by decide) ?_|refine ac ?_|refine al ?_|refine aj ?_)
   exact ⟨rfl,hI⟩
  ·repeat (first|refine ad ?_|refine af (by decide) ?_|refine ac ?_|refine al ?_|refine aj ?_)
   refine bW ?_
   repeat (first|refine ad ?_|refine af (by decide) ?_|refine ac ?_|refine al ?_|refine aj ?_)
   refine ⟨?_,hI⟩
   rw [Bool.true_and,Bool.not_not]
 intro t _ _ _ _ _ _ w'
 rintro ⟨rfl,hI⟩
 refine ba (fun hb=>?_) (fun hb=>?_)
 ·have hb':(eI p && !decide (r<0))=false:=by rwa [Bool.not_eq_true'] at hb
  have e:bP p r=([],false):=by rw [bP,if_neg (by rw [hb']; decide)]
  rw [e]
  exact hno _ _ (Ext.refl _ _ _) hI
 have hb':(eI p && !decide (r<0))=true:=by rwa [Bool.not_eq_false'] at hb
 have hb2:=hb'
 rw [Bool.and_eq_true] at hb2
 have hr0:0<=r:=by
  have:=hb2.2
  simp at this
  exact this
 have hp:=r8 hb2.1
 have hfu:gu r<=61:=by unfold gu; split <;> omega
 have hsF:=Dc hp (gu r) [] 0 Fs.nil (by simp)
 refine ⟨fun t w'=>t=.int .i64 (gu r)/\Inv w [] [] S w',?_,?_⟩
 ·refine eh ?_
  refine bl (fun hg=>⟨?_,hI⟩) (fun hg=>⟨?_,hI⟩)
  ·rw [gu,if_pos hg]; rfl
  ·rw [gu,if_neg hg,Int.toNat_of_nonneg hr0]
 intro t _ _ w'
 rintro ⟨rfl,hI⟩
 refine Run.call0E Bl Aq hI (zh h hp (gu r) hfu) fun v' I' S2 w'=>?_
 rintro ⟨rfl,x,rfl,hx⟩ hE hI
 have hI:Inv w [] [] S2 w':=hI
 refine bd rfl ?_
 refine bd rfl ?_
 refine a9 hx ay ?_
 refine eh ?_
 refine bl (fun hg=>?_) (fun hg=>?_)
 ·have e:bP p r=([],false):=by rw [bP,if_pos hb',if_neg (by omega)]
  rw [e]
  exact hno _ _ hE hI
 ·have e:bP p r=((stS p (gu r) [] 0).1,true):=by rw [bP,if_pos hb',if_pos (by omega)]
  have hw':=hsF.1.w
  rw [e]
  refine Run.call0E C8 Dz hI (A0 hx (by omega)) fun v' I' S3 w'=>?_
  rintro ⟨rfl,L,rfl,hT⟩ hE2 hI
  have hI:Inv w [] (bO L) S3 w':=hI
  exact ⟨_,_,_,rfl,hI,hE.trans hE2,_,L,rfl,rfl,hT⟩
theorem qx {p:List C} {S:aF} {v:Value} (h:RdSl S 5 (RdC S) v p) (hw:wP p<=1048576) :
  Tri Tryz.prog yp [v] [] S (uW (bP p 61).1 (bP p 61).2):=by
 intro w hI
 have hI:Inv w [] [] S w:=hI
 refine qc ?_
 unfold mz
 refine Run.call0E wq wM hI (qb h hw 61) fun v' I' S2 w'=>?_
 rintro ⟨u,L,rfl,rfl,hT⟩ hE hI
 have hI:Inv w [] (bO L) S2 w':=hI
 refine bd rfl ?_
 refine bd rfl ?_
 exact ⟨_,_,_,rfl,hI,hE,_,L,rfl,rfl,hT⟩
end

end Go.Proofs.YtemmhhdnlbmicaaGreat

/- impl.ModelClosed. -/
namespace Go.Proofs.YtemmhhdnlbmicaaGreat
open Go Go.RowKit
section
attribute [local irreducible] Run CondV ah be
end

end Go.Proofs.YtemmhhdnlbmicaaGreat

/- spec: walks, occurrence, unification. -/
namespace Go.Proofs.YtemmhhdnlbmicaaGreat
open Go Go.RowKit
/- bindings as a row of terms -/
def KnU (S:aF) (c:Array Value) (st:bt):Prop:=st.length * 4<=c.size/\∀ i (h:i<st.length),(st[i]=none->bw c (i * 4) 4=o3)/\(∀ t,st[i]=some t->RdT S (bw c (i * 4) 4) t)
theorem KnU.set {S:aF} {c:Array Value} {st:bt} (h:KnU S c st) {n:Nat} (hn:n<st.length) {cs:List Value} {u:T} (hu:RdT S cs u):KnU S (bu c (n * 4) cs) (st.set n (some u)):=by
 have hlc:=hu.length
 have h1:=h.1
 have hs:st.length * 4<=(bu c (n * 4) cs).size:=by rw [fU _ _ _ (by omega)]; exact h1
 refine ⟨by rw [List.length_set]; exact hs,fun i hi=>?_⟩
 rw [List.length_set] at hi
 by_cases e:n=i
 ·subst e
  rw [List.getElem_set_self]
  refine ⟨fun h=>(by cases h),fun t ht=>?_⟩
  simp only [Option.some.injEq] at ht
  subst ht
  have:=ie (c:=c) (o:=n * 4) (vs:=cs) (by omega)
  rw [hlc] at this
  rw [this]
  exact hu
 ·rw [List.getElem_set_ne e,jL (by omega) (by omega)]
  exact h.2 i hi
theorem KnU.mono {S S':aF} {c:Array Value} {st:bt} (h:KnU S c st) (hs:Sle S S'):KnU S' c st:=⟨h.1,fun i hi=>⟨(h.2 i hi).1,fun t ht=>((h.2 i hi).2 t ht).mono hs⟩⟩
section
attribute [local irreducible] Run CondV ah be
end
/- the variables of a term in a list of numbers -/
section
attribute [local irreducible] Run CondV ah be
open Classical in
end

end Go.Proofs.YtemmhhdnlbmicaaGreat

/- spec.l3Unify. -/
namespace Go.Proofs.YtemmhhdnlbmicaaGreat
open Go Go.RowKit
/- the calls of a loop over two lists -/
inductive Chain (Call:bt->T->T->Bool->bt->Prop):bt->List T->List T->Bool->bt->Prop
 | nil {st:bt}:Chain Call st [] [] true st
 | stop {st st':bt} {a b:T} {xs ys:List T}:Call st a b false st'->Chain Call st (a::xs) (b::ys) false st'
 | go {st st1 st':bt} {a b:T} {xs ys:List T} {r:Bool}:Call st a b true st1->Chain Call st1 xs ys r st'->Chain Call st (a::xs) (b::ys) r st'
theorem Chain.head {Call:bt->T->T->Bool->bt->Prop} {st st':bt} {a b:T} {xs ys:List T} {r:Bool} (h:Chain Call st (a::xs) (b::ys) r st') :
  ∃ r1 st1,Call st a b r1 st1/\(r1=false->r=false/\st'=st1)/\(r1=true->Chain Call st1 xs ys r st'):=by
 cases h with
 | stop h=>exact ⟨false,_,h,fun _=>⟨rfl,rfl⟩,fun e=>(by cases e)⟩
 | go h h'=>exact ⟨true,_,h,fun e=>(by cases e),fun _=>h'⟩
theorem Chain.done {Call:bt->T->T->Bool->bt->Prop} {st st':bt} {r:Bool} (h:Chain Call st [] [] r st'):r=true/\st'=st:=by
 cases h
 exact ⟨rfl,rfl⟩
/- how a unification of walked terms ends -/
def N9 (Call:bt->T->T->Bool->bt->Prop) (st:bt) (a' b':T) (r:Bool) (st':bt):Prop:=
 (a'.kind=1/\b'.kind=1/\a'.n=b'.n/\r=true/\st'=st) ∨
 (a'.kind=1/\¬ (b'.kind=1/\a'.n=b'.n)/\((¬ CA st a'.n.toNat b'/\r=true/\st'=st.set a'.n.toNat (some b')) ∨ (CA st a'.n.toNat b'/\r=false/\st'=st))) ∨
 (a'.kind≠1/\b'.kind=1/\((¬ CA st b'.n.toNat a'/\r=true/\st'=st.set b'.n.toNat (some a')) ∨ (CA st b'.n.toNat a'/\r=false/\st'=st))) ∨
 (a'.kind≠1/\b'.kind≠1/\((lk a' b'=false/\r=false/\st'=st) ∨ (lk a' b'=true/\Chain Call st a'.kids b'.kids r st')))
theorem Uni.calls {N:Nat} {Call:bt->T->T->Bool->bt->Prop} (hcall:∀ st a b a' b' r st',Good N st->okJ N (.one a b)->gE st a a'->gE st b b'->N9 Call st a' b' r st'->Call st a b r st') {st st':bt} {j:Job} {r:Bool} (hu:Uni st j r st') :
  Good N st->okJ N j->match j with
   | .one a b=>Call st a b r st'
   | .list xs ys=>Chain Call st xs ys r st':=by
 induction hu with
 | same h1 h2 h3 h4 h5=>exact fun hg hj=>hcall _ _ _ _ _ _ _ hg hj h1 h2 (.inl ⟨h3,h4,h5,rfl,rfl⟩)
 | bindA h1 h2 h3 h4 h5=>exact fun hg hj=>hcall _ _ _ _ _ _ _ hg hj h1 h2 (.inr (.inl ⟨h3,h4,.inl ⟨h5,rfl,rfl⟩⟩))
 | occA h1 h2 h3 h4 h5=>exact fun hg hj=>hcall _ _ _ _ _ _ _ hg hj h1 h2 (.inr (.inl ⟨h3,h4,.inr ⟨h5,rfl,rfl⟩⟩))
 | bindB h1 h2 h3 h4 h5=>exact fun hg hj=>hcall _ _ _ _ _ _ _ hg hj h1 h2 (.inr (.inr (.inl ⟨h3,h4,.inl ⟨h5,rfl,rfl⟩⟩)))
 | occB h1 h2 h3 h4 h5=>exact fun hg hj=>hcall _ _ _ _ _ _ _ hg hj h1 h2 (.inr (.inr (.inl ⟨h3,h4,.inr ⟨h5,rfl,rfl⟩⟩)))
 | clash h1 h2 h3 h4 h5=>exact fun hg hj=>hcall _ _ _ _ _ _ _ hg hj h1 h2 (.inr (.inr (.inr ⟨h3,h4,.inl ⟨h5,rfl,rfl⟩⟩)))
 | kids h1 h2 h3 h4 h5 _ ih=>
  exact fun hg hj=>hcall _ _ _ _ _ _ _ hg hj h1 h2 (.inr (.inr (.inr ⟨h3,h4,.inr ⟨h5,ih hg ⟨xN (kl hg h1 hj.1),xN (kl hg h2 hj.2),EI h5⟩⟩⟩)))
 | nil=>exact fun _ _=>.nil
 | stop _ ih=>exact fun hg hj=>.stop (ih hg ⟨hj.1 _ (List.mem_cons_self ..),hj.2.1 _ (List.mem_cons_self ..)⟩)
 | go h1 _ ih1 ih2=>
  intro hg hj
  have hj1:okJ N (.one _ _):=⟨hj.1 _ (List.mem_cons_self ..),hj.2.1 _ (List.mem_cons_self ..)⟩
  exact .go (ih1 hg hj1) (ih2 (h1.good hg hj1).1 ⟨fun a ha=>hj.1 a (List.mem_cons_of_mem _ ha),fun b hb=>hj.2.1 b (List.mem_cons_of_mem _ hb),by have:=hj.2.2; simpa using this⟩)
section
attribute [local irreducible] Run CondV ah be
set_option maxHeartbeats 1000000 in
/- the case that a nonvariable meets a variable is handed on, so it comes with a contract -/
end

end Go.Proofs.YtemmhhdnlbmicaaGreat

/- DropClause: both sides. -/
namespace Go.Proofs.YtemmhhdnlbmicaaGreat
open Go Go.RowKit
attribute [local irreducible] Run CondV ah be

end Go.Proofs.YtemmhhdnlbmicaaGreat

/- DropClause: both sides. -/
namespace Go.Proofs.YtemmhhdnlbmicaaGreat
open Go Go.RowKit
attribute [local irreducible] Run CondV ah be

end Go.Proofs.YtemmhhdnlbmicaaGreat

/- spec.RenumberClause. -/
namespace Go.Proofs.YtemmhhdnlbmicaaGreat
open Go Go.RowKit
section
attribute [local irreducible] Run CondV ah be
end

end Go.Proofs.YtemmhhdnlbmicaaGreat

/- spec.RenumberClause: lists and clauses. -/
namespace Go.Proofs.YtemmhhdnlbmicaaGreat
open Go Go.RowKit
section
variable {w:World} {K:Value->World->Prop}
attribute [local irreducible] Run
end
section
attribute [local irreducible] Run CondV ah be
theorem RdC.zero (S:aF):RdC S [.int .i64 0,.int .i64 0,.string ⟨#[]⟩,.slice none 0 0,.slice none 0 0] ⟨⟨0,0,⟨#[]⟩,[]⟩,[]⟩:=
 ⟨[.int .i64 0,.int .i64 0,.string ⟨#[]⟩,.slice none 0 0],.slice none 0 0,rfl,RdT.iff.2 ⟨_,rfl,by simp [inI,T.kind],by simp [inI,T.n],by rw [T.name]; decide +kernel,⟨none,0,rfl,Nat.le_refl _,Nat.zero_le _,.inl rfl⟩⟩,⟨none,0,rfl,Nat.le_refl _,Nat.zero_le _,.inl rfl⟩⟩
end

end Go.Proofs.YtemmhhdnlbmicaaGreat

/- spec: resolved terms, if they are small. -/
namespace Go.Proofs.YtemmhhdnlbmicaaGreat
open Go Go.RowKit
section
attribute [local irreducible] Run CondV ah be
/- a tuple of a term and of how many nodes are left -/
end

end Go.Proofs.YtemmhhdnlbmicaaGreat

/- spec: shifted terms and clauses. -/
namespace Go.Proofs.YtemmhhdnlbmicaaGreat
open Go Go.RowKit
section
attribute [local irreducible] Run CondV ah be
end

end Go.Proofs.YtemmhhdnlbmicaaGreat

/- Resolvents: the plain form. -/
namespace Go.Proofs.YtemmhhdnlbmicaaGreat
open Go Go.RowKit
/- weights by nodes -/
/- numbered anew -/
/- the resolvent -/
/- small terms have small weights -/
end Go.Proofs.YtemmhhdnlbmicaaGreat

/- spec.l4Clause. -/
namespace Go.Proofs.YtemmhhdnlbmicaaGreat
open Go Go.RowKit
section
variable {br:Nat} {sl:Value} {ys:List Nat}
attribute [local irreducible] Run CondV ah be
end
end Go.Proofs.YtemmhhdnlbmicaaGreat

/- What calls what, and what can be reached: both sides. -/
namespace Go.Proofs.YtemmhhdnlbmicaaGreat
open Go Go.RowKit
attribute [local irreducible] Run CondV ah be

end Go.Proofs.YtemmhhdnlbmicaaGreat

/- The graph of calls: the plain form. -/
namespace Go.Proofs.YtemmhhdnlbmicaaGreat
open Go Go.RowKit
attribute [local irreducible] Run CondV ah be

/- what may still come in -/
/- rows of predicates: their length, an element -/
section
variable {P:Program} {w w0:World} {X:List Nat} {L:List Item} {S:aF} {K:Value->World->Prop}
end

end Go.Proofs.YtemmhhdnlbmicaaGreat

/- What the clauses for a name call: both sides. -/
namespace Go.Proofs.YtemmhhdnlbmicaaGreat
open Go Go.RowKit
attribute [local irreducible] Run CondV ah be

/- the program's side goes over the clauses' numbers -/
end Go.Proofs.YtemmhhdnlbmicaaGreat

/- What some predicates can lead to: both sides. -/
namespace Go.Proofs.YtemmhhdnlbmicaaGreat
open Go Go.RowKit
attribute [local irreducible] Run CondV ah be

end Go.Proofs.YtemmhhdnlbmicaaGreat

/- Which predicates can lead to themselves: both sides. -/
namespace Go.Proofs.YtemmhhdnlbmicaaGreat
open Go Go.RowKit
attribute [local irreducible] Run CondV ah be

end Go.Proofs.YtemmhhdnlbmicaaGreat

/- PredsOf, CallsOf, ReachOf: both sides. -/
namespace Go.Proofs.YtemmhhdnlbmicaaGreat
open Go Go.RowKit
attribute [local irreducible] Run CondV ah be

end Go.Proofs.YtemmhhdnlbmicaaGreat

/- A predicate that comes in: its size, its copy, its reading. -/
namespace Go.Proofs.YtemmhhdnlbmicaaGreat
open Go Go.ChangeShapes Go.WideShapes Go.ChangeAt Go.RowKit
section
attribute [local irreducible] Run CondV ah be
end
theorem two {cs:List Value} (h:cs.length=2):∃ a b,cs=[a,b]:=by
 match cs,h with
 | [a,b],_=>exact ⟨a,b,rfl⟩
end Go.Proofs.YtemmhhdnlbmicaaGreat

/- spec.l14Pred, DrawPredsOf, DrawCallsOf, DrawRecursivePred. -/
namespace Go.Proofs.YtemmhhdnlbmicaaGreat
open Go Go.RowKit
section
variable {br:Nat} {sl:Value} {ys:List Nat}
attribute [local irreducible] Run CondV ah be
theorem Pd.one (x:Pd):∀ u∈x.cells,u.oneCell'=true:=by
 intro u hu
 have hu':u∈([.string x.name,.int .i64 x.arity]:List Value):=hu
 simp at hu'
 rcases hu' with rfl|rfl <;> rfl
end
end Go.Proofs.YtemmhhdnlbmicaaGreat

/- What the laws compare with: pgPreds, pgPred, impl.ClauseSame, pgClauses; bytes that come in. -/
namespace Go.Proofs.YtemmhhdnlbmicaaGreat
open Go Go.ChangeShapes Go.WideShapes Go.ChangeAt Go.RowKit
theorem M4:Tryz.prog.underlying DV=some (.int .u8):=by kernel_rfl
theorem LC {H:Type} {enc:TypeId × Value->H} {W:World} {sp:Nat->Bool} {held:Bool} {fuel:Nat} {cs:List Value} {x:DataW H × List MemPlace} (h:DataW.trod enc Tryz.prog W 0 sp held fuel DV cs=some x) :
  ∃ n,jK cs n:=by
 cases fuel with
 | zero=>simp [DataW.trod] at h
 | succ n=>
  unfold DataW.trod at h
  rw [M4] at h
  split at h <;> simp_all
  rename_i k1 k2 m he
  subst he
  obtain ⟨⟨_,h⟩,_⟩:=h
  simp only [Lit.wf,Bool.and_eq_true,decide_eq_true_eq] at h
  have h1:0<=m/\m<=255:=h
  exact ⟨m.toNat,by rw [jK,Int.toNat_of_nonneg (by omega)]; exact ⟨rfl,by omega⟩⟩
theorem yH {H:Type} {enc:TypeId × Value->H} {W:World} {sp:Nat->Bool} {held:Bool} {fuel:Nat} {v:Value} {x:DataW H × List MemPlace} (h:DataW.trod enc Tryz.prog W 0 sp held fuel EE [v]=some x) :
  ∃ ys,RdSl (IV W) 1 jK v ys:=L6 dV (by omega) h fun _ _ _ _ hy=>LC hy
section
variable {w0 w:World} {X:List Nat} {L:List Item} {S:aF} {K:Value->World->Prop}
attribute [local irreducible] Run CondV ah be
theorem MF {P:Program} {T:TypeId} {cx cy:Bool} {a b:Bool} (hu:P.underlying T=some .bool) (hk:K (.bool (a == b)) w):Run P (ar .eql T cx cy (.bool a) (.bool b)) w K:=
 Run.of (by
  have he:(Op.equal T (.bool a) (.bool b)).run P w=.ok (a == b) w:=by
   rw [Op.equal,Op.maxDepth,Op.equalIn.eq_def]
   simp [run_underlying hu]
  simp only [ar,binOp,Sem.run_bind,sQ,Result.andThen_ok,he,Sem.run_pure]) hk
theorem Ln (t:T):eqT t t=true:=(iZ t t).2 rfl
end
end Go.Proofs.YtemmhhdnlbmicaaGreat

/- What the laws about models compare with: pgTerms, pgFact, impl.CompareTerms, impl.PureProgram. -/
namespace Go.Proofs.YtemmhhdnlbmicaaGreat
open Go Go.RowKit
section
variable {S:aF} {ys:List Nat} {v:Value}
attribute [local irreducible] Run CondV ah be
theorem AD {t:T} {cs ds:List Value} (h:RdT S cs t) (g:RdT S ds t):Pure Tryz.prog jb [.agg cs.toArray,.agg ds.toArray] S (.bool true):=by
 have:=lc t t S cs ds h g
 rwa [Ln] at this
theorem kR {l:List T} {u v:Value} (h:RdSl S 4 (RdT S) u l) (g:RdSl S 4 (RdT S) v l):Pure Tryz.prog FA [u,v] S (.bool true):=by
 intro w hI
 have hlen:=h.le
 simp only [maxLen] at hlen
 refine wJ ?_
 unfold tl
 refine a9 h ay ?_
 refine a9 g ay ?_
 refine gh ?_
 refine ba (fun hb=>by simp at hb) (fun _=>?_)
 refine ⟨fun i w'=>∃ k:Nat,k<=l.length/\i=.int .i64 k/\Inv w [] [] S w',fun i _=>l.length - (intOf i).toNat,⟨0,Nat.zero_le _,rfl,hI⟩,?_⟩
 intro t5 _ _ _ t26 t25 t24 t23 t22 t21 t20 t19 t18 t17 _ _ _ _ w'
 rintro ⟨k,hk,rfl,hI⟩
 refine a9 h ay ?_
 refine bW ?_
 refine bl (fun hki=>?_) (fun hki=>done hI rfl)
 have hk':k<l.length:=by omega
 obtain ⟨b,o,cap,c,E,fz,rfl,hS,hR⟩:=h.at_ hk'
 obtain ⟨b2,o2,cap2,c2,E2,fz2,rfl,hS2,hR2⟩:=g.at_ hk'
 refine ⟨fun D bZ bS bV cf cd cC cc bY du dw w_=>(D 0=true->dw=.slice (some ⟨b,o,none⟩) l.length cap)/\(D 1=true->du=.int .i64 k)/\(D 2=true->bY=.pointer (some ⟨b,o+k * 4,none⟩))/\(D 3=true->cc=.agg (bw c (o+k * 4) 4).toArray)/\(D 4=true->cC=.slice (some ⟨b2,o2,none⟩) l.length cap2)/\(D 5=true->cd=.int .i64 k)/\(D 6=true->cf=.pointer (some ⟨b2,o2+k * 4,none⟩))/\(D 7=true->bV=.agg (bw c2 (o2+k * 4) 4).toArray)/\(D 8=true->bS=.bool true)/\(D 9=true->bZ=.bool false)/\Inv w [] [] S w_,⟨ae,ae,ae,ae,ae,ae,ae,ae,ae,ae,hI.draw⟩,⟨?_,?_,?_,?_,?_,?_,?_,?_,?_,?_,trivial⟩,?_⟩
 ·intro D aY  bZ bS bV cf cd cC cc bY du dw w_
  rintro ⟨aA,aB,aC,az,av,aE,aD,aH,aK,aP,hI⟩
  exact ⟨fun _=>rfl,aB,aC,az,av,aE,aD,aH,aK,aP,hI⟩
 ·intro D aY  bZ bS bV cf cd cC cc bY du dw w_
  rintro ⟨aA,aB,aC,az,av,aE,aD,aH,aK,aP,hI⟩
  exact ⟨aA,fun _=>rfl,aC,az,av,aE,aD,aH,aK,aP,hI⟩
 ·intro D aY b0 il bZ bS bV cf cd cC cc bY du dw w_
  rintro ⟨aA,aB,aC,az,av,aE,aD,aH,aK,aP,hI⟩
  obtain rfl:=aA b0
  obtain rfl:=aB il
  refine bk ay hk' ?_
  exact ⟨aA,aB,fun _=>rfl,az,av,aE,aD,aH,aK,aP,hI⟩
 ·intro D aY ec bZ bS bV cf cd cC cc bY du dw w_
  rintro ⟨aA,aB,aC,az,av,aE,aD,aH,aK,aP,hI⟩
  obtain rfl:=aC ec
  refine cU ao hR.length (fun j v hj=>by rw [hI.cellS hS]; exact bn rfl j v hj) ?_
  exact ⟨aA,aB,aC,fun _=>rfl,av,aE,aD,aH,aK,aP,hI⟩
 ·intro D aY  bZ bS bV cf cd cC cc bY du dw w_
  rintro ⟨aA,aB,aC,az,av,aE,aD,aH,aK,aP,hI⟩
  exact ⟨aA,aB,aC,az,fun _=>rfl,aE,aD,aH,aK,aP,hI⟩
 ·intro D aY  bZ bS bV cf cd cC cc bY du dw w_
  rintro ⟨aA,aB,aC,az,av,aE,aD,aH,aK,aP,hI⟩
  exact ⟨aA,aB,aC,az,av,fun _=>rfl,aD,aH,aK,aP,hI⟩
 ·intro D aY cF g0 bZ bS bV cf cd cC cc bY du dw w_
  rintro ⟨aA,aB,aC,az,av,aE,aD,aH,aK,aP,hI⟩
  obtain rfl:=av cF
  obtain rfl:=aE g0
  refine bk ay hk' ?_
  exact ⟨aA,aB,aC,az,av,aE,fun _=>rfl,aH,aK,aP,hI⟩
 ·intro D aY cJ bZ bS bV cf cd cC cc bY du dw w_
  rintro ⟨aA,aB,aC,az,av,aE,aD,aH,aK,aP,hI⟩
  obtain rfl:=aD cJ
  refine cU ao hR2.length (fun j v hj=>by rw [hI.cellS hS2]; exact bn rfl j v hj) ?_
  exact ⟨aA,aB,aC,az,av,aE,aD,fun _=>rfl,aK,aP,hI⟩
 ·intro D aY dB i7 bZ bS bV cf cd cC cc bY du dw w_
  rintro ⟨aA,aB,aC,az,av,aE,aD,aH,aK,aP,hI⟩
  obtain rfl:=az dB
  obtain rfl:=aH i7
  refine Run.callPure kI kQ hI (AD hR hR2) fun w_ hI=>?_
  exact ⟨aA,aB,aC,az,av,aE,aD,aH,fun _=>rfl,aP,hI⟩
 ·intro D aY hY bZ bS bV cf cd cC cc bY du dw w_
  rintro ⟨aA,aB,aC,az,av,aE,aD,aH,aK,aP,hI⟩
  obtain rfl:=aK hY
  refine dh ?_
  exact ⟨aA,aB,aC,az,av,aE,aD,aH,aK,fun _=>rfl,hI⟩
 intro D iK gI fK fL fH fC fB fE fM fJ bZ bS bV cf cd cC cc bY du dw w_
 rintro ⟨aA,aB,aC,az,av,aE,aD,aH,aK,aP,hI⟩
 obtain rfl:=aP iK
 obtain rfl:=aK gI
 obtain rfl:=aH fK
 obtain rfl:=aD fL
 obtain rfl:=aE fH
 obtain rfl:=av fC
 obtain rfl:=az fB
 obtain rfl:=aC fE
 obtain rfl:=aB fM
 obtain rfl:=aA fJ
 clear aA aB aC az av aE aD aH aK aP
 refine ba (fun hb=>by cases hb) (fun _=>?_)
 refine bN (by omega) ?_
 exact ⟨⟨k+1,hk',rfl,hI⟩,by simp [intOf]; omega⟩
end
end Go.Proofs.YtemmhhdnlbmicaaGreat

/- Rounds of facts in plain Lean: they grow, end, are closed and least. -/
namespace Go.Proofs.YtemmhhdnlbmicaaGreat
open Go Go.RowKit
theorem yA {hd:T} {f g:List T} (h:∀ x∈f,x∈g):∀ (gs:List T) (st:bt) (y:T),y∈eo hd f gs st->y∈eo hd g gs st
 | [],st,y,hy=>by rw [eo] at hy ⊢; exact hy
 | a::gs,st,y,hy=>by
  rw [eo,List.mem_flatMap] at hy ⊢
  obtain ⟨x,hx,hy⟩:=hy
  refine ⟨x,h x hx,?_⟩
  split at hy
  ·rename_i hm
   rw [if_pos hm]
   exact yA h gs _ y hy
  ·cases hy
theorem HW {p:List C} {f g:List T} (h:∀ x∈f,x∈g) {y:T} (hy:y∈d4 p f):y∈d4 p g:=by
 rw [d4,List.mem_flatMap] at hy ⊢
 obtain ⟨c,hc,hy⟩:=hy
 exact ⟨c,hc,yA h _ _ _ hy⟩
theorem H0 (p:List C) (f:List T) {y:T} (h:y∈f):y∈eD p f:=ul _ _ _ h
theorem Js {p:List C} {f:List T} (hl:(eD p f).length<=60) {y:T} (h:y∈d4 p f):y∈eD p f:=by
 rcases Fi (d4 p f) f y h with h1|h1
 ·have h1:60<(eD p f).length:=h1
  omega
 ·exact h1
theorem BW {p:List C} {f:List T} {y:T} (h:y∈eD p f):y∈f ∨ y∈d4 p f:=qU _ _ _ h
theorem BG (p:List C) (f:List T):f.length<=(eD p f).length:=(oe (d4 p f) f).1
theorem IO (p:List C):∀ (k:Nat) (f:List T) (n:Nat),61<=k+f.length->(stS p k f n).1.length<=60->(eD p (stS p k f n).1).length=(stS p k f n).1.length
 | 0,f,n,h1,h2=>by rw [stS] at h2; simp only [] at h2; omega
 | k+1,f,n,h1,h2=>by
  rw [stS] at h2 ⊢
  split at h2
  ·rename_i hc
   rw [if_pos hc]
   rcases hc with hc|hc
   ·exact hc
   ·simp only [] at h2
    omega
  ·rename_i hc
   rw [if_neg hc]
   have:=BG p f
   exact IO p k _ _ (by omega) h2
theorem tX (p:List C):∀ (k:Nat) (f:List T) (n:Nat),n<=(stS p k f n).2/\(stS p k f n).2+f.length<=n+(stS p k f n).1.length
 | 0,f,n=>by rw [stS]; exact ⟨Nat.le_refl _,Nat.le_refl _⟩
 | k+1,f,n=>by
  rw [stS]
  split
  ·exact ⟨Nat.le_refl _,Nat.le_refl _⟩
  ·have h1:=BG p f
   have h2:=tX p k (eD p f) (n+1)
   omega
theorem BR (p:List C):∀ (k:Nat) (f:List T) (n j:Nat),j+n=(stS p k f n).2->stS p j f n=stS p k f n
 | 0,f,n,j,h=>by
  rw [stS] at h ⊢
  have:j=0:=by simp only [] at h; omega
  subst this
  rw [stS]
 | k+1,f,n,j,h=>by
  rw [stS] at h ⊢
  split at h
  ·rename_i hc
   rw [if_pos hc]
   have:j=0:=by simp only [] at h; omega
   subst this
   rw [stS]
  ·rename_i hc
   rw [if_neg hc]
   have h2:=(tX p k (eD p f) (n+1)).1
   obtain ⟨i,rfl⟩:∃ i,j=i+1:=⟨j - 1,by omega⟩
   rw [stS,if_neg hc]
   exact BR p k _ _ i (by omega)
theorem tB {p:List C} {s:List T} (hs:∀ y∈d4 p s,y∈s):∀ (k:Nat) (f:List T) (n:Nat),(∀ y∈f,y∈s)->∀ y∈(stS p k f n).1,y∈s
 | 0,f,n,hf,y,h=>hf y h
 | k+1,f,n,hf,y,h=>by
  rw [stS] at h
  split at h
  ·exact hf y h
  ·refine tB hs k _ _ (fun x hx=>?_) y h
   rcases BW hx with hx|hx
   ·exact hf x hx
   ·exact hs x (HW hf hx)
theorem L0 (a b:T):a=b ∨ a≠b:=by
 cases h:eqT a b
 ·exact .inr fun e=>by rw [(iZ a b).2 e] at h; cases h
 ·exact .inl ((iZ a b).1 h)
/- sorted lists with the same members are the same -/
theorem y5:∀ {a b:List T},Sorted a->Sorted b->(∀ y,y∈a↔y∈b)->a=b
 | [],[],_,_,_=>rfl
 | [],y::b,_,_,h=>by have:=(h y).2 (List.mem_cons_self ..); cases this
 | x::a,[],_,_,h=>by have:=(h x).1 (List.mem_cons_self ..); cases this
 | x::a,y::b,ha,hb,h=>by
  have hxy:x=y:=by
   rcases List.mem_cons.1 ((h x).1 (List.mem_cons_self ..)) with e|h1
   ·exact e
   ·rcases List.mem_cons.1 ((h y).2 (List.mem_cons_self ..)) with e|h2
    ·exact e.symm
    ·have h3:=hb.1 x h1
     have h4:=ha.1 y h2
     have:=sJ h3 h4
     rw [lB] at this
     omega
  subst hxy
  congr 1
  refine y5 ha.2 hb.2 fun z=>?_
  have hna:x ∉ a:=fun hx=>by have:=ha.1 x hx; rw [lB] at this; omega
  have hnb:x ∉ b:=fun hx=>by have:=hb.1 x hx; rw [lB] at this; omega
  constructor
  ·intro hz
   rcases List.mem_cons.1 ((h z).1 (List.mem_cons_of_mem _ hz)) with e|h1
   ·rw [e] at hz; exact absurd hz hna
   ·exact h1
  ·intro hz
   rcases List.mem_cons.1 ((h z).2 (List.mem_cons_of_mem _ hz)) with e|h1
   ·rw [e] at hz; exact absurd hz hnb
   ·exact h1
theorem pX:∀ {l:List T} {x:T},x∈l->∃ l':List T,l'.length+1=l.length/\∀ y,y∈l->y=x ∨ y∈l'
 | [],x,h=>by cases h
 | z::l,x,h=>by
  rcases L0 z x with e|e
  ·exact ⟨l,rfl,fun y hy=>by rcases List.mem_cons.1 hy with rfl|hy; exact .inl e; exact .inr hy⟩
  ·rcases List.mem_cons.1 h with rfl|h
   ·exact absurd rfl e
   ·obtain ⟨l',h1,h2⟩:=pX h
    refine ⟨z::l',by simp [h1],fun y hy=>?_⟩
    rcases List.mem_cons.1 hy with rfl|hy
    ·exact .inr (List.mem_cons_self ..)
    ·exact (h2 y hy).imp_right fun h=>List.mem_cons_of_mem _ h
theorem kK:∀ {l m:List T},l.Nodup->(∀ x∈l,x∈m)->l.length<=m.length
 | [],_,_,_=>Nat.zero_le _
 | x::l,m,h,hs=>by
  rw [List.nodup_cons] at h
  obtain ⟨m',h1,h2⟩:=pX (hs x (List.mem_cons_self ..))
  have h3:=kK (l:=l) (m:=m') h.2 fun y hy=>by
   rcases h2 y (hs y (List.mem_cons_of_mem _ hy)) with e|h4
   ·rw [e] at hy; exact absurd hy h.1
   ·exact h4
  rw [List.length_cons]
  omega
theorem HV {a b:List T} (ha:a.Nodup) (h:∀ x∈a,x∈b) (hl:b.length=a.length) {y:T} (hy:y∈b):y∈a:=by
 refine Classical.byContradiction fun hn=>?_
 have:=kK (l:=y::a) (m:=b) (List.nodup_cons.2 ⟨hn,ha⟩) fun x hx=>by
  rcases List.mem_cons.1 hx with rfl|hx
  ·exact hy
  ·exact h x hx
 rw [List.length_cons] at this
 omega
theorem GD {p:List C} {m:List T} (hm:Fs m) (hl:m.length<=60) (hfix:(eD p m).length=m.length) {y:T} (hy:y∈d4 p m):y∈m:=
 HV hm.sorted.nodup (fun x hx=>H0 p m hx) hfix (Js (by omega) hy)
/- facts have plain names -/
theorem Ij (h:T) (st:bt):ei (lq h st)=ei h:=by
 cases h
 simp only [ei,lq,T.kind,T.name,T.kids,List.length_map]
 rfl
theorem zU {hd:T} {facts:List T}:∀ (gs:List T) (st:bt) (y:T),y∈eo hd facts gs st->ei y=ei hd
 | [],st,y,h=>by
  rw [eo,List.mem_singleton] at h
  rw [h,Ij]
 | g::gs,st,y,h=>by
  rw [eo,List.mem_flatMap] at h
  obtain ⟨f,_,h⟩:=h
  split at h
  ·exact zU gs _ y h
  ·cases h
theorem HH {p:List C} (h:eI p=true):∀ c∈p,ei c.head=true:=by
 intro c hc
 rw [eI,Bool.and_eq_true,List.all_eq_true] at h
 have:=h.2 c hc
 rw [gl,Bool.and_eq_true,ef,Bool.and_eq_true] at this
 exact this.1.2
theorem BE {p:List C} (hp:eI p=true):∀ (k:Nat) (f:List T) (n:Nat),(∀ y∈f,ei y=true)->∀ y∈(stS p k f n).1,ei y=true
 | 0,f,n,hf,y,h=>hf y h
 | k+1,f,n,hf,y,h=>by
  rw [stS] at h
  split at h
  ·exact hf y h
  ·refine BE hp k _ _ (fun x hx=>?_) y h
   rcases BW hx with hx|hx
   ·exact hf x hx
   ·rw [d4,List.mem_flatMap] at hx
    obtain ⟨c,hc,hx⟩:=hx
    rw [zU _ _ _ hx]
    exact HH hp c hc
theorem HD {y:T} (h:BC y) (d:Int) (hd:1<=d):fm y d=true:=by
 obtain ⟨h1,h2,_⟩:=h
 obtain ⟨k,n,s,ks⟩:=y
 simp only [T.kids] at h2
 subst h2
 rw [fm,if_neg (by omega),h1,eW]
 rfl
theorem wk (d:Int) (hd:1<=d):∀ ks:List T,(∀ y∈ks,BC y)->eW ks d=true
 | [],_=>rfl
 | y::ks,h=>by
  rw [eW,HD (h y (List.mem_cons_self ..)) d hd,wk d hd ks fun z hz=>h z (List.mem_cons_of_mem _ hz)]
  rfl
theorem Cv:∀ ks:List T,(∀ y∈ks,BC y)->dX ks=ks.length
 | [],_=>rfl
 | y::ks,h=>by
  rw [dX,Cv ks fun z hz=>h z (List.mem_cons_of_mem _ hz)]
  obtain ⟨_,h2,_⟩:=h y (List.mem_cons_self ..)
  obtain ⟨k,n,s,l⟩:=y
  simp only [T.kids] at h2
  subst h2
  rw [eR,dX,List.length_cons]
  omega
theorem Fct.valid {x:T} (h:Fct x):ft x=true:=by
 obtain ⟨hk,ho,hy⟩:=h
 have hlen:=(uY ho).2
 obtain ⟨k,n,s,ks⟩:=x
 simp only [T.kids] at hy hlen
 rw [ft,fm,if_neg (by omega),ho,wk (30 - 1) (by omega) ks hy,eR,Cv ks hy,decide_eq_true (by omega)]
 rfl
theorem Fct.fact {x:T} (h:Fct x) (hp:ei x=true):BP x=true:=by
 have hv:=h.valid
 have hg:Gl x:=⟨h.1,h.2.1,fun y hy=>⟨(h.2.2 y hy).1,(h.2.2 y hy).2.1⟩⟩
 have hvars:(fQ x []).length=0:=by
  cases e:fQ x [] with
  | nil=>rfl
  | cons a l=>
   have:a∈fQ x []:=by rw [e]; exact List.mem_cons_self ..
   rcases (yf hg [] a).1 this with h1|⟨z,hz,hk,_⟩
   ·cases h1
   ·exact absurd hk (h.2.2 z hz).2.2
 rw [BP,hv,ef,hp,hvars]
 simp only [Bool.true_and,Bool.and_true,decide_true,List.all_eq_true]
 intro y hy
 rw [h8,(h.2.2 y hy).2.1]
 rfl
/- the least model -/
abbrev eX (p:List C):List T:=(stS p 61 [] 0).1
theorem ou {p:List C} (h:eI p=true):Fs (eX p):=(Dc (r8 h) 61 [] 0 Fs.nil (by simp)).1
theorem kN {p:List C} (h:eI p=true) (hl:(eX p).length<=60) {y:T} (hy:y∈d4 p (eX p)):y∈eX p:=
 GD (ou h) hl (IO p 61 [] 0 (by simp) hl) hy
theorem F9 {p:List C} (h:eI p=true) (hl:(eX p).length<=60):Dl p (eX p)=true:=by
 have hF:=ou h
 have hP:=BE h 61 [] 0 (by simp)
 rw [Dl,h,G3,decide_eq_true hl]
 simp only [Bool.true_and,Bool.and_true,Bool.and_eq_true,List.all_eq_true]
 refine ⟨fun x hx=>(hF.fct x hx).fact (hP x hx),fun c hc=>?_⟩
 rw [I0,List.all_eq_true]
 intro y hy
 rw [Ld]
 refine kN h hl ?_
 rw [d4,List.mem_flatMap]
 exact ⟨c,hc,hy⟩
theorem yV {p:List C} {r:Int} (h:(bP p r).2=true):eI p=true/\0<=r/\(stS p (gu r) [] 0).1.length<=60/\(bP p r).1=(stS p (gu r) [] 0).1:=by
 unfold bP at h ⊢
 split at h
 ·rename_i h1
  rw [if_pos h1]
  rw [Bool.and_eq_true] at h1
  split at h
  ·rename_i h2
   rw [if_pos h2]
   refine ⟨h1.1,?_,h2,rfl⟩
   have:=h1.2
   simp at this
   omega
  ·cases h
 ·cases h
/- what a law about the least model asks -/
theorem GP {p:List C} (h:(bP p 61).2=true):Fs (bP p 61).1/\Dl p (bP p 61).1=true/\0<=ko p/\ko p<=(bP p 61).1.length/\(bP p (ko p)).2=true/\(bP p (ko p)).1=(bP p 61).1/\(bP p 61).1.length<=60:=by
 obtain ⟨hf,_,hl,e⟩:=yV h
 have hl:(eX p).length<=60:=hl
 have e:(bP p 61).1=eX p:=e
 have hr:ko p=((stS p 61 [] 0).2:Int):=by
  rw [ko,if_pos hf,if_pos hl]
 have hc:=(tX p 61 [] 0).2
 simp only [List.length_nil,Nat.add_zero,Nat.zero_add] at hc
 have hc:(stS p 61 [] 0).2<=(eX p).length:=hc
 have hst:stS p (gu (ko p)) [] 0=stS p 61 [] 0:=by
  rw [hr,gu,if_neg (by omega),Int.toNat_natCast]
  exact BR p 61 [] 0 _ (by simp)
 have hsr:bP p (ko p)=(eX p,true):=by
  unfold bP
  rw [hst,hf,hr,decide_eq_false (by omega),Bool.not_false,Bool.and_true,if_pos rfl,if_pos hl]
 refine ⟨by rw [e]; exact ou hf,by rw [e]; exact F9 hf hl,by rw [hr]; omega,by rw [hr,e]; omega,by rw [hsr],by rw [hsr,e],by rw [e]; exact hl⟩
theorem Cn (p q:List C) (f:List T) (y:T):y∈d4 (p++q) f↔y∈d4 p f ∨ y∈d4 q f:=by
 simp only [d4,List.flatMap_append,List.mem_append]
/- a fact that holds adds nothing -/
theorem HK {p:List C} {g:T} (h:(bP p 61).2=true) (hg:g∈(bP p 61).1) (hw:eI (p++[⟨g,[]⟩])=true) (hgf:lq g st0=g):(bP (p++[⟨g,[]⟩]) 61).2=true/\(bP (p++[⟨g,[]⟩]) 61).1=(bP p 61).1:=by
 obtain ⟨hf,_,hl,e⟩:=yV h
 have hl:(eX p).length<=60:=hl
 have e:(bP p 61).1=eX p:=e
 rw [e] at hg ⊢
 have hone:∀ f y,y∈d4 [⟨g,[]⟩] f↔y=g:=by
  intro f y
  simp only [d4,List.flatMap_cons,List.flatMap_nil,List.append_nil,eo,hgf,List.mem_singleton]
 have hcl:∀ y∈d4 (p++[⟨g,[]⟩]) (eX p),y∈eX p:=by
  intro y hy
  rcases (Cn _ _ _ _).1 hy with h1|h1
  ·exact kN hf hl h1
  ·rw [(hone _ _).1 h1]; exact hg
 have hsub:∀ y∈eX (p++[⟨g,[]⟩]),y∈eX p:=tB hcl 61 [] 0 (by simp)
 have hFw:=ou hw
 have hlw:(eX (p++[⟨g,[]⟩])).length<=60:=Nat.le_trans (kK hFw.sorted.nodup hsub) hl
 have hback:∀ y∈eX p,y∈eX (p++[⟨g,[]⟩]):=by
  refine tB (fun y hy=>?_) 61 [] 0 (by simp)
  exact kN hw hlw ((Cn _ _ _ _).2 (.inl hy))
 have heq:eX (p++[⟨g,[]⟩])=eX p:=y5 hFw.sorted (ou hf).sorted fun y=>⟨hsub y,hback y⟩
 have hsw:bP (p++[⟨g,[]⟩]) 61=(eX (p++[⟨g,[]⟩]),true):=by
  unfold bP
  rw [hw,show decide ((61:Int)<0)=false from rfl,Bool.not_false,Bool.and_true,if_pos rfl]
  exact if_pos hlw
 rw [hsw]
 exact ⟨rfl,heq⟩
theorem JG {g:T} (h:Fct g):lq g st0=g:=by
 obtain ⟨hk,ho,hy⟩:=h
 have hn:g.n=0:=by
  rcases sL ho with h1|h1
  ·omega
  ·exact h1.2
 have hkids:g.kids.map (gN st0)=g.kids:=by
  have:∀ ks:List T,(∀ y∈ks,BC y)->ks.map (gN st0)=ks:=by
   intro ks
   induction ks with
   | nil=>intro _; rfl
   | cons y ks ih=>
    intro h
    rw [List.map_cons,ih fun z hz=>h z (List.mem_cons_of_mem _ hz),gN,if_neg (h y (List.mem_cons_self ..)).2.2]
  exact this _ hy
 rw [lq,hkids]
 cases g
 simp only [T.n] at hn
 simp only [T.kind,T.name,T.kids,hn]
end Go.Proofs.YtemmhhdnlbmicaaGreat

/- Steps that the laws' walks share: copies lent and marked, results compared, marked and read again. -/
namespace Go.Proofs.YtemmhhdnlbmicaaGreat
open Go Go.RowKit
section
variable {w w0:World} {X:List Nat} {L A:List Item} {S:aF} {K:Value->World->Prop}
attribute [local irreducible] Run CondV ah be
/- copies that will be marked: their blocks are known -/
/- they are marked, and nobody looks at them again -/
/- rows of predicates -/
end

end Go.Proofs.YtemmhhdnlbmicaaGreat

/- Steps that the laws' walks share: results that are trees. -/
namespace Go.Proofs.YtemmhhdnlbmicaaGreat
open Go Go.RowKit
section
variable {w w0:World} {X:List Nat} {L A:List Item} {S:aF} {K:Value->World->Prop}
attribute [local irreducible] Run CondV ah be
end

end Go.Proofs.YtemmhhdnlbmicaaGreat

/- FnExactStageModel returns true, whatever program and number of rounds come in. -/
namespace Go.Proofs.YtemmhhdnlbmicaaGreat
open Go Go.RowKit
section
variable {w w0:World} {X:List Nat} {L:List Item} {S:aF} {K:Value->World->Prop}
attribute [local irreducible] Run CondV ah be
theorem Run.pubTreeB {f:FuncId} {fn:Func} {args:List Value} {ys:List T} {b:Bool} (hf:Tryz.prog.funcs[f]?=some fn) (hn:(fn.name == "runtime.NumGoroutine" || fn.body.isNone)=false) (hI:Inv w0 X L S w)
  (hc:Tri Tryz.prog f args [] S (uW ys b)) (hk:∀ u S' w',Sle S S'->RdSl S' 4 (RdT S') u ys->Inv w0 X L S' w'->K (.tuple #[u,.bool b]) w'):Run Tryz.prog (aJ (.func (.func f) #[] #[]) args) w K:=by
 refine Run.call0 hf hn hI hc fun v' I' S' w'=>?_
 rintro ⟨u,M,rfl,rfl,hT⟩ hle hI
 obtain ⟨S1,hle1,hins,hI,_⟩:=Inv.lendAll M hI
 exact hk _ _ _ (hle.trans hle1) (hT.rd hins fun _ _ _ hi h=>h.rd hi) hI
end
section
attribute [local irreducible] Run CondV ah be
end

end Go.Proofs.YtemmhhdnlbmicaaGreat

/- FnFlatProgram, FnStageModel and FnLeastModel return true, whatever bytes come in: the walks. -/
namespace Go.Proofs.YtemmhhdnlbmicaaGreat
open Go Go.RowKit
theorem Light.fit {q:List C} (h:Light 30 900 q):wP q<=1048576:=by
 have:=h.le; omega
theorem Sorted.lt:∀ {l:List T} {i j:Nat} (_:Sorted l) (_:i<j) (hj:j<l.length),dL (l[i]'(by omega)) l[j]<0
 | [],i,j,_,_,hj=>by simp at hj
 | x::l,0,j+1,h,_,hj=>h.1 _ (List.getElem_mem _)
 | x::l,i+1,j+1,h,hij,hj=>by
  have:=Sorted.lt h.2 (show i<j by omega) (by simpa using hj)
  exact this
section
variable {S:aF} {ys:List Nat} {v:Value}
attribute [local irreducible] Run CondV ah be
end
end Go.Proofs.YtemmhhdnlbmicaaGreat

/- FnModelMore returns true, whatever bytes come in: the walk. -/
namespace Go.Proofs.YtemmhhdnlbmicaaGreat
open Go Go.RowKit
/- the row that is there after these operations -/
abbrev xJ (A B C:Item) (a b c:Bool):List Item:=match c with
 | true=>[C]
 | false=>match b with
  | true=>[B]
  | false=>match a with
   | true=>[A]
   | false=>[]
theorem Nk {α:Type} {S:aF} {k b:Nat} {R:List Value->α->Prop} {c:Array Value} {E:TypeId} {fz:Nat × Nat} {cs:List Value} {y:α} (h:S b=some (.cells c E fz)) (hR:R cs y) (hc:bw c 0 k=cs:=by rfl):RdSl S k R (.slice (some ⟨b,0,none⟩) 1 1) [y]:=
 ⟨_,1,rfl,Nat.le_refl _,by simp [maxLen],.inr ⟨b,0,c,E,fz,rfl,h,fun i hi=>by
  have:i=0:=by simpa using hi
  subst this
  rw [Nat.zero_mul,Nat.zero_add,hc]
  exact hR⟩⟩
theorem Ha {p:List C} {g:T} (hp:eI p=true) (hg:BP g=true) (hw:lo (p++[⟨g,[]⟩])=true):eI (p++[⟨g,[]⟩])=true:=by
 rw [eI,Bool.and_eq_true,List.all_eq_true] at hp ⊢
 refine ⟨hw,fun c hc=>?_⟩
 rcases List.mem_append.1 hc with h|h
 ·exact hp.2 c h
 ·rw [List.mem_singleton.1 h]
  rw [BP] at hg
  simp only [Bool.and_eq_true,decide_eq_true_eq] at hg
  obtain ⟨_,h2,h3⟩:=hg
  have hv:fQ g []=[]:=List.eq_nil_of_length_eq_zero h3
  rw [gl]
  show (ef g && (decide (([]:List T).length<=3) && (([]:List T).all ef && (fQ g []).all fun x=>io (eE [] []) x)))=true
  rw [h2,hv]
  rfl
section
variable {S:aF} {ys zs:List Nat} {v u:Value}
attribute [local irreducible] Run CondV ah be
theorem xw (h:RdSl S 1 jK v ys) (h':RdSl S 1 jK u zs):Pure Tryz.prog dJ [v,u] S (.bool true):=by
 intro w hI
 refine pa ?_
 unfold kZ;dsimp only
 refine ⟨fun t w'=>∃ b:Bool,t=.bool b/\Inv w [] [] S w',?_,?_⟩
 ·refine a9 h dV ?_
  refine eh ?_
  cases decide ((1048576:Int)<(ys.length:Int)) with
  | true=>
   repeat (first|refine ad ?_|refine af (by decide) ?_|refine ac ?_|refine al ?_|refine aj ?_)
   exact ⟨_,rfl,hI⟩
  | false=>
   repeat (first|refine ad ?_|refine af (by decide) ?_|refine ac ?_|refine al ?_|refine aj ?_)
   refine a9 h' dV ?_
   refine eh ?_
   repeat (first|refine ad ?_|refine af (by decide) ?_|refine ac ?_|refine al ?_|refine aj ?_)
   exact ⟨_,rfl,hI⟩
 intro t21 _ _ _ _ _ _ _ w'
 rintro ⟨b,rfl,hI⟩
 refine ba (fun _=>done hI rfl) (fun _=>?_)
 refine Run.call0E pq pc hI (nK h) fun pv I' S1 w'=>?_
 rintro ⟨rfl,q,hq,hl⟩ hE1 hI
 have hw:=hl.fit
 have hI:Inv w [] [] S1 w':=hI
 have h':=h'.monoU hE1.1
 obtain ⟨au,mu,rfl,_⟩:=id hq
 refine Run.pubTreeB mA mx hI (jt hq hw) fun a S2 w' hle2 ha hI=>?_
 have hq:=hq.monoC hle2
 refine bd (v:=a) rfl ?_
 refine bd (v:=.bool (bP q 61).2) rfl ?_
 refine Run.pubTreeB wn xn hI (qx hq hw) fun b S3 w' hle3 hb hI=>?_
 have hq:=hq.monoC hle3
 have ha:=ha.monoT hle3
 have h':=(h'.monoU hle2).monoU hle3
 refine bd (v:=b) rfl ?_
 refine bd (v:=.bool (bP q 61).2) rfl ?_
 have hle:=hE1.1.trans (hle2.trans hle3)
 have hln:=ha.le
 simp only [maxLen] at hln
 refine ⟨fun t w'=>t=.bool (!(bP q 61).2 || decide ((bP q 61).1.length=0))/\Inv w [] [] S3 w',?_,?_⟩
 ·refine Lv xM ?_
  rw [beq_self_eq_true]
  repeat (first|refine ad ?_|refine af (by decide) ?_|refine ac ?_|refine al ?_|refine aj ?_)
  refine Run.callPure l8 mp hI (kR ha hb) fun w' hI=>?_
  refine dh ?_
  repeat (first|refine ad ?_|refine af (by decide) ?_|refine ac ?_|refine al ?_|refine aj ?_)
  refine dh ?_
  cases hok:(bP q 61).2 with
  | false=>
   repeat (first|refine ad ?_|refine af (by decide) ?_|refine ac ?_|refine al ?_|refine aj ?_)
   exact ⟨rfl,hI⟩
  | true=>
   repeat (first|refine ad ?_|refine af (by decide) ?_|refine ac ?_|refine al ?_|refine aj ?_)
   refine a9 ha ay ?_
   refine bR ?_
   repeat (first|refine ad ?_|refine af (by decide) ?_|refine ac ?_|refine al ?_|refine aj ?_)
   refine ⟨?_,hI⟩
   rw [show decide (((bP q 61).1.length:Int)=0)=decide ((bP q 61).1.length=0) from by rw [decide_eq_decide]; omega]
   rfl
 intro t51 _ _ _ _ _ _ _ _ _ _ _ _ _ _ _ _ _ w'
 rintro ⟨rfl,hI⟩
 refine ba (fun _=>?_) (fun hbb=>?_)
 ·refine MF xM ?_
  rw [beq_self_eq_true]
  repeat (first|refine ad ?_|refine af (by decide) ?_|refine ac ?_|refine al ?_|refine aj ?_)
  refine Run.callPure l8 mp hI (kR ha hb) fun w' hI=>?_
  repeat (first|refine ad ?_|refine af (by decide) ?_|refine ac ?_|refine al ?_|refine aj ?_)
  exact lD hI hle rfl
 rw [Bool.or_eq_false_iff,Bool.not_eq_false',decide_eq_false_iff_not] at hbb
 obtain ⟨hok,hne⟩:=hbb
 have h0:0<(bP q 61).1.length:=by omega
 have hflat:=(yV hok).1
 obtain ⟨hF,hM,_,_,_,_,h60⟩:=GP hok
 refine a9 h' dV ?_
 refine a9 ha ay ?_
 refine CM h0 ?_
 have hm:=Nat.mod_lt zs.length h0
 obtain ⟨m,hme⟩:∃ m,m=zs.length % (bP q 61).1.length:=⟨_,rfl⟩
 rw [<- hme] at hm ⊢
 refine dZ hI ha ay ao hm (fun _ _=>RdT.length) fun cs hcs=>?_
 obtain ⟨g,hg⟩:∃ g,g=(bP q 61).1[m]:=⟨_,rfl⟩
 rw [<- hg] at hcs
 have hgm:g∈(bP q 61).1:=by rw [hg]; exact List.getElem_mem hm
 have hgF:=hF.fct g hgm
 have hgB:BP g=true:=by
  rw [Dl,G3] at hM
  simp only [Bool.and_eq_true,List.all_eq_true] at hM
  exact hM.2.1.1 g hgm
 have hlc:=hcs.length
 refine bH hI bL fun b10 w' hI=>?_
 refine bg hI 0 rfl ao (by simpa using hlc) rfl (by simpa using hcs.one) fun w' hI=>?_
 have hI:Inv w [] ([]++[.blk b10 (.cells cs.toArray ab)]) S3 w':=hI
 obtain ⟨S4,hI,hE4,hb10⟩:=hI.pub1
 have hb10:S4 b10=some (.cells cs.toArray ab):=hb10
 have hq4:=hq.monoC hE4.1
 have hcs4:=hcs.mono hE4.1
 have ha4:=ha.monoT hE4.1
 obtain ⟨kv,hcse,_,_,_,hkr⟩:=RdT.iff.1 hcs4
 obtain ⟨ak,ck,rfl,_⟩:=id hkr
 have hJ:=hI
 subst hcse
 have hI:=hJ
 have hcc:RdC S4 [.int .i64 g.kind,.int .i64 g.n,.string g.name,.slice ak g.kids.length ck,.slice none 0 0] ⟨g,[]⟩:=⟨[.int .i64 g.kind,.int .i64 g.n,.string g.name,.slice ak g.kids.length ck],_,rfl,hcs4,⟨none,0,rfl,Nat.le_refl _,Nat.zero_le _,.inl rfl⟩⟩
 have hql:=hl.1
 refine ⟨fun D fo ed ew eq ev el ey eQ w_=>(D 0=true->True)/\(D 1=true->ey=.slice au q.length mu)/\(D 2=true->True)/\(D 3=true->ev=.agg #[.int .i64 g.kind,.int .i64 g.n,.string g.name,.slice ak g.kids.length ck])/\(D 4=true->eq=.agg #[.int .i64 g.kind,.int .i64 g.n,.string g.name,.slice ak g.kids.length ck,.slice none 0 0])/\(D 5=true->True)/\(D 6=true->True)/\(D 7=true->True)/\∃ css c2 S',Sle S4 S'/\(D 2=true->Rows 5 (RdC S') css q)/\(D 6=true->Rows 5 (RdC S') c2 [⟨g,[]⟩])/\(D 5=true->RdSl S' 5 (RdC S') ew [⟨g,[]⟩])/\(D 7=true->fo=ed)/\(D 2=true->D 0=true)/\(D 6=true->D 2=true)/\(D 7=true->D 6=true)/\Inv w [] (xJ (bh eQ aQ 5 []) (bh el aQ 5 css) (bh ed aQ 5 (css++c2)) (D 0) (D 2) (D 6)) S' w_,⟨ae,ae,ae,ae,ae,ae,ae,ae,⟨[],[],S4,Sle.refl _,ae,ae,ae,ae,ae,ae,ae,hI.draw⟩⟩,⟨?_,?_,?_,?_,?_,?_,?_,?_,trivial⟩,?_⟩
 ·intro D aY  fo ed ew eq ev el ey eQ w_
  rintro ⟨aA,aB,aC,az,av,aE,aD,aH,⟨css,c2,S',hle4,e2,e6,e5,e7,k2,k6,k7,hI⟩⟩
  have f2:D 2=false:=Bool.eq_false_iff.2 fun h=>by rw [k2 h] at aY; cases aY
  have f6:D 6=false:=Bool.eq_false_iff.2 fun h=>by rw [k6 h] at f2; cases f2
  rw [aY,f2,f6] at hI
  refine eO hI fb fun v0 w_ hI=>?_
  have k2:=fun (_:aw D 0 2=true)=>(rfl:aw D 0 0=true)
  have hI:Inv w [] (xJ (bh v0 aQ 5 []) (bh el aQ 5 css) (bh ed aQ 5 (css++c2)) true (D 2) (D 6)) S' w_:=by
   rw [f2,f6]
   exact hI
  exact ⟨fun _=>by first|assumption|trivial,aB,aC,az,av,aE,aD,aH,⟨css,c2,S',hle4,e2,e6,e5,e7,k2,k6,k7,hI⟩⟩
 ·intro D aY  fo ed ew eq ev el ey eQ w_
  rintro ⟨aA,aB,aC,az,av,aE,aD,aH,⟨css,c2,S',hle4,e2,e6,e5,e7,k2,k6,k7,hI⟩⟩
  exact ⟨aA,fun _=>rfl,aC,az,av,aE,aD,aH,⟨css,c2,S',hle4,e2,e6,e5,e7,k2,k6,k7,hI⟩⟩
 ·intro D aY b0 il fo ed ew eq ev el ey eQ w_
  rintro ⟨aA,aB,aC,az,av,aE,aD,aH,⟨css,c2,S',hle4,e2,e6,e5,e7,k2,k6,k7,hI⟩⟩
  have Nx:=aA b0
  obtain rfl:=aB il
  have f6:D 6=false:=Bool.eq_false_iff.2 fun h=>by rw [k6 h] at aY; cases aY
  rw [b0,aY,f6] at hI
  refine gL hI 0 fb (by omega) rfl (hq4.monoC hle4) (fun _ _=>RdC.length) (fun _ _=>RdC.one) (by simp; omega) (by omega) fun v4 w_ css hR hI=>?_
  have e2:=fun (_:aw D 2 2=true)=>hR
  have k2:=fun (_:aw D 2 2=true)=>b0
  have k6:=fun (_:aw D 2 6=true)=>(rfl:aw D 2 2=true)
  have hI:Inv w [] (xJ (bh eQ aQ 5 []) (bh v4 aQ 5 css) (bh ed aQ 5 (css++c2)) (D 0) true (D 6)) S' w_:=by
   rw [b0,f6]
   exact hI
  exact ⟨aA,aB,fun _=>by first|assumption|trivial,az,av,aE,aD,aH,⟨css,c2,S',hle4,e2,e6,e5,e7,k2,k6,k7,hI⟩⟩
 ·intro D aY  fo ed ew eq ev el ey eQ w_
  rintro ⟨aA,aB,aC,az,av,aE,aD,aH,⟨css,c2,S',hle4,e2,e6,e5,e7,k2,k6,k7,hI⟩⟩
  refine cU (cs:=[.int .i64 g.kind,.int .i64 g.n,.string g.name,.slice ak g.kids.length ck]) ao rfl (fun j v hj=>by rw [hI.cellS (hle4 _ _ hb10),Nat.zero_add]; simpa using hj) ?_
  exact ⟨aA,aB,aC,fun _=>rfl,av,aE,aD,aH,⟨css,c2,S',hle4,e2,e6,e5,e7,k2,k6,k7,hI⟩⟩
 ·intro D aY dB fo ed ew eq ev el ey eQ w_
  rintro ⟨aA,aB,aC,az,av,aE,aD,aH,⟨css,c2,S',hle4,e2,e6,e5,e7,k2,k6,k7,hI⟩⟩
  obtain rfl:=az dB
  refine iF ?_
  exact ⟨aA,aB,aC,az,fun _=>rfl,aE,aD,aH,⟨css,c2,S',hle4,e2,e6,e5,e7,k2,k6,k7,hI⟩⟩
 ·intro D aY cF fo ed ew eq ev el ey eQ w_
  rintro ⟨aA,aB,aC,az,av,aE,aD,aH,⟨css,c2,S',hle4,e2,e6,e5,e7,k2,k6,k7,hI⟩⟩
  obtain rfl:=av cF
  refine eN hI fb (by simp [Value.cells]) (by omega) (by omega) fun b5 w_ hI=>?_
  obtain ⟨S5,hI,hE5,hb5⟩:=hI.pub1
  have hcc5:=hcc.mono (hle4.trans hE5.1)
  have e5:aw D 5 5=true->RdSl S5 5 (RdC S5) (.slice (some ⟨b5,0,none⟩) 1 1) [⟨g,[]⟩]:=fun _=>Nk hb5 hcc5
  have e2:aw D 5 2=true->Rows 5 (RdC S5) css q:=fun h=>(e2 h).monoR fun _ _ h=>h.mono hE5.1
  have e6:aw D 5 6=true->Rows 5 (RdC S5) c2 [⟨g,[]⟩]:=fun h=>(e6 h).monoR fun _ _ h=>h.mono hE5.1
  have hle4:=hle4.trans hE5.1
  obtain ⟨S',hS'⟩:∃ x,x=S5:=⟨_,rfl⟩
  subst hS'
  exact ⟨aA,aB,aC,az,av,fun _=>by first|assumption|trivial,aD,aH,⟨css,c2,S',hle4,e2,e6,e5,e7,k2,k6,k7,hI⟩⟩
 ·intro D aY ec g0 wv fo ed ew eq ev el ey eQ w_
  rintro ⟨aA,aB,aC,az,av,aE,aD,aH,⟨css,c2,S',hle4,e2,e6,e5,e7,k2,k6,k7,hI⟩⟩
  have NE:=aC ec
  have LM:=aE g0
  have f7:D 7=false:=Bool.eq_false_iff.2 fun h=>by rw [k7 h] at aY; cases aY
  have hd2:=ec
  rw [hd2,aY] at hI
  have hc1:=(e2 hd2).hc
  refine gL hI 0 fb (by omega) rfl (e5 g0) (fun _ _=>RdC.length) (fun _ _=>RdC.one) (by simp at hc1 ⊢; omega) (by omega) fun v9 w_ c2 hR hI=>?_
  have e6:=fun (_:aw D 6 6=true)=>hR
  have e7:aw D 6 7=true->fo=v9:=fun h=>absurd h (by rw [show aw D 6 7=D 7 from rfl,f7]; decide)
  have k6:=fun (_:aw D 6 6=true)=>hd2
  have k7:=fun (_:aw D 6 7=true)=>(rfl:aw D 6 6=true)
  have hI:Inv w [] (xJ (bh eQ aQ 5 []) (bh el aQ 5 css) (bh v9 aQ 5 (css++c2)) (D 0) (D 2) true) S' w_:=hI
  exact ⟨aA,aB,aC,az,av,aE,fun _=>by first|assumption|trivial,aH,⟨css,c2,S',hle4,e2,e6,e5,e7,k2,k6,k7,hI⟩⟩
 ·intro D aY cJ f0 nY tb s0 qY s5 xu wt fo ed ew eq ev el ey eQ w_
  rintro ⟨aA,aB,aC,az,av,aE,aD,aH,⟨css,c2,S',hle4,e2,e6,e5,e7,k2,k6,k7,hI⟩⟩
  have L4:=aD cJ
  have e7:=fun (_:aw D 7 7=true)=>(rfl:ed=ed)
  have k7:=fun (_:aw D 7 7=true)=>cJ
  exact ⟨aA,aB,aC,az,av,aE,aD,fun _=>by first|assumption|trivial,⟨css,c2,S',hle4,e2,e6,e5,e7,k2,k6,k7,hI⟩⟩
 intro D fK fL fH fC fB fE fM fJ fo ed ew eq ev el ey eQ w_
 rintro ⟨aA,aB,aC,az,av,aE,aD,aH,⟨css,c2,S',hle4,e2,e6,e5,e7,k2,k6,k7,hI⟩⟩
 have Kh:=aH fK
 have L4:=aD fL
 have LM:=aE fH
 obtain rfl:=av fC
 obtain rfl:=az fB
 have NE:=aC fE
 obtain rfl:=aB fM
 have Nx:=aA fJ
 clear aA aB aC az av aE aD aH
 obtain rfl:=e7 fK
 rw [fL] at hI
 have hI:Inv w [] [bh fo aQ 5 (css++c2)] S' w_:=hI
 obtain ⟨S6,hE6,hI,hr6⟩:=lL (A:=[]) hI ((e2 fE).append (e6 fL))
 have hle6:=hle4.trans hE6.1
 have ha6:=ha4.monoT hle6
 have hww:wP (q++[⟨g,[]⟩])<=1048576:=by
  have h1:=hl.le
  have h2:=(hgF.ok).2.2.2
  have:∀ p:List C,wP (p++[⟨g,[]⟩])=wP p+wC ⟨g,[]⟩:=by
   intro p
   induction p with
   | nil=>simp [wP]
   | cons c p ih=>simp only [List.cons_append,wP,ih]; omega
  rw [this]
  have:wC ⟨g,[]⟩=wT g:=by simp [wC,wL]
  omega
 refine Run.pubTreeB mA mx hI (jt hr6 hww) fun a7 S7 w' hle7 ha7 hI=>?_
 have hr7:=hr6.monoC hle7
 have ha:=ha6.monoT hle7
 have hle:=hle.trans (hE4.1.trans (hle6.trans hle7))
 refine bd (v:=a7) rfl ?_
 refine bd (v:=.bool (bP (q++[⟨g,[]⟩]) 61).2) rfl ?_
 refine Run.callPure j3 kF hI (iW hr7) fun w' hI=>?_
 refine dh ?_
 cases hv:lo (q++[⟨g,[]⟩]) with
 | false=>
  repeat (first|refine ad ?_|refine af (by decide) ?_|refine ac ?_|refine al ?_|refine aj ?_)
  exact lD hI hle rfl
 | true=>
  obtain ⟨h1,h2⟩:=HK hok hgm (Ha hflat hgB hv) (JG hgF)
  rw [h1]
  rw [h2] at ha7
  repeat (first|refine ad ?_|refine af (by decide) ?_|refine ac ?_|refine al ?_|refine aj ?_)
  refine Run.callPure l8 mp hI (kR ha7 ha) fun w' hI=>?_
  repeat (first|refine ad ?_|refine af (by decide) ?_|refine ac ?_|refine al ?_|refine aj ?_)
  exact lD hI hle rfl
end
end Go.Proofs.YtemmhhdnlbmicaaGreat

/- What every row of this seat owes beside its walk: the arguments read again as they did, and nothing that was there has turned. -/
namespace Go.Proofs.YtemmhhdnlbmicaaGreat
open Go Go.ChangeShapes Go.WideShapes Go.ChangeAt Go.RowKit

theorem Tryz.own:ownKnob Tryz.prog.godebug=none:=by kernel_rfl
theorem Tryz.kids:Kids Tryz.prog (·<Tryz.prog.types.size):=kids_rows (by kernel_rfl) (by kernel_rfl)
theorem Tryz.full:∀ t e,t<Tryz.prog.types.size->Tryz.prog.underlying t=some (.slice e)->0<Tryz.prog.cellsOf e:=slices_full_of Tryz.prog (by kernel_rfl)
section
variable {H:Type} {enc:TypeId × Value->H} {W W':World}
theorem FN {P:Program}:∀ {ts:List TypeId} {vs:List Value} {ds:List (DataW H)} {ps:List MemPlace},DataW.TrodAll enc P W 0 (fun _=>true) true ts vs ds ps->(∀ p∈ps,W.sameAt W' p)->
  DataW.TrodAll enc P W' 0 (fun _=>true) true ts vs ds ps
 | [],[],[],_,h,_=>h
 | _::_,_::_,_::_,_,⟨p,q,⟨n,h1⟩,h2,e⟩,hs=>
  ⟨p,q,⟨n,DataW.trod_carry n _ _ _ h1 fun x hx=>hs x (by rw [e]; exact List.mem_append_left _ hx)⟩,FN h2 fun x hx=>hs x (by rw [e]; exact List.mem_append_right _ hx),e⟩
theorem LD {p:MemPlace} (h:∀ b,b<W.heap.size->W'.heap[b]?=W.heap[b]?) (hp:p.block<W.heap.size):W.sameAt W' p:=by
 cases p with
 | cell b off=>simp only [World.sameAt,World.cell?]; rw [h b hp]
 | map b=>exact h b hp
/- a function of the program whose walk ends with 'true' and with all that was there as it was: the row's 'post' -/
theorem Ju {f:Func} {s:ChangeSpec} {args:Array Value} {ds gs:List (DataW H)} {before p q:List MemPlace}
  (hW:DataW.Whole enc Tryz.prog f.params.toList s.vars false W args.toList ds gs before) (hA:DataW.TrodAll enc Tryz.prog W 0 (fun _=>true) true f.params.toList args.toList ds p)
  (hV:DataW.TrodVars enc Tryz.prog W (fun _=>true) s.vars gs q) (hb:before=p++q) (hv:s.vars=[]) (hts:∀ t∈f.params.toList,t<Tryz.prog.types.size) (hr:f.resultTypes=#[Lm])
  (hs:(s.fn H (ds++gs)).results=[.lit (.bool true)]) (ha:(s.fn H (ds++gs)).args=ds) (hsv:(s.fn H (ds++gs)).vars=[]) (hI:Inv W [] [] (IV W) W') :
  s.post enc Tryz.prog f false true false false W args (.bool true) W':=by
 have hsame:∀ b,b<W.heap.size->W'.heap[b]?=W.heap[b]?:=fun b hb=>hI.same b hb
 have hlt:=hW.lt
 rw [hv] at hV
 obtain ⟨hg,hq⟩:=trodVars_none hV
 subst hq
 rw [List.append_nil] at hb
 subst hb
 have hA':=FN (W':=W') hA fun x hx=>LD hsame (hlt x hx)
 refine ⟨ds,gs,before,[],before,[],hW,?_,?_,?_,JD hI.os hI.output hsame,fun h=>by cases h⟩
 ·rw [hs,hr]
  exact trodAll_mk1 (shut_bool xM true)
 ·rw [ha]
  exact DataW.TrodAll.respare Tryz.kids Tryz.full hts hA' fun x hx=>by simpa using hlt x hx
 ·rw [hv,hsv]
  rfl
end

end Go.Proofs.YtemmhhdnlbmicaaGreat
