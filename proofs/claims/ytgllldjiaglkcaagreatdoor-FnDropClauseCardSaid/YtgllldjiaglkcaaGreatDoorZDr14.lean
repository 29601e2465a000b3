/- impl: resolved terms, if they are small. -/
import Derived.Test.YtgllldjiaglkcaaGreatDoorZDr12
import Derived.Test.YtgllldjiaglkcaaGreatDoorZDr10
import Derived.Test.YtgllldjiaglkcaaGreatDoorZDr11
import Derived.Test.YtgllldjiaglkcaaGreatDoorZDr4
import Derived.Test.YtgllldjiaglkcaaGreatDoorZDr13
import Derived.Test.YtgllldjiaglkcaaGreatDoorZDr2
import Derived.Test.YtgllldjiaglkcaaGreatDoorZDr1
import Derived.Test.YtgllldjiaglkcaaGreatDoorZDr3
namespace Go.Proofs.YtgllldjiaglkcaaGreatDoor
section
open Go Go.RowKit
theorem KnownM.up {S S':ad} {es:Array MapEntry} {st:ag} (h:KnownM S es st) (hs:Sle S S'):KnownM S' es st:=
 ⟨fun e he=>by
  obtain ⟨n,t,cs,h1,h2,h3,h4⟩:=h.1 e he
  exact ⟨n,t,cs,h1,h2,h3.mono hs,h4⟩,h.2⟩
theorem StS.up {S S':ad} {sb:Nat} {st:ag} (h:StS S S sb st) (hs:Sle S S'):StS S' S' sb st:=by
 obtain ⟨mb,tv,es,ck,E,h1,h2,h3⟩:=h
 exact ⟨mb,tv,es,ck,E,hs _ _ h1,hs _ _ h2,h3.up hs⟩
def okR (u:T) (deep count:Int):Bool:=decide (count+di u<=120) && Kf u (31 - deep)
def RC (st:ag) (sb:Nat) (t u:T):Prop:=∀ (S:ad) (cs:List Value) (cb:Nat) (deep count:Int),RdT S cs t->StS S S sb st->1<=deep->deep<=1000000->0<=count->count<=1000000->
 Tri Tryz.prog pY [.pointer (some ⟨sb,0,none⟩),.agg cs.toArray,.int .i64 deep,.pointer (some ⟨cb,0,none⟩)] [.blk cb (.cells #[.int .i64 count] bE)] S fun q I' S'=>
  ∃ (cs':List Value) (c':Int),q=.tuple #[.agg cs'.toArray,.bool (okR u deep count)]/\I'=[.blk cb (.cells #[.int .i64 c'] bE)]/\cs'.length=4/\(∀ x∈cs',x.oneCell'=true)/\(okR u deep count=true->c'=count+di u/\RdT S' cs' u)
section
attribute [local irreducible] Run CondV ai az
theorem yq {N:Nat} {st:ag} {sb:Nat} {t v:T} {us:List T} (hg:Good N st) (hwv:cD st t v) (hot:okU N t/\wT t<=1048576) (hlu:us.length=v.kids.length)
  (hk:∀ i (h:i<us.length) (h':i<v.kids.length),RC st sb v.kids[i] us[i]):RC st sb t (.mk v.kind v.n v.name us):=by
 intro S cs cb deep count h hst hd0 hd1 hc0 hc1 w hI
 have hlc:=h.length
 have hov:=cU hg hwv hot
 obtain ⟨X,hX⟩:∃ X,X=bk [Item.blk cb (.cells #[.int .i64 count] bE)]:=⟨_,rfl⟩
 rw [<- hX] at hI ⊢
 have hcu:=ey us
 have hokd:okR (.mk v.kind v.n v.name us) deep count=(decide (count+(1+cm us)<=120) && (if 31 - deep<1 then false else KH us (31 - deep - 1))):=by
  rw [okR,CQ,Kf]
 refine ij.2 ?_
 dsimp only[ij,iB]
 refine bt hI fun b5 w' hI=>?_
 refine aM hI aU fun b8 w' hI=>?_
 have hI:Inv w X ([.blk b5 (.cells cs.toArray ab),.blk b8 (.cells #[.int .i64 0,.int .i64 0,.string ⟨#[]⟩,.slice none 0 0] ab)]++[.blk cb (.cells #[.int .i64 count] bE)]) S w':=hI.perm (List.perm_append_comm (l₁:=[_,_]) (l₂:=[_]))
 refine aA hI 0 ac rfl (by simpa using hlc) ?_
 refine Run.call0 fC fE hI (iN hg hwv hot.1 hst h) fun v' I' S' w'=>?_
 rintro ⟨eS,rfl,cs',rfl,hcs'⟩ _ hI
 rw [eS] at hI
 clear eS
 refine av hI 0 rfl ac (by simpa using hcs'.length) (by simpa using hlc) (by simpa using hcs'.one) fun w' hI=>?_
 obtain ⟨kv,rfl,hi1,hi2,hs,hks⟩:=RdT.iff.1 hcs'
 have hI:Inv w X [.blk b5 (.cells #[.int .i64 v.kind,.int .i64 v.n,.string v.name,kv] ab),.blk b8 (.cells #[.int .i64 0,.int .i64 0,.string ⟨#[]⟩,.slice none 0 0] ab),.blk cb (.cells #[.int .i64 count] bE)] S w':=hI
 have hlen:=hks.le
 have hkl:v.kids.length<=1048576:=by
  have:=hov.2
  cases v
  simp only [wT] at this
  simp only [T.kids]
  omega
 refine ao ?_
 refine aS hI 2 aE rfl rfl ?_
 refine bq (by omega) ?_
 refine ao ?_
 refine cw hI 2 (n:=1) rfl (by decide +kernel) rfl (by simp) (by simp [Value.cells,Value.oneCell']) fun w' hI=>?_
 have hI:Inv w X [.blk b5 (.cells #[.int .i64 v.kind,.int .i64 v.n,.string v.name,kv] ab),.blk b8 (.cells #[.int .i64 0,.int .i64 0,.string ⟨#[]⟩,.slice none 0 0] ab),.blk cb (.cells #[.int .i64 (count+1)] bE)] S w':=hI
 refine ⟨fun q w'=>q=.bool (decide (120<count+1 ∨ 30<deep))/\Inv w X [.blk b5 (.cells #[.int .i64 v.kind,.int .i64 v.n,.string v.name,kv] ab),.blk b8 (.cells #[.int .i64 0,.int .i64 0,.string ⟨#[]⟩,.slice none 0 0] ab),.blk cb (.cells #[.int .i64 (count+1)] bE)] S w',?_,?_⟩
 ·refine ao ?_
  refine aS hI 2 aE rfl rfl ?_
  refine dB ?_
  by_cases e1:120<count+1
  ·rw [decide_eq_true e1]
   refine rpG ?_
   exact ⟨by rw [decide_eq_true (Or.inl e1)],hI⟩
  ·rw [decide_eq_false e1]
   refine rpG ?_
   refine dB ?_
   refine rpG ?_
   refine ⟨?_,hI⟩
   congr 1
   rw [Bool.eq_iff_iff,decide_eq_true_eq,decide_eq_true_eq]
   omega
 intro q _ _ _ _ _ _ _ w'
 rintro ⟨rfl,hI⟩
 refine aI (fun hbad=>?_) (fun hgood=>?_)
 ·have hno:okR (.mk v.kind v.n v.name us) deep count=false:=by
   rw [hokd]
   rcases hbad with e|e
   ·rw [decide_eq_false (by omega),Bool.false_and]
   ·rw [if_pos (by omega),Bool.and_false]
  refine tR ?_
  refine av hI 1 rfl ac rfl rfl rW fun w' hI=>?_
  refine bl hI 1 ac rfl rfl ?_
  exact ⟨_,_,_,rfl,hI.pick [false,false,true],Ext.refl _ _ _,[.int .i64 0,.int .i64 0,.string ⟨#[]⟩,.slice none 0 0],count+1,by rw [hno],rfl,rfl,rW,fun h=>by rw [hno] at h; cases h⟩
 have hg1:count+1<=120:=by omega
 have hg2:deep<=30:=by omega
 rw [if_neg (by omega)] at hokd
 refine ae hI 0 rfl aQ aE rfl ?_
 refine ae hI 0 rfl ba aE rfl ?_
 refine ae hI 0 rfl aR aL rfl ?_
 refine nK ?_
 refine aM hI aU fun b10 w' hI=>?_
 have hI:Inv w X [.blk b5 (.cells #[.int .i64 v.kind,.int .i64 v.n,.string v.name,kv] ab),.blk b8 (.cells #[.int .i64 0,.int .i64 0,.string ⟨#[]⟩,.slice none 0 0] ab),.blk b10 _,.blk cb (.cells #[.int .i64 (count+1)] bE)] S w':=hI.perm (((List.perm_append_comm (l₁:=[_]) (l₂:=[_])).cons _).cons _)
 refine av hI 2 rfl ac rfl rfl (by simp [Value.oneCell']) fun w' hI=>?_
 have hI:=hI.rowNil ab 4
 have hI:Inv w X [.blk b5 (.cells #[.int .i64 v.kind,.int .i64 v.n,.string v.name,kv] ab),.blk b8 (.cells #[.int .i64 0,.int .i64 0,.string ⟨#[]⟩,.slice none 0 0] ab),.blk b10 (.cells #[.int .i64 v.kind,.int .i64 v.n,.string v.name,.slice none 0 0] ab),aC (.slice none 0 0) ab 4 [],.blk cb (.cells #[.int .i64 (count+1)] bE)] S w':=hI.perm ((((List.perm_append_comm (l₁:=[_]) (l₂:=[_])).cons _).cons _).cons _)
 refine ae hI 0 rfl au aj rfl ?_
 refine aG hks ah ?_
 refine ⟨fun i w'=>∃ (j:Nat) (c:Int) (kvc:Value) (css:List (List Value)) (S1:ad),j<=us.length/\i=.int .i64 j/\Ext w.heap.size X S S1/\c=count+1+cm (us.take j)/\c<=120/\(∀ k (_:k<us.length),k<j->Kf us[k] (31 - deep - 1)=true)/\Rows 4 (RdT S1) css (us.take j)/\
   Inv w X [.blk b5 (.cells #[.int .i64 v.kind,.int .i64 v.n,.string v.name,kv] ab),.blk b8 (.cells #[.int .i64 0,.int .i64 0,.string ⟨#[]⟩,.slice none 0 0] ab),.blk b10 (.cells #[.int .i64 v.kind,.int .i64 v.n,.string v.name,kvc] ab),aC kvc ab 4 css,.blk cb (.cells #[.int .i64 c] bE)] S1 w',
  fun i _=>us.length - (intOf i).toNat,⟨0,count+1,_,[],S,Nat.zero_le _,rfl,Ext.refl _ _ _,by simp [cm],hg1,fun k _ h=>by omega,Rows.nil _ _,hI⟩,?_⟩
 intro t42 _ _ _ _ _ _ _ _ _ _ _ _ _ _ _ _ _ _ _ _ _ _ _ _ _ _ w'
 rintro ⟨j,c,kvc,css,S1,hj,rfl,hE,hc,hc120,hdep,hR,hI⟩
 have hpos:=ey (us.take j)
 refine bI ?_
 refine aI (fun hji=>?_) (fun hji=>?_)
 ·have hj1:j<us.length:=by omega
  have hj2:j<v.kids.length:=by omega
  have hcl:=hR.hc
  rw [List.length_take] at hcl
  refine ci hI (hks.monoT hE.1) ah ac hj2 (fun _ _=>RdT.length) fun cs0 hcs0=>?_
  have hlc0:=hcs0.length
  refine aM hI aU fun b12 w' hI=>?_
  have hI:=hI.perm (M:=.blk b12 _::[.blk b5 (.cells #[.int .i64 v.kind,.int .i64 v.n,.string v.name,kv] ab),.blk b8 (.cells #[.int .i64 0,.int .i64 0,.string ⟨#[]⟩,.slice none 0 0] ab),.blk b10 (.cells #[.int .i64 v.kind,.int .i64 v.n,.string v.name,kvc] ab),aC kvc ab 4 css,.blk cb (.cells #[.int .i64 c] bE)]) (List.perm_append_comm (l₁:=[_]))
  refine av hI 0 rfl ac (by simpa using hlc0) rfl (by simpa using hcs0.one) fun w' hI=>?_
  refine aA hI 0 ac rfl (by simpa using hlc0) ?_
  refine bq (by omega) ?_
  have hI:Inv w X ([.blk b5 (.cells #[.int .i64 v.kind,.int .i64 v.n,.string v.name,kv] ab),.blk b8 (.cells #[.int .i64 0,.int .i64 0,.string ⟨#[]⟩,.slice none 0 0] ab),.blk b10 (.cells #[.int .i64 v.kind,.int .i64 v.n,.string v.name,kvc] ab),aC kvc ab 4 css]++[.blk cb (.cells #[.int .i64 c] bE)]) S1 w':=hI.pick [false,true,true,true,true,true]
  refine Run.callE il ia hI (hk j hj1 hj2 S1 cs0 cb (deep+1) c hcs0 (hst.up hE.1) (by omega) (by omega) (by omega) (by omega)) fun v' I' S2 w'=>?_
  rintro ⟨cs2,c2,rfl,rfl,hl4,ho4,hrd⟩ hE2 hI
  refine al rfl ?_
  refine al rfl ?_
  refine aM hI aU fun b13 w' hI=>?_
  have hI:=hI.perm (M:=.blk b13 _::[.blk b5 (.cells #[.int .i64 v.kind,.int .i64 v.n,.string v.name,kv] ab),.blk b8 (.cells #[.int .i64 0,.int .i64 0,.string ⟨#[]⟩,.slice none 0 0] ab),.blk b10 (.cells #[.int .i64 v.kind,.int .i64 v.n,.string v.name,kvc] ab),aC kvc ab 4 css,.blk cb (.cells #[.int .i64 c2] bE)]) (List.perm_append_comm (l₁:=[_]))
  refine av hI 0 rfl ac (by simpa using hl4) rfl (by simpa using ho4) fun w' hI=>?_
  refine bK ?_
  have hct:=KE us j hj1
  have hcle:=DU us (j+1)
  refine aw (fun hb=>?_) (fun hb=>?_)
  ·have hb':okR us[j] (deep+1) c=false:=by simpa using hb
   have hno:okR (.mk v.kind v.n v.name us) deep count=false:=by
    rw [hokd]
    rw [okR,Bool.and_eq_false_iff] at hb'
    rcases hb' with e|e
    ·have e:=of_decide_eq_false e
     rw [decide_eq_false (by omega),Bool.false_and]
    ·have:KH us (31 - deep - 1)=false:=by
      rw [yO,List.all_eq_false]
      exact ⟨us[j],List.getElem_mem hj1,by rw [show 31 - deep - 1=31 - (deep+1) by omega,e]; decide⟩
     rw [this,Bool.and_false]
   refine tR ?_
   have hI:Inv w X [.blk b13 (.cells cs2.toArray ab),.blk b5 (.cells #[.int .i64 v.kind,.int .i64 v.n,.string v.name,kv] ab),.blk b8 (.cells #[.int .i64 0,.int .i64 0,.string ⟨#[]⟩,.slice none 0 0] ab),.blk b10 (.cells #[.int .i64 v.kind,.int .i64 v.n,.string v.name,kvc] ab),aC kvc ab 4 css,.blk cb (.cells #[.int .i64 c2] bE)] S2 w':=hI
   refine av hI 2 rfl ac rfl rfl rW fun w' hI=>?_
   refine bl hI 2 ac rfl rfl ?_
   exact ⟨_,_,_,rfl,hI.pick [false,false,false,false,false,true],hE.trans hE2,[.int .i64 0,.int .i64 0,.string ⟨#[]⟩,.slice none 0 0],c2,by rw [hno],rfl,rfl,rW,fun h=>by rw [hno] at h; cases h⟩
  ·have hb':okR us[j] (deep+1) c=true:=by simpa using hb
   obtain ⟨hc2,hR2⟩:=hrd hb'
   rw [okR,Bool.and_eq_true,decide_eq_true_eq] at hb'
   refine ae (b:=b10) (c:=#[.int .i64 v.kind,.int .i64 v.n,.string v.name,kvc]) hI 3 rfl au aj rfl ?_
   refine aA hI 0 ac rfl (by simpa using hl4) ?_
   refine cR hI 4 cs2 bu (by omega) (by omega) rfl hl4 ho4 (by omega) (by omega) fun kvc2 w' hI=>?_
   have hkv2:=yB (hI.its (aC kvc2 ab 4 (css++[cs2])) (by simp))
   refine cn (b:=b10) (c:=#[.int .i64 v.kind,.int .i64 v.n,.string v.name,kvc]) hI 3 rfl au aj rfl hkv2.1 hkv2.2 fun w' hI=>?_
   have hI:Inv w X [.blk b5 (.cells #[.int .i64 v.kind,.int .i64 v.n,.string v.name,kv] ab),.blk b8 (.cells #[.int .i64 0,.int .i64 0,.string ⟨#[]⟩,.slice none 0 0] ab),.blk b10 (.cells #[.int .i64 v.kind,.int .i64 v.n,.string v.name,kvc2] ab),aC kvc2 ab 4 (css++[cs2]),.blk cb (.cells #[.int .i64 c2] bE)] S2 w':=hI.pick [false,true,true,true,true,true]
   refine bq (by omega) ?_
   refine ⟨⟨j+1,c2,kvc2,css++[cs2],S2,hj1,rfl,hE.trans hE2,by omega,by omega,fun k hk2 hkj=>?_,?_,hI⟩,by simp [intOf]; omega⟩
   ·by_cases e:k=j
    ·subst e
     rw [show 31 - deep - 1=31 - (deep+1) by omega]
     exact hb'.2
    ·exact hdep k hk2 (by omega)
   ·rw [List.take_succ_eq_append_getElem hj1]
    exact (hR.monoR fun _ _ h=>RdT.mono hE2.1 h).snoc hR2 hl4
 ·have hje:j=us.length:=by omega
  subst hje
  rw [List.take_length] at hR hc
  have hyes:okR (.mk v.kind v.n v.name us) deep count=true:=by
   rw [hokd,decide_eq_true (by omega),Bool.true_and,yO,List.all_eq_true]
   intro x hx
   obtain ⟨k,hk2,rfl⟩:=List.mem_iff_getElem.1 hx
   exact hdep k hk2 hk2
  refine aA (b:=b10) (c:=#[.int .i64 v.kind,.int .i64 v.n,.string v.name,kvc]) hI 2 ac rfl rfl ?_
  have hkv2:=yB (hI.its (aC kvc ab 4 css) (by simp))
  have hone:∀ x∈([.int .i64 v.kind,.int .i64 v.n,.string v.name,kvc]:List Value),x.oneCell'=true:=by
   intro x hx
   simp at hx
   rcases hx with rfl|rfl|rfl|rfl <;> first|rfl|exact hkv2.2
  refine av hI 1 rfl ac rfl rfl hone fun w' hI=>?_
  refine bl (c:=#[.int .i64 v.kind,.int .i64 v.n,.string v.name,kvc]) hI 1 ac rfl rfl ?_
  have hI:Inv w X ([.blk cb (.cells #[.int .i64 c] bE)]++[aC kvc ab 4 css]) S1 w':=(hI.pick [false,false,false,true,true]).perm (List.Perm.swap ..)
  obtain ⟨S3,hE3,hrd,hI⟩:=hI.lendExt
  have hrr:=RowRd.rows (hR.monoR fun _ _ h=>RdT.mono hE3.1 h) hrd
  exact ⟨_,_,_,rfl,hI,hE.trans hE3,[.int .i64 v.kind,.int .i64 v.n,.string v.name,kvc],c,by rw [hyes],rfl,rfl,hone,fun _=>⟨by rw [CQ]; omega,RdT.iff.2 ⟨kvc,rfl,hi1,hi2,hs,hrr⟩⟩⟩
theorem xM {N:Nat} {st:ag} (sb:Nat) (hg:Good N st) {j:Ij} (hr:Res st j):match j with
  | .one t u=>(okU N t/\wT t<=1048576)->RC st sb t u
  | .list ts us=>(∀ t∈ts,okU N t/\wT t<=1048576)->us.length=ts.length/\∀ i (h:i<us.length) (h':i<ts.length),RC st sb ts[i] us[i]:=by
 induction hr with
 | one hw _ ih=>
  intro ho
  have h1:=ih (gX (cU hg hw ho))
  exact yq hg hw ho h1.1 h1.2
 | nil=>exact fun _=>⟨rfl,fun i h _=>by simp at h⟩
 | cons _ _ ih1 ih2=>
  intro ho
  obtain ⟨h1,h2⟩:=ih2 fun t ht=>ho t (List.mem_cons_of_mem _ ht)
  refine ⟨by simp [h1],fun i h h'=>?_⟩
  cases i with
  | zero=>exact ih1 (ho _ (List.mem_cons_self ..))
  | succ i=>exact h2 i (by simpa using h) (by simpa using h')
theorem AM {N:Nat} {st:ag} (hg:Good N st) {t u:T} (hr:Res st (.one t u)) (ho:okU N t/\wT t<=1048576) {S:ad} {cs:List Value} {sb:Nat} (h:RdT S cs t) (hst:StS S S sb st) :
  Tri Tryz.prog jX [.pointer (some ⟨sb,0,none⟩),.agg cs.toArray] [] S fun q I' S'=>I'=[]/\∃ cs':List Value,cs'.length=4/\(∀ x∈cs',x.oneCell'=true)/\q=.tuple #[.agg cs'.toArray,.bool (bw u)]/\(bw u=true->RdT S' cs' u):=by
 intro w hI
 have hlc:=h.length
 have hI:Inv w [] [] S w:=hI
 have hrc:RC st sb t u:=xM sb hg hr ho
 have e:okR u 1 0=bw u:=by rw [okR,bw,Int.zero_add]; rfl
 refine js.2 ?_
 dsimp only[js,aX]
 refine bt hI fun b3 w' hI=>?_
 refine aM hI aU fun b4 w' hI=>?_
 have hz:fo Tryz.prog bE=some (.int .i64 0):=by kernel_rfl
 refine aM hI hz fun b6 w' hI=>?_
 refine cw hI 2 (n:=1) rfl (by decide +kernel) rfl (by simp [Value.cells]) (by simp [Value.cells,Value.oneCell']) fun w' hI=>?_
 have hI:Inv w [] ([.blk b3 (.cells cs.toArray ab),.blk b4 (.cells #[.int .i64 0,.int .i64 0,.string ⟨#[]⟩,.slice none 0 0] ab)]++[.blk b6 (.cells #[.int .i64 0] bE)]) S w':=hI
 refine aA hI 0 ac rfl (by simpa using hlc) ?_
 refine Run.callE il ia hI (hrc S cs b6 1 0 h hst (by omega) (by omega) (by omega) (by omega)) fun v' I' S2 w'=>?_
 rintro ⟨cs2,c2,rfl,rfl,hl4,ho4,hrd⟩ hE2 hI
 rw [e] at hrd ⊢
 refine al rfl ?_
 refine al rfl ?_
 have hI:Inv w [] [.blk b3 (.cells cs.toArray ab),.blk b4 (.cells #[.int .i64 0,.int .i64 0,.string ⟨#[]⟩,.slice none 0 0] ab),.blk b6 (.cells #[.int .i64 c2] bE)] S2 w':=hI
 refine av hI 1 rfl ac (by simpa using hl4) rfl (by simpa using ho4) fun w' hI=>?_
 refine bl hI 1 ac rfl (by simpa using hl4) ?_
 exact ⟨_,_,_,rfl,hI.nil,hE2,rfl,cs2,hl4,ho4,rfl,fun h=>(hrd h).2⟩
end
end
section
open Go Go.RowKit
mutual
theorem DK:∀ t:T,okU 26 t->okV t
 | .mk k n s ks,h=>by
  rw [okU] at h
  rw [okV]
  exact ⟨fun hk=>by have:=h.2.1 hk; omega,GD ks h.2.2.1⟩
theorem GD:∀ ts:List T,bH 26 ts->uR ts
 | [],_=>by rw [uR]; trivial
 | t::ts,h=>by
  rw [bH] at h
  rw [uR]
  exact ⟨DK t h.1,GD ts h.2⟩
end
section
attribute [local irreducible] Run CondV ai az
theorem C3 {K:Value->World->Prop} {w:World} {mb:Nat} (hk:K (.agg #[.map (some mb),.slice none 0 0]) w):Run Tryz.prog (bJ bV [(0,.map (some mb))]) w K:=by
 refine Run.of (v:=.agg #[.map (some mb),.slice none 0 0]) (w':=w) ?_ hk
 unfold bJ
 rw [Sem.run_bind,run_build w bV _ #[.map (some mb),.slice none 0 0] (by kernel_rfl),Result.andThen_ok]
 rfl
theorem zA (S:ad):Tri Tryz.prog DS [] [] S fun r I' S'=>S'=S/\∃ sb mb,r=.pointer (some ⟨sb,0,none⟩)/\I'=aq sb mb #[] 0 (.slice none 0 0) []:=by
 intro w hI
 have hI:Inv w [] [] S w:=hI
 refine qp.2 ?_
 dsimp only[qp,j9]
 refine Cs hI fun mb w' hI=>?_
 refine C3 ?_
 refine bt hI fun sb w' hI=>?_
 have hI:=hI.rowNil bE 1
 have hI:Inv w [] (aq sb mb #[] 0 (.slice none 0 0) []) S w':=hI.perm (List.Perm.swap ..)
 exact ⟨_,_,_,rfl,hI,Ext.refl _ _ _,rfl,sb,mb,rfl,rfl⟩
theorem KnownM.none (S:ad) (N:Nat):KnownM S #[] (List.replicate N Option.none):=by
 refine ⟨fun e he=>by simp at he,fun n t h=>?_,by simp⟩
 have:=List.mem_of_getElem? h
 simp at this
end
end
section
open Go Go.RowKit
def RL:ag:=List.replicate 26 none
theorem Af:∀ n:Nat,unb (List.replicate n none)=n
 | 0=>rfl
 | n+1=>by rw [List.replicate_succ,unb,Af n]
theorem B6 (N:Nat):Good N (List.replicate N none):=⟨by simp,fun t ht=>by simp at ht,fun t ht=>by simp at ht,fun n=>n,fun n u hu=>by
 have:=List.mem_of_getElem? hu
 simp at this⟩
theorem KnU.zero (z:Array Value) (hz:z=#[.int .i64 0,.int .i64 0,.string ⟨#[]⟩,.slice none 0 0]) (S:ad) (N:Nat):KnU S ((Array.range (N * 4)).map (z[· % z.size]!)) (List.replicate N none):=by
 subst hz
 refine ⟨by simp,fun i hi=>⟨fun _=>?_,fun t ht=>?_⟩⟩
 ·simp only [List.length_replicate] at hi
  apply List.ext_getElem?
  intro j
  rw [aJ,List.getElem?_take]
  match j with
  | 0|1|2|3=>
   rw [if_pos (by omega),List.getElem?_drop,Array.getElem?_toList,Array.getElem?_map,Array.getElem?_range,if_pos (by omega)]
   simp only [Option.map_some,List.size_toArray,List.length_cons,List.length_nil]
   first
    | rw [show (i * 4+0) % 4=0 by omega]; rfl
    | rw [show (i * 4+1) % 4=1 by omega]; rfl
    | rw [show (i * 4+2) % 4=2 by omega]; rfl
    | rw [show (i * 4+3) % 4=3 by omega]; rfl
  | j+4=>
   rw [if_neg (by omega)]
   rfl
 ·have e:(List.replicate N (none:Option T))[i]=none:=by simp
  rw [e] at ht
  cases ht
def Rl (code:Int) (st:ag):Bool:=decide (code=0) && st.all Option.isNone
section
variable {w:World} {K:Value->World->Prop}
attribute [local irreducible] Run CondV ai az
end
end
section
open Go Go.RowKit
structure Ch where
 goal:T
 rest:List (T × Int)
 left:List Int
 binds:ag
structure St6 where
 goals:List (T × Int)
 binds:ag
 chs:List Ch
def RdCh (S:ad) (cs:List Value) (c:Ch):Prop:=∃ hd g l b,cs=hd++[g,l,b]/\RdT S hd c.goal/\RdSl S 5 (RdG S) g c.rest/\RdSl S 1 lb l c.left/\RdSl S 4 (RdO S) b c.binds
theorem RdSl.sl {α:Type} {S:ad} {k:Nat} {R:List Value->α->Prop} {v:Value} {xs:List α} (h:RdSl S k R v xs):v.oneCell'=true:=by
 obtain ⟨a,m,rfl,_⟩:=h; rfl
theorem RdSl.monoO {S S':ad} {v:Value} {st:ag} (hs:Sle S S') (h:RdSl S 4 (RdO S) v st):RdSl S' 4 (RdO S') v st:=h.mono hs fun _ _=>RdO.mono hs
theorem RdCh.length {S:ad} {cs:List Value} {c:Ch} (h:RdCh S cs c):cs.length=7:=by
 obtain ⟨hd,g,l,b,rfl,h,_⟩:=h; simp [h.length]
theorem RdCh.one {S:ad} {cs:List Value} {c:Ch} (h:RdCh S cs c):∀ u∈cs,u.oneCell'=true:=by
 obtain ⟨hd,g,l,b,rfl,h,h1,h2,h3⟩:=h
 intro u hu
 rcases List.mem_append.1 hu with hu|hu
 ·exact h.one u hu
 ·simp only [List.mem_cons,List.not_mem_nil,or_false] at hu
  rcases hu with rfl|rfl|rfl
  ·exact h1.sl
  ·exact h2.sl
  ·exact h3.sl
theorem RdCh.mono {S S':ad} {cs:List Value} {c:Ch} (hs:Sle S S') (h:RdCh S cs c):RdCh S' cs c:=by
 obtain ⟨hd,g,l,b,rfl,h,h1,h2,h3⟩:=h
 exact ⟨hd,g,l,b,rfl,h.mono hs,h1.monoG hs,h2.mono hs fun _ _ h=>h,h3.monoO hs⟩
theorem RdSl.monoCh {S S':ad} {v:Value} {cs:List Ch} (hs:Sle S S') (h:RdSl S 7 (RdCh S) v cs):RdSl S' 7 (RdCh S') v cs:=h.mono hs fun _ _=>RdCh.mono hs
def RdS6 (S:ad) (cs:List Value) (s:St6):Prop:=∃ g b c,cs=[g,b,c]/\RdSl S 5 (RdG S) g s.goals/\RdSl S 4 (RdO S) b s.binds/\RdSl S 7 (RdCh S) c s.chs
theorem RdS6.length {S:ad} {cs:List Value} {s:St6} (h:RdS6 S cs s):cs.length=3:=by
 obtain ⟨g,b,c,rfl,_⟩:=h; rfl
theorem RdS6.one {S:ad} {cs:List Value} {s:St6} (h:RdS6 S cs s):∀ u∈cs,u.oneCell'=true:=by
 obtain ⟨g,b,c,rfl,h1,h2,h3⟩:=h
 intro u hu
 simp only [List.mem_cons,List.not_mem_nil,or_false] at hu
 rcases hu with rfl|rfl|rfl
 ·exact h1.sl
 ·exact h2.sl
 ·exact h3.sl
theorem RdS6.mono {S S':ad} {cs:List Value} {s:St6} (hs:Sle S S') (h:RdS6 S cs s):RdS6 S' cs s:=by
 obtain ⟨g,b,c,rfl,h1,h2,h3⟩:=h
 exact ⟨g,b,c,rfl,h1.monoG hs,h2.monoO hs,h3.monoCh hs⟩
section
variable {w:World} {K:Value->World->Prop}
attribute [local irreducible] Run
end
section
attribute [local irreducible] Run CondV ai az
end
end
section
open Go Go.RowKit
theorem Good.grow {N:Nat} {st:ag} (h:Good N st) (k:Nat):Good (N+k) (st++List.replicate k none):=by
 have hm:∀ t,some t∈st++List.replicate k none->some t∈st:=fun t ht=>by
  rcases List.mem_append.1 ht with ht|ht
  ·exact ht
  ·have:=List.eq_of_mem_replicate ht
   cases this
 obtain ⟨r,hr⟩:=h.rk
 refine ⟨by simp [h.len],fun t ht=>fm (Nat.le_add_right ..) t (h.ok t (hm t ht)),fun t ht=>h.w t (hm t ht),r,fun n u hu=>?_⟩
 refine hr n u ?_
 rw [List.getElem?_append] at hu
 split at hu
 ·exact hu
 ·have:=List.eq_of_mem_replicate (List.mem_of_getElem? hu)
  cases this
def MR (b:ag) (cl:C):ag:=b++List.replicate (oC cl).toNat none
def th (cl:C):Prop:=(okU (oC cl).toNat cl.head/\wT cl.head<=1048576)/\∀ t∈cl.body,okU (oC cl).toNat t/\wT t<=1048576
def mG (chs:List Ch) (c:Ch) (cl:C) (l:List Int) (st:ag):St6:=
 ⟨cl.body.map (fun t=>(bv c.binds.length t,(chs.length:Int)))++c.rest,st,chs++(if l=[] then [] else [⟨c.goal,c.rest,l,c.binds⟩])⟩
inductive TryL (p:List C) (chs:List Ch) (c:Ch):List Int->Option St6->Prop
 | nil:TryL p chs c [] none
 | hit {i:Nat} {l:List Int} {cl:C} {st:ag}:p[i]?=some cl->Uni (MR c.binds cl) (.one c.goal (bv c.binds.length cl.head)) true st->TryL p chs c ((i:Int)::l) (some (mG chs c cl l st))
 | miss {i:Nat} {l:List Int} {cl:C} {st:ag} {o:Option St6}:p[i]?=some cl->Uni (MR c.binds cl) (.one c.goal (bv c.binds.length cl.head)) false st->TryL p chs c l o->TryL p chs c ((i:Int)::l) o
theorem TryL.inv {p:List C} {chs:List Ch} {c:Ch} {x:Int} {l:List Int} {o:Option St6} (h:TryL p chs c (x::l) o) :
  ∃ (i:Nat) (cl:C) (r:Bool) (st:ag),x=i/\p[i]?=some cl/\Uni (MR c.binds cl) (.one c.goal (bv c.binds.length cl.head)) r st/\((r=true/\o=some (mG chs c cl l st)) ∨ (r=false/\TryL p chs c l o)):=by
 cases h with
 | hit h1 h2=>exact ⟨_,_,_,_,rfl,h1,h2,.inl ⟨rfl,rfl⟩⟩
 | miss h1 h2 h3=>exact ⟨_,_,_,_,rfl,h1,h2,.inr ⟨rfl,h3⟩⟩
structure nC (c:Ch):Prop where
 good:Good c.binds.length c.binds
 goal:okU c.binds.length c.goal/\wT c.goal<=1048576
 rest:∀ g∈c.rest,okU c.binds.length g.1/\wT g.1<=1048576
structure O4 (s:St6):Prop where
 good:Good s.binds.length s.binds
 goals:∀ g∈s.goals,okU s.binds.length g.1/\wT g.1<=1048576
 chs:∀ c∈s.chs,nC c
theorem uj {c:Ch} (hc:nC c) (cl:C):Good (c.binds.length+(oC cl).toNat) (MR c.binds cl):=hc.good.grow _
theorem C2 {c:Ch} {cl:C} (hc:nC c) (hcl:th cl):okJ (c.binds.length+(oC cl).toNat) (.one c.goal (bv c.binds.length cl.head)):=by
 refine ⟨⟨fm (Nat.le_add_right ..) _ hc.goal.1,hc.goal.2⟩,?_,?_⟩
 ·have:=iW c.binds.length cl.head hcl.1.1
  rw [Nat.add_comm] at this
  exact this
 ·rw [lp]; exact hcl.1.2
theorem TryL.ex {p:List C} (hp:∀ cl∈p,th cl) (chs:List Ch) {c:Ch} (hc:nC c):∀ l:List Int,(∀ i∈l,0<=i/\i<p.length)->∃ o,TryL p chs c l o
 | [],_=>⟨none,.nil⟩
 | i::l,hl=>by
  obtain ⟨h0,h1⟩:=hl i (List.mem_cons_self ..)
  obtain ⟨n,rfl⟩:∃ n:Nat,i=n:=⟨i.toNat,by omega⟩
  have hn:n<p.length:=by omega
  have hg:p[n]?=some p[n]:=List.getElem?_eq_getElem hn
  have hcl:=hp _ (List.getElem_mem hn)
  obtain ⟨r,st,hu⟩:=yY _ _ (uj hc p[n]) (Nat.le_refl _) _ (C2 hc hcl)
  cases r with
  | true=>exact ⟨_,.hit hg hu⟩
  | false=>
   obtain ⟨o,ho⟩:=TryL.ex hp chs hc l fun i hi=>hl i (List.mem_cons_of_mem _ hi)
   exact ⟨o,.miss hg hu ho⟩
theorem TryL.ok {p:List C} (hp:∀ cl∈p,th cl) {chs:List Ch} (hh:∀ c∈chs,nC c) {c:Ch} (hc:nC c) {l:List Int} {o:Option St6} (h:TryL p chs c l o):∀ s,o=some s->O4 s:=by
 induction h with
 | nil=>intro s h; cases h
 | miss _ _ _ ih=>exact ih
 | @hit i l cl st hi hu=>
  intro s hs
  simp only [Option.some.injEq] at hs
  subst hs
  have hcl:=hp _ (List.mem_of_getElem? hi)
  obtain ⟨hg,_⟩:=hu.good (uj hc cl) (C2 hc hcl)
  have hlen:=hg.len
  refine ⟨by rw [mG,hlen]; exact hg,fun g hm=>?_,fun d hd=>?_⟩
  ·rw [mG] at hm ⊢
   simp only at hm ⊢
   rw [hlen]
   rcases List.mem_append.1 hm with hm|hm
   ·obtain ⟨t,ht,rfl⟩:=List.mem_map.1 hm
    obtain ⟨q1,q2⟩:=hcl.2 t ht
    have:=iW c.binds.length t q1
    rw [Nat.add_comm] at this
    exact ⟨this,by rw [lp]; exact q2⟩
   ·exact ⟨fm (Nat.le_add_right ..) _ (hc.rest g hm).1,(hc.rest g hm).2⟩
  ·rw [mG] at hd
   rcases List.mem_append.1 hd with hd|hd
   ·exact hh d hd
   ·split at hd
    ·cases hd
    ·rw [List.mem_singleton] at hd
     subst hd
     exact ⟨hc.good,hc.goal,hc.rest⟩
end
section
open Go Go.RowKit
structure Sp where
 goal:T
 clause:Int
 body:Int
structure Se where
 st:St6
 steps:List Sp
 saved:List (List Sp)
inductive FirstL (p:List C) (chs:List Ch) (c:Ch):List Int->Option (St6 × Int × List Int)->Prop
 | nil:FirstL p chs c [] none
 | hit {i:Int} {l:List Int} {s:St6}:TryL p chs c [i] (some s)->FirstL p chs c (i::l) (some (s,i,l))
 | miss {i:Int} {l:List Int} {o:Option (St6 × Int × List Int)}:TryL p chs c [i] none->FirstL p chs c l o->FirstL p chs c (i::l) o
theorem FirstL.ex {p:List C} (hp:∀ cl∈p,th cl) (chs:List Ch) {c:Ch} (hc:nC c):∀ l:List Int,(∀ i∈l,0<=i/\i<p.length)->∃ o,FirstL p chs c l o
 | [],_=>⟨none,.nil⟩
 | i::l,hl=>by
  obtain ⟨o,ho⟩:=TryL.ex hp chs hc [i] fun j hj=>by
   rw [List.mem_singleton] at hj
   subst hj
   exact hl j (List.mem_cons_self ..)
  cases o with
  | some s=>exact ⟨_,.hit ho⟩
  | none=>
   obtain ⟨o,h2⟩:=FirstL.ex hp chs hc l fun j hj=>hl j (List.mem_cons_of_mem _ hj)
   exact ⟨o,.miss ho h2⟩
theorem FirstL.ok {p:List C} (hp:∀ cl∈p,th cl) {chs:List Ch} (hh:∀ c∈chs,nC c) {c:Ch} (hc:nC c) {l:List Int} {o:Option (St6 × Int × List Int)} (h:FirstL p chs c l o) :
  ∀ s i r,o=some (s,i,r)->O4 s/\i∈l/\(∀ j∈r,j∈l):=by
 induction h with
 | nil=>intro s i r h; cases h
 | miss _ _ ih=>
  intro s i r h
  obtain ⟨h1,h2,h3⟩:=ih s i r h
  exact ⟨h1,List.mem_cons_of_mem _ h2,fun j hj=>List.mem_cons_of_mem _ (h3 j hj)⟩
 | hit ht=>
  intro s i r h
  simp only [Option.some.injEq,Prod.mk.injEq] at h
  obtain ⟨rfl,rfl,rfl⟩:=h
  exact ⟨ht.ok hp hh hc _ rfl,List.mem_cons_self ..,fun j hj=>List.mem_cons_of_mem _ hj⟩
def j7 (p:List C) (s:Se) (c:Ch) (u:St6) (i:Int) (l:List Int):Se:=
 ⟨⟨u.goals,u.binds,s.st.chs++(if l=[] then [] else [⟨c.goal,c.rest,l,c.binds⟩])⟩,s.steps++[⟨c.goal,i,((p[i.toNat]?).elim 0 fun cl=>(cl.body.length:Int))⟩],s.saved++(if l=[] then [] else [s.steps])⟩
inductive TakeR (p:List C) (s:Se) (c:Ch):Option Se->Prop
 | no:FirstL p s.st.chs c c.left none->TakeR p s c none
 | yes {u:St6} {i:Int} {l:List Int}:FirstL p s.st.chs c c.left (some (u,i,l))->TakeR p s c (some (j7 p s c u i l))
structure oG (n:Nat) (s:Se):Prop where
 st:O4 s.st
 left:∀ c∈s.st.chs,∀ i∈c.left,0<=i/\i<n
 len:s.saved.length=s.st.chs.length
theorem TakeR.ex {p:List C} (hp:∀ cl∈p,th cl) (s:Se) {c:Ch} (hc:nC c) (hl:∀ i∈c.left,0<=i/\i<p.length):∃ o,TakeR p s c o:=by
 obtain ⟨o,ho⟩:=FirstL.ex hp s.st.chs hc c.left hl
 cases o with
 | none=>exact ⟨_,.no ho⟩
 | some x=>exact ⟨_,.yes (u:=x.1) (i:=x.2.1) (l:=x.2.2) ho⟩
theorem TakeR.ok {p:List C} (hp:∀ cl∈p,th cl) {s:Se} (hh:∀ c∈s.st.chs,nC c) (hf:∀ c∈s.st.chs,∀ i∈c.left,0<=i/\i<p.length) (hn:s.saved.length=s.st.chs.length) {c:Ch} (hc:nC c)
  (hl:∀ i∈c.left,0<=i/\i<p.length) {o:Option Se} (h:TakeR p s c o):∀ s',o=some s'->oG p.length s':=by
 intro s' hs
 cases h with
 | no _=>cases hs
 | @yes u i l hF=>
  simp only [Option.some.injEq] at hs
  subst hs
  obtain ⟨h1,h2,h3⟩:=hF.ok hp hh hc u i l rfl
  refine ⟨⟨h1.good,h1.goals,fun d hd=>?_⟩,fun d hd j hj=>?_,?_⟩
  ·rcases List.mem_append.1 hd with hd|hd
   ·exact hh d hd
   ·split at hd
    ·cases hd
    ·rw [List.mem_singleton] at hd
     subst hd
     exact ⟨hc.good,hc.goal,hc.rest⟩
  ·rcases List.mem_append.1 hd with hd|hd
   ·exact hf d hd j hj
   ·split at hd
    ·cases hd
    ·rw [List.mem_singleton] at hd
     subst hd
     exact hl j (h3 j hj)
  ·simp only [j7,List.length_append]
   split <;> simp [hn]
inductive BackR (p:List C):List Ch->List (List Sp)->Option Se->Prop
 | nil {ss:List (List Sp)}:BackR p [] ss none
 | hit {cs:List Ch} {ss:List (List Sp)} {c:Ch} {t:List Sp} {s:Se}:TakeR p ⟨⟨[],[],cs⟩,t,ss⟩ c (some s)->BackR p (cs++[c]) (ss++[t]) (some s)
 | miss {cs:List Ch} {ss:List (List Sp)} {c:Ch} {t:List Sp} {o:Option Se}:TakeR p ⟨⟨[],[],cs⟩,t,ss⟩ c none->BackR p cs ss o->BackR p (cs++[c]) (ss++[t]) o
theorem BackR.ex {p:List C} (hp:∀ cl∈p,th cl):∀ (n:Nat) (cs:List Ch) (ss:List (List Sp)),cs.length=n->ss.length=n->(∀ c∈cs,nC c)->(∀ c∈cs,∀ i∈c.left,0<=i/\i<p.length)->
  ∃ o,BackR p cs ss o/\∀ s,o=some s->oG p.length s:=by
 intro n
 induction n with
 | zero=>
  intro cs ss h _ _ _
  have:=List.eq_nil_of_length_eq_zero h
  subst this
  exact ⟨none,.nil,fun s h=>by cases h⟩
 | succ n ih=>
  intro cs ss h1 h2 hh hf
  obtain ⟨cs,c,rfl⟩:=List.eq_nil_or_concat cs |>.resolve_left fun e=>by rw [e] at h1; cases h1
  obtain ⟨ss,t,rfl⟩:=List.eq_nil_or_concat ss |>.resolve_left fun e=>by rw [e] at h2; cases h2
  simp only [List.concat_eq_append,List.length_append,List.length_singleton,Nat.add_right_cancel_iff] at h1 h2 hh hf ⊢
  have hc:=hh c (by simp)
  have hl:=hf c (by simp)
  have hh':∀ c∈cs,nC c:=fun d hd=>hh d (List.mem_append_left _ hd)
  have hf':∀ c∈cs,∀ i∈c.left,0<=i/\i<p.length:=fun d hd=>hf d (List.mem_append_left _ hd)
  obtain ⟨o,ho⟩:=TakeR.ex hp ⟨⟨[],[],cs⟩,t,ss⟩ hc hl
  cases o with
  | some s=>exact ⟨_,.hit ho,fun s' e=>ho.ok hp hh' hf' (by simp only; omega) hc hl s' e⟩
  | none=>
   obtain ⟨o,h3,h4⟩:=ih cs ss h1 h2 hh' hf'
   exact ⟨o,.miss ho h3,h4⟩
end
section
open Go Go.RowKit
def fS (p:List C) (g:T):List Int:=fM (fun c=>kB (bU c.head) (bU g)) p 0
theorem l0 (p:List C) (g:T):∀ i∈fS p g,0<=i/\i<p.length:=by
 intro i hi
 obtain ⟨j,h0,rfl,hj,_⟩:=yn _ p 0 i hi
 omega
inductive OneR (p:List C) (s:Se):Se->Int->Prop
 | big {g:T × Int} {rest:List (T × Int)} {u:T}:s.st.goals=g::rest->Res s.st.binds (.one g.1 u)->(bw u=false ∨ dI u=true)->OneR p s s 0
 | took {g:T × Int} {rest:List (T × Int)} {u:T} {s':Se}:s.st.goals=g::rest->Res s.st.binds (.one g.1 u)->bw u=true->dI u=false->bB u=false->
   TakeR p s ⟨u,rest,fS p u,s.st.binds⟩ (some s')->OneR p s s' (-1)
 | stuck {g:T × Int} {rest:List (T × Int)} {u:T}:s.st.goals=g::rest->Res s.st.binds (.one g.1 u)->bw u=true->dI u=false->bB u=false->
   TakeR p s ⟨u,rest,fS p u,s.st.binds⟩ none->OneR p s s (-2)
 | fail {g:T × Int} {rest:List (T × Int)} {u:T} {st:ag}:s.st.goals=g::rest->Res s.st.binds (.one g.1 u)->bw u=true->dI u=false->bB u=true->
   Blt s.st.binds u 1 st->OneR p s s (-2)
 | err {g:T × Int} {rest:List (T × Int)} {u:T} {st:ag} {c:Int}:s.st.goals=g::rest->Res s.st.binds (.one g.1 u)->bw u=true->dI u=false->bB u=true->
   Blt s.st.binds u c st->c≠0->c≠1->OneR p s s 0
 | solved {g:T × Int} {rest:List (T × Int)} {u:T} {st:ag}:s.st.goals=g::rest->Res s.st.binds (.one g.1 u)->bw u=true->dI u=false->bB u=true->
   Blt s.st.binds u 0 st->OneR p s ⟨⟨rest,st,s.st.chs⟩,s.steps++[⟨u,-1,0⟩],s.saved⟩ (-1)
theorem OneR.ex {p:List C} (hp:∀ cl∈p,th cl) {s:Se} (hs:oG p.length s) (hg:s.st.goals≠[]):∃ s' k,OneR p s s' k/\oG p.length s':=by
 obtain ⟨g,rest,hgr⟩:∃ g rest,s.st.goals=g::rest:=by
  cases h:s.st.goals with
  | nil=>exact absurd h hg
  | cons g rest=>exact ⟨g,rest,rfl⟩
 have hgo:=hs.st.goals
 rw [hgr] at hgo
 have hg1:=hgo g (List.mem_cons_self ..)
 obtain ⟨us,hus⟩:=sE hs.st.good [g.1] (by simp only [bH]; exact ⟨hg1.1,trivial⟩)
 obtain ⟨u,hu⟩:∃ u,Res s.st.binds (.one g.1 u):=by
  cases hus with
  | cons h _=>exact ⟨_,h⟩
 have hou:okU s.st.binds.length u:=gu hs.st.good hu hg1.1
 cases hsm:bw u with
 | false=>exact ⟨_,_,.big hgr hu (.inl hsm),hs⟩
 | true=>
  have hw:=er hsm hou
  cases hc:dI u with
  | true=>exact ⟨_,_,.big hgr hu (.inr hc),hs⟩
  | false=>
   cases hb:bB u with
   | false=>
    have hch:nC ⟨u,rest,fS p u,s.st.binds⟩:=⟨hs.st.good,⟨hou,by simp only; omega⟩,fun x hx=>hgo x (List.mem_cons_of_mem _ hx)⟩
    obtain ⟨o,ho⟩:=TakeR.ex hp s hch (l0 p u)
    cases o with
    | none=>exact ⟨_,_,.stuck hgr hu hsm hc hb ho,hs⟩
    | some s'=>exact ⟨_,_,.took hgr hu hsm hc hb ho,ho.ok hp hs.st.chs hs.left hs.len hch (l0 p u) _ rfl⟩
   | true=>
    obtain ⟨c,st,hB⟩:=Blt.ex hs.st.good hb ⟨hou,by omega⟩
    by_cases h1:c=1
    ·subst h1
     exact ⟨_,_,.fail hgr hu hsm hc hb hB,hs⟩
    by_cases h0:c=0
    ·subst h0
     refine ⟨_,_,.solved hgr hu hsm hc hb hB,?_⟩
     have hgd:=hB.good hs.st.good hb ⟨hou,by omega⟩
     have hl:=hgd.len
     exact ⟨⟨by simp only [hl]; exact hgd,fun x hx=>by simp only [hl]; exact hgo x (List.mem_cons_of_mem _ hx),hs.st.chs⟩,hs.left,hs.len⟩
    ·exact ⟨_,_,.err hgr hu hsm hc hb hB h0 h1,hs⟩
end
section
open Go Go.RowKit
inductive Srch (p:List C):Nat->Se->Option Se->Prop
 | done {n:Nat} {s:Se}:s.st.goals=[]->Srch p n s (some s)
 | out {s:Se}:s.st.goals≠[]->Srch p 0 s none
 | halt {n:Nat} {s s':Se}:s.st.goals≠[]->OneR p s s' 0->Srch p (n+1) s none
 | step {n:Nat} {s s':Se} {o:Option Se}:s.st.goals≠[]->OneR p s s' (-1)->Srch p n s' o->Srch p (n+1) s o
 | stop {n:Nat} {s s':Se}:s.st.goals≠[]->OneR p s s' (-2)->BackR p s'.st.chs s'.saved none->Srch p (n+1) s none
 | back {n:Nat} {s s' t:Se} {o:Option Se}:s.st.goals≠[]->OneR p s s' (-2)->BackR p s'.st.chs s'.saved (some t)->Srch p n t o->Srch p (n+1) s o
theorem OneR.code {p:List C} {s s':Se} {k:Int} (h:OneR p s s' k):k=0 ∨ k=-1 ∨ k=-2:=by
 cases h <;> simp
theorem Srch.ex {p:List C} (hp:∀ cl∈p,th cl):∀ (n:Nat) (s:Se),oG p.length s->∃ o,Srch p n s o/\∀ t,o=some t->oG p.length t:=by
 intro n
 induction n with
 | zero=>
  intro s hs
  by_cases hg:s.st.goals=[]
  ·exact ⟨_,.done hg,fun t h=>by rw [Option.some.injEq] at h; subst h; exact hs⟩
  ·exact ⟨_,.out hg,fun t h=>by cases h⟩
 | succ n ih=>
  intro s hs
  by_cases hg:s.st.goals=[]
  ·exact ⟨_,.done hg,fun t h=>by rw [Option.some.injEq] at h; subst h; exact hs⟩
  obtain ⟨s',k,h1,h2⟩:=OneR.ex hp hs hg
  rcases h1.code with rfl|rfl|rfl
  ·exact ⟨_,.halt hg h1,fun t h=>by cases h⟩
  ·obtain ⟨o,h3,h4⟩:=ih s' h2
   exact ⟨o,.step hg h1 h3,h4⟩
  ·obtain ⟨o,h3,h4⟩:=BackR.ex hp _ s'.st.chs s'.saved rfl h2.len h2.st.chs h2.left
   cases o with
   | none=>exact ⟨_,.stop hg h1 h3,fun t h=>by cases h⟩
   | some t=>
    obtain ⟨o,h5,h6⟩:=ih t (h4 t rfl)
    exact ⟨o,.back hg h1 h3 h5,h6⟩
end
section
open Go Go.RowKit
def lc:List Sp->Int
 | []=>1
 | x::xs=>x.body - 1+lc xs
theorem wt:∀ (a b:List Sp),lc (a++b)=lc a+lc b - 1
 | [],b=>by rw [List.nil_append,lc]; omega
 | x::a,b=>by rw [List.cons_append,lc,lc,wt a b]; omega
theorem ue (a:List Sp) (x:Sp):lc (a++[x])=lc a+x.body - 1:=by
 rw [wt]
 simp only [lc]
 omega
def openP (l:List Sp):Prop:=∀ a b,l=a++b->b≠[]->0<lc a
theorem openP.nil:openP []:=by
 intro a b h hb
 have:=congrArg List.length h
 cases b with
 | nil=>exact absurd rfl hb
 | cons y b=>simp at this
theorem openP.snoc {l:List Sp} (h:openP l) (hp:0<lc l) (x:Sp):openP (l++[x]):=by
 intro a b e hb
 obtain ⟨b',y,rfl⟩:=(List.eq_nil_or_concat b).resolve_left hb
 rw [List.concat_eq_append,<- List.append_assoc] at e
 have e2:=List.append_inj_left' e (by simp)
 subst e2
 cases b' with
 | nil=>rw [List.append_nil] at hp; exact hp
 | cons z b'=>exact h a (z::b') rfl (by simp)
structure okP (s:Se):Prop where
 goals:(s.st.goals.length:Int)=lc s.steps
 openP:openP s.steps
 saved:∀ i (h:i<s.st.chs.length) (h':i<s.saved.length),(s.st.chs[i].rest.length:Int)+1=lc s.saved[i]/\Go.Proofs.YtgllldjiaglkcaaGreatDoor.openP s.saved[i]
def JT (p:List C) (i:Int):Int:=(p[i.toNat]?).elim 0 fun cl=>(cl.body.length:Int)
theorem TryL.goals {p:List C} {chs:List Ch} {c:Ch} {i:Int} {s:St6} (h:TryL p chs c [i] (some s)):(s.goals.length:Int)=JT p i+c.rest.length:=by
 cases h with
 | hit hi _=>simp [mG,JT,hi]
 | miss _ _ h=>cases h
theorem FirstL.goals {p:List C} {chs:List Ch} {c:Ch} {l:List Int} {o:Option (St6 × Int × List Int)} (h:FirstL p chs c l o):∀ s i r,o=some (s,i,r)->(s.goals.length:Int)=JT p i+c.rest.length:=by
 induction h with
 | nil=>intro s i r h; cases h
 | miss _ _ ih=>exact ih
 | hit ht=>
  intro s i r h
  simp only [Option.some.injEq,Prod.mk.injEq] at h
  obtain ⟨rfl,rfl,rfl⟩:=h
  exact ht.goals
theorem TakeR.okP {p:List C} {s s':Se} {c:Ch} (h:TakeR p s c (some s')) (hn:s.saved.length=s.st.chs.length) (hr:(c.rest.length:Int)+1=lc s.steps) (ho:openP s.steps)
  (hs:∀ i (h:i<s.st.chs.length) (h':i<s.saved.length),(s.st.chs[i].rest.length:Int)+1=lc s.saved[i]/\Go.Proofs.YtgllldjiaglkcaaGreatDoor.openP s.saved[i]):okP s':=by
 cases h with
 | @yes u i l hF=>
  have hg:=hF.goals u i l rfl
  refine ⟨?_,?_,?_⟩
  ·simp only [j7,ue]
   rw [hg,JT]
   omega
  ·exact ho.snoc (by omega) _
  ·intro k h1 h2
   simp only [j7] at h1 h2 ⊢
   by_cases hl:l=[]
   ·subst hl
    simp only [if_pos,List.append_nil] at h1 h2 ⊢
    exact hs k h1 h2
   ·simp only [if_neg hl,List.length_append,List.length_singleton] at h1 h2 ⊢
    by_cases hk:k<s.st.chs.length
    ·rw [List.getElem_append_left hk,List.getElem_append_left (by omega)]
     exact hs k hk (by omega)
    ·have hk1:k=s.st.chs.length:=by omega
     subst hk1
     rw [List.getElem_append_right (Nat.le_refl _),List.getElem_append_right (by omega)]
     simp only [hn,Nat.sub_self,List.getElem_cons_zero]
     exact ⟨hr,ho⟩
end
section
open Go Go.RowKit
def okB (cs:List Ch) (ss:List (List Sp)):Prop:=∀ i (h:i<cs.length) (h':i<ss.length),(cs[i].rest.length:Int)+1=lc ss[i]/\openP ss[i]
theorem okB.last {cs:List Ch} {ss:List (List Sp)} {c:Ch} {t:List Sp} (h:okB (cs++[c]) (ss++[t])) (hl:cs.length=ss.length):okB cs ss/\(c.rest.length:Int)+1=lc t/\openP t:=by
 constructor
 ·intro i h1 h2
  have:=h i (by simp; omega) (by simp; omega)
  rw [List.getElem_append_left h1,List.getElem_append_left h2] at this
  exact this
 ·have:=h cs.length (by simp) (by simp [hl])
  rw [List.getElem_append_right (Nat.le_refl _),List.getElem_append_right (by omega)] at this
  simp only [hl,Nat.sub_self,List.getElem_cons_zero] at this
  exact this
theorem BackR.okP {p:List C} {cs:List Ch} {ss:List (List Sp)} {o:Option Se} (h:BackR p cs ss o):cs.length=ss.length->okB cs ss->∀ s,o=some s->okP s:=by
 induction h with
 | nil=>intro _ _ s h; cases h
 | hit ht=>
  intro hl hb s h
  simp only [List.length_append,List.length_singleton,Nat.add_right_cancel_iff] at hl
  obtain ⟨h1,h2,h3⟩:=hb.last hl
  rw [Option.some.injEq] at h
  subst h
  exact ht.okP hl.symm h2 h3 h1
 | miss _ _ ih=>
  intro hl hb
  simp only [List.length_append,List.length_singleton,Nat.add_right_cancel_iff] at hl
  exact ih hl (hb.last hl).1
theorem OneR.okP {p:List C} {s s':Se} {k:Int} (h:OneR p s s' k) (hn:s.saved.length=s.st.chs.length) (ho:okP s):okP s':=by
 have hgl:=ho.goals
 cases h with
 | big=>exact ho
 | stuck=>exact ho
 | fail=>exact ho
 | err=>exact ho
 | took hg _ _ _ _ ht=>
  rw [hg] at hgl
  refine ht.okP hn ?_ ho.openP ho.saved
  simp only [List.length_cons] at hgl ⊢
  omega
 | solved hg _ _ _ _ _=>
  rw [hg] at hgl
  simp only [List.length_cons] at hgl
  refine ⟨?_,ho.openP.snoc (by omega) _,ho.saved⟩
  simp only [ue]
  omega
theorem OneR.ok {p:List C} (hp:∀ cl∈p,th cl) {s s':Se} {k:Int} (h:OneR p s s' k) (hs:oG p.length s):oG p.length s':=by
 have hgo:=hs.st.goals
 cases h with
 | big=>exact hs
 | stuck=>exact hs
 | fail=>exact hs
 | err=>exact hs
 | took hg hu hsm _ _ ht=>
  rw [hg] at hgo
  have hou:=gu hs.st.good hu (hgo _ (List.mem_cons_self ..)).1
  have hw:=er hsm hou
  exact ht.ok hp hs.st.chs hs.left hs.len ⟨hs.st.good,⟨hou,by simp only; omega⟩,fun x hx=>hgo x (List.mem_cons_of_mem _ hx)⟩ (l0 p _) _ rfl
 | solved hg hu hsm _ hb hB=>
  rw [hg] at hgo
  have hou:=gu hs.st.good hu (hgo _ (List.mem_cons_self ..)).1
  have hw:=er hsm hou
  have hgd:=hB.good hs.st.good hb ⟨hou,by omega⟩
  have hl:=hgd.len
  exact ⟨⟨by simp only [hl]; exact hgd,fun x hx=>by simp only [hl]; exact hgo x (List.mem_cons_of_mem _ hx),hs.st.chs⟩,hs.left,hs.len⟩
theorem BackR.ok {p:List C} (hp:∀ cl∈p,th cl) {cs:List Ch} {ss:List (List Sp)} {o:Option Se} (h:BackR p cs ss o):cs.length=ss.length->(∀ c∈cs,nC c)->(∀ c∈cs,∀ i∈c.left,0<=i/\i<p.length)->∀ s,o=some s->oG p.length s:=by
 induction h with
 | nil=>intro _ _ _ s h; cases h
 | hit ht=>
  intro hl hh hf s h
  simp only [List.length_append,List.length_singleton,Nat.add_right_cancel_iff] at hl
  exact ht.ok hp (fun d hd=>hh d (List.mem_append_left _ hd)) (fun d hd=>hf d (List.mem_append_left _ hd)) hl.symm (hh _ (by simp)) (hf _ (by simp)) s h
 | miss _ _ ih=>
  intro hl hh hf
  simp only [List.length_append,List.length_singleton,Nat.add_right_cancel_iff] at hl
  exact ih hl (fun d hd=>hh d (List.mem_append_left _ hd)) (fun d hd=>hf d (List.mem_append_left _ hd))
theorem Srch.ok {p:List C} (hp:∀ cl∈p,th cl) {n:Nat} {s:Se} {o:Option Se} (h:Srch p n s o):oG p.length s->okP s->∀ t,o=some t->oG p.length t/\okP t/\t.st.goals=[]:=by
 induction h with
 | done hg=>intro h1 h2 t h; rw [Option.some.injEq] at h; subst h; exact ⟨h1,h2,hg⟩
 | out=>intro _ _ t h; cases h
 | halt=>intro _ _ t h; cases h
 | stop=>intro _ _ t h; cases h
 | step hg h1 _ ih=>exact fun hs ho=>ih (h1.ok hp hs) (h1.okP hs.len ho)
 | back hg h1 h2 _ ih=>
  intro hs ho
  have hs':=h1.ok hp hs
  have ho':=h1.okP hs.len ho
  exact ih (h2.ok hp hs'.len.symm hs'.st.chs hs'.left _ rfl) (h2.okP hs'.len.symm ho'.saved _ rfl)
end
section
open Go Go.ChangeShapes Go.WideShapes Go.ChangeAt Go.RowKit

inductive PF where
 | mk (goal:T) (clause:Int) (kids:List PF)
def PF.goal:PF->T
 | .mk g _ _=>g
def PF.clause:PF->Int
 | .mk _ c _=>c
def PF.kids:PF->List PF
 | .mk _ _ ks=>ks
theorem PF.ind {p:PF->Prop} (h:∀ g c ks,(∀ t∈ks,p t)->p (.mk g c ks)) (t:PF):p t:=
 PF.rec (motive_1:=p) (motive_2:=fun l=>∀ t∈l,p t) (fun g c ks ih=>h g c ks ih) (by simp) (fun a l h1 h2 t ht=>by
  rcases List.mem_cons.1 ht with rfl|ht
  ·exact h1
  ·exact h2 t ht) t
inductive RdF (S:ad):List Value->PF->Prop
 | nil {a0 a1 a2 a3:Value} {g:T} {c:Int} {a:Option Addr} {cap:Nat} (hg:RdT S [a0,a1,a2,a3] g) (hn:inI c) (hc:cap<=maxLen) :
   RdF S [a0,a1,a2,a3,.int .i64 c,.slice a 0 cap] (.mk g c [])
 | cons {a0 a1 a2 a3:Value} {g:T} {n:Int} {kids:List PF} {b o cap:Nat} {c:Array Value} {E:TypeId} {fz:Nat × Nat} (hg:RdT S [a0,a1,a2,a3] g) (hn:inI n) (hl:kids.length<=cap) (hc:cap<=maxLen)
   (hS:S b=some (.cells c E fz)) (h:∀ i (h:i<kids.length),RdF S (aJ c (o+i * 6) 6) kids[i]) :
   RdF S [a0,a1,a2,a3,.int .i64 n,.slice (some ⟨b,o,none⟩) kids.length cap] (.mk g n kids)
theorem RdF.iff {S:ad} {cs:List Value} {x:PF}:RdF S cs x ↔
  ∃ kv ks,cs=[.int .i64 x.goal.kind,.int .i64 x.goal.n,.string x.goal.name,kv,.int .i64 x.clause,ks]/\RdT S [.int .i64 x.goal.kind,.int .i64 x.goal.n,.string x.goal.name,kv] x.goal/\inI x.clause/\RdSl S 6 (RdF S) ks x.kids:=by
 constructor
 ·intro h
  cases h with
  | nil hg hn hc=>
   obtain ⟨kv,e,_⟩:=RdT.iff.1 hg
   simp only [List.cons.injEq,and_true] at e
   obtain ⟨rfl,rfl,rfl,rfl⟩:=e
   exact ⟨_,_,rfl,hg,hn,_,_,rfl,Nat.zero_le _,hc,.inl rfl⟩
  | cons hg hn hl hc hS h=>
   obtain ⟨kv,e,_⟩:=RdT.iff.1 hg
   simp only [List.cons.injEq,and_true] at e
   obtain ⟨rfl,rfl,rfl,rfl⟩:=e
   exact ⟨_,_,rfl,hg,hn,_,_,rfl,hl,hc,.inr ⟨_,_,_,_,_,rfl,hS,h⟩⟩
 ·obtain ⟨g,n,kids⟩:=x
  rintro ⟨kv,ks,rfl,hg,hn,a,cap,rfl,hl,hc,h⟩
  rcases h with h|⟨b,o,c,E,fz,rfl,hS,h⟩
  ·simp only [PF.kids] at h
   subst h
   exact RdF.nil hg hn hc
  ·exact RdF.cons hg hn hl hc hS h
theorem RdF.length {S:ad} {cs:List Value} {x:PF} (h:RdF S cs x):cs.length=6:=by
 obtain ⟨_,_,rfl,_⟩:=RdF.iff.1 h; rfl
theorem RdF.one {S:ad} {cs:List Value} {x:PF} (h:RdF S cs x):∀ u∈cs,u.oneCell'=true:=by
 obtain ⟨kv,ks,rfl,hg,_,a,cap,rfl,_⟩:=RdF.iff.1 h
 have:=hg.one kv (by simp)
 intro u hu
 simp at hu
 rcases hu with rfl|rfl|rfl|rfl|rfl|rfl <;> first|rfl|exact this
theorem RdF.mono {S S':ad} (hs:Sle S S') {cs:List Value} {x:PF} (h:RdF S cs x):RdF S' cs x:=by
 induction h with
 | nil hg hn hc=>exact RdF.nil (hg.mono hs) hn hc
 | cons hg hn hl hc hS _ ih=>exact RdF.cons (hg.mono hs) hn hl hc (hs _ _ hS) ih
inductive TrF:aN->List Value->PF->Prop
 | nil {L:aN} {a0 a1 a2 a3:Value} {g:T} {n:Int} {a:Option Addr} {cap:Nat} (hg:TrT L [a0,a1,a2,a3] g) (hn:inI n) (hc:cap<=maxLen) :
   TrF L [a0,a1,a2,a3,.int .i64 n,.slice a 0 cap] (.mk g n [])
 | cons {L:aN} {a0 a1 a2 a3:Value} {g:T} {n:Int} {kids:List PF} {b cap:Nat} {c:Array Value} {E:TypeId} {Ls:List aN} (hg:TrT L [a0,a1,a2,a3] g) (hn:inI n) (hl:kids.length<=cap) (hc:cap<=maxLen)
   (hLs:Ls.length=kids.length) (hsz:cap * 6<=c.size) (h:∀ i (h:i<kids.length) (h':i<Ls.length),TrF Ls[i] (aJ c (i * 6) 6) kids[i]) :
   TrF (L++(b,.cells c E)::Ls.flatten) [a0,a1,a2,a3,.int .i64 n,.slice (some ⟨b,0,none⟩) kids.length cap] (.mk g n kids)
theorem TrF.iff {L:aN} {cs:List Value} {x:PF}:TrF L cs x ↔
  ∃ L1 L2 kv ks,L=L1++L2/\cs=[.int .i64 x.goal.kind,.int .i64 x.goal.n,.string x.goal.name,kv,.int .i64 x.clause,ks]/\TrT L1 [.int .i64 x.goal.kind,.int .i64 x.goal.n,.string x.goal.name,kv] x.goal/\inI x.clause/\TrSl 6 TrF L2 ks x.kids:=by
 constructor
 ·intro h
  cases h with
  | nil hg hn hc=>
   obtain ⟨kv,e,_⟩:=TrT.iff.1 hg
   simp only [List.cons.injEq,and_true] at e
   obtain ⟨rfl,rfl,rfl,rfl⟩:=e
   exact ⟨_,[],_,_,(List.append_nil _).symm,rfl,hg,hn,_,_,rfl,Nat.zero_le _,hc,.inl ⟨rfl,rfl⟩⟩
  | cons hg hn hl hc hLs hsz h=>
   obtain ⟨kv,e,_⟩:=TrT.iff.1 hg
   simp only [List.cons.injEq,and_true] at e
   obtain ⟨rfl,rfl,rfl,rfl⟩:=e
   exact ⟨_,_,_,_,rfl,rfl,hg,hn,_,_,rfl,hl,hc,.inr ⟨_,_,_,_,rfl,rfl,hLs,hsz,h⟩⟩
 ·obtain ⟨g,n,kids⟩:=x
  rintro ⟨L1,L2,kv,ks,rfl,rfl,hg,hn,a,cap,rfl,hl,hc,h⟩
  rcases h with ⟨h,rfl⟩|⟨b,c,E,Ls,rfl,rfl,hLs,hsz,h⟩
  ·simp only [PF.kids] at h
   subst h
   rw [List.append_nil]
   exact TrF.nil hg hn hc
  ·exact TrF.cons hg hn hl hc hLs hsz h
theorem TrF.length {L:aN} {cs:List Value} {x:PF} (h:TrF L cs x):cs.length=6:=by
 obtain ⟨_,_,_,_,_,rfl,_⟩:=TrF.iff.1 h; rfl
theorem TrF.one {L:aN} {cs:List Value} {x:PF} (h:TrF L cs x):∀ u∈cs,u.oneCell'=true:=by
 obtain ⟨_,_,kv,ks,_,rfl,hg,_,a,cap,rfl,_⟩:=TrF.iff.1 h
 have:=hg.one kv (by simp)
 intro u hu
 simp at hu
 rcases hu with rfl|rfl|rfl|rfl|rfl|rfl <;> first|rfl|exact this
theorem TrF.rd {S:ad} {L:aN} {cs:List Value} {x:PF} (h:TrF L cs x) (hi:Ins S L):RdF S cs x:=by
 induction h with
 | nil hg hn hc=>exact RdF.nil (hg.rd hi) hn hc
 | cons hg hn hl hc hLs hsz h ih=>
  refine RdF.cons (hg.rd hi.left) hn hl hc (hi.right _ (List.mem_cons_self ..)) (o:=0) fun i h1=>?_
  rw [Nat.zero_add]
  exact ih i h1 (by omega) (xR (fun p hp=>hi.right p (List.mem_cons_of_mem _ hp)) (by omega))
mutual
def wF:PF->Nat
 | .mk g _ ks=>wT g+ks.length+wFL ks
def wFL:List PF->Nat
 | []=>0
 | t::ts=>wF t+wFL ts
end
section
attribute [local irreducible] Run CondV ai az
end
section
variable {H:Type} {enc:TypeId × Value->H} {W:World} {sp:Nat->Bool} {held:Bool}
end
end
section
open Go Go.RowKit
section
attribute [local irreducible] Run CondV ai az
end
def P9 (g:T) (c:Int) (l:Nat):Bool:=df g && ((decide (-1<=c) && decide (c<=19)) && decide (l<=6))
mutual
def QR:PF->Int->Bool
 | .mk g c ks,d=>decide (1<=d) && (P9 g c ks.length && OI ks (d - 1))
def OI:List PF->Int->Bool
 | [],_=>true
 | t::ts,d=>QR t d && OI ts d
end
mutual
def P6:PF->Int
 | .mk _ _ ks=>1+Ot ks
def Ot:List PF->Int
 | []=>0
 | t::ts=>P6 t+Ot ts
end
def O1 (x:PF):Bool:=QR x 20 && decide (P6 x<=60)
section
attribute [local irreducible] Run CondV ai az
end
end
section
open Go Go.RowKit
section
variable {S:ad} {ys:List Nat} {v:Value}
attribute [local irreducible] Run CondV ai az
end
end
section
open Go Go.RowKit

section
attribute [local irreducible] Run CondV ai az
end
end
section
open Go Go.RowKit
mutual
def sbT (σ:Int->T):T->T
 | .mk k n s ks=>if k=1 then σ n else .mk k n s (sbL σ ks)
def sbL (σ:Int->T):List T->List T
 | []=>[]
 | t::ts=>sbT σ t::sbL σ ts
end
theorem pw (σ:Int->T):∀ ts:List T,(sbL σ ts).length=ts.length
 | []=>rfl
 | t::ts=>by rw [sbL,List.length_cons,pw σ ts,List.length_cons]
mutual
theorem Gh (σ τ:Int->T):∀ t:T,sbT σ (sbT τ t)=sbT (fun n=>sbT σ (τ n)) t
 | .mk k n s ks=>by
  by_cases hk:k=1
  ·rw [sbT,if_pos hk,sbT,if_pos hk]
  ·rw [sbT,if_neg hk,sbT,if_neg hk,sbT,if_neg hk,Fy σ τ ks]
theorem Fy (σ τ:Int->T):∀ ts:List T,sbL σ (sbL τ ts)=sbL (fun n=>sbT σ (τ n)) ts
 | []=>rfl
 | t::ts=>by rw [sbL,sbL,sbL,Gh σ τ t,Fy σ τ ts]
end
def idS (n:Int):T:=.mk 1 n emptyB []
def Agk (σ:Int->T) (st:ag):Prop:=∀ (i:Nat) (t:T),st[i]?=some (some t)->σ i=t
def Gek (st st':ag):Prop:=st'.length=st.length/\∀ (i:Nat) (t:T),st[i]?=some (some t)->st'[i]?=some (some t)
theorem Gek.refl (st:ag):Gek st st:=⟨rfl,fun _ _ h=>h⟩
theorem Gek.trans {a b c:ag} (h:Gek a b) (h':Gek b c):Gek a c:=⟨h'.1.trans h.1,fun i t hi=>h'.2 i t (h.2 i t hi)⟩
theorem Agk.less {σ:Int->T} {a b:ag} (h:Agk σ b) (hg:Gek a b):Agk σ a:=fun i t hi=>h i t (hg.2 i t hi)
theorem Lc {t u:T}:p6 t u=true↔t.kind=u.kind/\t.n=u.n/\t.name=u.name/\t.kids.length=u.kids.length:=by
 simp [p6]
theorem GJ {c:C} (h:bh c=true):cW c.head=true:=by
 rw [bh] at h
 simp only [Bool.and_eq_true] at h
 exact h.2.2.1
end
section
open Go Go.RowKit
section
variable {S:ad} {ys zs:List Nat} {v u:Value}
attribute [local irreducible] Run CondV ai az
theorem RdC.cells {S:ad} {cs:List Value} {c:C} (h:RdC S cs c):∃ kv kb,cs=[.int .i64 c.head.kind,.int .i64 c.head.n,.string c.head.name,kv,kb]/\RdT S [.int .i64 c.head.kind,.int .i64 c.head.n,.string c.head.name,kv] c.head/\RdSl S 4 (RdT S) kb c.body:=by
 obtain ⟨hd,kb,rfl,h1,h2⟩:=h
 have h1':=h1
 obtain ⟨kv,rfl,_⟩:=RdT.iff.1 h1
 exact ⟨kv,kb,rfl,h1',h2⟩
end
end
section
open Go Go.RowKit
theorem pA {t:T} (h:cW t=true):wT t<=840:=by
 have ho:=i5 h
 have h1:=Hh t ho
 rw [cW,Bool.and_eq_true] at h
 have h2:di t<=120:=by simpa using h.2
 omega
theorem kf {g:T} (h:df g=true):cW g=true:=by
 rw [df,Bool.and_eq_true] at h; exact h.1
theorem KQ {g:T} (h:df g=true):decide (g.kind=3)=true:=by
 rw [df,Bool.and_eq_true,Bool.or_eq_true,Bool.or_eq_true] at h
 rcases h.2 with h|h|h
 ·rw [dI,Bool.and_eq_true] at h; exact h.1
 ·rw [cG,Bool.and_eq_true] at h; exact h.1
 ·rw [bB,Bool.and_eq_true] at h; exact h.1
def bltF (g:T) (f:Bool):Prop:=(bB g=false/\f=false) ∨ (bB g=true/\∃ code st',Blt RL g code st'/\f=Rl code st')
theorem bltF.ex {g:T} (h:cW g=true):∃ f,bltF g f:=by
 cases hb:bB g with
 | false=>exact ⟨false,.inl ⟨hb,rfl⟩⟩
 | true=>
  have:=pA h
  obtain ⟨c,st',hB⟩:=Blt.ex (B6 26) hb ⟨i5 h,by omega⟩
  exact ⟨_,.inr ⟨hb,c,st',hB,rfl⟩⟩
open Classical in
noncomputable def bltV (g:T):Bool:=if h:∃ f,bltF g f then h.choose else false
def OO:List T->List PF->ag->Bool
 | g::gs,x::xs,st=>!dI g && ((lZ g x.goal st).1 && OO gs xs (lZ g x.goal st).2)
 | _,_,_=>true
noncomputable def nodeC (p:List C) (g:T) (c:Int) (ks:List PF):Bool:=if c<0 then decide (ks.length=0) && bltV g else match p[c.toNat]? with
 | none=>false
 | some q=>decide (ks.length=q.body.length) && ((lZ q.head g st0).1 && OO q.body ks (lZ q.head g st0).2)
mutual
noncomputable def chkF (p:List C):PF->Bool
 | .mk g c ks=>nodeC p g c ks && chkFL p ks
noncomputable def chkFL (p:List C):List PF->Bool
 | []=>true
 | x::xs=>chkF p x && chkFL p xs
end
noncomputable def interL (p:List C):List T->List PF->ag->Bool
 | g::gs,x::xs,st=>!dI g && ((lZ g x.goal st).1 && (chkF p x && interL p gs xs (lZ g x.goal st).2))
 | _,_,_=>true
theorem Ge {p:List C} (h:co p=true) {c:C} (hc:c∈p):bh c=true:=by
 rw [co,Bool.and_eq_true,List.all_eq_true] at h
 exact h.2 c hc
section
attribute [local irreducible] Run CondV ai az
end
end
section
open Go Go.RowKit
mutual
def okM:T->Prop
 | .mk k n s ks=>(k=2->-999<=n/\n<=999)/\(k≠3->s=emptyB)/\ly ks
def ly:List T->Prop
 | []=>True
 | t::ts=>okM t/\ly ts
end
theorem nG:∀ {ts:List T},ly ts->∀ t∈ts,okM t
 | t::ts,h,x,hx=>by
  rw [ly] at h
  rcases List.mem_cons.1 hx with rfl|hx
  ·exact h.1
  ·exact nG h.2 x hx
theorem Jb:∀ {ts:List T},(∀ t∈ts,okM t)->ly ts
 | [],_=>by rw [ly]; trivial
 | t::ts,h=>by rw [ly]; exact ⟨h t (List.mem_cons_self ..),Jb fun u hu=>h u (List.mem_cons_of_mem _ hu)⟩
theorem okM.kids {t:T} (h:okM t):ly t.kids:=by cases t; rw [okM] at h; exact h.2.2
mutual
theorem okM.okN:∀ {t:T},okM t->okN t
 | .mk k n s ks,h=>by
  rw [okM] at h
  rw [Go.Proofs.YtgllldjiaglkcaaGreatDoor.okN]
  exact ⟨h.1,FR h.2.2⟩
theorem FR:∀ {ts:List T},ly ts->Dt ts
 | [],_=>by rw [Dt]; trivial
 | t::ts,h=>by
  rw [ly] at h
  rw [Dt]
  exact ⟨okM.okN h.1,FR h.2⟩
end
mutual
theorem BL:∀ (t:T) (d:Int),ff t d=true->okM t
 | .mk k n s ks,d,h=>by
  rw [ff] at h
  split at h
  ·cases h
  rw [Bool.and_eq_true] at h
  obtain ⟨ho,hk⟩:=h
  rw [okM]
  have h2:k=2->(-999<=n/\n<=999)/\s=emptyB:=by
   intro e
   subst e
   have ho2:cX (.mk 2 n s ks)=(decide (-999<=n) && (decide (n<=999) && (decide (s=emptyB) && decide (ks.length=0)))):=by
    rw [cX]; exact (if_neg (show ¬ (2:Int)=1 by decide)).trans (if_pos rfl)
   rw [ho2,Bool.and_eq_true,Bool.and_eq_true,Bool.and_eq_true] at ho
   exact ⟨⟨of_decide_eq_true ho.1,of_decide_eq_true ho.2.1⟩,of_decide_eq_true ho.2.2.1⟩
  refine ⟨fun e=>(h2 e).1,fun e=>?_,yu ks _ hk⟩
  by_cases e2:k=2
  ·exact (h2 e2).2
  ·have ho:(if k=1 then decide (0<=n) && (decide (n<=25) && (decide (s=emptyB) && decide (ks.length=0))) else if k=2 then decide (-999<=n) && (decide (n<=999) && (decide (s=emptyB) && decide (ks.length=0))) else if k=3 then decide (n=0) && (iH s && decide (ks.length<=4)) else false)=true:=ho
   rw [if_neg e2,if_neg e] at ho
   split at ho
   ·simp only [Bool.and_eq_true,decide_eq_true_eq] at ho
    exact ho.2.2.1
   ·cases ho
theorem yu:∀ (ts:List T) (d:Int),fk ts d=true->ly ts
 | [],_,_=>by rw [ly]; trivial
 | t::ts,d,h=>by
  rw [fk,Bool.and_eq_true] at h
  rw [ly]
  exact ⟨BL t d h.1,yu ts d h.2⟩
end
theorem vi {t:T} (h:cW t=true):okM t:=BL t 30 (wy h)
mutual
theorem lJ (m:Int):∀ t:T,okM t->okM (bv m t)
 | .mk k n s ks,h=>by
  rw [okM] at h
  rw [bv,okM]
  refine ⟨fun e=>?_,h.2.1,zf m ks h.2.2⟩
  rw [if_neg (by omega)]
  exact h.1 e
theorem zf (m:Int):∀ ts:List T,ly ts->ly (ek m ts)
 | [],_=>by rw [ek,ly]; trivial
 | t::ts,h=>by
  rw [ly] at h
  rw [ek,ly]
  exact ⟨lJ m t h.1,zf m ts h.2⟩
end
def tabM (st:ag):Prop:=∀ t,some t∈st->okM t
theorem tabM.set {st:ag} (h:tabM st) {n:Nat} {t:T} (ht:okM t):tabM (st.set n (some t)):=by
 intro u hu
 rcases List.mem_or_eq_of_mem_set hu with hu|hu
 ·exact h u hu
 ·rw [Option.some.injEq] at hu
  subst hu
  exact ht
theorem tabM.look {st:ag} (h:tabM st) {t u:T} (hl:look st t=some u):okM u:=h u (List.mem_of_getElem? (ce.1 hl).2)
theorem tabM.walk {st:ag} (h:tabM st) {t v:T} (hw:cD st t v) (ht:okM t):okM v:=by
 induction hw with
 | stop=>exact ht
 | step hl _ ih=>exact ih (h.look hl)
theorem tabM.grow {st:ag} (h:tabM st) (k:Nat):tabM (st++List.replicate k none):=by
 intro t ht
 rcases List.mem_append.1 ht with ht|ht
 ·exact h t ht
 ·have:=List.eq_of_mem_replicate ht
  cases this
theorem tabM.none (k:Nat):tabM (List.replicate k none):=by
 intro t ht
 have:=List.eq_of_mem_replicate ht
 cases this
def O9:Job->Prop
 | .one a b=>okM a/\okM b
 | .list xs ys=>(∀ a∈xs,okM a)/\∀ b∈ys,okM b
theorem Uni.okM {st st':ag} {j:Job} {r:Bool} (hu:Uni st j r st'):tabM st->O9 j->tabM st':=by
 induction hu with
 | same=>exact fun h _=>h
 | occA=>exact fun h _=>h
 | occB=>exact fun h _=>h
 | clash=>exact fun h _=>h
 | nil=>exact fun h _=>h
 | bindA ha hb _ _ _=>exact fun h hj=>h.set (h.walk hb hj.2)
 | bindB ha hb _ _ _=>exact fun h hj=>h.set (h.walk ha hj.1)
 | kids ha hb _ _ _ _ ih=>exact fun h hj=>ih h ⟨nG (h.walk ha hj.1).kids,nG (h.walk hb hj.2).kids⟩
 | stop _ ih=>exact fun h hj=>ih h ⟨hj.1 _ (List.mem_cons_self ..),hj.2 _ (List.mem_cons_self ..)⟩
 | go _ _ ih1 ih2=>
  exact fun h hj=>ih2 (ih1 h ⟨hj.1 _ (List.mem_cons_self ..),hj.2 _ (List.mem_cons_self ..)⟩) ⟨fun a ha=>hj.1 a (List.mem_cons_of_mem _ ha),fun b hb=>hj.2 b (List.mem_cons_of_mem _ hb)⟩
theorem Res.okM {st:ag} (hs:tabM st) {j:Ij} (h:Res st j):match j with
  | .one t u=>okM t->okM u
  | .list ts us=>(∀ t∈ts,okM t)->∀ u∈us,okM u:=by
 induction h with
 | @one t v us hw _ ih=>
  intro ht
  have hv:=hs.walk hw ht
  have hk:=ih (nG hv.kids)
  cases v
  rw [Go.Proofs.YtgllldjiaglkcaaGreatDoor.okM] at hv ⊢
  exact ⟨hv.1,hv.2.1,Jb hk⟩
 | nil=>intro _ u hu; cases hu
 | cons _ _ ih1 ih2=>
  intro ht u hu
  rcases List.mem_cons.1 hu with rfl|hu
  ·exact ih1 (ht _ (List.mem_cons_self ..))
  ·exact ih2 (fun t h=>ht t (List.mem_cons_of_mem _ h)) u hu
theorem okM.kd {g:T} (h:okM g) (i:Nat):okM (kd g i):=by
 rw [Go.Proofs.YtgllldjiaglkcaaGreatDoor.kd,List.getD_eq_getElem?_getD]
 cases e:g.kids[i]? with
 | none=>
  simp only [Option.getD_none]
  rw [zT,Go.Proofs.YtgllldjiaglkcaaGreatDoor.okM,ly]
  exact ⟨fun e=>(by cases e),fun _=>rfl,trivial⟩
 | some u=>exact nG h.kids u (List.mem_of_getElem? e)
theorem Og {n:Int} (h:Sm n):okM (GA n):=by
 rw [GA,okM,ly]
 exact ⟨fun _=>h,fun _=>rfl,trivial⟩
def QT:BJ->Prop
 | .done _=>True
 | .uni a b=>O9 (.one a b)
 | .not a b=>O9 (.one a b)
theorem Ph {g:T} (h:okM g):QT (eG g):=by
 unfold eG
 split
 ·trivial
 split
 ·trivial
 split
 ·exact ⟨h.kd _,h.kd _⟩
 split
 ·exact ⟨h.kd _,h.kd _⟩
 split
 ·trivial
 split
 ·split
  ·trivial
  ·exact ⟨h.kd _,Og (sQ _ (h.kd _).okN)⟩
 split
 ·unfold Dp
  split
  ·trivial
  split
  ·trivial
  split
  ·trivial
  ·exact ⟨h.kd _,(h.kd _).kd _⟩
 split
 ·trivial
 ·trivial
theorem Blt.okM {st st':ag} {g:T} {c:Int} (hs:tabM st) (hg:okM g) (h:Blt st g c st'):tabM st':=by
 have hj:=Ph hg
 unfold Blt at h
 match hb:eG g,h,hj with
 | .done c,h,_=>exact h.2 ▸ hs
 | .uni a b,⟨r,hu,_⟩,hj=>exact hu.okM hs hj
 | .not a b,h,_=>exact h.1 ▸ hs
end
end Go.Proofs.YtgllldjiaglkcaaGreatDoor
