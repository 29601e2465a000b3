/- impl: resolved terms, if they are small. -/
import Derived.Test.YtcpgagfdeflbkaaGreatDoorZSl11
import Derived.Test.YtcpgagfdeflbkaaGreatDoorZSl4
import Derived.Test.YtcpgagfdeflbkaaGreatDoorZSl3
import Derived.Test.YtcpgagfdeflbkaaGreatDoorZSl10
import Derived.Test.YtcpgagfdeflbkaaGreatDoorZSl12
namespace Go.Proofs.YtcpgagfdeflbkaaGreatDoor
section
open Go Go.RowKit
theorem KnownM.up {S S':ad} {es:Array MapEntry} {st:aj} (h:KnownM S es st) (hs:Sle S S'):KnownM S' es st:=
 ⟨fun e he=>by
  obtain ⟨n,t,cs,h1,h2,h3,h4⟩:=h.1 e he
  exact ⟨n,t,cs,h1,h2,h3.mono hs,h4⟩,h.2⟩
theorem StS.up {S S':ad} {sb:Nat} {st:aj} (h:StS S S sb st) (hs:Sle S S'):StS S' S' sb st:=by
 obtain ⟨mb,tv,es,ck,E,h1,h2,h3⟩:=h
 exact ⟨mb,tv,es,ck,E,hs _ _ h1,hs _ _ h2,h3.up hs⟩
def okR (u:T) (deep count:Int):Bool:=decide (count+dZ u<=120) && Np u (31 - deep)
def RC (st:aj) (sb:Nat) (t u:T):Prop:=∀ (S:ad) (cs:List Value) (cb:Nat) (deep count:Int),RdT S cs t->StS S S sb st->1<=deep->deep<=1000000->0<=count->count<=1000000->
 Tri Tryz.prog rI [.pointer (some ⟨sb,0,none⟩),.agg cs.toArray,.int .i64 deep,.pointer (some ⟨cb,0,none⟩)] [.blk cb (.cells #[.int .i64 count] b0)] S fun q I' S'=>
  ∃ (cs':List Value) (c':Int),q=.tuple #[.agg cs'.toArray,.bool (okR u deep count)]/\I'=[.blk cb (.cells #[.int .i64 c'] b0)]/\cs'.length=4/\(∀ x∈cs',x.oneCell'=true)/\(okR u deep count=true->c'=count+dZ u/\RdT S' cs' u)
section
attribute [local irreducible] Run CondV aq aK
theorem z4 {N:Nat} {st:aj} {sb:Nat} {t v:T} {us:List T} (hg:Good N st) (hwv:dw st t v) (hot:okU N t/\wT t<=1048576) (hlu:us.length=v.kids.length)
  (hk:∀ i (h:i<us.length) (h':i<v.kids.length),RC st sb v.kids[i] us[i]):RC st sb t (.mk v.kind v.n v.name us):=by
 intro S cs cb deep count h hst hd0 hd1 hc0 hc1 w hI
 have hlc:=h.length
 have hov:=fS hg hwv hot
 obtain ⟨X,hX⟩:∃ X,X=bu [Item.blk cb (.cells #[.int .i64 count] b0)]:=⟨_,rfl⟩
 rw [<- hX] at hI ⊢
 have hcu:=fk us
 have hokd:okR (.mk v.kind v.n v.name us) deep count=(decide (count+(1+cR us)<=120) && (if 31 - deep<1 then false else Ne us (31 - deep - 1))):=by
  rw [okR,Fj,Np]
 refine iQ.2 ?_
 dsimp only[iQ,jr]
 refine bp hI fun b5 w' hI=>?_
 refine aP hI aZ fun b8 w' hI=>?_
 have hI:Inv w X ([.blk b5 (.cells cs.toArray ab),.blk b8 (.cells #[.int .i64 0,.int .i64 0,.string ⟨#[]⟩,.slice none 0 0] ab)]++[.blk cb (.cells #[.int .i64 count] b0)]) S w':=hI.perm (co (l₁:=[_,_]) (l₂:=[_]))
 refine az hI 0 ac rfl (by simpa using hlc) ?_
 refine Run.call0 gA gy hI (jz hg hwv hot.1 hst h) fun v' I' S' w'=>?_
 rintro ⟨eS,rfl,cs',rfl,hcs'⟩ _ hI
 rw [eS] at hI
 clear eS
 refine aA hI 0 rfl ac (by simpa using hcs'.length) (by simpa using hlc) (by simpa using hcs'.one) fun w' hI=>?_
 obtain ⟨kv,rfl,hi1,hi2,hs,hks⟩:=RdT.iff.1 hcs'
 have hI:Inv w X [.blk b5 (.cells #[.int .i64 v.kind,.int .i64 v.n,.string v.name,kv] ab),.blk b8 (.cells #[.int .i64 0,.int .i64 0,.string ⟨#[]⟩,.slice none 0 0] ab),.blk cb (.cells #[.int .i64 count] b0)] S w':=hI
 have hlen:=hks.le
 have hkl:v.kids.length<=1048576:=by
  have:=hov.2
  cases v
  simp only [wT] at this
  simp only [T.kids]
  omega
 refine ar ?_
 refine bb hI 2 aI rfl rfl ?_
 refine bn (by omega) ?_
 refine ar ?_
 refine df hI 2 (n:=1) rfl (by decide +kernel) rfl (by simp) (by simp [Value.cells,Value.oneCell']) fun w' hI=>?_
 have hI:Inv w X [.blk b5 (.cells #[.int .i64 v.kind,.int .i64 v.n,.string v.name,kv] ab),.blk b8 (.cells #[.int .i64 0,.int .i64 0,.string ⟨#[]⟩,.slice none 0 0] ab),.blk cb (.cells #[.int .i64 (count+1)] b0)] S w':=hI
 refine ⟨fun q w'=>q=.bool (decide (120<count+1 ∨ 30<deep))/\Inv w X [.blk b5 (.cells #[.int .i64 v.kind,.int .i64 v.n,.string v.name,kv] ab),.blk b8 (.cells #[.int .i64 0,.int .i64 0,.string ⟨#[]⟩,.slice none 0 0] ab),.blk cb (.cells #[.int .i64 (count+1)] b0)] S w',?_,?_⟩
 ·refine ar ?_
  refine bb hI 2 aI rfl rfl ?_
  refine eU ?_
  by_cases e1:120<count+1
  ·rw [aS e1]
   refine rpG ?_
   exact ⟨by rw [aS (Or.inl e1)],hI⟩
  ·rw [bg e1]
   refine rpG ?_
   refine eU ?_
   refine rpG ?_
   refine ⟨?_,hI⟩
   congr 1
   rw [oS,bC,bC]
   omega
 intro q _ _ _ _ _ _ _ w'
 rintro ⟨rfl,hI⟩
 refine aH (fun hbad=>?_) (fun hgood=>?_)
 ·have hno:okR (.mk v.kind v.n v.name us) deep count=false:=by
   rw [hokd]
   rcases hbad with e|e
   ·rw [bg (by omega),gJ]
   ·rw [ai (by omega),vq]
  refine uG ?_
  refine aA hI 1 rfl ac rfl rfl td fun w' hI=>?_
  refine bw hI 1 ac rfl rfl ?_
  exact ⟨_,_,_,rfl,hI.pick [false,false,true],Ext.refl _ _ _,[.int .i64 0,.int .i64 0,.string ⟨#[]⟩,.slice none 0 0],count+1,by rw [hno],rfl,rfl,td,fun h=>by rw [hno] at h; cases h⟩
 have hg1:count+1<=120:=by omega
 have hg2:deep<=30:=by omega
 rw [af (by omega)] at hokd
 refine ae hI 0 rfl aV aI rfl ?_
 refine ae hI 0 rfl bm aI rfl ?_
 refine ae hI 0 rfl aW aN rfl ?_
 refine qQ ?_
 refine aP hI aZ fun b10 w' hI=>?_
 have hI:Inv w X [.blk b5 (.cells #[.int .i64 v.kind,.int .i64 v.n,.string v.name,kv] ab),.blk b8 (.cells #[.int .i64 0,.int .i64 0,.string ⟨#[]⟩,.slice none 0 0] ab),.blk b10 _,.blk cb (.cells #[.int .i64 (count+1)] b0)] S w':=hI.perm (((co (l₁:=[_]) (l₂:=[_])).cons _).cons _)
 refine aA hI 2 rfl ac rfl rfl (by simp [Value.oneCell']) fun w' hI=>?_
 have hI:=hI.rowNil ab 4
 have hI:Inv w X [.blk b5 (.cells #[.int .i64 v.kind,.int .i64 v.n,.string v.name,kv] ab),.blk b8 (.cells #[.int .i64 0,.int .i64 0,.string ⟨#[]⟩,.slice none 0 0] ab),.blk b10 (.cells #[.int .i64 v.kind,.int .i64 v.n,.string v.name,.slice none 0 0] ab),aE (.slice none 0 0) ab 4 [],.blk cb (.cells #[.int .i64 (count+1)] b0)] S w':=hI.perm ((((co (l₁:=[_]) (l₂:=[_])).cons _).cons _).cons _)
 refine ae hI 0 rfl av ao rfl ?_
 refine aF hks ah ?_
 refine ⟨fun i w'=>∃ (j:Nat) (c:Int) (kvc:Value) (css:List (List Value)) (S1:ad),j<=us.length/\i=.int .i64 j/\Ext w.heap.size X S S1/\c=count+1+cR (us.take j)/\c<=120/\(∀ k (_:k<us.length),k<j->Np us[k] (31 - deep - 1)=true)/\Rows 4 (RdT S1) css (us.take j)/\
   Inv w X [.blk b5 (.cells #[.int .i64 v.kind,.int .i64 v.n,.string v.name,kv] ab),.blk b8 (.cells #[.int .i64 0,.int .i64 0,.string ⟨#[]⟩,.slice none 0 0] ab),.blk b10 (.cells #[.int .i64 v.kind,.int .i64 v.n,.string v.name,kvc] ab),aE kvc ab 4 css,.blk cb (.cells #[.int .i64 c] b0)] S1 w',
  fun i _=>us.length - (intOf i).toNat,⟨0,count+1,_,[],S,aR _,rfl,Ext.refl _ _ _,by simp [cR],hg1,fun k _ h=>by omega,Rows.nil _ _,hI⟩,?_⟩
 intro t42 _ _ _ _ _ _ _ _ _ _ _ _ _ _ _ _ _ _ _ _ _ _ _ _ _ _ w'
 rintro ⟨j,c,kvc,css,S1,hj,rfl,hE,hc,hc120,hdep,hR,hI⟩
 have hpos:=fk (us.take j)
 refine bL ?_
 refine aH (fun hji=>?_) (fun hji=>?_)
 ·have hj1:j<us.length:=by omega
  have hj2:j<v.kids.length:=by omega
  have hcl:=hR.hc
  rw [dN] at hcl
  refine cj hI (hks.monoT hE.1) ah ac hj2 (fun _ _=>RdT.length) fun cs0 hcs0=>?_
  have hlc0:=hcs0.length
  refine aP hI aZ fun b12 w' hI=>?_
  have hI:=hI.perm (M:=.blk b12 _::[.blk b5 (.cells #[.int .i64 v.kind,.int .i64 v.n,.string v.name,kv] ab),.blk b8 (.cells #[.int .i64 0,.int .i64 0,.string ⟨#[]⟩,.slice none 0 0] ab),.blk b10 (.cells #[.int .i64 v.kind,.int .i64 v.n,.string v.name,kvc] ab),aE kvc ab 4 css,.blk cb (.cells #[.int .i64 c] b0)]) (co (l₁:=[_]))
  refine aA hI 0 rfl ac (by simpa using hlc0) rfl (by simpa using hcs0.one) fun w' hI=>?_
  refine az hI 0 ac rfl (by simpa using hlc0) ?_
  refine bn (by omega) ?_
  have hI:Inv w X ([.blk b5 (.cells #[.int .i64 v.kind,.int .i64 v.n,.string v.name,kv] ab),.blk b8 (.cells #[.int .i64 0,.int .i64 0,.string ⟨#[]⟩,.slice none 0 0] ab),.blk b10 (.cells #[.int .i64 v.kind,.int .i64 v.n,.string v.name,kvc] ab),aE kvc ab 4 css]++[.blk cb (.cells #[.int .i64 c] b0)]) S1 w':=hI.pick [false,true,true,true,true,true]
  refine Run.callE i5 iT hI (hk j hj1 hj2 S1 cs0 cb (deep+1) c hcs0 (hst.up hE.1) (by omega) (by omega) (by omega) (by omega)) fun v' I' S2 w'=>?_
  rintro ⟨cs2,c2,rfl,rfl,hl4,ho4,hrd⟩ hE2 hI
  refine al rfl ?_
  refine al rfl ?_
  refine aP hI aZ fun b13 w' hI=>?_
  have hI:=hI.perm (M:=.blk b13 _::[.blk b5 (.cells #[.int .i64 v.kind,.int .i64 v.n,.string v.name,kv] ab),.blk b8 (.cells #[.int .i64 0,.int .i64 0,.string ⟨#[]⟩,.slice none 0 0] ab),.blk b10 (.cells #[.int .i64 v.kind,.int .i64 v.n,.string v.name,kvc] ab),aE kvc ab 4 css,.blk cb (.cells #[.int .i64 c2] b0)]) (co (l₁:=[_]))
  refine aA hI 0 rfl ac (by simpa using hl4) rfl (by simpa using ho4) fun w' hI=>?_
  refine ct ?_
  have hct:=Nm us j hj1
  have hcle:=Gf us (j+1)
  refine aw (fun hb=>?_) (fun hb=>?_)
  ·have hb':okR us[j] (deep+1) c=false:=by simpa using hb
   have hno:okR (.mk v.kind v.n v.name us) deep count=false:=by
    rw [hokd]
    rw [okR,Bool.and_eq_false_iff] at hb'
    rcases hb' with e|e
    ·have e:=of_decide_eq_false e
     rw [bg (by omega),gJ]
    ·have:Ne us (31 - deep - 1)=false:=by
      rw [Ac,List.all_eq_false]
      exact ⟨us[j],bQ hj1,by rw [show 31 - deep - 1=31 - (deep+1) by omega,e]; decide⟩
     rw [this,vq]
   refine uG ?_
   have hI:Inv w X [.blk b13 (.cells cs2.toArray ab),.blk b5 (.cells #[.int .i64 v.kind,.int .i64 v.n,.string v.name,kv] ab),.blk b8 (.cells #[.int .i64 0,.int .i64 0,.string ⟨#[]⟩,.slice none 0 0] ab),.blk b10 (.cells #[.int .i64 v.kind,.int .i64 v.n,.string v.name,kvc] ab),aE kvc ab 4 css,.blk cb (.cells #[.int .i64 c2] b0)] S2 w':=hI
   refine aA hI 2 rfl ac rfl rfl td fun w' hI=>?_
   refine bw hI 2 ac rfl rfl ?_
   exact ⟨_,_,_,rfl,hI.pick [false,false,false,false,false,true],hE.trans hE2,[.int .i64 0,.int .i64 0,.string ⟨#[]⟩,.slice none 0 0],c2,by rw [hno],rfl,rfl,td,fun h=>by rw [hno] at h; cases h⟩
  ·have hb':okR us[j] (deep+1) c=true:=by simpa using hb
   obtain ⟨hc2,hR2⟩:=hrd hb'
   rw [okR,bN,bC] at hb'
   refine ae (b:=b10) (c:=#[.int .i64 v.kind,.int .i64 v.n,.string v.name,kvc]) hI 3 rfl av ao rfl ?_
   refine az hI 0 ac rfl (by simpa using hl4) ?_
   refine cM hI 4 cs2 bA (by omega) (by omega) rfl hl4 ho4 (by omega) (by omega) fun kvc2 w' hI=>?_
   have hkv2:=BO (hI.its (aE kvc2 ab 4 (css++[cs2])) (by simp))
   refine cT (b:=b10) (c:=#[.int .i64 v.kind,.int .i64 v.n,.string v.name,kvc]) hI 3 rfl av ao rfl hkv2.1 hkv2.2 fun w' hI=>?_
   have hI:Inv w X [.blk b5 (.cells #[.int .i64 v.kind,.int .i64 v.n,.string v.name,kv] ab),.blk b8 (.cells #[.int .i64 0,.int .i64 0,.string ⟨#[]⟩,.slice none 0 0] ab),.blk b10 (.cells #[.int .i64 v.kind,.int .i64 v.n,.string v.name,kvc2] ab),aE kvc2 ab 4 (css++[cs2]),.blk cb (.cells #[.int .i64 c2] b0)] S2 w':=hI.pick [false,true,true,true,true,true]
   refine bn (by omega) ?_
   refine ⟨⟨j+1,c2,kvc2,css++[cs2],S2,hj1,rfl,hE.trans hE2,by omega,by omega,fun k hk2 hkj=>?_,?_,hI⟩,by simp [intOf]; omega⟩
   ·by_cases e:k=j
    ·subst e
     rw [show 31 - deep - 1=31 - (deep+1) by omega]
     exact hb'.2
    ·exact hdep k hk2 (by omega)
   ·rw [fy hj1]
    exact (hR.monoR fun _ _ h=>RdT.mono hE2.1 h).snoc hR2 hl4
 ·have hje:j=us.length:=by omega
  subst hje
  rw [fM] at hR hc
  have hyes:okR (.mk v.kind v.n v.name us) deep count=true:=by
   rw [hokd,aS (by omega),dU,Ac,ed]
   intro x hx
   obtain ⟨k,hk2,rfl⟩:=Jy.1 hx
   exact hdep k hk2 hk2
  refine az (b:=b10) (c:=#[.int .i64 v.kind,.int .i64 v.n,.string v.name,kvc]) hI 2 ac rfl rfl ?_
  have hkv2:=BO (hI.its (aE kvc ab 4 css) (by simp))
  have hone:∀ x∈([.int .i64 v.kind,.int .i64 v.n,.string v.name,kvc]:List Value),x.oneCell'=true:=by
   intro x hx
   simp at hx
   rcases hx with rfl|rfl|rfl|rfl <;> first|rfl|exact hkv2.2
  refine aA hI 1 rfl ac rfl rfl hone fun w' hI=>?_
  refine bw (c:=#[.int .i64 v.kind,.int .i64 v.n,.string v.name,kvc]) hI 1 ac rfl rfl ?_
  have hI:Inv w X ([.blk cb (.cells #[.int .i64 c] b0)]++[aE kvc ab 4 css]) S1 w':=(hI.pick [false,false,false,true,true]).perm (List.Perm.swap ..)
  obtain ⟨S3,hE3,hrd,hI⟩:=hI.lendExt
  have hrr:=RowRd.rows (hR.monoR fun _ _ h=>RdT.mono hE3.1 h) hrd
  exact ⟨_,_,_,rfl,hI,hE.trans hE3,[.int .i64 v.kind,.int .i64 v.n,.string v.name,kvc],c,by rw [hyes],rfl,rfl,hone,fun _=>⟨by rw [Fj]; omega,RdT.iff.2 ⟨kvc,rfl,hi1,hi2,hs,hrr⟩⟩⟩
theorem zn {N:Nat} {st:aj} (sb:Nat) (hg:Good N st) {j:PX} (hr:Res st j):match j with
  | .one t u=>(okU N t/\wT t<=1048576)->RC st sb t u
  | .list ts us=>(∀ t∈ts,okU N t/\wT t<=1048576)->us.length=ts.length/\∀ i (h:i<us.length) (h':i<ts.length),RC st sb ts[i] us[i]:=by
 induction hr with
 | one hw _ ih=>
  intro ho
  have h1:=ih (lB (fS hg hw ho))
  exact z4 hg hw ho h1.1 h1.2
 | nil=>exact fun _=>⟨rfl,fun i h _=>by simp at h⟩
 | cons _ _ ih1 ih2=>
  intro ho
  obtain ⟨h1,h2⟩:=ih2 fun t ht=>ho t (bv _ ht)
  refine ⟨by simp [h1],fun i h h'=>?_⟩
  cases i with
  | zero=>exact ih1 (ho _ (bq ..))
  | succ i=>exact h2 i (by simpa using h) (by simpa using h')
theorem Db {N:Nat} {st:aj} (hg:Good N st) {t u:T} (hr:Res st (.one t u)) (ho:okU N t/\wT t<=1048576) {S:ad} {cs:List Value} {sb:Nat} (h:RdT S cs t) (hst:StS S S sb st) :
  Tri Tryz.prog kI [.pointer (some ⟨sb,0,none⟩),.agg cs.toArray] [] S fun q I' S'=>I'=[]/\∃ cs':List Value,cs'.length=4/\(∀ x∈cs',x.oneCell'=true)/\q=.tuple #[.agg cs'.toArray,.bool (bS u)]/\(bS u=true->RdT S' cs' u):=by
 intro w hI
 have hlc:=h.length
 have hI:Inv w [] [] S w:=hI
 have hrc:RC st sb t u:=zn sb hg hr ho
 have e:okR u 1 0=bS u:=by rw [okR,bS,Int.zero_add]; rfl
 refine j7.2 ?_
 dsimp only[j7,aO]
 refine bp hI fun b3 w' hI=>?_
 refine aP hI aZ fun b4 w' hI=>?_
 have hz:gQ Tryz.prog b0=some (.int .i64 0):=by kernel_rfl
 refine aP hI hz fun b6 w' hI=>?_
 refine df hI 2 (n:=1) rfl (by decide +kernel) rfl (by simp [Value.cells]) (by simp [Value.cells,Value.oneCell']) fun w' hI=>?_
 have hI:Inv w [] ([.blk b3 (.cells cs.toArray ab),.blk b4 (.cells #[.int .i64 0,.int .i64 0,.string ⟨#[]⟩,.slice none 0 0] ab)]++[.blk b6 (.cells #[.int .i64 0] b0)]) S w':=hI
 refine az hI 0 ac rfl (by simpa using hlc) ?_
 refine Run.callE i5 iT hI (hrc S cs b6 1 0 h hst (by omega) (by omega) (by omega) (by omega)) fun v' I' S2 w'=>?_
 rintro ⟨cs2,c2,rfl,rfl,hl4,ho4,hrd⟩ hE2 hI
 rw [e] at hrd ⊢
 refine al rfl ?_
 refine al rfl ?_
 have hI:Inv w [] [.blk b3 (.cells cs.toArray ab),.blk b4 (.cells #[.int .i64 0,.int .i64 0,.string ⟨#[]⟩,.slice none 0 0] ab),.blk b6 (.cells #[.int .i64 c2] b0)] S2 w':=hI
 refine aA hI 1 rfl ac (by simpa using hl4) rfl (by simpa using ho4) fun w' hI=>?_
 refine bw hI 1 ac rfl (by simpa using hl4) ?_
 exact ⟨_,_,_,rfl,hI.nil,hE2,rfl,cs2,hl4,ho4,rfl,fun h=>(hrd h).2⟩
end
end
section
open Go Go.RowKit

theorem Ca:∀ (a b c:List UInt8),Op.bytesLess a b=true->Op.bytesLess b c=true->Op.bytesLess a c=true
 | _,[],_,h,_=>by simp [Op.bytesLess] at h
 | _,_::_,[],_,h=>by simp [Op.bytesLess] at h
 | [],_::_,_::_,_,_=>by simp [Op.bytesLess]
 | x::a,y::b,z::c,h,h'=>by
  simp only [Op.bytesLess,iS,bC,bN,beq_iff_eq] at h h' ⊢
  rcases h with h|⟨rfl,h⟩
  ·rcases h' with h'|⟨rfl,h'⟩
   ·left; exact UInt8.lt_trans h h'
   ·left; exact h
  ·rcases h' with h'|⟨rfl,h'⟩
   ·left; exact h'
   ·right; exact ⟨rfl,Ca a b c h h'⟩
theorem Er:∀ a:List UInt8,Op.bytesLess a a=false
 | []=>by simp [Op.bytesLess]
 | x::a=>by
  simp only [Op.bytesLess,Er a,vq,Bool.or_false,lM]
  exact UInt8.lt_irrefl x
theorem IF:∀ a b:List UInt8,a≠b->Op.bytesLess a b=true ∨ Op.bytesLess b a=true
 | [],[],h=>absurd rfl h
 | [],_::_,_=>.inl (by simp [Op.bytesLess])
 | _::_,[],_=>.inr (by simp [Op.bytesLess])
 | x::a,y::b,h=>by
  simp only [Op.bytesLess,iS,bC,bN,beq_iff_eq]
  by_cases e:x=y
  ·subst e
   rcases IF a b (fun e=>h (by rw [e])) with h1|h1
   ·exact .inl (.inr ⟨rfl,h1⟩)
   ·exact .inr (.inr ⟨rfl,h1⟩)
  ·rcases UInt8.lt_or_lt_of_ne e with h1|h1
   ·exact .inl (.inl h1)
   ·exact .inr (.inl h1)
def bls (a b:ByteArray):Bool:=Op.bytesLess a.toList b.toList
def oQ (a b:Int):Int:=if a<b then -1 else if b<a then 1 else 0
def fU (a b:ByteArray):Int:=if bls a b=true then -1 else if bls b a=true then 1 else 0
def rkS (t:T):Int:=if t.kind=3/\0<t.kids.length then 4 else t.kind
def zB (a b:Int):Int:=if a≠0 then a else b
def hdC (t u:T):Int:=zB (oQ (rkS t) (rkS u)) (zB (oQ t.n u.n) (zB (oQ t.kids.length u.kids.length) (fU t.name u.name)))
mutual
def xB:T->T->Int
 | .mk k n s ks,u=>zB (hdC (.mk k n s ks) u) (ia ks u.kids)
def ia:List T->List T->Int
 | [],[]=>0
 | [],_::_=>-1
 | _::_,[]=>1
 | t::ts,u::us=>zB (xB t u) (ia ts us)
end
theorem iY (a b:Int):(a<b/\oQ a b=-1) ∨ (b<a/\oQ a b=1) ∨ (a=b/\oQ a b=0):=by
 unfold oQ
 by_cases h:a<b
 ·exact .inl ⟨h,ai h⟩
 ·by_cases h':b<a
  ·exact .inr (.inl ⟨h',by rw [af h,ai h']⟩)
  ·exact .inr (.inr ⟨by omega,by rw [af h,af h']⟩)
theorem toList_inj {a b:ByteArray} (h:a.toList=b.toList):a=b:=by
 have:=vw a b
 rw [beq_iff_eq.2 h] at this
 exact of_decide_eq_true this.symm
theorem gu (a b:ByteArray):(bls a b=true/\fU a b=-1) ∨ (bls b a=true/\bls a b=false/\fU a b=1) ∨ (a=b/\fU a b=0):=by
 unfold fU
 cases h:bls a b with
 | true=>exact .inl ⟨rfl,ai rfl⟩
 | false=>
  cases h':bls b a with
  | true=>exact .inr (.inl ⟨rfl,rfl,by simp⟩)
  | false=>
   refine .inr (.inr ⟨?_,by simp⟩)
   refine toList_inj (Decidable.byContradiction fun e=>?_)
   rcases IF _ _ e with h1|h1
   ·rw [bls,h1] at h; cases h
   ·rw [bls,h1] at h'; cases h'
theorem PA {a b:ByteArray} (h:bls a b=true):bls b a=false:=by
 cases h':bls b a with
 | false=>rfl
 | true=>
  have:=Ca _ _ _ h h'
  rw [Er] at this
  cases this

structure TC (a b c:Int):Prop where
 lt:a=-1->b=-1->c=-1
 e1:a=0->c=b
 e2:b=0->c=a
theorem TC.lex {a b c a' b' c':Int} (h:TC a b c) (h':TC a' b' c'):TC (zB a a') (zB b b') (zB c c'):=by
 obtain ⟨h1,h2,h3⟩:=h
 obtain ⟨h4,h5,h6⟩:=h'
 unfold zB
 refine ⟨fun x y=>?_,fun x=>?_,fun x=>?_⟩
 ·by_cases ea:a=0
  ·rw [af (by omega)] at x
   by_cases eb:b=0
   ·rw [af (by omega)] at y
    rw [af (by have:=h2 ea; omega)]
    exact h4 x y
   ·rw [ai (by omega)] at y
    have:=h2 ea
    rw [ai (by omega)]; omega
  ·rw [ai (by omega)] at x
   by_cases eb:b=0
   ·have:=h3 eb
    rw [ai (by omega)]; omega
   ·rw [ai (by omega)] at y
    have:=h1 x y
    rw [ai (by omega)]; omega
 ·by_cases ea:a=0
  ·rw [af (by omega)] at x
   rw [h2 ea,h5 x]
  ·rw [ai (by omega)] at x; omega
 ·by_cases eb:b=0
  ·rw [af (by omega)] at x
   rw [h3 eb,h6 x]
  ·rw [ai (by omega)] at x; omega
theorem TC.zero:TC 0 0 0:=⟨fun h=>by omega,fun _=>rfl,fun _=>rfl⟩
theorem TC.int (a b c:Int):TC (oQ a b) (oQ b c) (oQ a c):=by
 have h1:=iY a b
 have h2:=iY b c
 have h3:=iY a c
 exact ⟨fun _ _=>by omega,fun _=>by omega,fun _=>by omega⟩
theorem TC.str (a b c:ByteArray):TC (fU a b) (fU b c) (fU a c):=by
 refine ⟨fun x y=>?_,fun x=>?_,fun x=>?_⟩
 ·rcases gu a b with h|h|h
  ·rcases gu b c with h'|h'|h'
   ·have:=Ca _ _ _ h.1 h'.1
    unfold fU
    rw [ai (show bls a c=true from this)]
   ·omega
   ·omega
  ·omega
  ·omega
 ·rcases gu a b with h|h|h
  ·omega
  ·omega
  ·rw [h.1]
 ·rcases gu b c with h|h|h
  ·omega
  ·omega
  ·rw [h.1]
theorem TC.hd (t u v:T):TC (hdC t u) (hdC u v) (hdC t v):=(TC.int _ _ _).lex ((TC.int _ _ _).lex ((TC.int _ _ _).lex (TC.str _ _ _)))
mutual
theorem TC.term:∀ t u v:T,TC (xB t u) (xB u v) (xB t v)
 | .mk k n s ks,.mk k' n' s' ks',v=>by
  rw [xB,xB,xB]
  exact (TC.hd _ _ _).lex (TC.list ks ks' v.kids)
theorem TC.list:∀ t u v:List T,TC (ia t u) (ia u v) (ia t v)
 | [],[],[]=>by simpa [ia] using TC.zero
 | [],[],_::_=>by rw [ia,ia]; exact ⟨fun h=>by omega,fun _=>rfl,fun h=>by omega⟩
 | [],_::_,[]=>by rw [ia,ia,ia]; exact ⟨fun _ h=>by omega,fun h=>by omega,fun h=>by omega⟩
 | [],_::_,_::_=>by rw [ia,ia]; exact ⟨fun h _=>h,fun h=>by omega,fun h=>rfl⟩
 | _::_,[],[]=>by rw [ia,ia]; exact ⟨fun h _=>h,fun h=>by omega,fun h=>rfl⟩
 | _::_,[],_::_=>by rw [ia,ia]; exact ⟨fun h _=>by omega,fun h=>by omega,fun h=>by omega⟩
 | _::_,_::_,[]=>by rw [ia,ia]; exact ⟨fun _ h=>by omega,fun h=>rfl,fun h=>by omega⟩
 | t::ts,u::us,v::vs=>by
  rw [ia,ia,ia]
  exact (TC.term t u v).lex (TC.list ts us vs)
end
theorem pt (a b:Int):-(zB a b)=zB (-a) (-b):=by
 unfold zB
 by_cases h:a=0
 ·subst h; simp
 ·rw [ai h,ai (by omega)]
theorem sY (a b:Int):oQ b a=-oQ a b:=by
 have:=iY a b
 have:=iY b a
 omega
theorem FU (a b:ByteArray):fU b a=-fU a b:=by
 rcases gu a b with h|h|h
 ·rw [h.2]
  have:=PA h.1
  unfold fU
  rw [this,af (by decide),ai h.1]; rfl
 ·rw [h.2.2]
  unfold fU
  rw [ai h.1]
 ·rw [h.2]
  obtain rfl:=h.1
  rw [h.2]; rfl
theorem NX (t u:T):hdC u t=-hdC t u:=by
 rw [hdC,hdC,pt,pt,pt,sY (rkS t),sY t.n,sY t.kids.length,FU t.name]
mutual
theorem EI:∀ t u:T,xB u t=-xB t u
 | .mk k n s ks,.mk k' n' s' ks'=>by
  rw [xB,xB,pt,NX (.mk k n s ks)]
  congr 1
  exact Eb ks ks'
theorem Eb:∀ t u:List T,ia u t=-ia t u
 | [],[]=>by simp [ia]
 | [],_::_=>by simp [ia]
 | _::_,[]=>by simp [ia]
 | t::ts,u::us=>by rw [ia,ia,pt,EI t u,Eb ts us]
end
theorem Nq (t:T):xB t t=0:=by
 have:=EI t t
 omega
def Sorted:List T->Prop
 | []=>True
 | x::xs=>(∀ y∈xs,xB x y<0)/\Sorted xs
theorem Sorted.nodup:∀ {l:List T},Sorted l->l.Nodup
 | [],_=>Hk
 | x::xs,h=>by
  rw [GK]
  refine ⟨fun hx=>?_,Sorted.nodup h.2⟩
  have:=h.1 x hx
  rw [Nq] at this
  omega
end
section
open Go Go.RowKit
section
variable {P:Program} {w:World} {K:Value->World->Prop}
attribute [local irreducible] Run
end
section
attribute [local irreducible] Run CondV aq aK
end
end
section
open Go Go.RowKit
section
attribute [local irreducible] Run CondV aq aK
end
end
section
open Go Go.RowKit
def LQ:T:=.mk 0 0 ⟨#[]⟩ []
theorem RdT.zero (S:ad):RdT S n5 LQ:=RdT.iff.2 ⟨_,rfl,by simp [inI,T.kind,LQ],by simp [inI,T.n,LQ],by rw [LQ,T.name]; decide +kernel,none,0,rfl,aM _,aR _,.inl rfl⟩
def KRel (S:ad) (cs:List Value) (o:Option T):Prop:=cs.length=4/\(o=none->cs=n5)/\∀ t,o=some t->RdT S cs t
theorem KRel.one {S:ad} {cs:List Value} {o:Option T} (h:KRel S cs o):∀ u∈cs,u.oneCell'=true:=by
 cases o with
 | none=>rw [h.2.1 rfl]; simp [n5,Value.oneCell']
 | some t=>exact (h.2.2 t rfl).one
theorem KnownC.rd {S:ad} {kb kp:Nat} {kc:Array Value} {st:aj} {E:TypeId} (hS:S kb=some (.cells kc E)) (h:KnownC S kc st) (hst:st.length=26) (hkp:26<=kp) (hkm:kp<=maxLen):RdSl S 4 (KRel S) (kvn kb kp) st:=by
 refine ⟨some ⟨kb,0,none⟩,kp,by rw [hst],by omega,hkm,.inr ⟨kb,0,kc,E,(0,0),rfl,hS,fun i hi=>?_⟩⟩
 obtain ⟨h1,h2⟩:=h.2 i hi
 rw [cZ]
 refine ⟨?_,h1,h2⟩
 have:=h.1
 rw [ba,dN,xS,KY]
 omega
section
attribute [local irreducible] Run CondV aq aK
theorem KnownC.mono {S S':ad} {kc:Array Value} {st:aj} (h:KnownC S kc st) (hs:Sle S S'):KnownC S' kc st:=
 ⟨h.1,fun i hi=>⟨(h.2 i hi).1,fun t ht=>((h.2 i hi).2 t ht).mono hs⟩⟩
end
end
section
open Go Go.RowKit
mutual
def DJ (φ:Int->T):T->T
 | .mk k n s ks=>if k=1 then φ n else .mk k n s (tX φ ks)
def tX (φ:Int->T):List T->List T
 | []=>[]
 | t::ts=>DJ φ t::tX φ ts
end
theorem rh (φ:Int->T):∀ ts:List T,tX φ ts=ts.map (DJ φ)
 | []=>rfl
 | t::ts=>by rw [tX,rh φ ts]; rfl
theorem Lx (φ:Int->T) (ks:List T) (j:Nat) (h:j<ks.length):tX φ (ks.take (j+1))=tX φ (ks.take j)++[DJ φ ks[j]]:=by
 rw [rh,rh,fy h,List.map_append]; rfl
def Fun (f:FuncId) (cap:List Value) (S:ad) (φ:Int->T):Prop:=∀ S',Sle S S'->∀ n:Int,0<=n->n<=25->∃ cs,RdT S' cs (φ n)/\Pure Tryz.prog f (.int .i64 n::cap) S' (.agg cs.toArray)
theorem Fun.mono {f:FuncId} {cap:List Value} {S S':ad} {φ:Int->T} (h:Fun f cap S φ) (hs:Sle S S'):Fun f cap S' φ:=fun S2 h2=>h S2 (hs.trans h2)
abbrev Sn (t:T):Value->List Item->ad->Prop:=fun v I' S'=>I'=[]/\∃ cs,v=.agg cs.toArray/\RdT S' cs t
section
attribute [local irreducible] Run CondV aq aK
theorem Bb {f:FuncId} {fn:Func} (cap:List Value) (φ:Int->T) (hf:Tryz.prog.funcs[f]?=some fn) (hn:(fn.name == "runtime.NumGoroutine" || fn.body.isNone)=false) :
  ∀ (t:T) (S:ad) (cs:List Value),RdT S cs t->okV t->wT t<=1048576->Fun f cap S φ->Tri Tryz.prog qS [.agg cs.toArray,fv f cap] [] S (Sn (DJ φ t)):=by
 refine T.ind fun k n s ks ih S cs h hv hw hφ=>?_
 intro w hI
 obtain ⟨kv,rfl,h1,h2,hs,hks⟩:=RdT.iff.1 h
 simp only [T.name,T.kids,T.kind,T.n] at h1 h2 hs hks ⊢
 simp only [wT] at hw
 rw [okV] at hv
 have hvk:=hv.2
 refine jy.2 ?_
 dsimp only[jy,aO]
 refine bp hI fun b2 w' hI=>?_
 refine aP hI aZ fun b4 w' hI=>?_
 refine ae hI 0 rfl aV aI rfl ?_
 refine bl ?_
 rw [DJ]
 refine aH (fun hk1=>?_) (fun hk1=>?_)
 ·rw [ai hk1]
  obtain ⟨hn0,hn25⟩:=hv.1 hk1
  refine ae hI 0 rfl bm aI rfl ?_
  obtain ⟨ds,hds,hp⟩:=hφ S (Sle.refl S) n hn0 hn25
  refine Run.callVPure hf hn hI hp fun w' hI=>?_
  refine aA hI 1 rfl ac (by simpa using hds.length) rfl (by simpa using hds.one) fun w' hI=>?_
  refine bw hI 1 ac rfl (by simpa using hds.length) ?_
  exact ⟨_,_,_,rfl,hI.pick [false,false],Ext.refl _ _ _,rfl,ds,rfl,hds⟩
 rw [af hk1]
 refine ae hI 0 rfl av ao rfl ?_
 refine cT hI 0 rfl av ao rfl rfl rfl fun w' hI=>?_
 refine aF hks ah ?_
 have hI:Inv w [] [.blk b4 (.cells #[.int .i64 0,.int .i64 0,.string ⟨#[]⟩,.slice none 0 0] ab),.blk b2 (.cells #[.int .i64 k,.int .i64 n,.string s,.slice none 0 0] ab)] S w':=hI.perm (List.Perm.swap _ _ _)
 have hI:=hI.rowNil ab 4
 refine ⟨fun i w'=>∃ (j:Nat) (kvc:Value) (css:List (List Value)) (S1:ad),j<=ks.length/\i=.int .i64 j/\Ext w.heap.size [] S S1/\Rows 4 (RdT S1) css (tX φ (ks.take j))/\
   Inv w [] [.blk b4 (.cells #[.int .i64 0,.int .i64 0,.string ⟨#[]⟩,.slice none 0 0] ab),.blk b2 (.cells #[.int .i64 k,.int .i64 n,.string s,kvc] ab),aE kvc ab 4 css] S1 w',
  fun i _=>ks.length - (intOf i).toNat,⟨0,_,[],S,aR _,rfl,Ext.refl _ _ _,Rows.nil _ _,hI⟩,?_⟩
 intro t20 _ _ _ _ _ _ _ _ _ _ _ _ _ w'
 rintro ⟨j,kvc,css,S1,hj,rfl,hE,hg,hI⟩
 refine bL ?_
 refine aH (fun hji=>?_) (fun hji=>?_)
 ·have hj':j<ks.length:=by omega
  have hjl:(ks.take j).length=j:=by simp; omega
  have hcl:=hg.hc
  rw [rh,pF] at hcl
  have hm:=bQ hj'
  have hwm:=jf hm
  refine cj hI (hks.monoT hE.1) ah ac hj' (fun _ _=>RdT.length) fun cs0 hcs0=>?_
  refine aP hI aZ fun b7 w' hI=>?_
  have hI:=hI.perm (M:=.blk b7 _::[.blk b4 (.cells #[.int .i64 0,.int .i64 0,.string ⟨#[]⟩,.slice none 0 0] ab),.blk b2 (.cells #[.int .i64 k,.int .i64 n,.string s,kvc] ab),aE kvc ab 4 css]) (co (l₁:=[_]))
  refine aA hI 0 rfl ac (by simpa using hcs0.length) rfl (by simpa using hcs0.one) fun w' hI=>?_
  refine ⟨fun D Jz mG zV lq Ak qm ge pu w_=>Fx D 0 [pu=.pointer (some ⟨b2,3,none⟩),ge=kvc,qm=.agg cs0.toArray,Ak=fv f cap,True,True,True,Jz=.pointer (some ⟨b2,3,none⟩),True]/\∃ SN cs7 b8,Ext w.heap.size [] S1 SN/\(D 4=true->lq=.agg cs7.toArray/\RdT SN cs7 (DJ φ ks[j]))/\(D 5=true->zV=.slice (some ⟨b8,0,none⟩) 1 1)/\(D 5=true->D 4=true)/\(D 6=true->D 5=true)/\(D 8=true->D 6=true)/\(D 8=true->D 1=true)/\Inv w [] (aY (.blk b7 (.cells cs0.toArray ab)) (.blk b4 (.cells #[.int .i64 0,.int .i64 0,.string ⟨#[]⟩,.slice none 0 0] ab)) (.blk b2 (.cells #[.int .i64 k,.int .i64 n,.string s,kvc] ab)) (.blk b2 (.cells #[.int .i64 k,.int .i64 n,.string s,mG] ab)) (aE kvc ab 4 css) (aE mG ab 4 (css++[cs7])) [] [] (.blk b8 (.cells cs7.toArray ab)) false (D 5) (D 6) (D 8)) SN w_,⟨Fx.nil _ _,⟨S1,[],0,Ext.refl _ _ _,aQ,aQ,aQ,aQ,aQ,aQ,by simpa [aY] using hI.draw⟩⟩,⟨?_,?_,?_,?_,?_,?_,?_,?_,?_,trivial⟩,?_⟩
  all_goals (intro D bI; intros; rename_i Jz mG zV lq Ak qm ge pu w_ hA_; have hF_:=hA_.1; obtain ⟨⟨cJ,cH,cK,cI,cN,cP,cz,dC,ek,_⟩,⟨SN,cs7,b8,hN,e7,e8,k8,k9,k11,k1,hI⟩⟩:=hA_)
  ·refine aC av ?_
   exact ⟨hF_.set 0 rfl,⟨SN,cs7,b8,hN,e7,e8,k8,k9,k11,k1,hI⟩⟩
  ·obtain rfl:=cJ ‹_›
   have f11:D 8=false:=cq.2 fun h=>by rw [k1 h] at bI; cases bI
   refine bb (b:=b2) hI 2 (c:=(#[.int .i64 k,.int .i64 n,.string s,kvc])) ao (by rw [f11]; rfl) rfl ?_
   have k1:=fun (_:aB D 1 8=true)=>(rfl:aB D 1 1=true)
   exact ⟨hF_.set 1 rfl,⟨SN,cs7,b8,hN,e7,e8,k8,k9,k11,k1,hI⟩⟩
  ·refine az hI 0 ac rfl (by simpa using hcs0.length) ?_
   exact ⟨hF_.set 2 rfl,⟨SN,cs7,b8,hN,e7,e8,k8,k9,k11,k1,hI⟩⟩
  ·exact ⟨hF_.set 3 rfl,⟨SN,cs7,b8,hN,e7,e8,k8,k9,k11,k1,hI⟩⟩
  ·obtain rfl:=cK ‹_›
   obtain rfl:=cI ‹_›
   have f8:D 5=false:=cq.2 fun h=>by rw [k8 h] at bI; cases bI
   have f9:D 6=false:=cq.2 fun h=>by rw [k9 h] at f8; cases f8
   have f11:D 8=false:=cq.2 fun h=>by rw [k11 h] at f9; cases f9
   rw [f8,f9,f11] at hI
   refine Run.callE (I:=[]) gO gU (by simpa using hI) (ih _ (bQ hj') SN cs0 (hcs0.mono hN.1) (JB hvk _ (bQ hj')) (by omega) ((hφ.mono hE.1).mono hN.1)) fun v' I' SN w_=>?_
   rintro ⟨rfl,cs7,rfl,hT⟩ hE2 hI
   have hN:=hN.trans hE2
   have e7:aB D 4 4=true->Value.agg cs7.toArray=Value.agg cs7.toArray/\RdT SN cs7 (DJ φ ks[j]):=fun _=>⟨rfl,hT⟩
   have k8:=fun (_:aB D 4 5=true)=>(rfl:aB D 4 4=true)
   have hI:Inv w [] (aY (.blk b7 (.cells cs0.toArray ab)) (.blk b4 (.cells #[.int .i64 0,.int .i64 0,.string ⟨#[]⟩,.slice none 0 0] ab)) (.blk b2 (.cells #[.int .i64 k,.int .i64 n,.string s,kvc] ab)) (.blk b2 (.cells #[.int .i64 k,.int .i64 n,.string s,mG] ab)) (aE kvc ab 4 css) (aE mG ab 4 (css++[cs7])) [] [] (.blk b8 (.cells cs7.toArray ab)) false (D 5) (D 6) (D 8)) SN w_:=by
    rw [f8,f9,f11]
    simpa [aY] using hI
   exact ⟨hF_.set 4 (by first|assumption|trivial),⟨SN,cs7,b8,hN,e7,e8,k8,k9,k11,k1,hI⟩⟩
  ·have Ij:=cN ‹_›
   have f9:D 6=false:=cq.2 fun h=>by rw [k9 h] at bI; cases bI
   have f11:D 8=false:=cq.2 fun h=>by rw [k11 h] at f9; cases f9
   obtain ⟨q7,hT⟩:=e7 ‹D 4=true›
   subst q7
   rw [bI,f9,f11] at hI
   refine d6 hI bA (by simp [Value.cells,hT.length]) (by omega) (by omega) fun b8 w_ hI=>?_
   have e7:aB D 5 4=true->Value.agg cs7.toArray=Value.agg cs7.toArray/\RdT SN cs7 (DJ φ ks[j]):=fun _=>⟨rfl,hT⟩
   have e8:=fun (_:aB D 5 5=true)=>(rfl:Value.slice (some ⟨b8,0,none⟩) 1 1=_)
   have k8:=fun (_:aB D 5 5=true)=>‹D 4=true›
   have k9:=fun (_:aB D 5 6=true)=>(rfl:aB D 5 5=true)
   have hI:Inv w [] (aY (.blk b7 (.cells cs0.toArray ab)) (.blk b4 (.cells #[.int .i64 0,.int .i64 0,.string ⟨#[]⟩,.slice none 0 0] ab)) (.blk b2 (.cells #[.int .i64 k,.int .i64 n,.string s,kvc] ab)) (.blk b2 (.cells #[.int .i64 k,.int .i64 n,.string s,mG] ab)) (aE kvc ab 4 css) (aE mG ab 4 (css++[cs7])) [] [] (.blk b8 (.cells cs7.toArray ab)) false true (D 6) (D 8)) SN w_:=by
    rw [f9,f11]
    simpa [aY,Value.cells] using hI
   exact ⟨hF_.set 5 (by first|assumption|trivial),⟨SN,cs7,b8,hN,e7,e8,k8,k9,k11,k1,hI⟩⟩
  ·obtain rfl:=cH ‹_›
   have NN:=cP ‹_›
   have f11:D 8=false:=cq.2 fun h=>by rw [k11 h] at bI; cases bI
   have q8:=e8 ‹D 5=true›
   subst q8
   obtain ⟨_,hT⟩:=e7 ‹D 4=true›
   rw [‹D 5=true›,bI,f11] at hI
   have hblk:((aY (.blk b7 (.cells cs0.toArray ab)) (.blk b4 (.cells #[.int .i64 0,.int .i64 0,.string ⟨#[]⟩,.slice none 0 0] ab)) (.blk b2 (.cells #[.int .i64 k,.int .i64 n,.string s,ge] ab)) (.blk b2 (.cells #[.int .i64 k,.int .i64 n,.string s,mG] ab)) (aE ge ab 4 css) (aE mG ab 4 (css++[cs7])) [] [] (.blk b8 (.cells cs7.toArray ab)) false true false false))[4]?=some (.blk b8 (.cells cs7.toArray ab)):=rfl
   refine dy hI 3 cs7 bA (by omega) rfl (by rw [hT.length]) (m:=1) (o:=0) ?_ hT.one (by omega) (by omega) fun v' w_ hI=>?_
   ·intro i u hi
    rw [hI.cellL hblk,cZ]
    simpa using hi
   rw [eK] at hI
   have k9:=fun (_:aB D 6 6=true)=>‹D 5=true›
   have k11:=fun (_:aB D 6 8=true)=>(rfl:aB D 6 6=true)
   have hI:Inv w [] (aY (.blk b7 (.cells cs0.toArray ab)) (.blk b4 (.cells #[.int .i64 0,.int .i64 0,.string ⟨#[]⟩,.slice none 0 0] ab)) (.blk b2 (.cells #[.int .i64 k,.int .i64 n,.string s,ge] ab)) (.blk b2 (.cells #[.int .i64 k,.int .i64 n,.string s,v'] ab)) (aE ge ab 4 css) (aE v' ab 4 (css++[cs7])) [] [] (.blk b8 (.cells cs7.toArray ab)) false (D 5) true (D 8)) SN w_:=by
    rw [‹D 5=true›,f11]
    exact hI
   exact ⟨hF_.set 6 (by first|assumption|trivial),⟨SN,cs7,b8,hN,e7,e8,k8,k9,k11,k1,hI⟩⟩
  ·refine aC av ?_
   exact ⟨hF_.set 7 rfl,⟨SN,cs7,b8,hN,e7,e8,k8,k9,k11,k1,hI⟩⟩
  ·obtain rfl:=dC ‹_›
   have M9:=cz ‹_›
   rw [‹D 5=true›,‹D 6=true›,bI] at hI
   obtain ⟨va,vn,vc,hv9⟩:=Inv.rowSlice hI 3 rfl
   refine df hI 2 (n:=1) (by rw [hv9]; rfl) (by decide +kernel) rfl (by simp) (by rw [hv9]; simp [Value.cells,Value.oneCell']) fun w_ hI=>?_
   have hcl9:Value.cells mG=#[mG]:=by rw [hv9]; rfl
   rw [hcl9] at hI
   have k1:=fun (_:aB D 8 8=true)=>‹D 1=true›
   have k11:=fun (_:aB D 8 8=true)=>‹D 6=true›
   have hI:Inv w [] (aY (.blk b7 (.cells cs0.toArray ab)) (.blk b4 (.cells #[.int .i64 0,.int .i64 0,.string ⟨#[]⟩,.slice none 0 0] ab)) (.blk b2 (.cells #[.int .i64 k,.int .i64 n,.string s,kvc] ab)) (.blk b2 (.cells #[.int .i64 k,.int .i64 n,.string s,mG] ab)) (aE kvc ab 4 css) (aE mG ab 4 (css++[cs7])) [] [] (.blk b8 (.cells cs7.toArray ab)) false (D 5) (D 6) true) SN w_:=by
    rw [‹D 5=true›,‹D 6=true›]
    exact hI
   exact ⟨hF_.set 8 trivial,⟨SN,cs7,b8,hN,e7,e8,k8,k9,k11,k1,hI⟩⟩
  obtain ⟨rfl,rfl,rfl,rfl,Ij,NN,M9,rfl,_,_⟩:=hF_.all
  have Sg:D 4=true:=by assumption
  have PS:D 5=true:=by assumption
  have M6:D 6=true:=by assumption
  have N5:D 8=true:=by assumption
  clear hF_ cJ cH cK cI cN cP cz dC ek
  obtain ⟨_,hT⟩:=e7 Sg
  rw [PS,M6,N5] at hI
  refine bn (by omega) ?_
  refine ⟨⟨j+1,mG,css++[cs7],SN,hj',rfl,hE.trans hN,?_,?_⟩,by simp [intOf]; omega⟩
  ·rw [Lx φ ks j hj']
   exact (Rows.monoR hg fun _ _ h=>h.mono hN.1).snoc hT hT.length
  ·refine hI.sub ?_
   simp only [aY]
   exact ((((List.nil_sublist _).cons_cons _).cons_cons _).cons_cons _).cons _
 ·have:j=ks.length:=by omega
  subst this
  rw [fM] at hg
  obtain ⟨va,vn,vc,hvk'⟩:=hI.rowSlice 2 rfl
  have hv1:kvc.oneCell'=true:=by rw [hvk']; rfl
  refine az hI 1 ac rfl rfl ?_
  refine aA hI 0 rfl ac rfl rfl ?_ fun w' hI=>?_
  ·intro u hu
   have hu':u∈([.int .i64 k,.int .i64 n,.string s,kvc]:List Value):=hu
   simp at hu'
   rcases hu' with rfl|rfl|rfl|rfl <;> first|rfl|exact hv1
  refine bw hI 0 ac rfl rfl ?_
  have hI:Inv w [] ([]++[aE kvc ab 4 css]) S1 w':=hI.sub (dz [_,_] _)
  obtain ⟨S2,hE2,hrd,hI⟩:=hI.lendExt
  exact ⟨_,_,_,rfl,hI,hE.trans hE2,rfl,_,rfl,RdT.iff.2 ⟨kvc,rfl,h1,h2,hs,(RowRd.rows hg hrd).mono (Sle.refl _) fun _ _ h=>h.mono hE2.1⟩⟩
end
end
section
open Go Go.RowKit
mutual
theorem Fa:∀ t:T,okU 26 t->okV t
 | .mk k n s ks,h=>by
  rw [okU] at h
  rw [okV]
  exact ⟨fun hk=>by have:=h.2.1 hk; omega,IP ks h.2.2.1⟩
theorem IP:∀ ts:List T,cS 26 ts->Bm ts
 | [],_=>by rw [Bm]; trivial
 | t::ts,h=>by
  rw [cS] at h
  rw [Bm]
  exact ⟨Fa t h.1,IP ts h.2⟩
end
section
attribute [local irreducible] Run CondV aq aK
theorem FY {K:Value->World->Prop} {w:World} {mb:Nat} (hk:K (.agg #[.map (some mb),.slice none 0 0]) w):Run Tryz.prog (cn cD [(0,.map (some mb))]) w K:=by
 refine Run.of (v:=.agg #[.map (some mb),.slice none 0 0]) (w':=w) ?_ hk
 unfold cn
 rw [Sem.run_bind,run_build w cD _ #[.map (some mb),.slice none 0 0] (by kernel_rfl),Result.andThen_ok]
 rfl
theorem Av (S:ad):Tri Tryz.prog GP [] [] S fun r I' S'=>S'=S/\∃ sb mb,r=.pointer (some ⟨sb,0,none⟩)/\I'=au sb mb #[] 0 (.slice none 0 0) []:=by
 intro w hI
 have hI:Inv w [] [] S w:=hI
 refine rW.2 ?_
 dsimp only[rW,oJ]
 refine D7 hI fun mb w' hI=>?_
 refine FY ?_
 refine bp hI fun sb w' hI=>?_
 have hI:=hI.rowNil b0 1
 have hI:Inv w [] (au sb mb #[] 0 (.slice none 0 0) []) S w':=hI.perm (List.Perm.swap ..)
 exact ⟨_,_,_,rfl,hI,Ext.refl _ _ _,rfl,sb,mb,rfl,rfl⟩
theorem KnownM.none (S:ad) (N:Nat):KnownM S #[] (List.replicate N Option.none):=by
 refine ⟨fun e he=>by simp at he,fun n t h=>?_,by simp⟩
 have:=du h
 simp at this
end
end
section
open Go Go.RowKit
def Uw:aj:=List.replicate 26 none
theorem Ai:∀ n:Nat,unb (List.replicate n none)=n
 | 0=>rfl
 | n+1=>by rw [List.replicate_succ,unb,Ai n]
theorem DS (N:Nat):Good N (List.replicate N none):=⟨by simp,fun t ht=>by simp at ht,fun t ht=>by simp at ht,fun n=>n,fun n u hu=>by
 have:=du hu
 simp at this⟩
theorem KnU.zero (z:Array Value) (hz:z=#[.int .i64 0,.int .i64 0,.string ⟨#[]⟩,.slice none 0 0]) (S:ad) (N:Nat):KnU S ((Array.range (N * 4)).map (z[· % z.size]!)) (List.replicate N none):=by
 subst hz
 refine ⟨by simp,fun i hi=>⟨fun _=>?_,fun t ht=>?_⟩⟩
 ·simp only [List.length_replicate] at hi
  apply tk
  intro j
  rw [ba,tx]
  match j with
  | 0|1|2|3=>
   rw [ai (by omega),uD,Array.getElem?_toList,Array.getElem?_map,Array.getElem?_range,ai (by omega)]
   simp only [wz,List.size_toArray,bk,bG]
   first
    | rw [show (i * 4+0) % 4=0 by omega]; rfl
    | rw [show (i * 4+1) % 4=1 by omega]; rfl
    | rw [show (i * 4+2) % 4=2 by omega]; rfl
    | rw [show (i * 4+3) % 4=3 by omega]; rfl
  | j+4=>
   rw [af (by omega)]
   rfl
 ·have e:(List.replicate N (none:Option T))[i]=none:=by simp
  rw [e] at ht
  cases ht
def TI (code:Int) (st:aj):Bool:=decide (code=0) && st.all Option.isNone
section
variable {w:World} {K:Value->World->Prop}
attribute [local irreducible] Run CondV aq aK
end
end
section
open Go Go.RowKit
structure Ch where
 goal:T
 rest:List (T × Int)
 left:List Int
 binds:aj
structure St6 where
 goals:List (T × Int)
 binds:aj
 chs:List Ch
def RdCh (S:ad) (cs:List Value) (c:Ch):Prop:=∃ hd g l b,cs=hd++[g,l,b]/\RdT S hd c.goal/\RdSl S 5 (RdG S) g c.rest/\RdSl S 1 l4 l c.left/\RdSl S 4 (RdO S) b c.binds
theorem RdSl.sl {α:Type} {S:ad} {k:Nat} {R:List Value->α->Prop} {v:Value} {xs:List α} (h:RdSl S k R v xs):v.oneCell'=true:=by
 obtain ⟨a,m,rfl,_⟩:=h; rfl
theorem RdSl.monoO {S S':ad} {v:Value} {st:aj} (hs:Sle S S') (h:RdSl S 4 (RdO S) v st):RdSl S' 4 (RdO S') v st:=h.mono hs fun _ _=>RdO.mono hs
theorem RdCh.length {S:ad} {cs:List Value} {c:Ch} (h:RdCh S cs c):cs.length=7:=by
 obtain ⟨hd,g,l,b,rfl,h,_⟩:=h; simp [h.length]
theorem RdCh.one {S:ad} {cs:List Value} {c:Ch} (h:RdCh S cs c):∀ u∈cs,u.oneCell'=true:=by
 obtain ⟨hd,g,l,b,rfl,h,h1,h2,h3⟩:=h
 intro u hu
 rcases cd.1 hu with hu|hu
 ·exact h.one u hu
 ·simp only [cQ,ji,jg] at hu
  rcases hu with rfl|rfl|rfl
  ·exact h1.sl
  ·exact h2.sl
  ·exact h3.sl
theorem RdCh.mono {S S':ad} {cs:List Value} {c:Ch} (hs:Sle S S') (h:RdCh S cs c):RdCh S' cs c:=by
 obtain ⟨hd,g,l,b,rfl,h,h1,h2,h3⟩:=h
 exact ⟨hd,g,l,b,rfl,h.mono hs,h1.monoG hs,h2.mono hs fun _ _ h=>h,h3.monoO hs⟩
theorem RdSl.monoCh {S S':ad} {v:Value} {cs:List Ch} (hs:Sle S S') (h:RdSl S 7 (RdCh S) v cs):RdSl S' 7 (RdCh S') v cs:=h.mono hs fun _ _=>RdCh.mono hs
def RdS6 (S:ad) (cs:List Value) (s:St6):Prop:=∃ g b c,cs=[g,b,c]/\RdSl S 5 (RdG S) g s.goals/\RdSl S 4 (RdO S) b s.binds/\RdSl S 7 (RdCh S) c s.chs
theorem RdS6.length {S:ad} {cs:List Value} {s:St6} (h:RdS6 S cs s):cs.length=3:=by
 obtain ⟨g,b,c,rfl,_⟩:=h; rfl
theorem RdS6.one {S:ad} {cs:List Value} {s:St6} (h:RdS6 S cs s):∀ u∈cs,u.oneCell'=true:=by
 obtain ⟨g,b,c,rfl,h1,h2,h3⟩:=h
 intro u hu
 simp only [cQ,ji,jg] at hu
 rcases hu with rfl|rfl|rfl
 ·exact h1.sl
 ·exact h2.sl
 ·exact h3.sl
theorem RdS6.mono {S S':ad} {cs:List Value} {s:St6} (hs:Sle S S') (h:RdS6 S cs s):RdS6 S' cs s:=by
 obtain ⟨g,b,c,rfl,h1,h2,h3⟩:=h
 exact ⟨g,b,c,rfl,h1.monoG hs,h2.monoO hs,h3.monoCh hs⟩
section
variable {w:World} {K:Value->World->Prop}
attribute [local irreducible] Run
end
section
attribute [local irreducible] Run CondV aq aK
end
end
section
open Go Go.RowKit
theorem Good.grow {N:Nat} {st:aj} (h:Good N st) (k:Nat):Good (N+k) (st++List.replicate k none):=by
 have hm:∀ t,some t∈st++List.replicate k none->some t∈st:=fun t ht=>by
  rcases cd.1 ht with ht|ht
  ·exact ht
  ·have:=Ma ht
   cases this
 obtain ⟨r,hr⟩:=h.rk
 refine ⟨by simp [h.len],fun t ht=>gC (qJ ..) t (h.ok t (hm t ht)),fun t ht=>h.w t (hm t ht),r,fun n u hu=>?_⟩
 refine hr n u ?_
 rw [List.getElem?_append] at hu
 split at hu
 ·exact hu
 ·have:=Ma (du hu)
  cases this
def OD (b:aj) (cl:C):aj:=b++List.replicate (qK cl).toNat none
def tC (cl:C):Prop:=(okU (qK cl).toNat cl.head/\wT cl.head<=1048576)/\∀ t∈cl.body,okU (qK cl).toNat t/\wT t<=1048576
def ol (chs:List Ch) (c:Ch) (cl:C) (l:List Int) (st:aj):St6:=
 ⟨cl.body.map (fun t=>(dl c.binds.length t,(chs.length:Int)))++c.rest,st,chs++(if l=[] then [] else [⟨c.goal,c.rest,l,c.binds⟩])⟩
inductive TryL (p:List C) (chs:List Ch) (c:Ch):List Int->Option St6->Prop
 | nil:TryL p chs c [] none
 | hit {i:Nat} {l:List Int} {cl:C} {st:aj}:p[i]?=some cl->Uni (OD c.binds cl) (.one c.goal (dl c.binds.length cl.head)) true st->TryL p chs c ((i:Int)::l) (some (ol chs c cl l st))
 | miss {i:Nat} {l:List Int} {cl:C} {st:aj} {o:Option St6}:p[i]?=some cl->Uni (OD c.binds cl) (.one c.goal (dl c.binds.length cl.head)) false st->TryL p chs c l o->TryL p chs c ((i:Int)::l) o
theorem TryL.inv {p:List C} {chs:List Ch} {c:Ch} {x:Int} {l:List Int} {o:Option St6} (h:TryL p chs c (x::l) o) :
  ∃ (i:Nat) (cl:C) (r:Bool) (st:aj),x=i/\p[i]?=some cl/\Uni (OD c.binds cl) (.one c.goal (dl c.binds.length cl.head)) r st/\((r=true/\o=some (ol chs c cl l st)) ∨ (r=false/\TryL p chs c l o)):=by
 cases h with
 | hit h1 h2=>exact ⟨_,_,_,_,rfl,h1,h2,.inl ⟨rfl,rfl⟩⟩
 | miss h1 h2 h3=>exact ⟨_,_,_,_,rfl,h1,h2,.inr ⟨rfl,h3⟩⟩
structure pe (c:Ch):Prop where
 good:Good c.binds.length c.binds
 goal:okU c.binds.length c.goal/\wT c.goal<=1048576
 rest:∀ g∈c.rest,okU c.binds.length g.1/\wT g.1<=1048576
structure RZ (s:St6):Prop where
 good:Good s.binds.length s.binds
 goals:∀ g∈s.goals,okU s.binds.length g.1/\wT g.1<=1048576
 chs:∀ c∈s.chs,pe c
theorem xm {c:Ch} (hc:pe c) (cl:C):Good (c.binds.length+(qK cl).toNat) (OD c.binds cl):=hc.good.grow _
theorem FP {c:Ch} {cl:C} (hc:pe c) (hcl:tC cl):okJ (c.binds.length+(qK cl).toNat) (.one c.goal (dl c.binds.length cl.head)):=by
 refine ⟨⟨gC (qJ ..) _ hc.goal.1,hc.goal.2⟩,?_,?_⟩
 ·have:=jG c.binds.length cl.head hcl.1.1
  rw [n3] at this
  exact this
 ·rw [l6]; exact hcl.1.2
theorem TryL.ex {p:List C} (hp:∀ cl∈p,tC cl) (chs:List Ch) {c:Ch} (hc:pe c):∀ l:List Int,(∀ i∈l,0<=i/\i<p.length)->∃ o,TryL p chs c l o
 | [],_=>⟨none,.nil⟩
 | i::l,hl=>by
  obtain ⟨h0,h1⟩:=hl i (bq ..)
  obtain ⟨n,rfl⟩:∃ n:Nat,i=n:=⟨i.toNat,by omega⟩
  have hn:n<p.length:=by omega
  have hg:p[n]?=some p[n]:=iR hn
  have hcl:=hp _ (bQ hn)
  obtain ⟨r,st,hu⟩:=Cl _ _ (xm hc p[n]) (aM _) _ (FP hc hcl)
  cases r with
  | true=>exact ⟨_,.hit hg hu⟩
  | false=>
   obtain ⟨o,ho⟩:=TryL.ex hp chs hc l fun i hi=>hl i (bv _ hi)
   exact ⟨o,.miss hg hu ho⟩
theorem TryL.ok {p:List C} (hp:∀ cl∈p,tC cl) {chs:List Ch} (hh:∀ c∈chs,pe c) {c:Ch} (hc:pe c) {l:List Int} {o:Option St6} (h:TryL p chs c l o):∀ s,o=some s->RZ s:=by
 induction h with
 | nil=>intro s h; cases h
 | miss _ _ _ ih=>exact ih
 | @hit i l cl st hi hu=>
  intro s hs
  simp only [aT] at hs
  subst hs
  have hcl:=hp _ (du hi)
  obtain ⟨hg,_⟩:=hu.good (xm hc cl) (FP hc hcl)
  have hlen:=hg.len
  refine ⟨by rw [ol,hlen]; exact hg,fun g hm=>?_,fun d hd=>?_⟩
  ·rw [ol] at hm ⊢
   simp only at hm ⊢
   rw [hlen]
   rcases cd.1 hm with hm|hm
   ·obtain ⟨t,ht,rfl⟩:=iX.1 hm
    obtain ⟨q1,q2⟩:=hcl.2 t ht
    have:=jG c.binds.length t q1
    rw [n3] at this
    exact ⟨this,by rw [l6]; exact q2⟩
   ·exact ⟨gC (qJ ..) _ (hc.rest g hm).1,(hc.rest g hm).2⟩
  ·rw [ol] at hd
   rcases cd.1 hd with hd|hd
   ·exact hh d hd
   ·split at hd
    ·cases hd
    ·rw [bY] at hd
     subst hd
     exact ⟨hc.good,hc.goal,hc.rest⟩
end
section
open Go Go.RowKit
structure Sp where
 goal:T
 clause:Int
 body:Int
structure Se where
 st:St6
 steps:List Sp
 saved:List (List Sp)
inductive FirstL (p:List C) (chs:List Ch) (c:Ch):List Int->Option (St6 × Int × List Int)->Prop
 | nil:FirstL p chs c [] none
 | hit {i:Int} {l:List Int} {s:St6}:TryL p chs c [i] (some s)->FirstL p chs c (i::l) (some (s,i,l))
 | miss {i:Int} {l:List Int} {o:Option (St6 × Int × List Int)}:TryL p chs c [i] none->FirstL p chs c l o->FirstL p chs c (i::l) o
theorem FirstL.ex {p:List C} (hp:∀ cl∈p,tC cl) (chs:List Ch) {c:Ch} (hc:pe c):∀ l:List Int,(∀ i∈l,0<=i/\i<p.length)->∃ o,FirstL p chs c l o
 | [],_=>⟨none,.nil⟩
 | i::l,hl=>by
  obtain ⟨o,ho⟩:=TryL.ex hp chs hc [i] fun j hj=>by
   rw [bY] at hj
   subst hj
   exact hl j (bq ..)
  cases o with
  | some s=>exact ⟨_,.hit ho⟩
  | none=>
   obtain ⟨o,h2⟩:=FirstL.ex hp chs hc l fun j hj=>hl j (bv _ hj)
   exact ⟨o,.miss ho h2⟩
theorem FirstL.ok {p:List C} (hp:∀ cl∈p,tC cl) {chs:List Ch} (hh:∀ c∈chs,pe c) {c:Ch} (hc:pe c) {l:List Int} {o:Option (St6 × Int × List Int)} (h:FirstL p chs c l o) :
  ∀ s i r,o=some (s,i,r)->RZ s/\i∈l/\(∀ j∈r,j∈l):=by
 induction h with
 | nil=>intro s i r h; cases h
 | miss _ _ ih=>
  intro s i r h
  obtain ⟨h1,h2,h3⟩:=ih s i r h
  exact ⟨h1,bv _ h2,fun j hj=>bv _ (h3 j hj)⟩
 | hit ht=>
  intro s i r h
  simp only [aT,cL] at h
  obtain ⟨rfl,rfl,rfl⟩:=h
  exact ⟨ht.ok hp hh hc _ rfl,bq ..,fun j hj=>bv _ hj⟩
def kK (p:List C) (s:Se) (c:Ch) (u:St6) (i:Int) (l:List Int):Se:=
 ⟨⟨u.goals,u.binds,s.st.chs++(if l=[] then [] else [⟨c.goal,c.rest,l,c.binds⟩])⟩,s.steps++[⟨c.goal,i,((p[i.toNat]?).elim 0 fun cl=>(cl.body.length:Int))⟩],s.saved++(if l=[] then [] else [s.steps])⟩
inductive TakeR (p:List C) (s:Se) (c:Ch):Option Se->Prop
 | no:FirstL p s.st.chs c c.left none->TakeR p s c none
 | yes {u:St6} {i:Int} {l:List Int}:FirstL p s.st.chs c c.left (some (u,i,l))->TakeR p s c (some (kK p s c u i l))
structure xp (n:Nat) (s:Se):Prop where
 st:RZ s.st
 left:∀ c∈s.st.chs,∀ i∈c.left,0<=i/\i<n
 len:s.saved.length=s.st.chs.length
theorem TakeR.ex {p:List C} (hp:∀ cl∈p,tC cl) (s:Se) {c:Ch} (hc:pe c) (hl:∀ i∈c.left,0<=i/\i<p.length):∃ o,TakeR p s c o:=by
 obtain ⟨o,ho⟩:=FirstL.ex hp s.st.chs hc c.left hl
 cases o with
 | none=>exact ⟨_,.no ho⟩
 | some x=>exact ⟨_,.yes (u:=x.1) (i:=x.2.1) (l:=x.2.2) ho⟩
theorem TakeR.ok {p:List C} (hp:∀ cl∈p,tC cl) {s:Se} (hh:∀ c∈s.st.chs,pe c) (hf:∀ c∈s.st.chs,∀ i∈c.left,0<=i/\i<p.length) (hn:s.saved.length=s.st.chs.length) {c:Ch} (hc:pe c)
  (hl:∀ i∈c.left,0<=i/\i<p.length) {o:Option Se} (h:TakeR p s c o):∀ s',o=some s'->xp p.length s':=by
 intro s' hs
 cases h with
 | no _=>cases hs
 | @yes u i l hF=>
  simp only [aT] at hs
  subst hs
  obtain ⟨h1,h2,h3⟩:=hF.ok hp hh hc u i l rfl
  refine ⟨⟨h1.good,h1.goals,fun d hd=>?_⟩,fun d hd j hj=>?_,?_⟩
  ·rcases cd.1 hd with hd|hd
   ·exact hh d hd
   ·split at hd
    ·cases hd
    ·rw [bY] at hd
     subst hd
     exact ⟨hc.good,hc.goal,hc.rest⟩
  ·rcases cd.1 hd with hd|hd
   ·exact hf d hd j hj
   ·split at hd
    ·cases hd
    ·rw [bY] at hd
     subst hd
     exact hl j (h3 j hj)
  ·simp only [kK,bh]
   split <;> simp [hn]
inductive BackR (p:List C):List Ch->List (List Sp)->Option Se->Prop
 | nil {ss:List (List Sp)}:BackR p [] ss none
 | hit {cs:List Ch} {ss:List (List Sp)} {c:Ch} {t:List Sp} {s:Se}:TakeR p ⟨⟨[],[],cs⟩,t,ss⟩ c (some s)->BackR p (cs++[c]) (ss++[t]) (some s)
 | miss {cs:List Ch} {ss:List (List Sp)} {c:Ch} {t:List Sp} {o:Option Se}:TakeR p ⟨⟨[],[],cs⟩,t,ss⟩ c none->BackR p cs ss o->BackR p (cs++[c]) (ss++[t]) o
theorem BackR.ex {p:List C} (hp:∀ cl∈p,tC cl):∀ (n:Nat) (cs:List Ch) (ss:List (List Sp)),cs.length=n->ss.length=n->(∀ c∈cs,pe c)->(∀ c∈cs,∀ i∈c.left,0<=i/\i<p.length)->
  ∃ o,BackR p cs ss o/\∀ s,o=some s->xp p.length s:=by
 intro n
 induction n with
 | zero=>
  intro cs ss h _ _ _
  have:=iW h
  subst this
  exact ⟨none,.nil,fun s h=>by cases h⟩
 | succ n ih=>
  intro cs ss h1 h2 hh hf
  obtain ⟨cs,c,rfl⟩:=Om cs |>.resolve_left fun e=>by rw [e] at h1; cases h1
  obtain ⟨ss,t,rfl⟩:=Om ss |>.resolve_left fun e=>by rw [e] at h2; cases h2
  simp only [List.concat_eq_append,bh,oz,sS] at h1 h2 hh hf ⊢
  have hc:=hh c (by simp)
  have hl:=hf c (by simp)
  have hh':∀ c∈cs,pe c:=fun d hd=>hh d (eM _ hd)
  have hf':∀ c∈cs,∀ i∈c.left,0<=i/\i<p.length:=fun d hd=>hf d (eM _ hd)
  obtain ⟨o,ho⟩:=TakeR.ex hp ⟨⟨[],[],cs⟩,t,ss⟩ hc hl
  cases o with
  | some s=>exact ⟨_,.hit ho,fun s' e=>ho.ok hp hh' hf' (by simp only; omega) hc hl s' e⟩
  | none=>
   obtain ⟨o,h3,h4⟩:=ih cs ss h1 h2 hh' hf'
   exact ⟨o,.miss ho h3,h4⟩
end
section
open Go Go.RowKit
def iz (p:List C) (g:T):List Int:=ez (fun c=>eC (bE c.head) (bE g)) p 0
theorem nY (p:List C) (g:T):∀ i∈iz p g,0<=i/\i<p.length:=by
 intro i hi
 obtain ⟨j,h0,rfl,hj,_⟩:=vj _ p 0 i hi
 omega
inductive OneR (p:List C) (s:Se):Se->Int->Prop
 | big {g:T × Int} {rest:List (T × Int)} {u:T}:s.st.goals=g::rest->Res s.st.binds (.one g.1 u)->(bS u=false ∨ fp u=true)->OneR p s s 0
 | took {g:T × Int} {rest:List (T × Int)} {u:T} {s':Se}:s.st.goals=g::rest->Res s.st.binds (.one g.1 u)->bS u=true->fp u=false->cr u=false->
   TakeR p s ⟨u,rest,iz p u,s.st.binds⟩ (some s')->OneR p s s' (-1)
 | stuck {g:T × Int} {rest:List (T × Int)} {u:T}:s.st.goals=g::rest->Res s.st.binds (.one g.1 u)->bS u=true->fp u=false->cr u=false->
   TakeR p s ⟨u,rest,iz p u,s.st.binds⟩ none->OneR p s s (-2)
 | fail {g:T × Int} {rest:List (T × Int)} {u:T} {st:aj}:s.st.goals=g::rest->Res s.st.binds (.one g.1 u)->bS u=true->fp u=false->cr u=true->
   Blt s.st.binds u 1 st->OneR p s s (-2)
 | err {g:T × Int} {rest:List (T × Int)} {u:T} {st:aj} {c:Int}:s.st.goals=g::rest->Res s.st.binds (.one g.1 u)->bS u=true->fp u=false->cr u=true->
   Blt s.st.binds u c st->c≠0->c≠1->OneR p s s 0
 | solved {g:T × Int} {rest:List (T × Int)} {u:T} {st:aj}:s.st.goals=g::rest->Res s.st.binds (.one g.1 u)->bS u=true->fp u=false->cr u=true->
   Blt s.st.binds u 0 st->OneR p s ⟨⟨rest,st,s.st.chs⟩,s.steps++[⟨u,-1,0⟩],s.saved⟩ (-1)
theorem OneR.ex {p:List C} (hp:∀ cl∈p,tC cl) {s:Se} (hs:xp p.length s) (hg:s.st.goals≠[]):∃ s' k,OneR p s s' k/\xp p.length s':=by
 obtain ⟨g,rest,hgr⟩:∃ g rest,s.st.goals=g::rest:=by
  cases h:s.st.goals with
  | nil=>exact absurd h hg
  | cons g rest=>exact ⟨g,rest,rfl⟩
 have hgo:=hs.st.goals
 rw [hgr] at hgo
 have hg1:=hgo g (bq ..)
 obtain ⟨us,hus⟩:=ux hs.st.good [g.1] (by simp only [cS]; exact ⟨hg1.1,trivial⟩)
 obtain ⟨u,hu⟩:∃ u,Res s.st.binds (.one g.1 u):=by
  cases hus with
  | cons h _=>exact ⟨_,h⟩
 have hou:okU s.st.binds.length u:=lg hs.st.good hu hg1.1
 cases hsm:bS u with
 | false=>exact ⟨_,_,.big hgr hu (.inl hsm),hs⟩
 | true=>
  have hw:=gY hsm hou
  cases hc:fp u with
  | true=>exact ⟨_,_,.big hgr hu (.inr hc),hs⟩
  | false=>
   cases hb:cr u with
   | false=>
    have hch:pe ⟨u,rest,iz p u,s.st.binds⟩:=⟨hs.st.good,⟨hou,by simp only; omega⟩,fun x hx=>hgo x (bv _ hx)⟩
    obtain ⟨o,ho⟩:=TakeR.ex hp s hch (nY p u)
    cases o with
    | none=>exact ⟨_,_,.stuck hgr hu hsm hc hb ho,hs⟩
    | some s'=>exact ⟨_,_,.took hgr hu hsm hc hb ho,ho.ok hp hs.st.chs hs.left hs.len hch (nY p u) _ rfl⟩
   | true=>
    obtain ⟨c,st,hB⟩:=Blt.ex hs.st.good hb ⟨hou,by omega⟩
    by_cases h1:c=1
    ·subst h1
     exact ⟨_,_,.fail hgr hu hsm hc hb hB,hs⟩
    by_cases h0:c=0
    ·subst h0
     refine ⟨_,_,.solved hgr hu hsm hc hb hB,?_⟩
     have hgd:=hB.good hs.st.good hb ⟨hou,by omega⟩
     have hl:=hgd.len
     exact ⟨⟨by simp only [hl]; exact hgd,fun x hx=>by simp only [hl]; exact hgo x (bv _ hx),hs.st.chs⟩,hs.left,hs.len⟩
    ·exact ⟨_,_,.err hgr hu hsm hc hb hB h0 h1,hs⟩
end
section
open Go Go.RowKit
inductive Srch (p:List C):Nat->Se->Option Se->Prop
 | done {n:Nat} {s:Se}:s.st.goals=[]->Srch p n s (some s)
 | out {s:Se}:s.st.goals≠[]->Srch p 0 s none
 | halt {n:Nat} {s s':Se}:s.st.goals≠[]->OneR p s s' 0->Srch p (n+1) s none
 | step {n:Nat} {s s':Se} {o:Option Se}:s.st.goals≠[]->OneR p s s' (-1)->Srch p n s' o->Srch p (n+1) s o
 | stop {n:Nat} {s s':Se}:s.st.goals≠[]->OneR p s s' (-2)->BackR p s'.st.chs s'.saved none->Srch p (n+1) s none
 | back {n:Nat} {s s' t:Se} {o:Option Se}:s.st.goals≠[]->OneR p s s' (-2)->BackR p s'.st.chs s'.saved (some t)->Srch p n t o->Srch p (n+1) s o
theorem OneR.code {p:List C} {s s':Se} {k:Int} (h:OneR p s s' k):k=0 ∨ k=-1 ∨ k=-2:=by
 cases h <;> simp
theorem Srch.ex {p:List C} (hp:∀ cl∈p,tC cl):∀ (n:Nat) (s:Se),xp p.length s->∃ o,Srch p n s o/\∀ t,o=some t->xp p.length t:=by
 intro n
 induction n with
 | zero=>
  intro s hs
  by_cases hg:s.st.goals=[]
  ·exact ⟨_,.done hg,fun t h=>by rw [aT] at h; subst h; exact hs⟩
  ·exact ⟨_,.out hg,fun t h=>by cases h⟩
 | succ n ih=>
  intro s hs
  by_cases hg:s.st.goals=[]
  ·exact ⟨_,.done hg,fun t h=>by rw [aT] at h; subst h; exact hs⟩
  obtain ⟨s',k,h1,h2⟩:=OneR.ex hp hs hg
  rcases h1.code with rfl|rfl|rfl
  ·exact ⟨_,.halt hg h1,fun t h=>by cases h⟩
  ·obtain ⟨o,h3,h4⟩:=ih s' h2
   exact ⟨o,.step hg h1 h3,h4⟩
  ·obtain ⟨o,h3,h4⟩:=BackR.ex hp _ s'.st.chs s'.saved rfl h2.len h2.st.chs h2.left
   cases o with
   | none=>exact ⟨_,.stop hg h1 h3,fun t h=>by cases h⟩
   | some t=>
    obtain ⟨o,h5,h6⟩:=ih t (h4 t rfl)
    exact ⟨o,.back hg h1 h3 h5,h6⟩
end
section
open Go Go.RowKit
def oZ:List Sp->Int
 | []=>1
 | x::xs=>x.body - 1+oZ xs
theorem yH:∀ (a b:List Sp),oZ (a++b)=oZ a+oZ b - 1
 | [],b=>by rw [sv,oZ]; omega
 | x::a,b=>by rw [gt,oZ,oZ,yH a b]; omega
theorem Es (a:List Sp) (x:Sp):oZ (a++[x])=oZ a+x.body - 1:=by
 rw [yH]
 simp only [oZ]
 omega
def openP (l:List Sp):Prop:=∀ a b,l=a++b->b≠[]->0<oZ a
theorem openP.nil:openP []:=by
 intro a b h hb
 have:=congrArg List.length h
 cases b with
 | nil=>exact absurd rfl hb
 | cons y b=>simp at this
theorem openP.snoc {l:List Sp} (h:openP l) (hp:0<oZ l) (x:Sp):openP (l++[x]):=by
 intro a b e hb
 obtain ⟨b',y,rfl⟩:=(Om b).resolve_left hb
 rw [List.concat_eq_append,<- eI] at e
 have e2:=List.append_inj_left' e (by simp)
 subst e2
 cases b' with
 | nil=>rw [cX] at hp; exact hp
 | cons z b'=>exact h a (z::b') rfl (by simp)
structure okP (s:Se):Prop where
 goals:(s.st.goals.length:Int)=oZ s.steps
 openP:openP s.steps
 saved:∀ i (h:i<s.st.chs.length) (h':i<s.saved.length),(s.st.chs[i].rest.length:Int)+1=oZ s.saved[i]/\Go.Proofs.YtcpgagfdeflbkaaGreatDoor.openP s.saved[i]
def ML (p:List C) (i:Int):Int:=(p[i.toNat]?).elim 0 fun cl=>(cl.body.length:Int)
theorem TryL.goals {p:List C} {chs:List Ch} {c:Ch} {i:Int} {s:St6} (h:TryL p chs c [i] (some s)):(s.goals.length:Int)=ML p i+c.rest.length:=by
 cases h with
 | hit hi _=>simp [ol,ML,hi]
 | miss _ _ h=>cases h
theorem FirstL.goals {p:List C} {chs:List Ch} {c:Ch} {l:List Int} {o:Option (St6 × Int × List Int)} (h:FirstL p chs c l o):∀ s i r,o=some (s,i,r)->(s.goals.length:Int)=ML p i+c.rest.length:=by
 induction h with
 | nil=>intro s i r h; cases h
 | miss _ _ ih=>exact ih
 | hit ht=>
  intro s i r h
  simp only [aT,cL] at h
  obtain ⟨rfl,rfl,rfl⟩:=h
  exact ht.goals
theorem TakeR.okP {p:List C} {s s':Se} {c:Ch} (h:TakeR p s c (some s')) (hn:s.saved.length=s.st.chs.length) (hr:(c.rest.length:Int)+1=oZ s.steps) (ho:openP s.steps)
  (hs:∀ i (h:i<s.st.chs.length) (h':i<s.saved.length),(s.st.chs[i].rest.length:Int)+1=oZ s.saved[i]/\Go.Proofs.YtcpgagfdeflbkaaGreatDoor.openP s.saved[i]):okP s':=by
 cases h with
 | @yes u i l hF=>
  have hg:=hF.goals u i l rfl
  refine ⟨?_,?_,?_⟩
  ·simp only [kK,Es]
   rw [hg,ML]
   omega
  ·exact ho.snoc (by omega) _
  ·intro k h1 h2
   simp only [kK] at h1 h2 ⊢
   by_cases hl:l=[]
   ·subst hl
    simp only [ai,cX] at h1 h2 ⊢
    exact hs k h1 h2
   ·simp only [af hl,bh,oz] at h1 h2 ⊢
    by_cases hk:k<s.st.chs.length
    ·rw [ft hk,ft (by omega)]
     exact hs k hk (by omega)
    ·have hk1:k=s.st.chs.length:=by omega
     subst hk1
     rw [eT (aM _),eT (by omega)]
     simp only [hn,dY,kQ]
     exact ⟨hr,ho⟩
end
end Go.Proofs.YtcpgagfdeflbkaaGreatDoor
