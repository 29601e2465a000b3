/- impl: resolved terms, if they are small. -/
import Derived.Test.YtfcbhfjomgopbaaGreatZFu20
import Derived.Test.YtfcbhfjomgopbaaGreatZFu8
import Derived.Test.YtfcbhfjomgopbaaGreatZFu4
import Derived.Test.YtfcbhfjomgopbaaGreatZFu7
import Derived.Test.YtfcbhfjomgopbaaGreatZFu9
import Derived.Test.YtfcbhfjomgopbaaGreatZFu18
import Derived.Test.YtfcbhfjomgopbaaGreatZFu21
import Derived.Test.YtfcbhfjomgopbaaGreatZFu17
namespace Go.Proofs.YtfcbhfjomgopbaaGreat
section
open Go Go.RowKit
theorem KnownM.up {S S':ae} {es:Array MapEntry} {st:aF} (h:KnownM S es st) (hs:Sle S S'):KnownM S' es st:=
 ⟨fun e he=>by
  obtain ⟨n,t,cs,h1,h2,h3,h4⟩:=h.1 e he
  exact ⟨n,t,cs,h1,h2,h3.mono hs,h4⟩,h.2⟩
theorem StS.up {S S':ae} {sb:Nat} {st:aF} (h:StS S S sb st) (hs:Sle S S'):StS S' S' sb st:=by
 obtain ⟨mb,tv,es,ck,E,h1,h2,h3⟩:=h
 exact ⟨mb,tv,es,ck,E,hs _ _ h1,hs _ _ h2,h3.up hs⟩
def okR (u:T) (deep count:Int):Bool:=decide (count+dE u<=120) && qv u (31 - deep)
def RC (st:aF) (sb:Nat) (t u:T):Prop:=∀ (S:ae) (cs:List Value) (cb:Nat) (deep count:Int),RdT S cs t->StS S S sb st->1<=deep->deep<=1000000->0<=count->count<=1000000->
 Tri Tryz.prog rL [.pointer (some ⟨sb,0,none⟩),.agg cs.toArray,.int .i64 deep,.pointer (some ⟨cb,0,none⟩)] [.blk cb (.cells #[.int .i64 count] bZ)] S fun q I' S'=>
  ∃ (cs':List Value) (c':Int),q=.tuple #[.agg cs'.toArray,.bool (okR u deep count)]/\I'=[.blk cb (.cells #[.int .i64 c'] bZ)]/\cs'.length=4/\(∀ x∈cs',x.oneCell'=true)/\(okR u deep count=true->c'=count+dE u/\RdT S' cs' u)
section
attribute [local irreducible] Run CondV aB aS
theorem Dg {N:Nat} {st:aF} {sb:Nat} {t v:T} {us:List T} (hg:Good N st) (hwv:cU st t v) (hot:okU N t/\wT t<=1048576) (hlu:us.length=v.kids.length)
  (hk:∀ i (h:i<us.length) (h':i<v.kids.length),RC st sb v.kids[i] us[i]):RC st sb t (.mk v.kind v.n v.name us):=by
 intro S cs cb deep count h hst hd0 hd1 hc0 hc1 w hI
 have hlc:=h.length
 have hov:=dQ hg hwv hot
 obtain ⟨X,hX⟩:∃ X,X=bC [Item.blk cb (.cells #[.int .i64 count] bZ)]:=⟨_,rfl⟩
 rw [<- hX] at hI ⊢
 have hcu:=dX us
 have hokd:okR (.mk v.kind v.n v.name us) deep count=(decide (count+(1+dd us)<=120) && (if 31 - deep<1 then false else N4 us (31 - deep - 1))):=by
  rw [okR,gC,qv]
 refine jJ.2 ?_
 dsimp only[jJ,tj]
 refine bf hI fun b5 w' hI=>?_
 refine aD hI aQ fun b8 w' hI=>?_
 have hI:Inv w X ([.blk b5 (.cells cs.toArray ab),.blk b8 (.cells #[.int .i64 0,.int .i64 0,.string ⟨#[]⟩,.slice none 0 0] ab)]++[.blk cb (.cells #[.int .i64 count] bZ)]) S w':=hI.perm (List.perm_append_comm (l₁:=[_,_]) (l₂:=[_]))
 refine ao hI 0 ac rfl (by simpa using hlc) ?_
 refine Run.call0 gQ gP hI (ku hg hwv hot.1 hst h) fun v' I' S' w'=>?_
 rintro ⟨eS,rfl,cs',rfl,hcs'⟩ _ hI
 rw [eS] at hI
 clear eS
 refine aq hI 0 rfl ac (by simpa using hcs'.length) (by simpa using hlc) (by simpa using hcs'.one) fun w' hI=>?_
 obtain ⟨kv,rfl,hi1,hi2,hs,hks⟩:=RdT.iff.1 hcs'
 have hI:Inv w X [.blk b5 (.cells #[.int .i64 v.kind,.int .i64 v.n,.string v.name,kv] ab),.blk b8 (.cells #[.int .i64 0,.int .i64 0,.string ⟨#[]⟩,.slice none 0 0] ab),.blk cb (.cells #[.int .i64 count] bZ)] S w':=hI
 have hlen:=hks.le
 have hkl:v.kids.length<=1048576:=by
  have:=hov.2
  cases v
  simp only [wT] at this
  simp only [T.kids]
  omega
 refine bF ?_
 refine aA hI 2 av rfl rfl ?_
 refine bl (by omega) ?_
 refine bF ?_
 refine dA hI 2 (n:=1) rfl (by decide +kernel) rfl (by simp) (by simp [Value.cells,Value.oneCell']) fun w' hI=>?_
 have hI:Inv w X [.blk b5 (.cells #[.int .i64 v.kind,.int .i64 v.n,.string v.name,kv] ab),.blk b8 (.cells #[.int .i64 0,.int .i64 0,.string ⟨#[]⟩,.slice none 0 0] ab),.blk cb (.cells #[.int .i64 (count+1)] bZ)] S w':=hI
 refine ⟨fun q w'=>q=.bool (decide (120<count+1 ∨ 30<deep))/\Inv w X [.blk b5 (.cells #[.int .i64 v.kind,.int .i64 v.n,.string v.name,kv] ab),.blk b8 (.cells #[.int .i64 0,.int .i64 0,.string ⟨#[]⟩,.slice none 0 0] ab),.blk cb (.cells #[.int .i64 (count+1)] bZ)] S w',?_,?_⟩
 ·refine bF ?_
  refine aA hI 2 av rfl rfl ?_
  refine dl ?_
  by_cases e1:120<count+1
  ·rw [decide_eq_true e1]
   refine rpG ?_
   exact ⟨by rw [decide_eq_true (Or.inl e1)],hI⟩
  ·rw [decide_eq_false e1]
   refine rpG ?_
   refine dl ?_
   refine rpG ?_
   refine ⟨?_,hI⟩
   congr 1
   rw [Bool.eq_iff_iff,decide_eq_true_eq,decide_eq_true_eq]
   omega
 intro q _ _ _ _ _ _ _ w'
 rintro ⟨rfl,hI⟩
 refine aI (fun hbad=>?_) (fun hgood=>?_)
 ·have hno:okR (.mk v.kind v.n v.name us) deep count=false:=by
   rw [hokd]
   rcases hbad with e|e
   ·rw [decide_eq_false (by omega),Bool.false_and]
   ·rw [if_pos (by omega),Bool.and_false]
  refine fC ?_
  refine aq hI 1 rfl ac rfl rfl js fun w' hI=>?_
  refine aU hI 1 ac rfl rfl ?_
  exact ⟨_,_,_,rfl,hI.pick [false,false,true],Ext.refl _ _ _,[.int .i64 0,.int .i64 0,.string ⟨#[]⟩,.slice none 0 0],count+1,by rw [hno],rfl,rfl,js,fun h=>by rw [hno] at h; cases h⟩
 have hg1:count+1<=120:=by omega
 have hg2:deep<=30:=by omega
 rw [if_neg (by omega)] at hokd
 refine ad hI 0 rfl aE av rfl ?_
 refine ad hI 0 rfl aM av rfl ?_
 refine ad hI 0 rfl aO aJ rfl ?_
 refine gj ?_
 refine aD hI aQ fun b10 w' hI=>?_
 have hI:Inv w X [.blk b5 (.cells #[.int .i64 v.kind,.int .i64 v.n,.string v.name,kv] ab),.blk b8 (.cells #[.int .i64 0,.int .i64 0,.string ⟨#[]⟩,.slice none 0 0] ab),.blk b10 _,.blk cb (.cells #[.int .i64 (count+1)] bZ)] S w':=hI.perm (((List.perm_append_comm (l₁:=[_]) (l₂:=[_])).cons _).cons _)
 refine aq hI 2 rfl ac rfl rfl (by simp [Value.oneCell']) fun w' hI=>?_
 have hI:=hI.rowNil ab 4
 have hI:Inv w X [.blk b5 (.cells #[.int .i64 v.kind,.int .i64 v.n,.string v.name,kv] ab),.blk b8 (.cells #[.int .i64 0,.int .i64 0,.string ⟨#[]⟩,.slice none 0 0] ab),.blk b10 (.cells #[.int .i64 v.kind,.int .i64 v.n,.string v.name,.slice none 0 0] ab),aK (.slice none 0 0) ab 4 [],.blk cb (.cells #[.int .i64 (count+1)] bZ)] S w':=hI.perm ((((List.perm_append_comm (l₁:=[_]) (l₂:=[_])).cons _).cons _).cons _)
 refine ad hI 0 rfl al ah rfl ?_
 refine aC hks af ?_
 refine ⟨fun i w'=>∃ (j:Nat) (c:Int) (kvc:Value) (css:List (List Value)) (S1:ae),j<=us.length/\i=.int .i64 j/\Ext w.heap.size X S S1/\c=count+1+dd (us.take j)/\c<=120/\(∀ k (_:k<us.length),k<j->qv us[k] (31 - deep - 1)=true)/\Rows 4 (RdT S1) css (us.take j)/\
   Inv w X [.blk b5 (.cells #[.int .i64 v.kind,.int .i64 v.n,.string v.name,kv] ab),.blk b8 (.cells #[.int .i64 0,.int .i64 0,.string ⟨#[]⟩,.slice none 0 0] ab),.blk b10 (.cells #[.int .i64 v.kind,.int .i64 v.n,.string v.name,kvc] ab),aK kvc ab 4 css,.blk cb (.cells #[.int .i64 c] bZ)] S1 w',
  fun i _=>us.length - (intOf i).toNat,⟨0,count+1,_,[],S,Nat.zero_le _,rfl,Ext.refl _ _ _,by simp [dd],hg1,fun k _ h=>by omega,Rows.nil _ _,hI⟩,?_⟩
 intro t42 _ _ _ _ _ _ _ _ _ _ _ _ _ _ _ _ _ _ _ _ _ _ _ _ _ _ w'
 rintro ⟨j,c,kvc,css,S1,hj,rfl,hE,hc,hc120,hdep,hR,hI⟩
 have hpos:=dX (us.take j)
 refine bq ?_
 refine aI (fun hji=>?_) (fun hji=>?_)
 ·have hj1:j<us.length:=by omega
  have hj2:j<v.kids.length:=by omega
  have hcl:=hR.hc
  rw [List.length_take] at hcl
  refine bY hI (hks.monoT hE.1) af ac hj2 (fun _ _=>RdT.length) fun cs0 hcs0=>?_
  have hlc0:=hcs0.length
  refine aD hI aQ fun b12 w' hI=>?_
  have hI:=hI.perm (M:=.blk b12 _::[.blk b5 (.cells #[.int .i64 v.kind,.int .i64 v.n,.string v.name,kv] ab),.blk b8 (.cells #[.int .i64 0,.int .i64 0,.string ⟨#[]⟩,.slice none 0 0] ab),.blk b10 (.cells #[.int .i64 v.kind,.int .i64 v.n,.string v.name,kvc] ab),aK kvc ab 4 css,.blk cb (.cells #[.int .i64 c] bZ)]) (List.perm_append_comm (l₁:=[_]))
  refine aq hI 0 rfl ac (by simpa using hlc0) rfl (by simpa using hcs0.one) fun w' hI=>?_
  refine ao hI 0 ac rfl (by simpa using hlc0) ?_
  refine bl (by omega) ?_
  have hI:Inv w X ([.blk b5 (.cells #[.int .i64 v.kind,.int .i64 v.n,.string v.name,kv] ab),.blk b8 (.cells #[.int .i64 0,.int .i64 0,.string ⟨#[]⟩,.slice none 0 0] ab),.blk b10 (.cells #[.int .i64 v.kind,.int .i64 v.n,.string v.name,kvc] ab),aK kvc ab 4 css]++[.blk cb (.cells #[.int .i64 c] bZ)]) S1 w':=hI.pick [false,true,true,true,true,true]
  refine Run.callE jF jC hI (hk j hj1 hj2 S1 cs0 cb (deep+1) c hcs0 (hst.up hE.1) (by omega) (by omega) (by omega) (by omega)) fun v' I' S2 w'=>?_
  rintro ⟨cs2,c2,rfl,rfl,hl4,ho4,hrd⟩ hE2 hI
  refine aj rfl ?_
  refine aj rfl ?_
  refine aD hI aQ fun b13 w' hI=>?_
  have hI:=hI.perm (M:=.blk b13 _::[.blk b5 (.cells #[.int .i64 v.kind,.int .i64 v.n,.string v.name,kv] ab),.blk b8 (.cells #[.int .i64 0,.int .i64 0,.string ⟨#[]⟩,.slice none 0 0] ab),.blk b10 (.cells #[.int .i64 v.kind,.int .i64 v.n,.string v.name,kvc] ab),aK kvc ab 4 css,.blk cb (.cells #[.int .i64 c2] bZ)]) (List.perm_append_comm (l₁:=[_]))
  refine aq hI 0 rfl ac (by simpa using hl4) rfl (by simpa using ho4) fun w' hI=>?_
  refine bK ?_
  have hct:=yv us j hj1
  have hcle:=oy us (j+1)
  refine az (fun hb=>?_) (fun hb=>?_)
  ·have hb':okR us[j] (deep+1) c=false:=by simpa using hb
   have hno:okR (.mk v.kind v.n v.name us) deep count=false:=by
    rw [hokd]
    rw [okR,Bool.and_eq_false_iff] at hb'
    rcases hb' with e|e
    ·have e:=of_decide_eq_false e
     rw [decide_eq_false (by omega),Bool.false_and]
    ·have:N4 us (31 - deep - 1)=false:=by
      rw [uV,List.all_eq_false]
      exact ⟨us[j],List.getElem_mem hj1,by rw [show 31 - deep - 1=31 - (deep+1) by omega,e]; decide⟩
     rw [this,Bool.and_false]
   refine fC ?_
   have hI:Inv w X [.blk b13 (.cells cs2.toArray ab),.blk b5 (.cells #[.int .i64 v.kind,.int .i64 v.n,.string v.name,kv] ab),.blk b8 (.cells #[.int .i64 0,.int .i64 0,.string ⟨#[]⟩,.slice none 0 0] ab),.blk b10 (.cells #[.int .i64 v.kind,.int .i64 v.n,.string v.name,kvc] ab),aK kvc ab 4 css,.blk cb (.cells #[.int .i64 c2] bZ)] S2 w':=hI
   refine aq hI 2 rfl ac rfl rfl js fun w' hI=>?_
   refine aU hI 2 ac rfl rfl ?_
   exact ⟨_,_,_,rfl,hI.pick [false,false,false,false,false,true],hE.trans hE2,[.int .i64 0,.int .i64 0,.string ⟨#[]⟩,.slice none 0 0],c2,by rw [hno],rfl,rfl,js,fun h=>by rw [hno] at h; cases h⟩
  ·have hb':okR us[j] (deep+1) c=true:=by simpa using hb
   obtain ⟨hc2,hR2⟩:=hrd hb'
   rw [okR,Bool.and_eq_true,decide_eq_true_eq] at hb'
   refine ad (b:=b10) (c:=#[.int .i64 v.kind,.int .i64 v.n,.string v.name,kvc]) hI 3 rfl al ah rfl ?_
   refine ao hI 0 ac rfl (by simpa using hl4) ?_
   refine dZ hI 4 cs2 bp (by omega) (by omega) rfl hl4 ho4 (by omega) (by omega) fun kvc2 w' hI=>?_
   have hkv2:=i7 (hI.its (aK kvc2 ab 4 (css++[cs2])) (by simp))
   refine cJ (b:=b10) (c:=#[.int .i64 v.kind,.int .i64 v.n,.string v.name,kvc]) hI 3 rfl al ah rfl hkv2.1 hkv2.2 fun w' hI=>?_
   have hI:Inv w X [.blk b5 (.cells #[.int .i64 v.kind,.int .i64 v.n,.string v.name,kv] ab),.blk b8 (.cells #[.int .i64 0,.int .i64 0,.string ⟨#[]⟩,.slice none 0 0] ab),.blk b10 (.cells #[.int .i64 v.kind,.int .i64 v.n,.string v.name,kvc2] ab),aK kvc2 ab 4 (css++[cs2]),.blk cb (.cells #[.int .i64 c2] bZ)] S2 w':=hI.pick [false,true,true,true,true,true]
   refine bl (by omega) ?_
   refine ⟨⟨j+1,c2,kvc2,css++[cs2],S2,hj1,rfl,hE.trans hE2,by omega,by omega,fun k hk2 hkj=>?_,?_,hI⟩,by simp [intOf]; omega⟩
   ·by_cases e:k=j
    ·subst e
     rw [show 31 - deep - 1=31 - (deep+1) by omega]
     exact hb'.2
    ·exact hdep k hk2 (by omega)
   ·rw [List.take_succ_eq_append_getElem hj1]
    exact (hR.monoR fun _ _ h=>RdT.mono hE2.1 h).snoc hR2 hl4
 ·have hje:j=us.length:=by omega
  subst hje
  rw [List.take_length] at hR hc
  have hyes:okR (.mk v.kind v.n v.name us) deep count=true:=by
   rw [hokd,decide_eq_true (by omega),Bool.true_and,uV,List.all_eq_true]
   intro x hx
   obtain ⟨k,hk2,rfl⟩:=List.mem_iff_getElem.1 hx
   exact hdep k hk2 hk2
  refine ao (b:=b10) (c:=#[.int .i64 v.kind,.int .i64 v.n,.string v.name,kvc]) hI 2 ac rfl rfl ?_
  have hkv2:=i7 (hI.its (aK kvc ab 4 css) (by simp))
  have hone:∀ x∈([.int .i64 v.kind,.int .i64 v.n,.string v.name,kvc]:List Value),x.oneCell'=true:=by
   intro x hx
   simp at hx
   rcases hx with rfl|rfl|rfl|rfl <;> first|rfl|exact hkv2.2
  refine aq hI 1 rfl ac rfl rfl hone fun w' hI=>?_
  refine aU (c:=#[.int .i64 v.kind,.int .i64 v.n,.string v.name,kvc]) hI 1 ac rfl rfl ?_
  have hI:Inv w X ([.blk cb (.cells #[.int .i64 c] bZ)]++[aK kvc ab 4 css]) S1 w':=(hI.pick [false,false,false,true,true]).perm (List.Perm.swap ..)
  obtain ⟨S3,hE3,hrd,hI⟩:=hI.lendExt
  have hrr:=RowRd.rows (hR.monoR fun _ _ h=>RdT.mono hE3.1 h) hrd
  exact ⟨_,_,_,rfl,hI,hE.trans hE3,[.int .i64 v.kind,.int .i64 v.n,.string v.name,kvc],c,by rw [hyes],rfl,rfl,hone,fun _=>⟨by rw [gC]; omega,RdT.iff.2 ⟨kvc,rfl,hi1,hi2,hs,hrr⟩⟩⟩
theorem AN {N:Nat} {st:aF} (sb:Nat) (hg:Good N st) {j:N0} (hr:Res st j):match j with
  | .one t u=>(okU N t/\wT t<=1048576)->RC st sb t u
  | .list ts us=>(∀ t∈ts,okU N t/\wT t<=1048576)->us.length=ts.length/\∀ i (h:i<us.length) (h':i<ts.length),RC st sb ts[i] us[i]:=by
 induction hr with
 | one hw _ ih=>
  intro ho
  have h1:=ih (jb (dQ hg hw ho))
  exact Dg hg hw ho h1.1 h1.2
 | nil=>exact fun _=>⟨rfl,fun i h _=>by simp at h⟩
 | cons _ _ ih1 ih2=>
  intro ho
  obtain ⟨h1,h2⟩:=ih2 fun t ht=>ho t (List.mem_cons_of_mem _ ht)
  refine ⟨by simp [h1],fun i h h'=>?_⟩
  cases i with
  | zero=>exact ih1 (ho _ (List.mem_cons_self ..))
  | succ i=>exact h2 i (by simpa using h) (by simpa using h')
theorem DN {N:Nat} {st:aF} (hg:Good N st) {t u:T} (hr:Res st (.one t u)) (ho:okU N t/\wT t<=1048576) {S:ae} {cs:List Value} {sb:Nat} (h:RdT S cs t) (hst:StS S S sb st) :
  Tri Tryz.prog uP [.pointer (some ⟨sb,0,none⟩),.agg cs.toArray] [] S fun q I' S'=>I'=[]/\∃ cs':List Value,cs'.length=4/\(∀ x∈cs',x.oneCell'=true)/\q=.tuple #[.agg cs'.toArray,.bool (cI u)]/\(cI u=true->RdT S' cs' u):=by
 intro w hI
 have hlc:=h.length
 have hI:Inv w [] [] S w:=hI
 have hrc:RC st sb t u:=AN sb hg hr ho
 have e:okR u 1 0=cI u:=by rw [okR,cI,Int.zero_add]; rfl
 refine lH.2 ?_
 dsimp only[lH,aW]
 refine bf hI fun b3 w' hI=>?_
 refine aD hI aQ fun b4 w' hI=>?_
 have hz:fg Tryz.prog bZ=some (.int .i64 0):=by kernel_rfl
 refine aD hI hz fun b6 w' hI=>?_
 refine dA hI 2 (n:=1) rfl (by decide +kernel) rfl (by simp [Value.cells]) (by simp [Value.cells,Value.oneCell']) fun w' hI=>?_
 have hI:Inv w [] ([.blk b3 (.cells cs.toArray ab),.blk b4 (.cells #[.int .i64 0,.int .i64 0,.string ⟨#[]⟩,.slice none 0 0] ab)]++[.blk b6 (.cells #[.int .i64 0] bZ)]) S w':=hI
 refine ao hI 0 ac rfl (by simpa using hlc) ?_
 refine Run.callE jF jC hI (hrc S cs b6 1 0 h hst (by omega) (by omega) (by omega) (by omega)) fun v' I' S2 w'=>?_
 rintro ⟨cs2,c2,rfl,rfl,hl4,ho4,hrd⟩ hE2 hI
 rw [e] at hrd ⊢
 refine aj rfl ?_
 refine aj rfl ?_
 have hI:Inv w [] [.blk b3 (.cells cs.toArray ab),.blk b4 (.cells #[.int .i64 0,.int .i64 0,.string ⟨#[]⟩,.slice none 0 0] ab),.blk b6 (.cells #[.int .i64 c2] bZ)] S2 w':=hI
 refine aq hI 1 rfl ac (by simpa using hl4) rfl (by simpa using ho4) fun w' hI=>?_
 refine aU hI 1 ac rfl (by simpa using hl4) ?_
 exact ⟨_,_,_,rfl,hI.nil,hE2,rfl,cs2,hl4,ho4,rfl,fun h=>(hrd h).2⟩
end
end
section
open Go Go.RowKit

theorem CJ:∀ (a b c:List UInt8),Op.bytesLess a b=true->Op.bytesLess b c=true->Op.bytesLess a c=true
 | _,[],_,h,_=>by simp [Op.bytesLess] at h
 | _,_::_,[],_,h=>by simp [Op.bytesLess] at h
 | [],_::_,_::_,_,_=>by simp [Op.bytesLess]
 | x::a,y::b,z::c,h,h'=>by
  simp only [Op.bytesLess,Bool.or_eq_true,decide_eq_true_eq,Bool.and_eq_true,beq_iff_eq] at h h' ⊢
  rcases h with h|⟨rfl,h⟩
  ·rcases h' with h'|⟨rfl,h'⟩
   ·left; exact UInt8.lt_trans h h'
   ·left; exact h
  ·rcases h' with h'|⟨rfl,h'⟩
   ·left; exact h'
   ·right; exact ⟨rfl,CJ a b c h h'⟩
theorem Fr:∀ a:List UInt8,Op.bytesLess a a=false
 | []=>by simp [Op.bytesLess]
 | x::a=>by
  simp only [Op.bytesLess,Fr a,Bool.and_false,Bool.or_false,decide_eq_false_iff_not]
  exact UInt8.lt_irrefl x
theorem II:∀ a b:List UInt8,a≠b->Op.bytesLess a b=true ∨ Op.bytesLess b a=true
 | [],[],h=>absurd rfl h
 | [],_::_,_=>.inl (by simp [Op.bytesLess])
 | _::_,[],_=>.inr (by simp [Op.bytesLess])
 | x::a,y::b,h=>by
  simp only [Op.bytesLess,Bool.or_eq_true,decide_eq_true_eq,Bool.and_eq_true,beq_iff_eq]
  by_cases e:x=y
  ·subst e
   rcases II a b (fun e=>h (by rw [e])) with h1|h1
   ·exact .inl (.inr ⟨rfl,h1⟩)
   ·exact .inr (.inr ⟨rfl,h1⟩)
  ·rcases UInt8.lt_or_lt_of_ne e with h1|h1
   ·exact .inl (.inl h1)
   ·exact .inr (.inl h1)
def bls (a b:ByteArray):Bool:=Op.bytesLess a.toList b.toList
def pe (a b:Int):Int:=if a<b then -1 else if b<a then 1 else 0
def gt (a b:ByteArray):Int:=if bls a b=true then -1 else if bls b a=true then 1 else 0
def rkS (t:T):Int:=if t.kind=3/\0<t.kids.length then 4 else t.kind
def At (a b:Int):Int:=if a≠0 then a else b
def hdC (t u:T):Int:=At (pe (rkS t) (rkS u)) (At (pe t.n u.n) (At (pe t.kids.length u.kids.length) (gt t.name u.name)))
mutual
def xF:T->T->Int
 | .mk k n s ks,u=>At (hdC (.mk k n s ks) u) (ir ks u.kids)
def ir:List T->List T->Int
 | [],[]=>0
 | [],_::_=>-1
 | _::_,[]=>1
 | t::ts,u::us=>At (xF t u) (ir ts us)
end
theorem ju (a b:Int):(a<b/\pe a b=-1) ∨ (b<a/\pe a b=1) ∨ (a=b/\pe a b=0):=by
 unfold pe
 by_cases h:a<b
 ·exact .inl ⟨h,if_pos h⟩
 ·by_cases h':b<a
  ·exact .inr (.inl ⟨h',by rw [if_neg h,if_pos h']⟩)
  ·exact .inr (.inr ⟨by omega,by rw [if_neg h,if_neg h']⟩)
theorem toList_inj {a b:ByteArray} (h:a.toList=b.toList):a=b:=by
 have:=Di a b
 rw [beq_iff_eq.2 h] at this
 exact of_decide_eq_true this.symm
theorem gO (a b:ByteArray):(bls a b=true/\gt a b=-1) ∨ (bls b a=true/\bls a b=false/\gt a b=1) ∨ (a=b/\gt a b=0):=by
 unfold gt
 cases h:bls a b with
 | true=>exact .inl ⟨rfl,if_pos rfl⟩
 | false=>
  cases h':bls b a with
  | true=>exact .inr (.inl ⟨rfl,rfl,by simp⟩)
  | false=>
   refine .inr (.inr ⟨?_,by simp⟩)
   refine toList_inj (Decidable.byContradiction fun e=>?_)
   rcases II _ _ e with h1|h1
   ·rw [bls,h1] at h; cases h
   ·rw [bls,h1] at h'; cases h'
theorem OJ {a b:ByteArray} (h:bls a b=true):bls b a=false:=by
 cases h':bls b a with
 | false=>rfl
 | true=>
  have:=CJ _ _ _ h h'
  rw [Fr] at this
  cases this

structure TC (a b c:Int):Prop where
 lt:a=-1->b=-1->c=-1
 e1:a=0->c=b
 e2:b=0->c=a
theorem TC.lex {a b c a' b' c':Int} (h:TC a b c) (h':TC a' b' c'):TC (At a a') (At b b') (At c c'):=by
 obtain ⟨h1,h2,h3⟩:=h
 obtain ⟨h4,h5,h6⟩:=h'
 unfold At
 refine ⟨fun x y=>?_,fun x=>?_,fun x=>?_⟩
 ·by_cases ea:a=0
  ·rw [if_neg (by omega)] at x
   by_cases eb:b=0
   ·rw [if_neg (by omega)] at y
    rw [if_neg (by have:=h2 ea; omega)]
    exact h4 x y
   ·rw [if_pos (by omega)] at y
    have:=h2 ea
    rw [if_pos (by omega)]; omega
  ·rw [if_pos (by omega)] at x
   by_cases eb:b=0
   ·have:=h3 eb
    rw [if_pos (by omega)]; omega
   ·rw [if_pos (by omega)] at y
    have:=h1 x y
    rw [if_pos (by omega)]; omega
 ·by_cases ea:a=0
  ·rw [if_neg (by omega)] at x
   rw [h2 ea,h5 x]
  ·rw [if_pos (by omega)] at x; omega
 ·by_cases eb:b=0
  ·rw [if_neg (by omega)] at x
   rw [h3 eb,h6 x]
  ·rw [if_pos (by omega)] at x; omega
theorem TC.zero:TC 0 0 0:=⟨fun h=>by omega,fun _=>rfl,fun _=>rfl⟩
theorem TC.int (a b c:Int):TC (pe a b) (pe b c) (pe a c):=by
 have h1:=ju a b
 have h2:=ju b c
 have h3:=ju a c
 exact ⟨fun _ _=>by omega,fun _=>by omega,fun _=>by omega⟩
theorem TC.str (a b c:ByteArray):TC (gt a b) (gt b c) (gt a c):=by
 refine ⟨fun x y=>?_,fun x=>?_,fun x=>?_⟩
 ·rcases gO a b with h|h|h
  ·rcases gO b c with h'|h'|h'
   ·have:=CJ _ _ _ h.1 h'.1
    unfold gt
    rw [if_pos (show bls a c=true from this)]
   ·omega
   ·omega
  ·omega
  ·omega
 ·rcases gO a b with h|h|h
  ·omega
  ·omega
  ·rw [h.1]
 ·rcases gO b c with h|h|h
  ·omega
  ·omega
  ·rw [h.1]
theorem TC.hd (t u v:T):TC (hdC t u) (hdC u v) (hdC t v):=(TC.int _ _ _).lex ((TC.int _ _ _).lex ((TC.int _ _ _).lex (TC.str _ _ _)))
mutual
theorem TC.term:∀ t u v:T,TC (xF t u) (xF u v) (xF t v)
 | .mk k n s ks,.mk k' n' s' ks',v=>by
  rw [xF,xF,xF]
  exact (TC.hd _ _ _).lex (TC.list ks ks' v.kids)
theorem TC.list:∀ t u v:List T,TC (ir t u) (ir u v) (ir t v)
 | [],[],[]=>by simpa [ir] using TC.zero
 | [],[],_::_=>by rw [ir,ir]; exact ⟨fun h=>by omega,fun _=>rfl,fun h=>by omega⟩
 | [],_::_,[]=>by rw [ir,ir,ir]; exact ⟨fun _ h=>by omega,fun h=>by omega,fun h=>by omega⟩
 | [],_::_,_::_=>by rw [ir,ir]; exact ⟨fun h _=>h,fun h=>by omega,fun h=>rfl⟩
 | _::_,[],[]=>by rw [ir,ir]; exact ⟨fun h _=>h,fun h=>by omega,fun h=>rfl⟩
 | _::_,[],_::_=>by rw [ir,ir]; exact ⟨fun h _=>by omega,fun h=>by omega,fun h=>by omega⟩
 | _::_,_::_,[]=>by rw [ir,ir]; exact ⟨fun _ h=>by omega,fun h=>rfl,fun h=>by omega⟩
 | t::ts,u::us,v::vs=>by
  rw [ir,ir,ir]
  exact (TC.term t u v).lex (TC.list ts us vs)
end
theorem qw (a b:Int):-(At a b)=At (-a) (-b):=by
 unfold At
 by_cases h:a=0
 ·subst h; simp
 ·rw [if_pos h,if_pos (by omega)]
theorem ue (a b:Int):pe b a=-pe a b:=by
 have:=ju a b
 have:=ju b a
 omega
theorem Gd (a b:ByteArray):gt b a=-gt a b:=by
 rcases gO a b with h|h|h
 ·rw [h.2]
  have:=OJ h.1
  unfold gt
  rw [this,if_neg (by decide),if_pos h.1]; rfl
 ·rw [h.2.2]
  unfold gt
  rw [if_pos h.1]
 ·rw [h.2]
  obtain rfl:=h.1
  rw [h.2]; rfl
theorem Po (t u:T):hdC u t=-hdC t u:=by
 rw [hdC,hdC,qw,qw,qw,ue (rkS t),ue t.n,ue t.kids.length,Gd t.name]
mutual
theorem Fl:∀ t u:T,xF u t=-xF t u
 | .mk k n s ks,.mk k' n' s' ks'=>by
  rw [xF,xF,qw,Po (.mk k n s ks)]
  congr 1
  exact EU ks ks'
theorem EU:∀ t u:List T,ir u t=-ir t u
 | [],[]=>by simp [ir]
 | [],_::_=>by simp [ir]
 | _::_,[]=>by simp [ir]
 | t::ts,u::us=>by rw [ir,ir,qw,Fl t u,EU ts us]
end
theorem OA (t:T):xF t t=0:=by
 have:=Fl t t
 omega
def Sorted:List T->Prop
 | []=>True
 | x::xs=>(∀ y∈xs,xF x y<0)/\Sorted xs
theorem Sorted.nodup:∀ {l:List T},Sorted l->l.Nodup
 | [],_=>List.nodup_nil
 | x::xs,h=>by
  rw [List.nodup_cons]
  refine ⟨fun hx=>?_,Sorted.nodup h.2⟩
  have:=h.1 x hx
  rw [OA] at this
  omega
end
section
open Go Go.RowKit
section
variable {P:Program} {w:World} {K:Value->World->Prop}
attribute [local irreducible] Run
end
section
attribute [local irreducible] Run CondV aB aS
end
end
section
open Go Go.RowKit
section
attribute [local irreducible] Run CondV aB aS
end
end
section
open Go Go.RowKit
def Nf:T:=.mk 0 0 ⟨#[]⟩ []
theorem RdT.zero (S:ae):RdT S me Nf:=RdT.iff.2 ⟨_,rfl,by simp [inI,T.kind,Nf],by simp [inI,T.n,Nf],by rw [Nf,T.name]; decide +kernel,none,0,rfl,Nat.le_refl _,Nat.zero_le _,.inl rfl⟩
def KRel (S:ae) (cs:List Value) (o:Option T):Prop:=cs.length=4/\(o=none->cs=me)/\∀ t,o=some t->RdT S cs t
theorem KRel.one {S:ae} {cs:List Value} {o:Option T} (h:KRel S cs o):∀ u∈cs,u.oneCell'=true:=by
 cases o with
 | none=>rw [h.2.1 rfl]; simp [me,Value.oneCell']
 | some t=>exact (h.2.2 t rfl).one
theorem KnownC.rd {S:ae} {kb kp:Nat} {kc:Array Value} {st:aF} {E:TypeId} (hS:S kb=some (.cells kc E)) (h:KnownC S kc st) (hst:st.length=26) (hkp:26<=kp) (hkm:kp<=maxLen):RdSl S 4 (KRel S) (kvn kb kp) st:=by
 refine ⟨some ⟨kb,0,none⟩,kp,by rw [hst],by omega,hkm,.inr ⟨kb,0,kc,E,(0,0),rfl,hS,fun i hi=>?_⟩⟩
 obtain ⟨h1,h2⟩:=h.2 i hi
 rw [Nat.zero_add]
 refine ⟨?_,h1,h2⟩
 have:=h.1
 rw [aH,List.length_take,List.length_drop,Array.length_toList]
 omega
section
attribute [local irreducible] Run CondV aB aS
theorem KnownC.mono {S S':ae} {kc:Array Value} {st:aF} (h:KnownC S kc st) (hs:Sle S S'):KnownC S' kc st:=
 ⟨h.1,fun i hi=>⟨(h.2 i hi).1,fun t ht=>((h.2 i hi).2 t ht).mono hs⟩⟩
end
end
section
open Go Go.RowKit
def Fun (f:FuncId) (cap:List Value) (S:ae) (φ:Int->T):Prop:=∀ S',Sle S S'->∀ n:Int,0<=n->n<=25->∃ cs,RdT S' cs (φ n)/\Pure Tryz.prog f (.int .i64 n::cap) S' (.agg cs.toArray)
theorem Fun.mono {f:FuncId} {cap:List Value} {S S':ae} {φ:Int->T} (h:Fun f cap S φ) (hs:Sle S S'):Fun f cap S' φ:=fun S2 h2=>h S2 (hs.trans h2)
section
attribute [local irreducible] Run CondV aB aS
end
end
section
open Go Go.RowKit
section
attribute [local irreducible] Run CondV aB aS
theorem Gy {K:Value->World->Prop} {w:World} {mb:Nat} (hk:K (.agg #[.map (some mb),.slice none 0 0]) w):Run Tryz.prog (bX dt [(0,.map (some mb))]) w K:=by
 refine Run.of (v:=.agg #[.map (some mb),.slice none 0 0]) (w':=w) ?_ hk
 unfold bX
 rw [Sem.run_bind,run_build w dt _ #[.map (some mb),.slice none 0 0] (by kernel_rfl),Result.andThen_ok]
 rfl
theorem BI (S:ae):Tri Tryz.prog HF [] [] S fun r I' S'=>S'=S/\∃ sb mb,r=.pointer (some ⟨sb,0,none⟩)/\I'=aX sb mb #[] 0 (.slice none 0 0) []:=by
 intro w hI
 have hI:Inv w [] [] S w:=hI
 refine sZ.2 ?_
 dsimp only[sZ,sk]
 refine xZ hI fun mb w' hI=>?_
 refine Gy ?_
 refine bf hI fun sb w' hI=>?_
 have hI:=hI.rowNil bZ 1
 have hI:Inv w [] (aX sb mb #[] 0 (.slice none 0 0) []) S w':=hI.perm (List.Perm.swap ..)
 exact ⟨_,_,_,rfl,hI,Ext.refl _ _ _,rfl,sb,mb,rfl,rfl⟩
theorem KnownM.none (S:ae) (N:Nat):KnownM S #[] (List.replicate N Option.none):=by
 refine ⟨fun e he=>by simp at he,fun n t h=>?_,by simp⟩
 have:=List.mem_of_getElem? h
 simp at this
end
end
section
open Go Go.RowKit
def Qs:aF:=List.replicate 26 none
theorem JF:∀ n:Nat,unb (List.replicate n none)=n
 | 0=>rfl
 | n+1=>by rw [List.replicate_succ,unb,JF n]
theorem na (N:Nat):Good N (List.replicate N none):=⟨by simp,fun t ht=>by simp at ht,fun t ht=>by simp at ht,fun n=>n,fun n u hu=>by
 have:=List.mem_of_getElem? hu
 simp at this⟩
theorem KnU.zero (z:Array Value) (hz:z=#[.int .i64 0,.int .i64 0,.string ⟨#[]⟩,.slice none 0 0]) (S:ae) (N:Nat):KnU S ((Array.range (N * 4)).map (z[· % z.size]!)) (List.replicate N none):=by
 subst hz
 refine ⟨by simp,fun i hi=>⟨fun _=>?_,fun t ht=>?_⟩⟩
 ·simp only [List.length_replicate] at hi
  apply List.ext_getElem?
  intro j
  rw [aH,List.getElem?_take]
  match j with
  | 0|1|2|3=>
   rw [if_pos (by omega),List.getElem?_drop,Array.getElem?_toList,Array.getElem?_map,Array.getElem?_range,if_pos (by omega)]
   simp only [Option.map_some,List.size_toArray,List.length_cons,List.length_nil]
   first
    | rw [show (i * 4+0) % 4=0 by omega]; rfl
    | rw [show (i * 4+1) % 4=1 by omega]; rfl
    | rw [show (i * 4+2) % 4=2 by omega]; rfl
    | rw [show (i * 4+3) % 4=3 by omega]; rfl
  | j+4=>
   rw [if_neg (by omega)]
   rfl
 ·have e:(List.replicate N (none:Option T))[i]=none:=by simp
  rw [e] at ht
  cases ht
def sf (code:Int) (st:aF):Bool:=decide (code=0) && st.all Option.isNone
def M9 (f:Bool):Value->List Item->ae->Prop:=fun q _ _=>∃ a n cap c,q=.tuple #[.slice a n cap,.int .i64 c]/\(decide (c=0) && decide (n=0))=f
theorem Kz {st:aF} {j:Nat} (h:j<st.length):(st.take (j+1)).all Option.isNone=((st.take j).all Option.isNone && st[j].isNone):=by
 rw [List.take_succ_eq_append_getElem h,List.all_append]
 simp
theorem Ks {st:aF} {j:Nat} (h:j<st.length) {t:T} (hs:st[j]=some t):st.all Option.isNone=false:=by
 rw [List.all_eq_false]
 exact ⟨st[j],List.getElem_mem h,by rw [hs]; simp⟩
section
variable {w:World} {K:Value->World->Prop}
attribute [local irreducible] Run CondV aB aS
theorem zR {n:Int} {cs:List Value} (h4:cs.length=4) (hk:K (.agg (([Value.int .i64 n]:List Value)++cs).toArray) w):Run Tryz.prog (bX dj [(0,.int .i64 n),(1,.agg cs.toArray)]) w K:=by
 match cs,h4 with
 | [a,b,c,d],_=>
  refine Run.of (v:=.agg #[.int .i64 n,a,b,c,d]) (w':=w) ?_ hk
  unfold bX
  rw [Sem.run_bind,run_build w dj _ #[.int .i64 n,a,b,c,d] (by kernel_rfl),Result.andThen_ok]
  rfl
set_option maxHeartbeats 1000000 in
theorem rW {g:T} {code:Int} {st':aF} (hv:dg g=true) (hb:cO g=true) (ho:okU 26 g/\wT g<=1048576) (hn:okN g) (hB:Blt Qs g code st') {S:ae} {cs:List Value} (h:RdT S cs g) :
  Tri Tryz.prog AF [.agg cs.toArray] [] S (M9 (sf code st')):=by
 intro w hI
 have hl4:=h.length
 have h0:=h
 have hg':=hB.good (na 26) hb ho
 obtain ⟨kv,rfl,_,_,_,hks⟩:=RdT.iff.1 h
 have hbt:=hb
 rw [cO,Bool.and_eq_true] at hb
 obtain ⟨hk3,hbs⟩:=hb
 refine nz.2 ?_
 dsimp only[nz,aL]
 refine bf hI fun b1 w' hI=>?_
 refine dD hI rz fun v4 w' hI=>?_
 obtain ⟨a4,n4,c4,hv4⟩:=hI.rowSlice 1 rfl
 have hn4:n4=0:=by
  have hm:w'.ownsRow 0 dj 5 v4 0 []:=hI.its (.row v4 dj 5 0 []) (by simp)
  rcases hm.2 with ⟨e1,e2⟩|⟨g1,c1,u1,e1,_⟩
  ·rw [hv4] at e1; simp only [Value.slice.injEq] at e1; omega
  ·rw [hv4] at e1; simp only [Value.slice.injEq] at e1; omega
 rw [hn4] at hv4
 have hI:Inv w [] [.blk b1 (.cells #[.int .i64 g.kind,.int .i64 g.n,.string g.name,kv] ab),.row v4 dj 5 0 []] S w':=hI
 refine ⟨fun q w'=>q=.bool false/\Inv w [] [.blk b1 (.cells #[.int .i64 g.kind,.int .i64 g.n,.string g.name,kv] ab),.row v4 dj 5 0 []] S w',?_,?_⟩
 ·refine ao hI 0 ac rfl rfl ?_
  refine Run.callPure fW fX hI (eY h0 (AY ho.2)) fun w' hI=>?_
  rw [hv]
  refine bK ?_
  refine rpG ?_
  refine ad hI 0 rfl aE av rfl ?_
  refine cD ?_
  rw [hk3]
  refine rpG ?_
  refine ad hI 0 rfl aO aJ rfl ?_
  refine ad hI 0 rfl al ah rfl ?_
  refine aC hks af ?_
  refine Run.callPure fU fY hI (fh _ _ S) fun w' hI=>?_
  rw [hbs]
  refine bK ?_
  refine rpG ?_
  exact ⟨rfl,hI⟩
 intro q _ _ _ _ _ _ _ _ _ _ _ _ _ _ _ _ w'
 rintro ⟨rfl,hI⟩
 refine az (fun hb=>by cases hb) (fun _=>?_)
 refine ki (n:=26) hI bp (by omega) (by omega) (by omega) fun kb w' hI=>?_
 refine ao hI 0 ac rfl rfl ?_
 refine Run.callE (A:=[_,_]) uS vg hI (oZ (kp:=26) (by omega) (by omega) (Nat.le_refl _) (by decide) (na 26) ho hn hbt hB h0 (KnU.zero _ rfl S 26)) fun v' I' S1 w'=>?_
 rintro ⟨rfl,rfl,kc,rfl,hkn⟩ hE0 hI
 refine cD ?_
 refine az (fun hc=>?_) (fun hc=>?_)
 ·refine ⟨_,_,_,rfl,hI.nil,Ext.refl _ _ _,a4,0,c4,code,by rw [hv4],?_⟩
  have:code≠0:=by simpa using hc
  rw [sf,decide_eq_false this]
  rfl
 have hc0:code=0:=by simpa using hc
 subst hc0
 have hl26:=hg'.len
 refine dD hI rz fun v7 w' hI=>?_
 refine ⟨fun t8 t7 w'=>∃ (j:Nat) (css:List (List Value)) (S2:ae),j<=26/\t8=.int .i64 j/\css.length<=j/\decide (css.length=0)=(st'.take j).all Option.isNone/\Ext w.heap.size [] S1 S2/\
   Inv w [] [.blk b1 (.cells #[.int .i64 g.kind,.int .i64 g.n,.string g.name,kv] ab),.row v4 dj 5 0 [],.blk kb (.cells kc ab),aK t7 dj 5 css] S2 w',
  fun t8 _ _=>26 - (intOf t8).toNat,⟨0,[],S1,Nat.zero_le _,rfl,Nat.le_refl _,by simp,Ext.refl _ _ _,hI⟩,?_⟩
 intro t8 _ _ t7 _ _ _ _ _ _ _ _ _ _ _ _ _ _ _ _ _ _ _ _ _ _ _ _ _ _ _ _ _ _ _ _ _ _ _ _ _ w'
 rintro ⟨j,css,S2,hj,rfl,hcl,hcs,hE2,hI⟩
 refine dK af ?_
 refine bq ?_
 refine aI (fun hji=>?_) (fun hji=>?_)
 ·have hj':j<26:=by omega
  have hjl:j<st'.length:=by omega
  have hkn:=hkn.mono hE2.1
  have hro:=hkn.rdO j hjl
  have hroL:=hro.length
  have hnext:=Kz (st:=st') hjl
  refine ⟨fun t7 w'=>∃ (css:List (List Value)) (S2:ae),css.length<=j+1/\decide (css.length=0)=(st'.take (j+1)).all Option.isNone/\Ext w.heap.size [] S1 S2/\
   Inv w [] [.blk b1 (.cells #[.int .i64 g.kind,.int .i64 g.n,.string g.name,kv] ab),.row v4 dj 5 0 [],.blk kb (.cells kc ab),aK t7 dj 5 css] S2 w',?_,?_⟩
  ·refine ar af hj' ?_
   rw [Nat.zero_add]
   refine ai aE ?_
   cases hs:st'[j] with
   | none=>
    rw [hs] at hro hnext
    refine aA (v:=.int .i64 0) hI 2 av rfl (au (k:=4) hro 0 _ rfl) ?_
    refine aZ ?_
    rw [decide_eq_true rfl]
    refine az (fun _=>?_) (fun hb=>by cases hb)
    exact ⟨css,S2,by omega,by rw [hcs,hnext]; simp,hE2,hI⟩
   | some t=>
    rw [hs] at hro hnext
    have hro:RdT S2 (aH kc (j * 4) 4) t:=hro
    have hall:=Ks hjl hs
    have hmem:some t∈st':=by rw [<- hs]; exact List.getElem_mem hjl
    have hto:=hg'.ok t hmem
    have htw:=hg'.w t hmem
    have hko:=hto.kind
    refine aA (v:=.int .i64 t.kind) hI 2 av rfl (au rfl 0 _ hro.f0) ?_
    refine aZ ?_
    rw [decide_eq_false hko]
    refine az (fun hb=>by cases hb) (fun _=>?_)
    refine ar af hj' ?_
    rw [Nat.zero_add]
    refine b0 hI 2 (aH kc (j * 4) 4) ac rfl hro.length (fun i v hi=>au rfl i v hi) ?_
    obtain ⟨u,hu⟩:=Gq hg' t hto
    have hfull:FC 26 26 st' t u:=Hm hg' hu ⟨hto,htw⟩
    have hI:=hI.perm (M:=[.blk b1 (.cells #[.int .i64 g.kind,.int .i64 g.n,.string g.name,kv] ab),.row v4 dj 5 0 [],aK t7 dj 5 css]++[.blk kb (.cells kc ab)]) (((List.Perm.swap ..).cons _).cons _)
    refine Run.callE (A:=[_,_,_]) lZ lU hI (hfull S2 _ kb kc 120 hro hkn (by omega) (by omega)) fun v' I' S3 w'=>?_
    rintro ⟨rfl,ds,hdl,hd1,rfl,hdr⟩ hE3 hI
    refine aj (v:=.agg ds.toArray) rfl ?_
    refine aj (v:=.int .i64 _) rfl ?_
    refine aD hI aQ fun b9 w' hI=>?_
    refine aq hI 4 rfl ac (by simpa using hdl) rfl (by simpa using hd1) fun w' hI=>?_
    have hI:Inv w [] [.blk b1 (.cells #[.int .i64 g.kind,.int .i64 g.n,.string g.name,kv] ab),.row v4 dj 5 0 [],aK t7 dj 5 css,.blk kb (.cells kc ab),.blk b9 (.cells ds.toArray ab)] S3 w':=hI
    refine ⟨fun q w'=>∃ b,q=.bool b/\Inv w [] [.blk b1 (.cells #[.int .i64 g.kind,.int .i64 g.n,.string g.name,kv] ab),.row v4 dj 5 0 [],aK t7 dj 5 css,.blk kb (.cells kc ab),.blk b9 (.cells ds.toArray ab)] S3 w',?_,?_⟩
    ·refine bq ?_
     by_cases hroom:dE u<=120
     ·rw [if_pos hroom,decide_eq_false (by omega)]
      refine rpG ?_
      refine ao hI 4 ac rfl (by simpa using hdl) ?_
      refine Run.callPure fW fX hI (eY (hdr hroom) (by omega)) fun w' hI=>?_
      refine bK ?_
      refine rpG ?_
      exact ⟨_,rfl,hI⟩
     ·rw [if_neg hroom,decide_eq_true (by omega)]
      refine rpG ?_
      exact ⟨_,rfl,hI⟩
    intro q _ _ _ _ _ _ w'
    rintro ⟨b,rfl,hI⟩
    refine az (fun hb=>?_) (fun hb=>?_)
    ·refine ⟨_,_,_,rfl,hI.nil,(hE0.trans (hE2.trans hE3)),a4,0,c4,5,by rw [hv4],?_⟩
     rw [sf,hall]
     rfl
    ·refine ao hI 4 ac rfl (by simpa using hdl) ?_
     refine zR hdl ?_
     obtain ⟨xs,hxs⟩:∃ xs:List Value,xs=[Value.int .i64 (j:Int)]++ds:=⟨_,rfl⟩
     have hxl:xs.length=5:=by rw [hxs]; simp [hdl]
     have hx1:∀ u∈xs,u.oneCell'=true:=by
      intro u hu
      rw [hxs] at hu
      rcases List.mem_append.1 hu with hu|hu
      ·simp at hu; subst hu; rfl
      ·exact hd1 u hu
     rw [<- hxs]
     refine dZ (css:=css) hI 2 xs rz (by omega) (by omega) rfl hxl hx1 (by omega) (by omega) fun v' w' hI=>?_
     have hI:Inv w [] [.blk b1 (.cells #[.int .i64 g.kind,.int .i64 g.n,.string g.name,kv] ab),.row v4 dj 5 0 [],aK v' dj 5 (css++[xs]),.blk kb (.cells kc ab),.blk b9 (.cells ds.toArray ab)] S3 w':=hI
     refine ⟨css++[xs],S3,by simp; omega,?_,hE2.trans hE3,?_⟩
     ·rw [hnext]; simp
     ·exact (hI.pick [true,true,true,true]).perm (((List.Perm.swap ..).cons _).cons _)
  intro t7 _ _ _ _ _ _ _ _ _ _ _ _ _ _ _ _ _ _ _ _ _ _ _ _ _ _ _ _ _ _ _ _ _ w'
  rintro ⟨css,S2,h1,h2,h3,hI⟩
  refine bl (by omega) ?_
  exact ⟨⟨j+1,css,S2,by omega,rfl,h1,h2,h3,hI⟩,by simp [intOf]; omega⟩
 ·have:j=26:=by omega
  subst this
  obtain ⟨a7,n7,c7,hv7⟩:=hI.rowSlice 3 rfl
  have hn7:n7=css.length:=by
   have hm:w'.ownsRow 0 dj 5 t7 css.length css.flatten:=hI.its (aK t7 dj 5 css) (by simp)
   rcases hm.2 with ⟨e1,e2⟩|⟨g1,c1,u1,e1,_⟩
   ·rw [hv7] at e1; simp only [Value.slice.injEq] at e1; omega
   ·rw [hv7] at e1; simp only [Value.slice.injEq] at e1; omega
  refine ⟨_,_,_,rfl,hI.nil,hE0.trans hE2,a7,n7,c7,0,by rw [hv7],?_⟩
  rw [hn7,hcs,sf,<- hl26,List.take_length]
set_option maxHeartbeats 1000000 in
theorem xd {st:aF} (hg:Good 26 st) {S:ae} {sb:Nat} (hst:StS S S sb st):Tri Tryz.prog Dx [.pointer (some ⟨sb,0,none⟩)] [] S
  fun q _ _=>∃ a n cap b,q=.tuple #[.slice a n cap,.bool b]/\(b && decide (n=0))=st.all Option.isNone:=by
 intro w hI
 have hI:Inv w [] [] S w:=hI
 have hl26:=hg.len
 refine pP.2 ?_
 dsimp only[pP,aL]
 have hI:=hI.rowNil dj 5
 refine ⟨fun t9 t4 w'=>∃ (j:Nat) (css:List (List Value)) (S2:ae),j<=26/\t9=.int .i64 j/\css.length<=j/\decide (css.length=0)=(st.take j).all Option.isNone/\Ext w.heap.size [] S S2/\Inv w [] [aK t4 dj 5 css] S2 w',
  fun t9 _ _=>26 - (intOf t9).toNat,⟨0,[],S,Nat.zero_le _,rfl,Nat.le_refl _,by simp,Ext.refl _ _ _,hI⟩,?_⟩
 intro t9 _ t4 _ _ _ _ _ _ _ _ _ _ _ _ _ _ _ _ _ _ _ _ _ _ _ _ _ _ _ _ _ _ _ _ _ w'
 rintro ⟨j,css,S2,hj,rfl,hcl,hcs,hE2,hI⟩
 have hstj:=hst.up hE2.1
 obtain ⟨mb,tv,es,ck,E,hsb,hmb,hkm⟩:=id hstj
 refine bq ?_
 refine aI (fun hji=>?_) (fun hji=>?_)
 ·have hj':j<26:=by omega
  have hjl:j<st.length:=by omega
  have hnext:=Kz (st:=st) hjl
  refine ⟨fun t4 w'=>∃ (css:List (List Value)) (S2:ae),css.length<=j+1/\decide (css.length=0)=(st.take (j+1)).all Option.isNone/\Ext w.heap.size [] S S2/\Inv w [] [aK t4 dj 5 css] S2 w',?_,?_⟩
  ·refine bF ?_
   refine ai lT ?_
   refine ce (v:=.map (some mb)) sM (by rw [hI.cellS hsb]; rfl) ?_
   cases hs:st[j] with
   | none=>
    rw [hs] at hnext
    have hf:Instr.findNow (.int .i64) (.int .i64 j) es.toList 0=some none:=by
     rcases hkm.find j with ⟨_,_,u,_,_,_,_,hu⟩|⟨_,hf⟩
     ·rw [List.getElem?_eq_getElem hjl,hs] at hu; cases hu
     ·exact hf
    refine li (c:=true) (v:=.agg #[.int .i64 0,.int .i64 0,.string ⟨#[]⟩,.slice none 0 0]) (ok:=false) ((hI.pub _ _ hmb).1) dR fj aQ (.inr ⟨hf,rfl,rfl⟩) ?_
    refine aj (v:=.agg #[.int .i64 0,.int .i64 0,.string ⟨#[]⟩,.slice none 0 0]) rfl ?_
    refine aj (v:=.bool false) rfl ?_
    refine aD hI aQ fun b6 w' hI=>?_
    refine aq hI 1 rfl ac rfl rfl (by simp [Value.oneCell']) fun w' hI=>?_
    refine bK ?_
    refine az (fun _=>?_) (fun hb=>by cases hb)
    exact ⟨css,S2,by omega,by rw [hcs,hnext]; simp,hE2,hI.pick [true]⟩
   | some t=>
    rw [hs] at hnext
    have hall:=Ks hjl hs
    have hmem:some t∈st:=by rw [<- hs]; exact List.getElem_mem hjl
    have hto:=hg.ok t hmem
    have htw:=hg.w t hmem
    obtain ⟨cs,hf,hR⟩:∃ cs,(∃ i,Instr.findNow (.int .i64) (.int .i64 j) es.toList 0=some (some (i,.agg (List.toArray cs))))/\RdT S2 cs t:=by
     rcases hkm.find j with ⟨i,v,u,cs,hf,rfl,hR,hu⟩|⟨hno,_⟩
     ·rw [List.getElem?_eq_getElem hjl,hs] at hu
      cases hu
      exact ⟨cs,⟨i,hf⟩,hR⟩
     ·exact absurd (by rw [List.getElem?_eq_getElem hjl,hs]) (hno t)
    obtain ⟨i,hf⟩:=hf
    refine li (c:=true) (v:=.agg cs.toArray) (ok:=true) ((hI.pub _ _ hmb).1) dR fj aQ (.inl ⟨i,hf,rfl⟩) ?_
    refine aj (v:=.agg cs.toArray) rfl ?_
    refine aj (v:=.bool true) rfl ?_
    refine aD hI aQ fun b6 w' hI=>?_
    refine aq hI 1 rfl ac (by simpa using hR.length) rfl (by simpa using hR.one) fun w' hI=>?_
    refine bK ?_
    refine az (fun hb=>by cases hb) (fun _=>?_)
    refine ao hI 1 ac rfl (by simpa using hR.length) ?_
    obtain ⟨u,hu⟩:=Gq hg t hto
    refine Run.call0E tL tD hI (DN hg hu ⟨hto,htw⟩ hR hstj) fun v' I' S3 w'=>?_
    rintro ⟨rfl,ds,hdl,hd1,rfl,hdr⟩ hE3 hI
    refine aj (v:=.agg ds.toArray) rfl ?_
    refine aj (v:=.bool (cI u)) rfl ?_
    refine aD hI aQ fun b8 w' hI=>?_
    refine aq hI 2 rfl ac (by simpa using hdl) rfl (by simpa using hd1) fun w' hI=>?_
    have hI:Inv w [] [aK t4 dj 5 css,.blk b6 (.cells cs.toArray ab),.blk b8 (.cells ds.toArray ab)] S3 w':=hI
    refine bK ?_
    refine az (fun hb=>?_) (fun hb=>?_)
    ·refine ⟨_,_,_,rfl,hI.nil,hE2.trans hE3,none,0,0,false,rfl,?_⟩
     rw [hall]; rfl
    ·refine ao hI 2 ac rfl (by simpa using hdl) ?_
     refine zR hdl ?_
     obtain ⟨xs,hxs⟩:∃ xs:List Value,xs=[Value.int .i64 (j:Int)]++ds:=⟨_,rfl⟩
     have hxl:xs.length=5:=by rw [hxs]; simp [hdl]
     have hx1:∀ u∈xs,u.oneCell'=true:=by
      intro u hu
      rw [hxs] at hu
      rcases List.mem_append.1 hu with hu|hu
      ·simp at hu; subst hu; rfl
      ·exact hd1 u hu
     rw [<- hxs]
     refine dZ (css:=css) hI 0 xs rz (by omega) (by omega) rfl hxl hx1 (by omega) (by omega) fun v' w' hI=>?_
     refine ⟨css++[xs],S3,by simp; omega,?_,hE2.trans hE3,hI.pick [true]⟩
     rw [hnext]; simp
  intro t4 _ _ _ _ _ _ _ _ _ _ _ _ _ _ _ _ _ _ _ _ _ _ _ _ _ _ _ _ _ _ _ _ w'
  rintro ⟨css,S2,h1,h2,h3,hI⟩
  refine bl (by omega) ?_
  exact ⟨⟨j+1,css,S2,by omega,rfl,h1,h2,h3,hI⟩,by simp [intOf]; omega⟩
 ·have:j=26:=by omega
  subst this
  obtain ⟨a7,n7,c7,hv7⟩:=hI.rowSlice 0 rfl
  have hn7:n7=css.length:=by
   have hm:w'.ownsRow 0 dj 5 t4 css.length css.flatten:=hI.its (aK t4 dj 5 css) (by simp)
   rcases hm.2 with ⟨e1,e2⟩|⟨g1,c1,u1,e1,_⟩
   ·rw [hv7] at e1; simp only [Value.slice.injEq] at e1; omega
   ·rw [hv7] at e1; simp only [Value.slice.injEq] at e1; omega
  refine ⟨_,_,_,rfl,hI.nil,hE2,a7,n7,c7,true,by rw [hv7],?_⟩
  rw [hn7,hcs,<- hl26,List.take_length,Bool.true_and]
set_option maxHeartbeats 1000000 in
theorem r2 {g:T} {f:Bool} (hv:dg g=true) (ho:okU 26 g/\wT g<=1048576) (hn:okN g) (hf:(cO g=false/\f=false) ∨ (cO g=true/\∃ code st',Blt Qs g code st'/\f=sf code st')) {S:ae} {cs:List Value} (h:RdT S cs g) :
  Tri Tryz.prog Am [.agg cs.toArray] [] S (M9 f):=by
 intro w hI
 have hI:Inv w [] [] S w:=hI
 have hl4:=h.length
 refine mW.2 ?_
 dsimp only[mW,aL]
 refine bf hI fun b1 w' hI=>?_
 have hI:Inv w [] [.blk b1 (.cells cs.toArray ab)] S w':=hI
 refine ⟨fun q w'=>q=.bool (!cO g)/\Inv w [] [.blk b1 (.cells cs.toArray ab)] S w',?_,?_⟩
 ·refine ao hI 0 ac rfl (by simpa using hl4) ?_
  refine Run.callPure kR kQ hI (iN h) fun w' hI=>?_
  rw [hv]
  refine bK ?_
  refine rpG ?_
  refine ao hI 0 ac rfl (by simpa using hl4) ?_
  refine Run.callPure kC kA hI (jk h) fun w' hI=>?_
  refine bK ?_
  refine rpG ?_
  exact ⟨rfl,hI⟩
 intro q _ _ _ _ _ _ _ w'
 rintro ⟨rfl,hI⟩
 rcases hf with ⟨hb,rfl⟩|⟨hb,code,st',hB,rfl⟩
 ·rw [hb]
  refine az (fun _=>?_) (fun hb=>by cases hb)
  exact ⟨_,_,_,rfl,hI.nil,Ext.refl _ _ _,none,0,0,6,rfl,rfl⟩
 rw [hb]
 refine az (fun hb=>by cases hb) (fun _=>?_)
 have hg':=hB.good (na 26) hb ho
 refine Run.call0E D0 D6 hI (BI S) fun v' I' S' w'=>?_
 rintro ⟨rfl,sb,mb,rfl,rfl⟩ hE1 hI
 refine ao hI 0 ac rfl (by simpa using hl4) ?_
 refine Run.callE (A:=[_]) As Al hI (Hj (by omega) (na 26) ho hn hb hB h (KnownM.none _ 26) (by rw [JF]; simp)) fun v' I' S' w'=>?_
 rintro ⟨rfl,rfl,es,ck,tv,tr,rfl,hkm,_,_⟩ hE2 hI
 refine cD ?_
 refine az (fun hc=>?_) (fun hc=>?_)
 ·refine ⟨_,_,_,rfl,hI.nil,Ext.refl _ _ _,none,0,0,code,rfl,?_⟩
  have:code≠0:=by simpa using hc
  rw [sf,decide_eq_false this]
  rfl
 have hc0:code=0:=by simpa using hc
 subst hc0
 have hI:=hI.perm (M:=[.blk b1 (.cells cs.toArray ab),ed tv tr]++bt [(sb,.cells #[.map (some mb),tv] dt),(mb,.map es ck)]) (List.Perm.cons _ (List.perm_append_comm (l₁:=[ed tv tr]) (l₂:=bt [(sb,.cells #[.map (some mb),tv] dt),(mb,.map es ck)])))
 obtain ⟨S3,hI,hE3,hins⟩:=Inv.pubExt hI
 have hst:StS S3 S3 sb st':=⟨mb,tv,es,ck,dt,hins _ (List.mem_cons_self ..),hins _ (List.mem_cons_of_mem _ (List.mem_cons_self ..)),hkm.up hE3.1⟩
 refine Run.call0E C9 BK hI (xd hg' hst) fun v' I' S4 w'=>?_
 rintro ⟨a,n,cap,b,rfl,hbn⟩ hE4 hI
 refine aj (v:=.slice a n cap) rfl ?_
 refine aj (v:=.bool b) rfl ?_
 refine bK ?_
 refine az (fun hb=>?_) (fun hb=>?_)
 ·have hb:b=false:=by simpa using hb
  refine ⟨_,_,_,rfl,hI.nil,hE3.trans hE4,none,0,0,5,rfl,?_⟩
  rw [hb,Bool.false_and] at hbn
  rw [sf,<- hbn]
  rfl
 ·have hb:b=true:=by simpa using hb
  refine ⟨_,_,_,rfl,hI.nil,hE3.trans hE4,a,n,cap,0,rfl,?_⟩
  rw [hb,Bool.true_and] at hbn
  rw [sf,<- hbn]
end
end
section
open Go Go.RowKit
section
variable {S:ae} {ys:List Nat} {v:Value}
attribute [local irreducible] Run CondV aB aS
end
end
section
open Go Go.RowKit

section
attribute [local irreducible] Run CondV aB aS
end
end
end Go.Proofs.YtfcbhfjomgopbaaGreat
