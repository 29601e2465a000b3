/- impl: resolved terms, if they are small. -/
import Derived.Test.YtcpgagfdeflbkaaGreatDoorZMv17
import Derived.Test.YtcpgagfdeflbkaaGreatDoorZMv6
import Derived.Test.YtcpgagfdeflbkaaGreatDoorZMv4
import Derived.Test.YtcpgagfdeflbkaaGreatDoorZMv5
import Derived.Test.YtcpgagfdeflbkaaGreatDoorZMv15
import Derived.Test.YtcpgagfdeflbkaaGreatDoorZMv18
namespace Go.Proofs.YtcpgagfdeflbkaaGreatDoor
section
open Go Go.RowKit
theorem KnownM.up {S S':ad} {es:Array MapEntry} {st:ah} (h:KnownM S es st) (hs:Sle S S'):KnownM S' es st:=
 ⟨fun e he=>by
  obtain ⟨n,t,cs,h1,h2,h3,h4⟩:=h.1 e he
  exact ⟨n,t,cs,h1,h2,h3.mono hs,h4⟩,h.2⟩
theorem StS.up {S S':ad} {sb:Nat} {st:ah} (h:StS S S sb st) (hs:Sle S S'):StS S' S' sb st:=by
 obtain ⟨mb,tv,es,ck,E,h1,h2,h3⟩:=h
 exact ⟨mb,tv,es,ck,E,hs _ _ h1,hs _ _ h2,h3.up hs⟩
def okR (u:T) (deep count:Int):Bool:=decide (count+dk u<=120) && Jw u (31 - deep)
def RC (st:ah) (sb:Nat) (t u:T):Prop:=∀ (S:ad) (cs:List Value) (cb:Nat) (deep count:Int),RdT S cs t->StS S S sb st->1<=deep->deep<=1000000->0<=count->count<=1000000->
 Tri Tryz.prog ph [.pointer (some ⟨sb,0,none⟩),.agg cs.toArray,.int .i64 deep,.pointer (some ⟨cb,0,none⟩)] [.blk cb (.cells #[.int .i64 count] bG)] S fun q I' S'=>
  ∃ (cs':List Value) (c':Int),q=.tuple #[.agg cs'.toArray,.bool (okR u deep count)]/\I'=[.blk cb (.cells #[.int .i64 c'] bG)]/\cs'.length=4/\(∀ x∈cs',x.oneCell'=true)/\(okR u deep count=true->c'=count+dk u/\RdT S' cs' u)
section
attribute [local irreducible] Run CondV ao aI
theorem zg {N:Nat} {st:ah} {sb:Nat} {t v:T} {us:List T} (hg:Good N st) (hwv:cK st t v) (hot:okU N t/\wT t<=1048576) (hlu:us.length=v.kids.length)
  (hk:∀ i (h:i<us.length) (h':i<v.kids.length),RC st sb v.kids[i] us[i]):RC st sb t (.mk v.kind v.n v.name us):=by
 intro S cs cb deep count h hst hd0 hd1 hc0 hc1 w hI
 have hlc:=h.length
 have hov:=eI hg hwv hot
 obtain ⟨X,hX⟩:∃ X,X=bp [Item.blk cb (.cells #[.int .i64 count] bG)]:=⟨_,rfl⟩
 rw [<- hX] at hI ⊢
 have hcu:=d3 us
 have hokd:okR (.mk v.kind v.n v.name us) deep count=(decide (count+(1+co us)<=120) && (if 31 - deep<1 then false else IQ us (31 - deep - 1))):=by
  rw [okR,B7,Jw]
 refine gJ.2 ?_
 dsimp only[gJ,gX]
 refine bl hI fun b5 w' hI=>?_
 refine aL hI aW fun b8 w' hI=>?_
 have hI:Inv w X ([.blk b5 (.cells cs.toArray ab),.blk b8 (.cells #[.int .i64 0,.int .i64 0,.string ⟨#[]⟩,.slice none 0 0] ab)]++[.blk cb (.cells #[.int .i64 count] bG)]) S w':=hI.perm (List.perm_append_comm (l₁:=[_,_]) (l₂:=[_]))
 refine aw hI 0 ac rfl (by simpa using hlc) ?_
 refine Run.call0 fi ff hI (hY hg hwv hot.1 hst h) fun v' I' S' w'=>?_
 rintro ⟨eS,rfl,cs',rfl,hcs'⟩ _ hI
 rw [eS] at hI
 clear eS
 refine au hI 0 rfl ac (by simpa using hcs'.length) (by simpa using hlc) (by simpa using hcs'.one) fun w' hI=>?_
 obtain ⟨kv,rfl,hi1,hi2,hs,hks⟩:=RdT.iff.1 hcs'
 have hI:Inv w X [.blk b5 (.cells #[.int .i64 v.kind,.int .i64 v.n,.string v.name,kv] ab),.blk b8 (.cells #[.int .i64 0,.int .i64 0,.string ⟨#[]⟩,.slice none 0 0] ab),.blk cb (.cells #[.int .i64 count] bG)] S w':=hI
 have hlen:=hks.le
 have hkl:v.kids.length<=1048576:=by
  have:=hov.2
  cases v
  simp only [wT] at this
  simp only [T.kids]
  omega
 refine al ?_
 refine aT hI 2 aF rfl rfl ?_
 refine bi (by omega) ?_
 refine al ?_
 refine cB hI 2 (n:=1) rfl (by decide +kernel) rfl (by simp) (by simp [Value.cells,Value.oneCell']) fun w' hI=>?_
 have hI:Inv w X [.blk b5 (.cells #[.int .i64 v.kind,.int .i64 v.n,.string v.name,kv] ab),.blk b8 (.cells #[.int .i64 0,.int .i64 0,.string ⟨#[]⟩,.slice none 0 0] ab),.blk cb (.cells #[.int .i64 (count+1)] bG)] S w':=hI
 refine ⟨fun q w'=>q=.bool (decide (120<count+1 ∨ 30<deep))/\Inv w X [.blk b5 (.cells #[.int .i64 v.kind,.int .i64 v.n,.string v.name,kv] ab),.blk b8 (.cells #[.int .i64 0,.int .i64 0,.string ⟨#[]⟩,.slice none 0 0] ab),.blk cb (.cells #[.int .i64 (count+1)] bG)] S w',?_,?_⟩
 ·refine al ?_
  refine aT hI 2 aF rfl rfl ?_
  refine dK ?_
  by_cases e1:120<count+1
  ·rw [decide_eq_true e1]
   refine rpG ?_
   exact ⟨by rw [decide_eq_true (Or.inl e1)],hI⟩
  ·rw [decide_eq_false e1]
   refine rpG ?_
   refine dK ?_
   refine rpG ?_
   refine ⟨?_,hI⟩
   congr 1
   rw [Bool.eq_iff_iff,decide_eq_true_eq,decide_eq_true_eq]
   omega
 intro q _ _ _ _ _ _ _ w'
 rintro ⟨rfl,hI⟩
 refine aH (fun hbad=>?_) (fun hgood=>?_)
 ·have hno:okR (.mk v.kind v.n v.name us) deep count=false:=by
   rw [hokd]
   rcases hbad with e|e
   ·rw [decide_eq_false (by omega),Bool.false_and]
   ·rw [if_pos (by omega),Bool.and_false]
  refine r5 ?_
  refine au hI 1 rfl ac rfl rfl sM fun w' hI=>?_
  refine be hI 1 ac rfl rfl ?_
  exact ⟨_,_,_,rfl,hI.pick [false,false,true],Ext.refl _ _ _,[.int .i64 0,.int .i64 0,.string ⟨#[]⟩,.slice none 0 0],count+1,by rw [hno],rfl,rfl,sM,fun h=>by rw [hno] at h; cases h⟩
 have hg1:count+1<=120:=by omega
 have hg2:deep<=30:=by omega
 rw [if_neg (by omega)] at hokd
 refine ae hI 0 rfl aP aF rfl ?_
 refine ae hI 0 rfl bb aF rfl ?_
 refine ae hI 0 rfl aQ aK rfl ?_
 refine oz ?_
 refine aL hI aW fun b10 w' hI=>?_
 have hI:Inv w X [.blk b5 (.cells #[.int .i64 v.kind,.int .i64 v.n,.string v.name,kv] ab),.blk b8 (.cells #[.int .i64 0,.int .i64 0,.string ⟨#[]⟩,.slice none 0 0] ab),.blk b10 _,.blk cb (.cells #[.int .i64 (count+1)] bG)] S w':=hI.perm (((List.perm_append_comm (l₁:=[_]) (l₂:=[_])).cons _).cons _)
 refine au hI 2 rfl ac rfl rfl (by simp [Value.oneCell']) fun w' hI=>?_
 have hI:=hI.rowNil ab 4
 have hI:Inv w X [.blk b5 (.cells #[.int .i64 v.kind,.int .i64 v.n,.string v.name,kv] ab),.blk b8 (.cells #[.int .i64 0,.int .i64 0,.string ⟨#[]⟩,.slice none 0 0] ab),.blk b10 (.cells #[.int .i64 v.kind,.int .i64 v.n,.string v.name,.slice none 0 0] ab),aB (.slice none 0 0) ab 4 [],.blk cb (.cells #[.int .i64 (count+1)] bG)] S w':=hI.perm ((((List.perm_append_comm (l₁:=[_]) (l₂:=[_])).cons _).cons _).cons _)
 refine ae hI 0 rfl ar aj rfl ?_
 refine aD hks ag ?_
 refine ⟨fun i w'=>∃ (j:Nat) (c:Int) (kvc:Value) (css:List (List Value)) (S1:ad),j<=us.length/\i=.int .i64 j/\Ext w.heap.size X S S1/\c=count+1+co (us.take j)/\c<=120/\(∀ k (_:k<us.length),k<j->Jw us[k] (31 - deep - 1)=true)/\Rows 4 (RdT S1) css (us.take j)/\
   Inv w X [.blk b5 (.cells #[.int .i64 v.kind,.int .i64 v.n,.string v.name,kv] ab),.blk b8 (.cells #[.int .i64 0,.int .i64 0,.string ⟨#[]⟩,.slice none 0 0] ab),.blk b10 (.cells #[.int .i64 v.kind,.int .i64 v.n,.string v.name,kvc] ab),aB kvc ab 4 css,.blk cb (.cells #[.int .i64 c] bG)] S1 w',
  fun i _=>us.length - (intOf i).toNat,⟨0,count+1,_,[],S,Nat.zero_le _,rfl,Ext.refl _ _ _,by simp [co],hg1,fun k _ h=>by omega,Rows.nil _ _,hI⟩,?_⟩
 intro t42 _ _ _ _ _ _ _ _ _ _ _ _ _ _ _ _ _ _ _ _ _ _ _ _ _ _ w'
 rintro ⟨j,c,kvc,css,S1,hj,rfl,hE,hc,hc120,hdep,hR,hI⟩
 have hpos:=d3 (us.take j)
 refine bC ?_
 refine aH (fun hji=>?_) (fun hji=>?_)
 ·have hj1:j<us.length:=by omega
  have hj2:j<v.kids.length:=by omega
  have hcl:=hR.hc
  rw [List.length_take] at hcl
  refine bM hI (hks.monoT hE.1) ag ac hj2 (fun _ _=>RdT.length) fun cs0 hcs0=>?_
  have hlc0:=hcs0.length
  refine aL hI aW fun b12 w' hI=>?_
  have hI:=hI.perm (M:=.blk b12 _::[.blk b5 (.cells #[.int .i64 v.kind,.int .i64 v.n,.string v.name,kv] ab),.blk b8 (.cells #[.int .i64 0,.int .i64 0,.string ⟨#[]⟩,.slice none 0 0] ab),.blk b10 (.cells #[.int .i64 v.kind,.int .i64 v.n,.string v.name,kvc] ab),aB kvc ab 4 css,.blk cb (.cells #[.int .i64 c] bG)]) (List.perm_append_comm (l₁:=[_]))
  refine au hI 0 rfl ac (by simpa using hlc0) rfl (by simpa using hcs0.one) fun w' hI=>?_
  refine aw hI 0 ac rfl (by simpa using hlc0) ?_
  refine bi (by omega) ?_
  have hI:Inv w X ([.blk b5 (.cells #[.int .i64 v.kind,.int .i64 v.n,.string v.name,kv] ab),.blk b8 (.cells #[.int .i64 0,.int .i64 0,.string ⟨#[]⟩,.slice none 0 0] ab),.blk b10 (.cells #[.int .i64 v.kind,.int .i64 v.n,.string v.name,kvc] ab),aB kvc ab 4 css]++[.blk cb (.cells #[.int .i64 c] bG)]) S1 w':=hI.pick [false,true,true,true,true,true]
  refine Run.callE gI gz hI (hk j hj1 hj2 S1 cs0 cb (deep+1) c hcs0 (hst.up hE.1) (by omega) (by omega) (by omega) (by omega)) fun v' I' S2 w'=>?_
  rintro ⟨cs2,c2,rfl,rfl,hl4,ho4,hrd⟩ hE2 hI
  refine ai rfl ?_
  refine ai rfl ?_
  refine aL hI aW fun b13 w' hI=>?_
  have hI:=hI.perm (M:=.blk b13 _::[.blk b5 (.cells #[.int .i64 v.kind,.int .i64 v.n,.string v.name,kv] ab),.blk b8 (.cells #[.int .i64 0,.int .i64 0,.string ⟨#[]⟩,.slice none 0 0] ab),.blk b10 (.cells #[.int .i64 v.kind,.int .i64 v.n,.string v.name,kvc] ab),aB kvc ab 4 css,.blk cb (.cells #[.int .i64 c2] bG)]) (List.perm_append_comm (l₁:=[_]))
  refine au hI 0 rfl ac (by simpa using hl4) rfl (by simpa using ho4) fun w' hI=>?_
  refine bU ?_
  have hct:=JA us j hj1
  have hcle:=Cd us (j+1)
  refine av (fun hb=>?_) (fun hb=>?_)
  ·have hb':okR us[j] (deep+1) c=false:=by simpa using hb
   have hno:okR (.mk v.kind v.n v.name us) deep count=false:=by
    rw [hokd]
    rw [okR,Bool.and_eq_false_iff] at hb'
    rcases hb' with e|e
    ·have e:=of_decide_eq_false e
     rw [decide_eq_false (by omega),Bool.false_and]
    ·have:IQ us (31 - deep - 1)=false:=by
      rw [xJ,List.all_eq_false]
      exact ⟨us[j],List.getElem_mem hj1,by rw [show 31 - deep - 1=31 - (deep+1) by omega,e]; decide⟩
     rw [this,Bool.and_false]
   refine r5 ?_
   have hI:Inv w X [.blk b13 (.cells cs2.toArray ab),.blk b5 (.cells #[.int .i64 v.kind,.int .i64 v.n,.string v.name,kv] ab),.blk b8 (.cells #[.int .i64 0,.int .i64 0,.string ⟨#[]⟩,.slice none 0 0] ab),.blk b10 (.cells #[.int .i64 v.kind,.int .i64 v.n,.string v.name,kvc] ab),aB kvc ab 4 css,.blk cb (.cells #[.int .i64 c2] bG)] S2 w':=hI
   refine au hI 2 rfl ac rfl rfl sM fun w' hI=>?_
   refine be hI 2 ac rfl rfl ?_
   exact ⟨_,_,_,rfl,hI.pick [false,false,false,false,false,true],hE.trans hE2,[.int .i64 0,.int .i64 0,.string ⟨#[]⟩,.slice none 0 0],c2,by rw [hno],rfl,rfl,sM,fun h=>by rw [hno] at h; cases h⟩
  ·have hb':okR us[j] (deep+1) c=true:=by simpa using hb
   obtain ⟨hc2,hR2⟩:=hrd hb'
   rw [okR,Bool.and_eq_true,decide_eq_true_eq] at hb'
   refine ae (b:=b10) (c:=#[.int .i64 v.kind,.int .i64 v.n,.string v.name,kvc]) hI 3 rfl ar aj rfl ?_
   refine aw hI 0 ac rfl (by simpa using hl4) ?_
   refine bP hI 4 cs2 bo (by omega) (by omega) rfl hl4 ho4 (by omega) (by omega) fun kvc2 w' hI=>?_
   have hkv2:=xp (hI.its (aB kvc2 ab 4 (css++[cs2])) (by simp))
   refine cq (b:=b10) (c:=#[.int .i64 v.kind,.int .i64 v.n,.string v.name,kvc]) hI 3 rfl ar aj rfl hkv2.1 hkv2.2 fun w' hI=>?_
   have hI:Inv w X [.blk b5 (.cells #[.int .i64 v.kind,.int .i64 v.n,.string v.name,kv] ab),.blk b8 (.cells #[.int .i64 0,.int .i64 0,.string ⟨#[]⟩,.slice none 0 0] ab),.blk b10 (.cells #[.int .i64 v.kind,.int .i64 v.n,.string v.name,kvc2] ab),aB kvc2 ab 4 (css++[cs2]),.blk cb (.cells #[.int .i64 c2] bG)] S2 w':=hI.pick [false,true,true,true,true,true]
   refine bi (by omega) ?_
   refine ⟨⟨j+1,c2,kvc2,css++[cs2],S2,hj1,rfl,hE.trans hE2,by omega,by omega,fun k hk2 hkj=>?_,?_,hI⟩,by simp [intOf]; omega⟩
   ·by_cases e:k=j
    ·subst e
     rw [show 31 - deep - 1=31 - (deep+1) by omega]
     exact hb'.2
    ·exact hdep k hk2 (by omega)
   ·rw [List.take_succ_eq_append_getElem hj1]
    exact (hR.monoR fun _ _ h=>RdT.mono hE2.1 h).snoc hR2 hl4
 ·have hje:j=us.length:=by omega
  subst hje
  rw [List.take_length] at hR hc
  have hyes:okR (.mk v.kind v.n v.name us) deep count=true:=by
   rw [hokd,decide_eq_true (by omega),Bool.true_and,xJ,List.all_eq_true]
   intro x hx
   obtain ⟨k,hk2,rfl⟩:=List.mem_iff_getElem.1 hx
   exact hdep k hk2 hk2
  refine aw (b:=b10) (c:=#[.int .i64 v.kind,.int .i64 v.n,.string v.name,kvc]) hI 2 ac rfl rfl ?_
  have hkv2:=xp (hI.its (aB kvc ab 4 css) (by simp))
  have hone:∀ x∈([.int .i64 v.kind,.int .i64 v.n,.string v.name,kvc]:List Value),x.oneCell'=true:=by
   intro x hx
   simp at hx
   rcases hx with rfl|rfl|rfl|rfl <;> first|rfl|exact hkv2.2
  refine au hI 1 rfl ac rfl rfl hone fun w' hI=>?_
  refine be (c:=#[.int .i64 v.kind,.int .i64 v.n,.string v.name,kvc]) hI 1 ac rfl rfl ?_
  have hI:Inv w X ([.blk cb (.cells #[.int .i64 c] bG)]++[aB kvc ab 4 css]) S1 w':=(hI.pick [false,false,false,true,true]).perm (List.Perm.swap ..)
  obtain ⟨S3,hE3,hrd,hI⟩:=hI.lendExt
  have hrr:=RowRd.rows (hR.monoR fun _ _ h=>RdT.mono hE3.1 h) hrd
  exact ⟨_,_,_,rfl,hI,hE.trans hE3,[.int .i64 v.kind,.int .i64 v.n,.string v.name,kvc],c,by rw [hyes],rfl,rfl,hone,fun _=>⟨by rw [B7]; omega,RdT.iff.2 ⟨kvc,rfl,hi1,hi2,hs,hrr⟩⟩⟩
theorem vZ {N:Nat} {st:ah} (sb:Nat) (hg:Good N st) {j:Md} (hr:Res st j):match j with
  | .one t u=>(okU N t/\wT t<=1048576)->RC st sb t u
  | .list ts us=>(∀ t∈ts,okU N t/\wT t<=1048576)->us.length=ts.length/\∀ i (h:i<us.length) (h':i<ts.length),RC st sb ts[i] us[i]:=by
 induction hr with
 | one hw _ ih=>
  intro ho
  have h1:=ih (jx (eI hg hw ho))
  exact zg hg hw ho h1.1 h1.2
 | nil=>exact fun _=>⟨rfl,fun i h _=>by simp at h⟩
 | cons _ _ ih1 ih2=>
  intro ho
  obtain ⟨h1,h2⟩:=ih2 fun t ht=>ho t (List.mem_cons_of_mem _ ht)
  refine ⟨by simp [h1],fun i h h'=>?_⟩
  cases i with
  | zero=>exact ih1 (ho _ (List.mem_cons_self ..))
  | succ i=>exact h2 i (by simpa using h) (by simpa using h')
theorem Al {N:Nat} {st:ah} (hg:Good N st) {t u:T} (hr:Res st (.one t u)) (ho:okU N t/\wT t<=1048576) {S:ad} {cs:List Value} {sb:Nat} (h:RdT S cs t) (hst:StS S S sb st) :
  Tri Tryz.prog jF [.pointer (some ⟨sb,0,none⟩),.agg cs.toArray] [] S fun q I' S'=>I'=[]/\∃ cs':List Value,cs'.length=4/\(∀ x∈cs',x.oneCell'=true)/\q=.tuple #[.agg cs'.toArray,.bool (bB u)]/\(bB u=true->RdT S' cs' u):=by
 intro w hI
 have hlc:=h.length
 have hI:Inv w [] [] S w:=hI
 have hrc:RC st sb t u:=vZ sb hg hr ho
 have e:okR u 1 0=bB u:=by rw [okR,bB,Int.zero_add]; rfl
 refine im.2 ?_
 dsimp only[im,aR]
 refine bl hI fun b3 w' hI=>?_
 refine aL hI aW fun b4 w' hI=>?_
 have hz:fM Tryz.prog bG=some (.int .i64 0):=by kernel_rfl
 refine aL hI hz fun b6 w' hI=>?_
 refine cB hI 2 (n:=1) rfl (by decide +kernel) rfl (by simp [Value.cells]) (by simp [Value.cells,Value.oneCell']) fun w' hI=>?_
 have hI:Inv w [] ([.blk b3 (.cells cs.toArray ab),.blk b4 (.cells #[.int .i64 0,.int .i64 0,.string ⟨#[]⟩,.slice none 0 0] ab)]++[.blk b6 (.cells #[.int .i64 0] bG)]) S w':=hI
 refine aw hI 0 ac rfl (by simpa using hlc) ?_
 refine Run.callE gI gz hI (hrc S cs b6 1 0 h hst (by omega) (by omega) (by omega) (by omega)) fun v' I' S2 w'=>?_
 rintro ⟨cs2,c2,rfl,rfl,hl4,ho4,hrd⟩ hE2 hI
 rw [e] at hrd ⊢
 refine ai rfl ?_
 refine ai rfl ?_
 have hI:Inv w [] [.blk b3 (.cells cs.toArray ab),.blk b4 (.cells #[.int .i64 0,.int .i64 0,.string ⟨#[]⟩,.slice none 0 0] ab),.blk b6 (.cells #[.int .i64 c2] bG)] S2 w':=hI
 refine au hI 1 rfl ac (by simpa using hl4) rfl (by simpa using ho4) fun w' hI=>?_
 refine be hI 1 ac rfl (by simpa using hl4) ?_
 exact ⟨_,_,_,rfl,hI.nil,hE2,rfl,cs2,hl4,ho4,rfl,fun h=>(hrd h).2⟩
end
end
section
open Go Go.RowKit

theorem yt:∀ (a b c:List UInt8),Op.bytesLess a b=true->Op.bytesLess b c=true->Op.bytesLess a c=true
 | _,[],_,h,_=>by simp [Op.bytesLess] at h
 | _,_::_,[],_,h=>by simp [Op.bytesLess] at h
 | [],_::_,_::_,_,_=>by simp [Op.bytesLess]
 | x::a,y::b,z::c,h,h'=>by
  simp only [Op.bytesLess,Bool.or_eq_true,decide_eq_true_eq,Bool.and_eq_true,beq_iff_eq] at h h' ⊢
  rcases h with h|⟨rfl,h⟩
  ·rcases h' with h'|⟨rfl,h'⟩
   ·left; exact UInt8.lt_trans h h'
   ·left; exact h
  ·rcases h' with h'|⟨rfl,h'⟩
   ·left; exact h'
   ·right; exact ⟨rfl,yt a b c h h'⟩
theorem AY:∀ a:List UInt8,Op.bytesLess a a=false
 | []=>by simp [Op.bytesLess]
 | x::a=>by
  simp only [Op.bytesLess,AY a,Bool.and_false,Bool.or_false,decide_eq_false_iff_not]
  exact UInt8.lt_irrefl x
theorem Ez:∀ a b:List UInt8,a≠b->Op.bytesLess a b=true ∨ Op.bytesLess b a=true
 | [],[],h=>absurd rfl h
 | [],_::_,_=>.inl (by simp [Op.bytesLess])
 | _::_,[],_=>.inr (by simp [Op.bytesLess])
 | x::a,y::b,h=>by
  simp only [Op.bytesLess,Bool.or_eq_true,decide_eq_true_eq,Bool.and_eq_true,beq_iff_eq]
  by_cases e:x=y
  ·subst e
   rcases Ez a b (fun e=>h (by rw [e])) with h1|h1
   ·exact .inl (.inr ⟨rfl,h1⟩)
   ·exact .inr (.inr ⟨rfl,h1⟩)
  ·rcases UInt8.lt_or_lt_of_ne e with h1|h1
   ·exact .inl (.inl h1)
   ·exact .inr (.inl h1)
def bls (a b:ByteArray):Bool:=Op.bytesLess a.toList b.toList
def mC (a b:Int):Int:=if a<b then -1 else if b<a then 1 else 0
def eJ (a b:ByteArray):Int:=if bls a b=true then -1 else if bls b a=true then 1 else 0
def rkS (t:T):Int:=if t.kind=3/\0<t.kids.length then 4 else t.kind
def ww (a b:Int):Int:=if a≠0 then a else b
def hdC (t u:T):Int:=ww (mC (rkS t) (rkS u)) (ww (mC t.n u.n) (ww (mC t.kids.length u.kids.length) (eJ t.name u.name)))
mutual
def tN:T->T->Int
 | .mk k n s ks,u=>ww (hdC (.mk k n s ks) u) (fQ ks u.kids)
def fQ:List T->List T->Int
 | [],[]=>0
 | [],_::_=>-1
 | _::_,[]=>1
 | t::ts,u::us=>ww (tN t u) (fQ ts us)
end
theorem gF (a b:Int):(a<b/\mC a b=-1) ∨ (b<a/\mC a b=1) ∨ (a=b/\mC a b=0):=by
 unfold mC
 by_cases h:a<b
 ·exact .inl ⟨h,if_pos h⟩
 ·by_cases h':b<a
  ·exact .inr (.inl ⟨h',by rw [if_neg h,if_pos h']⟩)
  ·exact .inr (.inr ⟨by omega,by rw [if_neg h,if_neg h']⟩)
theorem toList_inj {a b:ByteArray} (h:a.toList=b.toList):a=b:=by
 have:=rP a b
 rw [beq_iff_eq.2 h] at this
 exact of_decide_eq_true this.symm
theorem eX (a b:ByteArray):(bls a b=true/\eJ a b=-1) ∨ (bls b a=true/\bls a b=false/\eJ a b=1) ∨ (a=b/\eJ a b=0):=by
 unfold eJ
 cases h:bls a b with
 | true=>exact .inl ⟨rfl,if_pos rfl⟩
 | false=>
  cases h':bls b a with
  | true=>exact .inr (.inl ⟨rfl,rfl,by simp⟩)
  | false=>
   refine .inr (.inr ⟨?_,by simp⟩)
   refine toList_inj (Decidable.byContradiction fun e=>?_)
   rcases Ez _ _ e with h1|h1
   ·rw [bls,h1] at h; cases h
   ·rw [bls,h1] at h'; cases h'
theorem Lg {a b:ByteArray} (h:bls a b=true):bls b a=false:=by
 cases h':bls b a with
 | false=>rfl
 | true=>
  have:=yt _ _ _ h h'
  rw [AY] at this
  cases this

structure TC (a b c:Int):Prop where
 lt:a=-1->b=-1->c=-1
 e1:a=0->c=b
 e2:b=0->c=a
theorem TC.lex {a b c a' b' c':Int} (h:TC a b c) (h':TC a' b' c'):TC (ww a a') (ww b b') (ww c c'):=by
 obtain ⟨h1,h2,h3⟩:=h
 obtain ⟨h4,h5,h6⟩:=h'
 unfold ww
 refine ⟨fun x y=>?_,fun x=>?_,fun x=>?_⟩
 ·by_cases ea:a=0
  ·rw [if_neg (by omega)] at x
   by_cases eb:b=0
   ·rw [if_neg (by omega)] at y
    rw [if_neg (by have:=h2 ea; omega)]
    exact h4 x y
   ·rw [if_pos (by omega)] at y
    have:=h2 ea
    rw [if_pos (by omega)]; omega
  ·rw [if_pos (by omega)] at x
   by_cases eb:b=0
   ·have:=h3 eb
    rw [if_pos (by omega)]; omega
   ·rw [if_pos (by omega)] at y
    have:=h1 x y
    rw [if_pos (by omega)]; omega
 ·by_cases ea:a=0
  ·rw [if_neg (by omega)] at x
   rw [h2 ea,h5 x]
  ·rw [if_pos (by omega)] at x; omega
 ·by_cases eb:b=0
  ·rw [if_neg (by omega)] at x
   rw [h3 eb,h6 x]
  ·rw [if_pos (by omega)] at x; omega
theorem TC.zero:TC 0 0 0:=⟨fun h=>by omega,fun _=>rfl,fun _=>rfl⟩
theorem TC.int (a b c:Int):TC (mC a b) (mC b c) (mC a c):=by
 have h1:=gF a b
 have h2:=gF b c
 have h3:=gF a c
 exact ⟨fun _ _=>by omega,fun _=>by omega,fun _=>by omega⟩
theorem TC.str (a b c:ByteArray):TC (eJ a b) (eJ b c) (eJ a c):=by
 refine ⟨fun x y=>?_,fun x=>?_,fun x=>?_⟩
 ·rcases eX a b with h|h|h
  ·rcases eX b c with h'|h'|h'
   ·have:=yt _ _ _ h.1 h'.1
    unfold eJ
    rw [if_pos (show bls a c=true from this)]
   ·omega
   ·omega
  ·omega
  ·omega
 ·rcases eX a b with h|h|h
  ·omega
  ·omega
  ·rw [h.1]
 ·rcases eX b c with h|h|h
  ·omega
  ·omega
  ·rw [h.1]
theorem TC.hd (t u v:T):TC (hdC t u) (hdC u v) (hdC t v):=(TC.int _ _ _).lex ((TC.int _ _ _).lex ((TC.int _ _ _).lex (TC.str _ _ _)))
mutual
theorem TC.term:∀ t u v:T,TC (tN t u) (tN u v) (tN t v)
 | .mk k n s ks,.mk k' n' s' ks',v=>by
  rw [tN,tN,tN]
  exact (TC.hd _ _ _).lex (TC.list ks ks' v.kids)
theorem TC.list:∀ t u v:List T,TC (fQ t u) (fQ u v) (fQ t v)
 | [],[],[]=>by simpa [fQ] using TC.zero
 | [],[],_::_=>by rw [fQ,fQ]; exact ⟨fun h=>by omega,fun _=>rfl,fun h=>by omega⟩
 | [],_::_,[]=>by rw [fQ,fQ,fQ]; exact ⟨fun _ h=>by omega,fun h=>by omega,fun h=>by omega⟩
 | [],_::_,_::_=>by rw [fQ,fQ]; exact ⟨fun h _=>h,fun h=>by omega,fun h=>rfl⟩
 | _::_,[],[]=>by rw [fQ,fQ]; exact ⟨fun h _=>h,fun h=>by omega,fun h=>rfl⟩
 | _::_,[],_::_=>by rw [fQ,fQ]; exact ⟨fun h _=>by omega,fun h=>by omega,fun h=>by omega⟩
 | _::_,_::_,[]=>by rw [fQ,fQ]; exact ⟨fun _ h=>by omega,fun h=>rfl,fun h=>by omega⟩
 | t::ts,u::us,v::vs=>by
  rw [fQ,fQ,fQ]
  exact (TC.term t u v).lex (TC.list ts us vs)
end
theorem nD (a b:Int):-(ww a b)=ww (-a) (-b):=by
 unfold ww
 by_cases h:a=0
 ·subst h; simp
 ·rw [if_pos h,if_pos (by omega)]
theorem qd (a b:Int):mC b a=-mC a b:=by
 have:=gF a b
 have:=gF b a
 omega
theorem BX (a b:ByteArray):eJ b a=-eJ a b:=by
 rcases eX a b with h|h|h
 ·rw [h.2]
  have:=Lg h.1
  unfold eJ
  rw [this,if_neg (by decide),if_pos h.1]; rfl
 ·rw [h.2.2]
  unfold eJ
  rw [if_pos h.1]
 ·rw [h.2]
  obtain rfl:=h.1
  rw [h.2]; rfl
theorem KF (t u:T):hdC u t=-hdC t u:=by
 rw [hdC,hdC,nD,nD,nD,qd (rkS t),qd t.n,qd t.kids.length,BX t.name]
mutual
theorem AZ:∀ t u:T,tN u t=-tN t u
 | .mk k n s ks,.mk k' n' s' ks'=>by
  rw [tN,tN,nD,KF (.mk k n s ks)]
  congr 1
  exact BB ks ks'
theorem BB:∀ t u:List T,fQ u t=-fQ t u
 | [],[]=>by simp [fQ]
 | [],_::_=>by simp [fQ]
 | _::_,[]=>by simp [fQ]
 | t::ts,u::us=>by rw [fQ,fQ,nD,AZ t u,BB ts us]
end
theorem Jq (t:T):tN t t=0:=by
 have:=AZ t t
 omega
def Sorted:List T->Prop
 | []=>True
 | x::xs=>(∀ y∈xs,tN x y<0)/\Sorted xs
theorem Sorted.nodup:∀ {l:List T},Sorted l->l.Nodup
 | [],_=>List.nodup_nil
 | x::xs,h=>by
  rw [List.nodup_cons]
  refine ⟨fun hx=>?_,Sorted.nodup h.2⟩
  have:=h.1 x hx
  rw [Jq] at this
  omega
end
section
open Go Go.RowKit
section
variable {P:Program} {w:World} {K:Value->World->Prop}
attribute [local irreducible] Run
end
section
attribute [local irreducible] Run CondV ao aI
end
end
section
open Go Go.RowKit
section
attribute [local irreducible] Run CondV ao aI
end
end
section
open Go Go.RowKit
def H7:T:=.mk 0 0 ⟨#[]⟩ []
theorem RdT.zero (S:ad):RdT S lN H7:=RdT.iff.2 ⟨_,rfl,by simp [inI,T.kind,H7],by simp [inI,T.n,H7],by rw [H7,T.name]; decide +kernel,none,0,rfl,Nat.le_refl _,Nat.zero_le _,.inl rfl⟩
def KRel (S:ad) (cs:List Value) (o:Option T):Prop:=cs.length=4/\(o=none->cs=lN)/\∀ t,o=some t->RdT S cs t
theorem KRel.one {S:ad} {cs:List Value} {o:Option T} (h:KRel S cs o):∀ u∈cs,u.oneCell'=true:=by
 cases o with
 | none=>rw [h.2.1 rfl]; simp [lN,Value.oneCell']
 | some t=>exact (h.2.2 t rfl).one
theorem KnownC.rd {S:ad} {kb kp:Nat} {kc:Array Value} {st:ah} {E:TypeId} (hS:S kb=some (.cells kc E)) (h:KnownC S kc st) (hst:st.length=26) (hkp:26<=kp) (hkm:kp<=maxLen):RdSl S 4 (KRel S) (kvn kb kp) st:=by
 refine ⟨some ⟨kb,0,none⟩,kp,by rw [hst],by omega,hkm,.inr ⟨kb,0,kc,E,(0,0),rfl,hS,fun i hi=>?_⟩⟩
 obtain ⟨h1,h2⟩:=h.2 i hi
 rw [Nat.zero_add]
 refine ⟨?_,h1,h2⟩
 have:=h.1
 rw [aV,List.length_take,List.length_drop,Array.length_toList]
 omega
section
attribute [local irreducible] Run CondV ao aI
theorem KnownC.mono {S S':ad} {kc:Array Value} {st:ah} (h:KnownC S kc st) (hs:Sle S S'):KnownC S' kc st:=
 ⟨h.1,fun i hi=>⟨(h.2 i hi).1,fun t ht=>((h.2 i hi).2 t ht).mono hs⟩⟩
end
end
section
open Go Go.RowKit
mutual
def Ao (φ:Int->T):T->T
 | .mk k n s ks=>if k=1 then φ n else .mk k n s (qZ φ ks)
def qZ (φ:Int->T):List T->List T
 | []=>[]
 | t::ts=>Ao φ t::qZ φ ts
end
theorem oX (φ:Int->T):∀ ts:List T,qZ φ ts=ts.map (Ao φ)
 | []=>rfl
 | t::ts=>by rw [qZ,oX φ ts]; rfl
theorem HL (φ:Int->T) (ks:List T) (j:Nat) (h:j<ks.length):qZ φ (ks.take (j+1))=qZ φ (ks.take j)++[Ao φ ks[j]]:=by
 rw [oX,oX,List.take_succ_eq_append_getElem h,List.map_append]; rfl
def Fun (f:FuncId) (cap:List Value) (S:ad) (φ:Int->T):Prop:=∀ S',Sle S S'->∀ n:Int,0<=n->n<=25->∃ cs,RdT S' cs (φ n)/\Pure Tryz.prog f (.int .i64 n::cap) S' (.agg cs.toArray)
theorem Fun.mono {f:FuncId} {cap:List Value} {S S':ad} {φ:Int->T} (h:Fun f cap S φ) (hs:Sle S S'):Fun f cap S' φ:=fun S2 h2=>h S2 (hs.trans h2)
abbrev O0 (t:T):Value->List Item->ad->Prop:=fun v I' S'=>I'=[]/\∃ cs,v=.agg cs.toArray/\RdT S' cs t
section
attribute [local irreducible] Run CondV ao aI
theorem xB {f:FuncId} {fn:Func} (cap:List Value) (φ:Int->T) (hf:Tryz.prog.funcs[f]?=some fn) (hn:(fn.name == "runtime.NumGoroutine" || fn.body.isNone)=false) :
  ∀ (t:T) (S:ad) (cs:List Value),RdT S cs t->okV t->wT t<=1048576->Fun f cap S φ->Tri Tryz.prog mV [.agg cs.toArray,fv f cap] [] S (O0 (Ao φ t)):=by
 refine T.ind fun k n s ks ih S cs h hv hw hφ=>?_
 intro w hI
 obtain ⟨kv,rfl,h1,h2,hs,hks⟩:=RdT.iff.1 h
 simp only [T.name,T.kids,T.kind,T.n] at h1 h2 hs hks ⊢
 simp only [wT] at hw
 rw [okV] at hv
 have hvk:=hv.2
 refine g7.2 ?_
 dsimp only[g7,aR]
 refine bl hI fun b2 w' hI=>?_
 refine aL hI aW fun b4 w' hI=>?_
 refine ae hI 0 rfl aP aF rfl ?_
 refine ba ?_
 rw [Ao]
 refine aH (fun hk1=>?_) (fun hk1=>?_)
 ·rw [if_pos hk1]
  obtain ⟨hn0,hn25⟩:=hv.1 hk1
  refine ae hI 0 rfl bb aF rfl ?_
  obtain ⟨ds,hds,hp⟩:=hφ S (Sle.refl S) n hn0 hn25
  refine Run.callVPure hf hn hI hp fun w' hI=>?_
  refine au hI 1 rfl ac (by simpa using hds.length) rfl (by simpa using hds.one) fun w' hI=>?_
  refine be hI 1 ac rfl (by simpa using hds.length) ?_
  exact ⟨_,_,_,rfl,hI.pick [false,false],Ext.refl _ _ _,rfl,ds,rfl,hds⟩
 rw [if_neg hk1]
 refine ae hI 0 rfl ar aj rfl ?_
 refine cq hI 0 rfl ar aj rfl rfl rfl fun w' hI=>?_
 refine aD hks ag ?_
 have hI:Inv w [] [.blk b4 (.cells #[.int .i64 0,.int .i64 0,.string ⟨#[]⟩,.slice none 0 0] ab),.blk b2 (.cells #[.int .i64 k,.int .i64 n,.string s,.slice none 0 0] ab)] S w':=hI.perm (List.Perm.swap _ _ _)
 have hI:=hI.rowNil ab 4
 refine ⟨fun i w'=>∃ (j:Nat) (kvc:Value) (css:List (List Value)) (S1:ad),j<=ks.length/\i=.int .i64 j/\Ext w.heap.size [] S S1/\Rows 4 (RdT S1) css (qZ φ (ks.take j))/\
   Inv w [] [.blk b4 (.cells #[.int .i64 0,.int .i64 0,.string ⟨#[]⟩,.slice none 0 0] ab),.blk b2 (.cells #[.int .i64 k,.int .i64 n,.string s,kvc] ab),aB kvc ab 4 css] S1 w',
  fun i _=>ks.length - (intOf i).toNat,⟨0,_,[],S,Nat.zero_le _,rfl,Ext.refl _ _ _,Rows.nil _ _,hI⟩,?_⟩
 intro t20 _ _ _ _ _ _ _ _ _ _ _ _ _ w'
 rintro ⟨j,kvc,css,S1,hj,rfl,hE,hg,hI⟩
 refine bC ?_
 refine aH (fun hji=>?_) (fun hji=>?_)
 ·have hj':j<ks.length:=by omega
  have hjl:(ks.take j).length=j:=by simp; omega
  have hcl:=hg.hc
  rw [oX,List.length_map] at hcl
  have hm:=List.getElem_mem hj'
  have hwm:=gO hm
  refine bM hI (hks.monoT hE.1) ag ac hj' (fun _ _=>RdT.length) fun cs0 hcs0=>?_
  refine aL hI aW fun b7 w' hI=>?_
  have hI:=hI.perm (M:=.blk b7 _::[.blk b4 (.cells #[.int .i64 0,.int .i64 0,.string ⟨#[]⟩,.slice none 0 0] ab),.blk b2 (.cells #[.int .i64 k,.int .i64 n,.string s,kvc] ab),aB kvc ab 4 css]) (List.perm_append_comm (l₁:=[_]))
  refine au hI 0 rfl ac (by simpa using hcs0.length) rfl (by simpa using hcs0.one) fun w' hI=>?_
  refine ⟨fun D DM kL wR iC vG mu eH mw w_=>Fx D 0 [mw=.pointer (some ⟨b2,3,none⟩),eH=kvc,mu=.agg cs0.toArray,vG=fv f cap,True,True,True,DM=.pointer (some ⟨b2,3,none⟩),True]/\∃ SN cs7 b8,Ext w.heap.size [] S1 SN/\(D 4=true->iC=.agg cs7.toArray/\RdT SN cs7 (Ao φ ks[j]))/\(D 5=true->wR=.slice (some ⟨b8,0,none⟩) 1 1)/\(D 5=true->D 4=true)/\(D 6=true->D 5=true)/\(D 8=true->D 6=true)/\(D 8=true->D 1=true)/\Inv w [] (aU (.blk b7 (.cells cs0.toArray ab)) (.blk b4 (.cells #[.int .i64 0,.int .i64 0,.string ⟨#[]⟩,.slice none 0 0] ab)) (.blk b2 (.cells #[.int .i64 k,.int .i64 n,.string s,kvc] ab)) (.blk b2 (.cells #[.int .i64 k,.int .i64 n,.string s,kL] ab)) (aB kvc ab 4 css) (aB kL ab 4 (css++[cs7])) [] [] (.blk b8 (.cells cs7.toArray ab)) false (D 5) (D 6) (D 8)) SN w_,⟨Fx.nil _ _,⟨S1,[],0,Ext.refl _ _ _,aM,aM,aM,aM,aM,aM,by simpa [aU] using hI.draw⟩⟩,⟨?_,?_,?_,?_,?_,?_,?_,?_,?_,trivial⟩,?_⟩
  all_goals (intro D bv; intros; rename_i DM kL wR iC vG mu eH mw w_ hA_; have hF_:=hA_.1; obtain ⟨⟨ci,cd,cj,cc,cm,cr,bO,cR,dt,_⟩,⟨SN,cs7,b8,hN,e7,e8,k8,k9,k11,k1,hI⟩⟩:=hA_)
  ·refine aA ar ?_
   exact ⟨hF_.set 0 rfl,⟨SN,cs7,b8,hN,e7,e8,k8,k9,k11,k1,hI⟩⟩
  ·obtain rfl:=ci ‹_›
   have f11:D 8=false:=Bool.eq_false_iff.2 fun h=>by rw [k1 h] at bv; cases bv
   refine aT (b:=b2) hI 2 (c:=(#[.int .i64 k,.int .i64 n,.string s,kvc])) aj (by rw [f11]; rfl) rfl ?_
   have k1:=fun (_:az D 1 8=true)=>(rfl:az D 1 1=true)
   exact ⟨hF_.set 1 rfl,⟨SN,cs7,b8,hN,e7,e8,k8,k9,k11,k1,hI⟩⟩
  ·refine aw hI 0 ac rfl (by simpa using hcs0.length) ?_
   exact ⟨hF_.set 2 rfl,⟨SN,cs7,b8,hN,e7,e8,k8,k9,k11,k1,hI⟩⟩
  ·exact ⟨hF_.set 3 rfl,⟨SN,cs7,b8,hN,e7,e8,k8,k9,k11,k1,hI⟩⟩
  ·obtain rfl:=cj ‹_›
   obtain rfl:=cc ‹_›
   have f8:D 5=false:=Bool.eq_false_iff.2 fun h=>by rw [k8 h] at bv; cases bv
   have f9:D 6=false:=Bool.eq_false_iff.2 fun h=>by rw [k9 h] at f8; cases f8
   have f11:D 8=false:=Bool.eq_false_iff.2 fun h=>by rw [k11 h] at f9; cases f9
   rw [f8,f9,f11] at hI
   refine Run.callE (I:=[]) fK fB (by simpa using hI) (ih _ (List.getElem_mem hj') SN cs0 (hcs0.mono hN.1) (DR hvk _ (List.getElem_mem hj')) (by omega) ((hφ.mono hE.1).mono hN.1)) fun v' I' SN w_=>?_
   rintro ⟨rfl,cs7,rfl,hT⟩ hE2 hI
   have hN:=hN.trans hE2
   have e7:az D 4 4=true->Value.agg cs7.toArray=Value.agg cs7.toArray/\RdT SN cs7 (Ao φ ks[j]):=fun _=>⟨rfl,hT⟩
   have k8:=fun (_:az D 4 5=true)=>(rfl:az D 4 4=true)
   have hI:Inv w [] (aU (.blk b7 (.cells cs0.toArray ab)) (.blk b4 (.cells #[.int .i64 0,.int .i64 0,.string ⟨#[]⟩,.slice none 0 0] ab)) (.blk b2 (.cells #[.int .i64 k,.int .i64 n,.string s,kvc] ab)) (.blk b2 (.cells #[.int .i64 k,.int .i64 n,.string s,kL] ab)) (aB kvc ab 4 css) (aB kL ab 4 (css++[cs7])) [] [] (.blk b8 (.cells cs7.toArray ab)) false (D 5) (D 6) (D 8)) SN w_:=by
    rw [f8,f9,f11]
    simpa [aU] using hI
   exact ⟨hF_.set 4 (by first|assumption|trivial),⟨SN,cs7,b8,hN,e7,e8,k8,k9,k11,k1,hI⟩⟩
  ·have Ej:=cm ‹_›
   have f9:D 6=false:=Bool.eq_false_iff.2 fun h=>by rw [k9 h] at bv; cases bv
   have f11:D 8=false:=Bool.eq_false_iff.2 fun h=>by rw [k11 h] at f9; cases f9
   obtain ⟨q7,hT⟩:=e7 ‹D 4=true›
   subst q7
   rw [bv,f9,f11] at hI
   refine du hI bo (by simp [Value.cells,hT.length]) (by omega) (by omega) fun b8 w_ hI=>?_
   have e7:az D 5 4=true->Value.agg cs7.toArray=Value.agg cs7.toArray/\RdT SN cs7 (Ao φ ks[j]):=fun _=>⟨rfl,hT⟩
   have e8:=fun (_:az D 5 5=true)=>(rfl:Value.slice (some ⟨b8,0,none⟩) 1 1=_)
   have k8:=fun (_:az D 5 5=true)=>‹D 4=true›
   have k9:=fun (_:az D 5 6=true)=>(rfl:az D 5 5=true)
   have hI:Inv w [] (aU (.blk b7 (.cells cs0.toArray ab)) (.blk b4 (.cells #[.int .i64 0,.int .i64 0,.string ⟨#[]⟩,.slice none 0 0] ab)) (.blk b2 (.cells #[.int .i64 k,.int .i64 n,.string s,kvc] ab)) (.blk b2 (.cells #[.int .i64 k,.int .i64 n,.string s,kL] ab)) (aB kvc ab 4 css) (aB kL ab 4 (css++[cs7])) [] [] (.blk b8 (.cells cs7.toArray ab)) false true (D 6) (D 8)) SN w_:=by
    rw [f9,f11]
    simpa [aU,Value.cells] using hI
   exact ⟨hF_.set 5 (by first|assumption|trivial),⟨SN,cs7,b8,hN,e7,e8,k8,k9,k11,k1,hI⟩⟩
  ·obtain rfl:=cd ‹_›
   have IZ:=cr ‹_›
   have f11:D 8=false:=Bool.eq_false_iff.2 fun h=>by rw [k11 h] at bv; cases bv
   have q8:=e8 ‹D 5=true›
   subst q8
   obtain ⟨_,hT⟩:=e7 ‹D 4=true›
   rw [‹D 5=true›,bv,f11] at hI
   have hblk:((aU (.blk b7 (.cells cs0.toArray ab)) (.blk b4 (.cells #[.int .i64 0,.int .i64 0,.string ⟨#[]⟩,.slice none 0 0] ab)) (.blk b2 (.cells #[.int .i64 k,.int .i64 n,.string s,eH] ab)) (.blk b2 (.cells #[.int .i64 k,.int .i64 n,.string s,kL] ab)) (aB eH ab 4 css) (aB kL ab 4 (css++[cs7])) [] [] (.blk b8 (.cells cs7.toArray ab)) false true false false))[4]?=some (.blk b8 (.cells cs7.toArray ab)):=rfl
   refine cN hI 3 cs7 bo (by omega) rfl (by rw [hT.length]) (m:=1) (o:=0) ?_ hT.one (by omega) (by omega) fun v' w_ hI=>?_
   ·intro i u hi
    rw [hI.cellL hblk,Nat.zero_add]
    simpa using hi
   rw [dJ] at hI
   have k9:=fun (_:az D 6 6=true)=>‹D 5=true›
   have k11:=fun (_:az D 6 8=true)=>(rfl:az D 6 6=true)
   have hI:Inv w [] (aU (.blk b7 (.cells cs0.toArray ab)) (.blk b4 (.cells #[.int .i64 0,.int .i64 0,.string ⟨#[]⟩,.slice none 0 0] ab)) (.blk b2 (.cells #[.int .i64 k,.int .i64 n,.string s,eH] ab)) (.blk b2 (.cells #[.int .i64 k,.int .i64 n,.string s,v'] ab)) (aB eH ab 4 css) (aB v' ab 4 (css++[cs7])) [] [] (.blk b8 (.cells cs7.toArray ab)) false (D 5) true (D 8)) SN w_:=by
    rw [‹D 5=true›,f11]
    exact hI
   exact ⟨hF_.set 6 (by first|assumption|trivial),⟨SN,cs7,b8,hN,e7,e8,k8,k9,k11,k1,hI⟩⟩
  ·refine aA ar ?_
   exact ⟨hF_.set 7 rfl,⟨SN,cs7,b8,hN,e7,e8,k8,k9,k11,k1,hI⟩⟩
  ·obtain rfl:=cR ‹_›
   have Jc:=bO ‹_›
   rw [‹D 5=true›,‹D 6=true›,bv] at hI
   obtain ⟨va,vn,vc,hv9⟩:=Inv.rowSlice hI 3 rfl
   refine cB hI 2 (n:=1) (by rw [hv9]; rfl) (by decide +kernel) rfl (by simp) (by rw [hv9]; simp [Value.cells,Value.oneCell']) fun w_ hI=>?_
   have hcl9:Value.cells kL=#[kL]:=by rw [hv9]; rfl
   rw [hcl9] at hI
   have k1:=fun (_:az D 8 8=true)=>‹D 1=true›
   have k11:=fun (_:az D 8 8=true)=>‹D 6=true›
   have hI:Inv w [] (aU (.blk b7 (.cells cs0.toArray ab)) (.blk b4 (.cells #[.int .i64 0,.int .i64 0,.string ⟨#[]⟩,.slice none 0 0] ab)) (.blk b2 (.cells #[.int .i64 k,.int .i64 n,.string s,kvc] ab)) (.blk b2 (.cells #[.int .i64 k,.int .i64 n,.string s,kL] ab)) (aB kvc ab 4 css) (aB kL ab 4 (css++[cs7])) [] [] (.blk b8 (.cells cs7.toArray ab)) false (D 5) (D 6) true) SN w_:=by
    rw [‹D 5=true›,‹D 6=true›]
    exact hI
   exact ⟨hF_.set 8 trivial,⟨SN,cs7,b8,hN,e7,e8,k8,k9,k11,k1,hI⟩⟩
  obtain ⟨rfl,rfl,rfl,rfl,Ej,IZ,Jc,rfl,_,_⟩:=hF_.all
  have N3:D 4=true:=by assumption
  have Lz:D 5=true:=by assumption
  have IB:D 6=true:=by assumption
  have KW:D 8=true:=by assumption
  clear hF_ ci cd cj cc cm cr bO cR dt
  obtain ⟨_,hT⟩:=e7 N3
  rw [Lz,IB,KW] at hI
  refine bi (by omega) ?_
  refine ⟨⟨j+1,kL,css++[cs7],SN,hj',rfl,hE.trans hN,?_,?_⟩,by simp [intOf]; omega⟩
  ·rw [HL φ ks j hj']
   exact (Rows.monoR hg fun _ _ h=>h.mono hN.1).snoc hT hT.length
  ·refine hI.sub ?_
   simp only [aU]
   exact ((((List.nil_sublist _).cons_cons _).cons_cons _).cons_cons _).cons _
 ·have:j=ks.length:=by omega
  subst this
  rw [List.take_length] at hg
  obtain ⟨va,vn,vc,hvk'⟩:=hI.rowSlice 2 rfl
  have hv1:kvc.oneCell'=true:=by rw [hvk']; rfl
  refine aw hI 1 ac rfl rfl ?_
  refine au hI 0 rfl ac rfl rfl ?_ fun w' hI=>?_
  ·intro u hu
   have hu':u∈([.int .i64 k,.int .i64 n,.string s,kvc]:List Value):=hu
   simp at hu'
   rcases hu' with rfl|rfl|rfl|rfl <;> first|rfl|exact hv1
  refine be hI 0 ac rfl rfl ?_
  have hI:Inv w [] ([]++[aB kvc ab 4 css]) S1 w':=hI.sub (List.sublist_append_right [_,_] _)
  obtain ⟨S2,hE2,hrd,hI⟩:=hI.lendExt
  exact ⟨_,_,_,rfl,hI,hE.trans hE2,rfl,_,rfl,RdT.iff.2 ⟨kvc,rfl,h1,h2,hs,(RowRd.rows hg hrd).mono (Sle.refl _) fun _ _ h=>h.mono hE2.1⟩⟩
end
end
section
open Go Go.RowKit
mutual
theorem Cw:∀ t:T,okU 26 t->okV t
 | .mk k n s ks,h=>by
  rw [okU] at h
  rw [okV]
  exact ⟨fun hk=>by have:=h.2.1 hk; omega,Fd ks h.2.2.1⟩
theorem Fd:∀ ts:List T,cD 26 ts->y9 ts
 | [],_=>by rw [y9]; trivial
 | t::ts,h=>by
  rw [cD] at h
  rw [y9]
  exact ⟨Cw t h.1,Fd ts h.2⟩
end
section
attribute [local irreducible] Run CondV ao aI
theorem Cc {K:Value->World->Prop} {w:World} {mb:Nat} (hk:K (.agg #[.map (some mb),.slice none 0 0]) w):Run Tryz.prog (bJ bT [(0,.map (some mb))]) w K:=by
 refine Run.of (v:=.agg #[.map (some mb),.slice none 0 0]) (w':=w) ?_ hk
 unfold bJ
 rw [Sem.run_bind,run_build w bT _ #[.map (some mb),.slice none 0 0] (by kernel_rfl),Result.andThen_ok]
 rfl
theorem yT (S:ad):Tri Tryz.prog Cv [] [] S fun r I' S'=>S'=S/\∃ sb mb,r=.pointer (some ⟨sb,0,none⟩)/\I'=aq sb mb #[] 0 (.slice none 0 0) []:=by
 intro w hI
 have hI:Inv w [] [] S w:=hI
 refine pq.2 ?_
 dsimp only[pq,l8]
 refine A6 hI fun mb w' hI=>?_
 refine Cc ?_
 refine bl hI fun sb w' hI=>?_
 have hI:=hI.rowNil bG 1
 have hI:Inv w [] (aq sb mb #[] 0 (.slice none 0 0) []) S w':=hI.perm (List.Perm.swap ..)
 exact ⟨_,_,_,rfl,hI,Ext.refl _ _ _,rfl,sb,mb,rfl,rfl⟩
theorem KnownM.none (S:ad) (N:Nat):KnownM S #[] (List.replicate N Option.none):=by
 refine ⟨fun e he=>by simp at he,fun n t h=>?_,by simp⟩
 have:=List.mem_of_getElem? h
 simp at this
end
end
section
open Go Go.RowKit
def PO:ah:=List.replicate 26 none
theorem yJ:∀ n:Nat,unb (List.replicate n none)=n
 | 0=>rfl
 | n+1=>by rw [List.replicate_succ,unb,yJ n]
theorem Bw (N:Nat):Good N (List.replicate N none):=⟨by simp,fun t ht=>by simp at ht,fun t ht=>by simp at ht,fun n=>n,fun n u hu=>by
 have:=List.mem_of_getElem? hu
 simp at this⟩
theorem KnU.zero (z:Array Value) (hz:z=#[.int .i64 0,.int .i64 0,.string ⟨#[]⟩,.slice none 0 0]) (S:ad) (N:Nat):KnU S ((Array.range (N * 4)).map (z[· % z.size]!)) (List.replicate N none):=by
 subst hz
 refine ⟨by simp,fun i hi=>⟨fun _=>?_,fun t ht=>?_⟩⟩
 ·simp only [List.length_replicate] at hi
  apply List.ext_getElem?
  intro j
  rw [aV,List.getElem?_take]
  match j with
  | 0|1|2|3=>
   rw [if_pos (by omega),List.getElem?_drop,Array.getElem?_toList,Array.getElem?_map,Array.getElem?_range,if_pos (by omega)]
   simp only [Option.map_some,List.size_toArray,List.length_cons,List.length_nil]
   first
    | rw [show (i * 4+0) % 4=0 by omega]; rfl
    | rw [show (i * 4+1) % 4=1 by omega]; rfl
    | rw [show (i * 4+2) % 4=2 by omega]; rfl
    | rw [show (i * 4+3) % 4=3 by omega]; rfl
  | j+4=>
   rw [if_neg (by omega)]
   rfl
 ·have e:(List.replicate N (none:Option T))[i]=none:=by simp
  rw [e] at ht
  cases ht
def Of (code:Int) (st:ah):Bool:=decide (code=0) && st.all Option.isNone
section
variable {w:World} {K:Value->World->Prop}
attribute [local irreducible] Run CondV ao aI
end
end
section
open Go Go.RowKit
structure Ch where
 goal:T
 rest:List (T × Int)
 left:List Int
 binds:ah
structure St6 where
 goals:List (T × Int)
 binds:ah
 chs:List Ch
def RdCh (S:ad) (cs:List Value) (c:Ch):Prop:=∃ hd g l b,cs=hd++[g,l,b]/\RdT S hd c.goal/\RdSl S 5 (RdG S) g c.rest/\RdSl S 1 jW l c.left/\RdSl S 4 (RdO S) b c.binds
theorem RdSl.sl {α:Type} {S:ad} {k:Nat} {R:List Value->α->Prop} {v:Value} {xs:List α} (h:RdSl S k R v xs):v.oneCell'=true:=by
 obtain ⟨a,m,rfl,_⟩:=h; rfl
theorem RdSl.monoO {S S':ad} {v:Value} {st:ah} (hs:Sle S S') (h:RdSl S 4 (RdO S) v st):RdSl S' 4 (RdO S') v st:=h.mono hs fun _ _=>RdO.mono hs
theorem RdCh.length {S:ad} {cs:List Value} {c:Ch} (h:RdCh S cs c):cs.length=7:=by
 obtain ⟨hd,g,l,b,rfl,h,_⟩:=h; simp [h.length]
theorem RdCh.one {S:ad} {cs:List Value} {c:Ch} (h:RdCh S cs c):∀ u∈cs,u.oneCell'=true:=by
 obtain ⟨hd,g,l,b,rfl,h,h1,h2,h3⟩:=h
 intro u hu
 rcases List.mem_append.1 hu with hu|hu
 ·exact h.one u hu
 ·simp only [List.mem_cons,List.not_mem_nil,or_false] at hu
  rcases hu with rfl|rfl|rfl
  ·exact h1.sl
  ·exact h2.sl
  ·exact h3.sl
theorem RdCh.mono {S S':ad} {cs:List Value} {c:Ch} (hs:Sle S S') (h:RdCh S cs c):RdCh S' cs c:=by
 obtain ⟨hd,g,l,b,rfl,h,h1,h2,h3⟩:=h
 exact ⟨hd,g,l,b,rfl,h.mono hs,h1.monoG hs,h2.mono hs fun _ _ h=>h,h3.monoO hs⟩
theorem RdSl.monoCh {S S':ad} {v:Value} {cs:List Ch} (hs:Sle S S') (h:RdSl S 7 (RdCh S) v cs):RdSl S' 7 (RdCh S') v cs:=h.mono hs fun _ _=>RdCh.mono hs
def RdS6 (S:ad) (cs:List Value) (s:St6):Prop:=∃ g b c,cs=[g,b,c]/\RdSl S 5 (RdG S) g s.goals/\RdSl S 4 (RdO S) b s.binds/\RdSl S 7 (RdCh S) c s.chs
theorem RdS6.length {S:ad} {cs:List Value} {s:St6} (h:RdS6 S cs s):cs.length=3:=by
 obtain ⟨g,b,c,rfl,_⟩:=h; rfl
theorem RdS6.one {S:ad} {cs:List Value} {s:St6} (h:RdS6 S cs s):∀ u∈cs,u.oneCell'=true:=by
 obtain ⟨g,b,c,rfl,h1,h2,h3⟩:=h
 intro u hu
 simp only [List.mem_cons,List.not_mem_nil,or_false] at hu
 rcases hu with rfl|rfl|rfl
 ·exact h1.sl
 ·exact h2.sl
 ·exact h3.sl
theorem RdS6.mono {S S':ad} {cs:List Value} {s:St6} (hs:Sle S S') (h:RdS6 S cs s):RdS6 S' cs s:=by
 obtain ⟨g,b,c,rfl,h1,h2,h3⟩:=h
 exact ⟨g,b,c,rfl,h1.monoG hs,h2.monoO hs,h3.monoCh hs⟩
section
variable {w:World} {K:Value->World->Prop}
attribute [local irreducible] Run
end
section
attribute [local irreducible] Run CondV ao aI
end
end
end Go.Proofs.YtcpgagfdeflbkaaGreatDoor
