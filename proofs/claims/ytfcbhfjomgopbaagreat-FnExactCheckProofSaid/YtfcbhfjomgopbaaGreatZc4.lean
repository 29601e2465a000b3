/- spec: resolved terms, if they are small. -/
import Derived.Test.YtfcbhfjomgopbaaGreatZc3
import Derived.Test.YtfcbhfjomgopbaaGreatZc1
import Derived.Test.YtfcbhfjomgopbaaGreatZc2
import Derived.Test.YtfcbhfjomgopbaaGreatZc0
import Derived.Test.YtfcbhfjomgopbaaGreatZcF
namespace Go.Proofs.YtfcbhfjomgopbaaGreat
open Go Go.RowKit
mutual
def Dd:T->Int->Bool
 | .mk _ _ _ ks,d=>if d<1 then false else CH ks (d - 1)
def CH:List T->Int->Bool
 | [],_=>true
 | t::ts,d=>Dd t d && CH ts d
end
theorem vH:∀ (ts:List T) (d:Int),CH ts d=ts.all fun t=>Dd t d
 | [],_=>rfl
 | t::ts,d=>by rw [CH,vH ts d]; rfl
def l6 (u:T):Bool:=decide (dk u<=120) && Dd u 30
theorem xR (us:List T) (j:Nat) (h:j<us.length):cJ (us.take (j+1))=cJ (us.take j)+dk us[j]:=by
 induction us generalizing j with
 | nil=>simp at h
 | cons u us ih=>
  cases j with
  | zero=>simp only [List.take_succ_cons,List.take_zero,List.getElem_cons_zero,cJ]; omega
  | succ j=>
   have:=ih j (by simpa using h)
   simp only [List.take_succ_cons,List.getElem_cons_succ,cJ] at *
   omega
theorem oP (us:List T) (j:Nat):cJ (us.take j)<=cJ us:=by
 induction us generalizing j with
 | nil=>simp
 | cons u us ih=>
  cases j with
  | zero=>simp only [List.take_zero]; exact dH _
  | succ j=>
   have:=ih j
   simp only [List.take_succ_cons,cJ]
   omega
theorem i0 (k n:Int) (s:ByteArray) (ks:List T):dk (.mk k n s ks)=1+cJ ks:=rfl
theorem kC {w:World} {v:Value} {e:TypeId} {k n:Nat} {xs:List Value} (h:(Item.row v e k n xs).holds w):v.cells=#[v]/\v.oneCell'=true:=by
 have h:w.ownsRow 0 e k v n xs:=h
 rcases h.2 with ⟨rfl,_⟩|⟨g,cap,cur,rfl,_⟩ <;> exact ⟨rfl,rfl⟩
section
attribute [local irreducible] Run CondV ak bg
theorem eW {K:Value->World->Prop} {w:World} (hk:K (.agg #[.int .i64 0,.int .i64 0,.string ⟨#[]⟩,.slice none 0 0]) w):Run Tryz.prog (dn ac []) w K:=by
 refine Run.of ?_ hk
 kernel_rfl
/- a tuple of a term and of how many nodes are left -/
def FU (kb:Nat) (kc:Array Value) (u:T) (room:Int):Value->List Item->ar->Prop:=fun q I' S'=>I'=[.blk kb (.cells kc ac)]/\
 ∃ cs':List Value,cs'.length=4/\(∀ x∈cs',x.oneCell'=true)/\q=.tuple #[.agg cs'.toArray,.int .i64 (if dk u<=room then room - dk u else -1)]/\(dk u<=room->RdT S' cs' u)
def FC (N kp:Nat) (st:a6) (t u:T):Prop:=∀ (S:ar) (cs:List Value) (kb:Nat) (kc:Array Value) (room:Int),RdT S cs t->KnU S kc st->-1<=room->room<=1000000->
 Tri Tryz.prog BK [.agg cs.toArray,kvU kb N kp,.int .i64 room] [.blk kb (.cells kc ac)] S (FU kb kc u room)
theorem jI:∀ x∈([.int .i64 0,.int .i64 0,.string ⟨#[]⟩,.slice none 0 0]:List Value),x.oneCell'=true:=by simp [Value.oneCell']
theorem AN {N kp:Nat} {st:a6} {t v:T} {us:List T} (hg:Good N st) (hwv:cK st t v) (hot:okU N t/\wT t<=1048576) (hlu:us.length=v.kids.length)
  (hk:∀ i (h:i<us.length) (h':i<v.kids.length),FC N kp st v.kids[i] us[i]):FC N kp st t (.mk v.kind v.n v.name us):=by
 intro S cs kb kc room h hkc hr0 hr1 w hI
 have hlc:=h.length
 have hov:=dp hg hwv hot
 obtain ⟨X,hX⟩:∃ X,X=bv [Item.blk kb (.cells kc ac)]:=⟨_,rfl⟩
 rw [<- hX] at hI ⊢
 have hcu:=dH us
 refine vM ?_
 unfold sP
 refine bt hI fun b3 w' hI=>?_
 refine bC hI bA fun b6 w' hI=>?_
 have hI:Inv w X ([.blk b3 (.cells cs.toArray ac),.blk b6 (.cells #[.int .i64 0,.int .i64 0,.string ⟨#[]⟩,.slice none 0 0] ac)]++[.blk kb (.cells kc ac)]) S w':=hI.perm (List.perm_append_comm (l₁:=[_,_]) (l₂:=[_]))
 refine bz ?_
 refine bf (fun hlt=>?_) (fun hlt=>?_)
 ·refine eW ?_
  refine bq hI 1 rfl al rfl rfl jI fun w' hI=>?_
  refine dJ hI 1 al rfl rfl ?_
  refine ⟨_,_,_,rfl,hI.pick [false,false,true],Ext.refl _ _ _,rfl,_,rfl,jI,?_,fun h=>?_⟩
  ·rw [i0,if_neg (by omega)]
  ·rw [i0] at h; omega
 refine a8 hI 0 al rfl (by simpa using hlc) ?_
 refine Run.call lP mx hI (kG hg hwv hot.1 h hkc) fun v' I' S' w'=>?_
 rintro ⟨eS,rfl,cs',rfl,hcs'⟩ _ hI
 rw [eS] at hI
 clear eS
 refine bq hI 0 rfl al (by simpa using hcs'.length) (by simpa using hlc) (by simpa using hcs'.one) fun w' hI=>?_
 obtain ⟨kv,rfl,hi1,hi2,hs,hks⟩:=RdT.iff.1 hcs'
 have hI:Inv w X [.blk b3 (.cells #[.int .i64 v.kind,.int .i64 v.n,.string v.name,kv] ac),.blk b6 (.cells #[.int .i64 0,.int .i64 0,.string ⟨#[]⟩,.slice none 0 0] ac),.blk kb (.cells kc ac)] S w':=hI
 have hlen:=hks.le
 have hkl:v.kids.length<=1048576:=by
  have:=hov.2
  cases v
  simp only [wT] at this
  simp only [T.kids]
  omega
 refine ah hI 0 rfl aU aR rfl ?_
 refine ah hI 0 rfl a9 aR rfl ?_
 refine ah hI 0 rfl bi bk rfl ?_
 refine rW ?_
 refine bC hI bA fun b8 w' hI=>?_
 have hI:Inv w X [.blk b3 (.cells #[.int .i64 v.kind,.int .i64 v.n,.string v.name,kv] ac),.blk b6 (.cells #[.int .i64 0,.int .i64 0,.string ⟨#[]⟩,.slice none 0 0] ac),.blk b8 _,.blk kb (.cells kc ac)] S w':=hI.perm (((List.perm_append_comm (l₁:=[_]) (l₂:=[_])).cons _).cons _)
 refine bq hI 2 rfl al rfl rfl (by simp [Value.oneCell']) fun w' hI=>?_
 refine jA (by omega) ?_
 have hI:=hI.rowNil ac 4
 have hI:Inv w X [.blk b3 (.cells #[.int .i64 v.kind,.int .i64 v.n,.string v.name,kv] ac),.blk b6 (.cells #[.int .i64 0,.int .i64 0,.string ⟨#[]⟩,.slice none 0 0] ac),.blk b8 (.cells #[.int .i64 v.kind,.int .i64 v.n,.string v.name,.slice none 0 0] ac),dL (.slice none 0 0) ac 4 [],.blk kb (.cells kc ac)] S w':=hI.perm ((((List.perm_append_comm (l₁:=[_]) (l₂:=[_])).cons _).cons _).cons _)
 refine ⟨fun i l w'=>∃ (j:Nat) (left:Int) (kvc:Value) (css:List (List Value)) (S1:ar),j<=us.length/\i=.int .i64 j/\l=.int .i64 left/\Ext w.heap.size X S S1/\css.length=j/\
   ((left=room - 1 - cJ (us.take j)/\0<=left/\Rows 4 (RdT S1) css (us.take j)) ∨ (left=-1/\room - 1<cJ us))/\
   Inv w X [.blk b3 (.cells #[.int .i64 v.kind,.int .i64 v.n,.string v.name,kv] ac),.blk b6 (.cells #[.int .i64 0,.int .i64 0,.string ⟨#[]⟩,.slice none 0 0] ac),.blk b8 (.cells #[.int .i64 v.kind,.int .i64 v.n,.string v.name,kvc] ac),dL kvc ac 4 css,.blk kb (.cells kc ac)] S1 w',
  fun i _ _=>us.length - (intOf i).toNat,⟨0,room - 1,_,[],S,Nat.zero_le _,rfl,rfl,Ext.refl _ _ _,rfl,.inl ⟨by simp [cJ],by omega,Rows.nil _ _⟩,hI⟩,?_⟩
 intro t10 _ _ t9 _ _ _ _ _ _ _ _ _ _ _ _ _ _ _ _ _ _ _ _ _ _ _ _ _ _ _ _ _ w'
 rintro ⟨j,left,kvc,css,S1,hj,rfl,rfl,hE,hcl,hst,hI⟩
 refine ⟨fun q w'=>q=.bool (decide (j<us.length/\0<=left))/\Inv w X [.blk b3 (.cells #[.int .i64 v.kind,.int .i64 v.n,.string v.name,kv] ac),.blk b6 (.cells #[.int .i64 0,.int .i64 0,.string ⟨#[]⟩,.slice none 0 0] ac),.blk b8 (.cells #[.int .i64 v.kind,.int .i64 v.n,.string v.name,kvc] ac),dL kvc ac 4 css,.blk kb (.cells kc ac)] S1 w',?_,?_⟩
 ·refine ah hI 0 rfl aP aO rfl ?_
  refine a5 hks aC ?_
  refine bz ?_
  by_cases e1:(j:Int)<(v.kids.length:Nat)
  ·rw [decide_eq_true e1]
   repeat (first|refine ab ?_|refine ad (by decide) ?_|refine aa ?_|refine af ?_|refine ag ?_)
   refine g5 ?_
   repeat (first|refine ab ?_|refine ad (by decide) ?_|refine aa ?_|refine af ?_|refine ag ?_)
   refine ⟨?_,hI⟩
   congr 1
   rw [Bool.eq_iff_iff,decide_eq_true_eq,decide_eq_true_eq]
   omega
  ·rw [decide_eq_false e1]
   repeat (first|refine ab ?_|refine ad (by decide) ?_|refine aa ?_|refine af ?_|refine ag ?_)
   refine ⟨?_,hI⟩
   rw [decide_eq_false (by omega)]
 intro q _ _ _ _ _ _ _ _ w'
 rintro ⟨rfl,hI⟩
 refine bf (fun hgo=>?_) (fun hgo=>?_)
 ·obtain ⟨hj1,hl0⟩:=hgo
  have hj2:j<v.kids.length:=by omega
  obtain ⟨hleft,_,hR⟩:left=room - 1 - cJ (us.take j)/\0<=left/\Rows 4 (RdT S1) css (us.take j):=by
   rcases hst with h1|⟨h1,_⟩
   ·exact h1
   ·omega
  have hpos:=dH (us.take j)
  refine ah hI 0 rfl aP aO rfl ?_
  refine cj hI (hks.monoT hE.1) aC al hj2 (fun _ _=>RdT.length) fun cs0 hcs0=>?_
  have hI:Inv w X ([.blk b3 (.cells #[.int .i64 v.kind,.int .i64 v.n,.string v.name,kv] ac),.blk b6 (.cells #[.int .i64 0,.int .i64 0,.string ⟨#[]⟩,.slice none 0 0] ac),.blk b8 (.cells #[.int .i64 v.kind,.int .i64 v.n,.string v.name,kvc] ac),dL kvc ac 4 css]++[.blk kb (.cells kc ac)]) S1 _:=hI
  refine Run.callE sa sR hI (hk j hj1 hj2 S1 cs0 kb kc left hcs0 (hkc.mono hE.1) (by omega) (by omega)) fun v' I' S2 w'=>?_
  rintro ⟨rfl,cs2,hl4,ho4,rfl,hrd⟩ hE2 hI
  refine be rfl ?_
  refine be rfl ?_
  refine bC hI bA fun b11 w' hI=>?_
  have hI:=hI.perm (M:=.blk b11 _::[.blk b3 (.cells #[.int .i64 v.kind,.int .i64 v.n,.string v.name,kv] ac),.blk b6 (.cells #[.int .i64 0,.int .i64 0,.string ⟨#[]⟩,.slice none 0 0] ac),.blk b8 (.cells #[.int .i64 v.kind,.int .i64 v.n,.string v.name,kvc] ac),dL kvc ac 4 css,.blk kb (.cells kc ac)]) (List.perm_append_comm (l₁:=[_]))
  refine bq hI 0 rfl al (by simpa using hl4) rfl (by simpa using ho4) fun w' hI=>?_
  refine ah (b:=b8) (c:=#[.int .i64 v.kind,.int .i64 v.n,.string v.name,kvc]) hI 3 rfl aP aO rfl ?_
  refine a8 hI 0 al rfl (by simpa using hl4) ?_
  refine mG hI 4 cs2 gv (by omega) (by omega) rfl hl4 ho4 (by omega) (by omega) fun kvc2 w' hI=>?_
  have hkv2:=kC (hI.its (dL kvc2 ac 4 (css++[cs2])) (by simp))
  refine dF (b:=b8) (c:=#[.int .i64 v.kind,.int .i64 v.n,.string v.name,kvc]) hI 3 rfl aP aO rfl hkv2.1 hkv2.2 fun w' hI=>?_
  have hI:Inv w X [.blk b3 (.cells #[.int .i64 v.kind,.int .i64 v.n,.string v.name,kv] ac),.blk b6 (.cells #[.int .i64 0,.int .i64 0,.string ⟨#[]⟩,.slice none 0 0] ac),.blk b8 (.cells #[.int .i64 v.kind,.int .i64 v.n,.string v.name,kvc2] ac),dL kvc2 ac 4 (css++[cs2]),.blk kb (.cells kc ac)] S2 w':=hI.pick [false,true,true,true,true,true]
  refine b0 (by omega) ?_
  have hct:=xR us j hj1
  have hcle:=oP us (j+1)
  have hc0:=l8 us[j]
  refine ⟨⟨j+1,_,kvc2,css++[cs2],S2,hj1,rfl,rfl,hE.trans hE2,by simp [hcl],?_,hI⟩,by simp [intOf]; omega⟩
  by_cases hfit:dk us[j]<=left
  ·left
   rw [if_pos hfit]
   refine ⟨by omega,by omega,?_⟩
   rw [List.take_succ_eq_append_getElem hj1]
   exact (hR.monoR fun _ _ h=>RdT.mono hE2.1 h).snoc (hrd hfit) hl4
  ·right
   rw [if_neg hfit]
   exact ⟨rfl,by omega⟩
 ·refine a8 (b:=b8) (c:=#[.int .i64 v.kind,.int .i64 v.n,.string v.name,kvc]) hI 2 al rfl rfl ?_
  have hkv2:=kC (hI.its (dL kvc ac 4 css) (by simp))
  have hone:∀ x∈([.int .i64 v.kind,.int .i64 v.n,.string v.name,kvc]:List Value),x.oneCell'=true:=by
   intro x hx
   simp at hx
   rcases hx with rfl|rfl|rfl|rfl <;> first|rfl|exact hkv2.2
  refine bq hI 1 rfl al rfl rfl hone fun w' hI=>?_
  refine dJ (c:=#[.int .i64 v.kind,.int .i64 v.n,.string v.name,kvc]) hI 1 al rfl rfl ?_
  have hI:Inv w X ([.blk kb (.cells kc ac)]++[dL kvc ac 4 css]) S1 w':=(hI.pick [false,false,false,true,true]).perm (List.Perm.swap ..)
  rcases hst with ⟨h1,h2,hR⟩|⟨h1,h2⟩
  ·have hje:j=us.length:=by omega
   rw [hje,List.take_length] at h1 hR
   obtain ⟨S3,hE3,hrd,hI⟩:=hI.lendExt
   have hrr:=RowRd.rows (hR.monoR fun _ _ h=>RdT.mono hE3.1 h) hrd
   refine ⟨_,_,_,rfl,hI,hE.trans hE3,rfl,[.int .i64 v.kind,.int .i64 v.n,.string v.name,kvc],rfl,hone,?_,fun _=>RdT.iff.2 ⟨kvc,rfl,hi1,hi2,hs,hrr⟩⟩
   rw [i0,if_pos (by omega),show left=room - (1+cJ us) by omega]
  ·refine ⟨_,_,_,rfl,hI.sub (List.sublist_append_left _ _),hE,rfl,[.int .i64 v.kind,.int .i64 v.n,.string v.name,kvc],rfl,hone,?_,fun h=>?_⟩
   ·rw [i0,if_neg (by omega),h1]
   ·rw [i0] at h; omega
theorem zB {N kp:Nat} {st:a6} (hg:Good N st) {j:Fy} (hr:Res st j):match j with
  | .one t u=>(okU N t/\wT t<=1048576)->FC N kp st t u
  | .list ts us=>(∀ t∈ts,okU N t/\wT t<=1048576)->us.length=ts.length/\∀ i (h:i<us.length) (h':i<ts.length),FC N kp st ts[i] us[i]:=by
 induction hr with
 | one hw _ ih=>
  intro ho
  have h1:=ih (ig (dp hg hw ho))
  exact AN hg hw ho h1.1 h1.2
 | nil=>exact fun _=>⟨rfl,fun i h _=>by simp at h⟩
 | cons _ _ ih1 ih2=>
  intro ho
  obtain ⟨h1,h2⟩:=ih2 fun t ht=>ho t (List.mem_cons_of_mem _ ht)
  refine ⟨by simp [h1],fun i h h'=>?_⟩
  cases i with
  | zero=>exact ih1 (ho _ (List.mem_cons_self ..))
  | succ i=>exact h2 i (by simpa using h) (by simpa using h')
end

end Go.Proofs.YtfcbhfjomgopbaaGreat

/- spec: shifted terms and clauses. -/
namespace Go.Proofs.YtfcbhfjomgopbaaGreat
open Go Go.RowKit
mutual
def lI (m:Int):T->T
 | .mk k n s ks=>.mk k (if k=1 then n+m else n) s (iH m ks)
def iH (m:Int):List T->List T
 | []=>[]
 | t::ts=>lI m t::iH m ts
end
theorem u5 (m:Int):∀ ts:List T,iH m ts=ts.map (lI m)
 | []=>rfl
 | t::ts=>by rw [iH,u5 m ts]; rfl
section
attribute [local irreducible] Run CondV ak bg
end

end Go.Proofs.YtfcbhfjomgopbaaGreat

/- Resolvents: the plain form. -/
namespace Go.Proofs.YtfcbhfjomgopbaaGreat
open Go Go.RowKit
theorem Az {s:ByteArray} (h:jC s=true):s.size<=6:=by
 rw [jC,Bool.or_eq_true] at h
 rcases h with h|h
 ·rw [iU] at h
  simp only [Bool.and_eq_true,decide_eq_true_eq] at h
  exact h.2.2
 ·simp only [List.any_eq_true,decide_eq_true_eq] at h
  obtain ⟨x,hx,rfl⟩:=h
  have:∀ y∈signs,y.size<=6:=by decide +kernel
  exact this x hx
theorem B7 {t:T} (h:d3 t=true):t.name.size<=6:=by
 unfold d3 at h
 have he:emptyB.size=0:=by decide +kernel
 by_cases e1:t.kind=1
 ·rw [if_pos e1] at h
  simp only [Bool.and_eq_true,decide_eq_true_eq] at h
  rw [h.2.2.1]; omega
 ·rw [if_neg e1] at h
  by_cases e2:t.kind=2
  ·rw [if_pos e2] at h
   simp only [Bool.and_eq_true,decide_eq_true_eq] at h
   rw [h.2.2.1]; omega
  ·rw [if_neg e2] at h
   by_cases e3:t.kind=3
   ·rw [if_pos e3] at h
    simp only [Bool.and_eq_true,decide_eq_true_eq] at h
    exact Az h.2.1
   ·rw [if_neg e3] at h
    cases h
mutual
theorem yo:∀ (t:T) (d:Int),er t d=true->okU 26 t
 | .mk k n s ks,d,h=>by
  rw [er] at h
  split at h
  ·cases h
  ·rw [Bool.and_eq_true] at h
   have h1:=DZ h.1
   have h2:=fun hk=>DD h.1 hk
   have h3:=B7 h.1
   rw [okU]
   refine ⟨h1.2,fun hk=>?_,uR ks _ h.2,h3⟩
   have h4:=h1.1 hk
   have h5:=h2 hk
   simp only [T.n] at h4
   simp only [T.name,T.kids] at h5
   exact ⟨h4.1,by omega,h5.1,List.eq_nil_of_length_eq_zero h5.2⟩
theorem uR:∀ (ts:List T) (d:Int),ep ts d=true->eO 26 ts
 | [],_,_=>by rw [eO]; trivial
 | t::ts,d,h=>by
  rw [ep,Bool.and_eq_true] at h
  rw [eO]
  exact ⟨yo t d h.1,uR ts d h.2⟩
end
theorem ii {t:T} (h:db t=true):okU 26 t:=yo t 30 (ss h)
theorem kJ {c:C} (h:cF c=true):okU 26 c.head/\(∀ t∈c.body,okU 26 t)/\c.body.length<=6:=by
 rw [cF] at h
 simp only [Bool.and_eq_true,List.all_eq_true,decide_eq_true_eq] at h
 refine ⟨ii h.2.2.1,fun t ht=>?_,h.1⟩
 have:=h.2.1 t ht
 rw [eg,Bool.and_eq_true] at this
 exact ii this.1
mutual
theorem yF {N M:Nat} (h:N<=M):∀ t:T,okU N t->okU M t
 | .mk k n s ks,ht=>by
  rw [okU] at ht ⊢
  refine ⟨ht.1,fun hk=>?_,Cp h ks ht.2.2.1,ht.2.2.2⟩
  have:=ht.2.1 hk
  exact ⟨this.1,by omega,this.2.2⟩
theorem Cp {N M:Nat} (h:N<=M):∀ ts:List T,eO N ts->eO M ts
 | [],_=>by rw [eO]; trivial
 | t::ts,ht=>by
  rw [eO] at ht ⊢
  exact ⟨yF h t ht.1,Cp h ts ht.2⟩
end
mutual
theorem yv {N:Nat} (m:Nat):∀ t:T,okU N t->okU (N+m) (lI m t)
 | .mk k n s ks,ht=>by
  rw [okU] at ht
  rw [lI,okU]
  refine ⟨ht.1,fun hk=>?_,ov m ks ht.2.2.1,ht.2.2.2⟩
  have:=ht.2.1 hk
  rw [if_pos hk]
  refine ⟨by omega,by omega,this.2.2.1,?_⟩
  rw [this.2.2.2,iH]
theorem ov {N:Nat} (m:Nat):∀ ts:List T,eO N ts->eO (N+m) (iH m ts)
 | [],_=>by rw [iH,eO]; trivial
 | t::ts,ht=>by
  rw [eO] at ht
  rw [iH,eO]
  exact ⟨yv m t ht.1,ov m ts ht.2⟩
end
mutual
theorem Ar (m:Int):∀ t:T,wT (lI m t)=wT t
 | .mk k n s ks=>by
  rw [lI,wT,wT,zN m ks]
  rw [u5,List.length_map]
theorem zN (m:Int):∀ ts:List T,wL (iH m ts)=wL ts
 | []=>rfl
 | t::ts=>by rw [iH,wL,wL,Ar m t,zN m ts]
end
/- weights by nodes -/
mutual
theorem Dn {N:Nat}:∀ t:T,okU N t->(wT t:Int)+1<=7 * dk t
 | .mk k n s ks,h=>by
  rw [okU] at h
  have h1:=Di ks h.2.2.1
  rw [wT,i0]
  omega
theorem Di {N:Nat}:∀ ts:List T,eO N ts->(wL ts:Int)+ts.length<=7 * cJ ts
 | [],_=>by simp [wL,cJ]
 | t::ts,h=>by
  rw [eO] at h
  have h1:=Dn t h.1
  have h2:=Di ts h.2
  rw [wL,cJ,List.length_cons]
  omega
end
theorem zU {N:Nat} {st:a6} (h:Good N st):∀ ts:List T,eO N ts->∃ us,Res st (.list ts us)
 | [],_=>⟨[],.nil⟩
 | t::ts,ho=>by
  rw [eO] at ho
  obtain ⟨u,hu⟩:=BP h t ho.1
  obtain ⟨us,hus⟩:=zU h ts ho.2
  exact ⟨u::us,.cons hu hus⟩
/- numbered anew -/
/- the resolvent -/
def stU:a6:=List.replicate 52 none
theorem Ah:Good 52 stU:=⟨by simp [stU],fun t ht=>by simp [stU] at ht,fun t ht=>by simp [stU] at ht,fun n=>n,fun n u hu=>by
 have:=List.mem_of_getElem? hu
 simp [stU] at this⟩
def Cz (c d:C):List T:=c.head::(iH 26 d.body++c.body.drop 1)
def ofL:List T->C
 | []=>⟨⟨0,0,⟨#[]⟩,[]⟩,[]⟩
 | t::ts=>⟨t,ts⟩
def RO (c d:C) (o:Option (Option C)):Prop:=∃ r st,Uni stU (.one (c.body.headD ⟨0,0,⟨#[]⟩,[]⟩) (lI 26 d.head)) r st/\
 ((r=false/\o=none) ∨ (r=true/\∃ us,Res st (.list (Cz c d) us)/\((us.all l6=false/\o=some none) ∨ (us.all l6=true/\o=some (some (F4 (FR (ofL us)) (ofL us)))))))
theorem DF {N:Nat} {ts us:List T} (h:eO N ts) (h':eO N us):eO N (ts++us):=
 uh fun t ht=>by
  rcases List.mem_append.1 ht with ht|ht
  ·exact jQ h t ht
  ·exact jQ h' t ht
theorem Ee {c d:C} (hc:cF c=true) (hd:cF d=true):eO 52 (Cz c d):=by
 obtain ⟨c1,c2,_⟩:=kJ hc
 obtain ⟨d1,d2,_⟩:=kJ hd
 rw [Cz,eO]
 exact ⟨yF (by decide) _ c1,DF (ov 26 _ (uh d2)) (uh fun t ht=>yF (by decide) _ (c2 t (List.mem_of_mem_drop ht)))⟩
theorem C8 {c d:C} (hc:cF c=true) (hd:cF d=true) (hwc:wC c<=1048576) (hwd:wC d<=1048576) (hb:c.body≠[]):okJ 52 (.one (c.body.headD ⟨0,0,⟨#[]⟩,[]⟩) (lI 26 d.head)):=by
 obtain ⟨c1,c2,_⟩:=kJ hc
 obtain ⟨d1,d2,_⟩:=kJ hd
 unfold wC at hwc hwd
 cases hcb:c.body with
 | nil=>exact absurd hcb hb
 | cons t ts=>
  rw [List.headD_cons]
  have hm:t∈c.body:=by rw [hcb]; exact List.mem_cons_self ..
  have:=Cs hm
  exact ⟨⟨yF (by decide) _ (c2 t hm),by omega⟩,⟨yv 26 _ d1,by rw [Ar]; omega⟩⟩
theorem RO.ex {c d:C} (hc:cF c=true) (hd:cF d=true) (hwc:wC c<=1048576) (hwd:wC d<=1048576) (hb:c.body≠[]):∃ o,RO c d o:=by
 have hj:=C8 hc hd hwc hwd hb
 obtain ⟨r,st,hu⟩:=Bx (unb stU) stU Ah (Nat.le_refl _) _ hj
 cases r with
 | false=>exact ⟨none,false,st,hu,.inl ⟨rfl,rfl⟩⟩
 | true=>
  obtain ⟨us,hus⟩:=zU (hu.good Ah hj).1 (Cz c d) (Ee hc hd)
  cases hs:us.all l6 with
  | false=>exact ⟨some none,true,st,hu,.inr ⟨rfl,us,hus,.inl ⟨hs,rfl⟩⟩⟩
  | true=>exact ⟨_,true,st,hu,.inr ⟨rfl,us,hus,.inr ⟨hs,rfl⟩⟩⟩
/- small terms have small weights -/
end Go.Proofs.YtfcbhfjomgopbaaGreat

/- Matching with a map: impl.instance. -/
namespace Go.Proofs.YtfcbhfjomgopbaaGreat
open Go Go.RowKit

/- the map of impl.instance -/
def KnownM (S:ar) (es:Array MapEntry) (st:a6):Prop:=
 (∀ e∈es.toList,∃ (n:Nat) (t:T) (cs:List Value),e.key=.int .i64 n/\e.val=.agg cs.toArray/\RdT S cs t/\st[n]?=some (some t))/\(∀ (n:Nat) (t:T),st[n]?=some (some t)->∃ e∈es.toList,e.key=.int .i64 n)/\(es.toList.map (·.key)).Nodup
theorem KnownM.find {S:ar} {es:Array MapEntry} {st:a6} (h:KnownM S es st) (n:Nat) :
  (∃ j v t cs,Instr.findNow (.int .i64) (.int .i64 n) es.toList 0=some (some (j,v))/\v=.agg cs.toArray/\RdT S cs t/\st[n]?=some (some t)) ∨
  ((∀ t,st[n]?≠some (some t))/\Instr.findNow (.int .i64) (.int .i64 n) es.toList 0=some none):=by
 rcases mD (n:=n) es.toList 0 (fun e he=>by obtain ⟨m,_,_,hk,_⟩:=h.1 e he; exact ⟨m,hk⟩) with ⟨j,e,he,hk,hf⟩|⟨hk,hf⟩
 ·obtain ⟨m,t,cs,hk2,hv,hR,hs⟩:=h.1 e he
  rw [hk] at hk2
  simp only [Value.int.injEq,true_and] at hk2
  have:n=m:=by omega
  subst this
  exact .inl ⟨j,e.val,t,cs,hf,hv,hR,hs⟩
 ·refine .inr ⟨fun t ht=>?_,hf⟩
  obtain ⟨e,he,hk2⟩:=h.2.1 n t ht
  exact hk e he hk2
theorem KnownM.push {S:ar} {es:Array MapEntry} {st:a6} (h:KnownM S es st) {n:Nat} (hn:n<st.length) (hno:∀ t,st[n]?≠some (some t)) {cs:List Value} {u:T} (hu:RdT S cs u) (ck:Nat) :
  KnownM S (es.push { key:=.int .i64 n,val:=.agg cs.toArray,born:=ck }) (st.set n (some u)):=by
 refine ⟨fun e he=>?_,fun m t ht=>?_,?_⟩
 ·rw [Array.toList_push] at he
  rcases List.mem_append.1 he with he|he
  ·obtain ⟨m,t,cs',hk,hv,hR,hs⟩:=h.1 e he
   refine ⟨m,t,cs',hk,hv,hR,?_⟩
   have:n≠m:=fun e=>hno t (by rw [e]; exact hs)
   rw [List.getElem?_set_ne this]
   exact hs
  ·simp at he
   subst he
   exact ⟨n,u,cs,rfl,rfl,hu,by rw [List.getElem?_set_self hn]⟩
 ·rw [Array.toList_push]
  by_cases e:n=m
  ·exact ⟨_,List.mem_append_right _ (List.mem_singleton.2 rfl),by rw [e]⟩
  ·rw [List.getElem?_set_ne e] at ht
   obtain ⟨x,hx,hk⟩:=h.2.1 m t ht
   exact ⟨x,List.mem_append_left _ hx,hk⟩
 ·rw [Array.toList_push,List.map_append,List.nodup_append]
  refine ⟨h.2.2,by simp,fun a ha b hb e=>?_⟩
  simp only [List.map_cons,List.map_nil,List.mem_singleton] at hb
  subst hb
  obtain ⟨x,hx,rfl⟩:=List.mem_map.1 ha
  obtain ⟨m,t,cs',hk,_,_,hs⟩:=h.1 x hx
  rw [hk] at e
  simp only [Value.int.injEq,true_and] at e
  have:m=n:=by omega
  subst this
  exact hno t hs
theorem yz (t u:T):gd t u=gd u t:=by
 rw [gd,gd,Bool.eq_iff_iff]
 simp only [Bool.and_eq_true,decide_eq_true_eq]
 constructor
 ·rintro ⟨a,b,c,d⟩; exact ⟨a.symm,b.symm,c.symm,d.symm⟩
 ·rintro ⟨a,b,c,d⟩; exact ⟨a.symm,b.symm,c.symm,d.symm⟩
section
attribute [local irreducible] Run CondV ak bg
theorem iw:∀ (t u:T) (S:ar) (cs ds:List Value) (mb ck:Nat) (es:Array MapEntry) (st:a6),RdT S cs t->RdT S ds u->okV t->okK u->rA st->KnownM S es st->
  Tri Tryz.prog zG [.agg ds.toArray,.agg cs.toArray,.map (some mb)] [.blk mb (.map es ck)] S fun r I' S'=>S'=S/\r=.bool (bE t u st).1/\∃ es' ck',I'=[.blk mb (.map es' ck')]/\KnownM S es' (bE t u st).2:=by
 refine T.ind fun k' n' s' ks' ih u S cs ds mb ck es st h' h hv hu hst hkc=>?_
 intro w hI
 have hds:=h
 obtain ⟨kv',rfl,_,_,_,hks'⟩:=RdT.iff.1 h'
 obtain ⟨kv,rfl,_,_,_,hks⟩:=RdT.iff.1 h
 obtain ⟨k,n,s,ks⟩:=u
 simp only [T.name,T.kids,T.kind,T.n] at hks hks' ⊢
 have hlen:=hks'.le
 simp only [maxLen] at hlen
 rw [okV] at hv
 obtain ⟨hv1,hv2⟩:=hv
 have huk:=hu
 rw [okK] at hu
 obtain ⟨X,hX⟩:∃ X,X=bv [Item.blk mb (.map es ck)]:=⟨_,rfl⟩
 rw [<- hX] at hI ⊢
 refine qQ ?_
 unfold nz;dsimp only
 refine bt hI fun b1 w' hI=>?_
 refine bt hI fun b2 w' hI=>?_
 have hI:Inv w X [.blk b1 (.cells #[.int .i64 k,.int .i64 n,.string s,kv] ac),.blk b2 (.cells #[.int .i64 k',.int .i64 n',.string s',kv'] ac),.blk mb (.map es ck)] S w':=hI.perm (by
  refine (List.perm_append_comm (l₁:=[_,_]) (l₂:=[_])).trans ?_
  exact List.Perm.refl _)
 refine ah hI 1 rfl aU aR rfl ?_
 refine bu ?_
 refine bf (fun hk1=>?_) (fun hk1=>?_)
 ·obtain ⟨hn0,hn25⟩:=hv1 hk1
  obtain ⟨j,rfl⟩:∃ j:Nat,n'=j:=⟨n'.toNat,by omega⟩
  have hj:j<26:=by omega
  have hjs:j<st.length:=by rw [hst.1]; exact hj
  refine ah hI 1 rfl a9 aR rfl ?_
  rcases hkc.find j with ⟨q,v,t0,cs0,hf,rfl,hR,hst2⟩|⟨hno,hf⟩
  ·refine AY (v:=.agg cs0.toArray) (ok:=true) hI 2 dg fD bA rfl (.inl ⟨q,hf,rfl⟩) ?_
   refine be rfl ?_
   refine be rfl ?_
   have hlc:=hR.length
   refine bC hI bA fun b7 w' hI=>?_
   refine bq hI 3 rfl al (by simpa using hlc) rfl (by simpa using hR.one) fun w' hI=>?_
   refine bJ ?_
   refine bd (fun hb=>by cases hb) (fun _=>?_)
   refine a8 hI 3 al rfl (by simpa using hlc) ?_
   refine a8 hI 0 al rfl rfl ?_
   refine Run.callPure jc i6 hI (kk t0 _ S _ _ hR hds) fun w' hI=>?_
   have hm:bE (.mk k' j s' ks') (.mk k n s ks) st=(eqT t0 (.mk k n s ks),st):=by
    rw [bE,if_pos hk1,Int.toNat_natCast,hst2]
   rw [hm]
   exact ⟨_,_,_,rfl,hI.pick [false,false,true,false],Ext.refl _ _ _,rfl,rfl,_,_,rfl,hkc⟩
  ·refine AY (ok:=false) hI 2 dg fD bA rfl (.inr ⟨hf,rfl,rfl⟩) ?_
   refine be rfl ?_
   refine be rfl ?_
   refine bC hI bA fun b7 w' hI=>?_
   refine bq hI 3 rfl al rfl rfl (by simp [Value.oneCell']) fun w' hI=>?_
   refine bJ ?_
   refine bd (fun _=>?_) (fun hb=>by cases hb)
   refine ah hI 1 rfl a9 aR rfl ?_
   refine a8 hI 0 al rfl rfl ?_
   refine uu hI 2 dg fD rfl hf fun w' hI=>?_
   have hm:bE (.mk k' j s' ks') (.mk k n s ks) st=(true,st.set j (some (.mk k n s ks))):=by
    rw [bE,if_pos hk1,Int.toNat_natCast,List.getElem?_eq_getElem hjs]
    cases hq:st[j] with
    | none=>rfl
    | some t=>exact absurd (by rw [List.getElem?_eq_getElem hjs,hq]) (hno t)
   rw [hm]
   exact ⟨_,_,_,rfl,hI.pick [false,false,true,false],Ext.refl _ _ _,rfl,rfl,_,_,rfl,hkc.push hjs hno hds ck⟩
 refine ⟨fun q w'=>q=.bool (!gd (.mk k n s ks) (.mk k' n' s' ks'))/\Inv w X [.blk b1 (.cells #[.int .i64 k,.int .i64 n,.string s,kv] ac),.blk b2 (.cells #[.int .i64 k',.int .i64 n',.string s',kv'] ac),.blk mb (.map es ck)] S w',?_,?_⟩
 ·refine ah hI 0 rfl aU aR rfl ?_
  refine ah hI 1 rfl aU aR rfl ?_
  refine bQ ?_
  by_cases e1:k=k'
  ·rw [decide_eq_true e1]
   repeat (first|refine ab ?_|refine ad (by decide) ?_|refine aa ?_|refine af ?_|refine ag ?_)
   refine ah hI 0 rfl a9 aR rfl ?_
   refine ah hI 1 rfl a9 aR rfl ?_
   refine bQ ?_
   by_cases e2:n=n'
   ·rw [decide_eq_true e2]
    repeat (first|refine ab ?_|refine ad (by decide) ?_|refine aa ?_|refine af ?_|refine ag ?_)
    refine ah hI 0 rfl bi bk rfl ?_
    refine ah hI 1 rfl bi bk rfl ?_
    refine qM ?_
    by_cases e3:s=s'
    ·rw [decide_eq_true e3]
     repeat (first|refine ab ?_|refine ad (by decide) ?_|refine aa ?_|refine af ?_|refine ag ?_)
     refine ah hI 0 rfl aP aO rfl ?_
     refine a5 hks aC ?_
     refine ah hI 1 rfl aP aO rfl ?_
     refine a5 hks' aC ?_
     refine bQ ?_
     repeat (first|refine ab ?_|refine ad (by decide) ?_|refine aa ?_|refine af ?_|refine ag ?_)
     exact ⟨by rw [cQ,decide_eq_true e1,decide_eq_true e2,decide_eq_true e3,z3]; rfl,hI⟩
    ·rw [decide_eq_false e3]
     repeat (first|refine ab ?_|refine ad (by decide) ?_|refine aa ?_|refine af ?_|refine ag ?_)
     exact ⟨by rw [cQ,decide_eq_true e1,decide_eq_true e2,decide_eq_false e3]; rfl,hI⟩
   ·rw [decide_eq_false e2]
    repeat (first|refine ab ?_|refine ad (by decide) ?_|refine aa ?_|refine af ?_|refine ag ?_)
    exact ⟨by rw [cQ,decide_eq_true e1,decide_eq_false e2]; rfl,hI⟩
  ·rw [decide_eq_false e1]
   repeat (first|refine ab ?_|refine ad (by decide) ?_|refine aa ?_|refine af ?_|refine ag ?_)
   exact ⟨by rw [cQ,decide_eq_false e1]; rfl,hI⟩

 intro q _ _ _ _ _ _ _ _ _ _ _ _ _ _ _ _ _ _ _ _ _ _ _ _ _ _ _ w'
 rintro ⟨rfl,hI⟩
 cases hd:gd (.mk k n s ks) (.mk k' n' s' ks')
 ·refine bd (fun _=>?_) (fun hb=>by cases hb)
  have hm:bE (.mk k' n' s' ks') (.mk k n s ks) st=(false,st):=by rw [bE,if_neg hk1,if_neg (by rw [yz,hd]; decide)]
  rw [hm]
  exact ⟨_,_,_,rfl,hI.pick [false,false,true],Ext.refl _ _ _,rfl,rfl,_,_,rfl,hkc⟩
 refine bd (fun hb=>by cases hb) (fun _=>?_)
 have hle:ks.length=ks'.length:=by
  rw [cQ] at hd
  simp only [Bool.and_eq_true,decide_eq_true_eq] at hd
  exact hd.2.2.2
 have hm:bE (.mk k' n' s' ks') (.mk k n s ks) st=fF ks' ks st:=by rw [bE,if_neg hk1,if_pos (by rw [yz,hd])]; rfl
 rw [hm]
 have hu2:=hu.2
 refine ah hI 1 rfl aP aO rfl ?_
 refine a5 hks' aC ?_
 refine ⟨fun i w'=>∃ (j:Nat) (st':a6) (es':Array MapEntry) (ck':Nat),j<=ks'.length/\i=.int .i64 j/\fF (ks'.drop j) (ks.drop j) st'=fF ks' ks st/\rA st'/\KnownM S es' st'/\Inv w X [.blk b1 (.cells #[.int .i64 k,.int .i64 n,.string s,kv] ac),.blk b2 (.cells #[.int .i64 k',.int .i64 n',.string s',kv'] ac),.blk mb (.map es' ck')] S w',fun i _=>ks'.length - (intOf i).toNat,⟨0,st,es,ck,Nat.zero_le _,rfl,rfl,hst,hkc,hI⟩,?_⟩
 intro t60 _ _ _ _ _ _ _ _ _ _ _ _ _ _ _ _ _ _ w'
 rintro ⟨j,st',es',ck',hj,rfl,hrel,hst',hkc',hI⟩
 refine bz ?_
 refine bf (fun hji=>?_) (fun hji=>?_)
 ·have hj2:j<ks'.length:=by omega
  have hj1:j<ks.length:=by omega
  obtain ⟨c1,o1,cap1,a1,E1,fz1,rfl,hS1,hR1⟩:=hks.at_ hj1
  obtain ⟨c2,o2,cap2,a2,E2,fz2,rfl,hS2,hR2⟩:=hks'.at_ hj2
  rw [sN ks' ks st' j hj2 hj1] at hrel
  have hcall:=ih _ (List.getElem_mem hj2) ks[j] S _ _ mb ck' es' st' hR2 hR1 (jW hv2 _ (List.getElem_mem hj2)) (lW hu2 _ (List.getElem_mem hj1)) hst' hkc'
  have hsn:=gU ks'[j] ks[j] st' hst' (lW hu2 _ (List.getElem_mem hj1))
  generalize hr:bE ks'[j] ks[j] st'=r at hrel hcall hsn
  refine ⟨fun D dB dw dC dy dz dA dx d4 nX n6 n5 Bw rQ w_=>(D 0=true->rQ=.pointer (some ⟨b1,3,none⟩))/\(D 1=true->Bw=.slice (some ⟨c1,o1,none⟩) ks.length cap1)/\(D 2=true->n5=.int .i64 j)/\(D 3=true->n6=.pointer (some ⟨c1,o1+j * 4,none⟩))/\(D 4=true->nX=.agg (ba a1 (o1+j * 4) 4).toArray)/\(D 5=true->d4=.pointer (some ⟨b2,3,none⟩))/\(D 6=true->dx=.slice (some ⟨c2,o2,none⟩) ks'.length cap2)/\(D 7=true->dA=.int .i64 j)/\(D 8=true->dz=.pointer (some ⟨c2,o2+j * 4,none⟩))/\(D 9=true->dy=.agg (ba a2 (o2+j * 4) 4).toArray)/\(D 10=true->dC=.map (some mb))/\(D 11=true->dw=.bool r.1)/\(D 12=true->dB=.bool (!r.1))/\(D 11=false->Inv w X [.blk b1 (.cells #[.int .i64 k,.int .i64 n,.string s,.slice (some ⟨c1,o1,none⟩) ks.length cap1] ac),.blk b2 (.cells #[.int .i64 k',.int .i64 n',.string s',.slice (some ⟨c2,o2,none⟩) ks'.length cap2] ac),.blk mb (.map es' ck')] S w_)/\(D 11=true->∃ es2 ck2,KnownM S es2 r.2/\Inv w X [.blk b1 (.cells #[.int .i64 k,.int .i64 n,.string s,.slice (some ⟨c1,o1,none⟩) ks.length cap1] ac),.blk b2 (.cells #[.int .i64 k',.int .i64 n',.string s',.slice (some ⟨c2,o2,none⟩) ks'.length cap2] ac),.blk mb (.map es2 ck2)] S w_)/\∃ es3 ck3,Inv w X [.blk b1 (.cells #[.int .i64 k,.int .i64 n,.string s,.slice (some ⟨c1,o1,none⟩) ks.length cap1] ac),.blk b2 (.cells #[.int .i64 k',.int .i64 n',.string s',.slice (some ⟨c2,o2,none⟩) ks'.length cap2] ac),.blk mb (.map es3 ck3)] S w_,⟨ae,ae,ae,ae,ae,ae,ae,ae,ae,ae,ae,ae,ae,⟨fun _=>hI.draw,ae,es',ck',hI.draw⟩⟩,⟨?_,?_,?_,?_,?_,?_,?_,?_,?_,?_,?_,?_,?_,trivial⟩,?_⟩
  ·intro D aY  dB dw dC dy dz dA dx d4 nX n6 n5 Bw rQ w_
   rintro ⟨av,aw,ao,au,az,aq,aA,aE,aH,aL,ai,aj,am,⟨hI0,hI1,es3,ck3,hI⟩⟩
   refine bb aP ?_
   exact ⟨fun _=>rfl,aw,ao,au,az,aq,aA,aE,aH,aL,ai,aj,am,⟨hI0,hI1,es3,ck3,hI⟩⟩
  ·intro D aY cB dB dw dC dy dz dA dx d4 nX n6 n5 Bw rQ w_
   rintro ⟨av,aw,ao,au,az,aq,aA,aE,aH,aL,ai,aj,am,⟨hI0,hI1,es3,ck3,hI⟩⟩
   obtain rfl:=av cB
   refine bj hI 0 aO rfl rfl ?_
   exact ⟨av,fun _=>rfl,ao,au,az,aq,aA,aE,aH,aL,ai,aj,am,⟨hI0,hI1,es3,ck3,hI⟩⟩
  ·intro D aY  dB dw dC dy dz dA dx d4 nX n6 n5 Bw rQ w_
   rintro ⟨av,aw,ao,au,az,aq,aA,aE,aH,aL,ai,aj,am,⟨hI0,hI1,es3,ck3,hI⟩⟩
   exact ⟨av,aw,fun _=>rfl,au,az,aq,aA,aE,aH,aL,ai,aj,am,⟨hI0,hI1,es3,ck3,hI⟩⟩
  ·intro D aY c6 d8 dB dw dC dy dz dA dx d4 nX n6 n5 Bw rQ w_
   rintro ⟨av,aw,ao,au,az,aq,aA,aE,aH,aL,ai,aj,am,⟨hI0,hI1,es3,ck3,hI⟩⟩
   obtain rfl:=aw c6
   obtain rfl:=ao d8
   refine aT aC hj1 ?_
   exact ⟨av,aw,ao,fun _=>rfl,az,aq,aA,aE,aH,aL,ai,aj,am,⟨hI0,hI1,es3,ck3,hI⟩⟩
  ·intro D aY dq dB dw dC dy dz dA dx d4 nX n6 n5 Bw rQ w_
   rintro ⟨av,aw,ao,au,az,aq,aA,aE,aH,aL,ai,aj,am,⟨hI0,hI1,es3,ck3,hI⟩⟩
   obtain rfl:=au dq
   refine bw al hR1.length (fun j v hj=>by rw [hI.cellS hS1]; exact aS rfl j v hj) ?_
   exact ⟨av,aw,ao,au,fun _=>rfl,aq,aA,aE,aH,aL,ai,aj,am,⟨hI0,hI1,es3,ck3,hI⟩⟩
  ·intro D aY  dB dw dC dy dz dA dx d4 nX n6 n5 Bw rQ w_
   rintro ⟨av,aw,ao,au,az,aq,aA,aE,aH,aL,ai,aj,am,⟨hI0,hI1,es3,ck3,hI⟩⟩
   refine bb aP ?_
   exact ⟨av,aw,ao,au,az,fun _=>rfl,aA,aE,aH,aL,ai,aj,am,⟨hI0,hI1,es3,ck3,hI⟩⟩
  ·intro D aY cY dB dw dC dy dz dA dx d4 nX n6 n5 Bw rQ w_
   rintro ⟨av,aw,ao,au,az,aq,aA,aE,aH,aL,ai,aj,am,⟨hI0,hI1,es3,ck3,hI⟩⟩
   obtain rfl:=aq cY
   refine bj hI 1 aO rfl rfl ?_
   exact ⟨av,aw,ao,au,az,aq,fun _=>rfl,aE,aH,aL,ai,aj,am,⟨hI0,hI1,es3,ck3,hI⟩⟩
  ·intro D aY  dB dw dC dy dz dA dx d4 nX n6 n5 Bw rQ w_
   rintro ⟨av,aw,ao,au,az,aq,aA,aE,aH,aL,ai,aj,am,⟨hI0,hI1,es3,ck3,hI⟩⟩
   exact ⟨av,aw,ao,au,az,aq,aA,fun _=>rfl,aH,aL,ai,aj,am,⟨hI0,hI1,es3,ck3,hI⟩⟩
  ·intro D aY ci gY dB dw dC dy dz dA dx d4 nX n6 n5 Bw rQ w_
   rintro ⟨av,aw,ao,au,az,aq,aA,aE,aH,aL,ai,aj,am,⟨hI0,hI1,es3,ck3,hI⟩⟩
   obtain rfl:=aA ci
   obtain rfl:=aE gY
   refine aT aC hj2 ?_
   exact ⟨av,aw,ao,au,az,aq,aA,aE,fun _=>rfl,aL,ai,aj,am,⟨hI0,hI1,es3,ck3,hI⟩⟩
  ·intro D aY dN dB dw dC dy dz dA dx d4 nX n6 n5 Bw rQ w_
   rintro ⟨av,aw,ao,au,az,aq,aA,aE,aH,aL,ai,aj,am,⟨hI0,hI1,es3,ck3,hI⟩⟩
   obtain rfl:=aH dN
   refine bw al hR2.length (fun j v hj=>by rw [hI.cellS hS2]; exact aS rfl j v hj) ?_
   exact ⟨av,aw,ao,au,az,aq,aA,aE,aH,fun _=>rfl,ai,aj,am,⟨hI0,hI1,es3,ck3,hI⟩⟩
  ·intro D aY  dB dw dC dy dz dA dx d4 nX n6 n5 Bw rQ w_
   rintro ⟨av,aw,ao,au,az,aq,aA,aE,aH,aL,ai,aj,am,⟨hI0,hI1,es3,ck3,hI⟩⟩
   exact ⟨av,aw,ao,au,az,aq,aA,aE,aH,aL,fun _=>rfl,aj,am,⟨hI0,hI1,es3,ck3,hI⟩⟩
  ·intro D aY cZ iJ g7 dB dw dC dy dz dA dx d4 nX n6 n5 Bw rQ w_
   rintro ⟨av,aw,ao,au,az,aq,aA,aE,aH,aL,ai,aj,am,⟨hI0,hI1,es3,ck3,hI⟩⟩
   obtain rfl:=az cZ
   obtain rfl:=aL iJ
   obtain rfl:=ai g7
   refine Run.call (A:=[_,_]) gL gJ (hI0 aY) hcall fun v' I' S w_=>?_
   rintro ⟨rfl,rfl,es2,ck2,rfl,hk2⟩ _ hI
   have hI0:=fun (h:aD D 11 11=false)=>(Bool.noConfusion h:Inv w X [.blk b1 (.cells #[.int .i64 k,.int .i64 n,.string s,.slice (some ⟨c1,o1,none⟩) ks.length cap1] ac),.blk b2 (.cells #[.int .i64 k',.int .i64 n',.string s',.slice (some ⟨c2,o2,none⟩) ks'.length cap2] ac),.blk mb (.map es' ck')] S w_)
   have hI1:=fun (_:aD D 11 11=true)=>(⟨es2,ck2,hk2,hI⟩:∃ es2 ck2,KnownM S es2 r.2/\Inv w X [.blk b1 (.cells #[.int .i64 k,.int .i64 n,.string s,.slice (some ⟨c1,o1,none⟩) ks.length cap1] ac),.blk b2 (.cells #[.int .i64 k',.int .i64 n',.string s',.slice (some ⟨c2,o2,none⟩) ks'.length cap2] ac),.blk mb (.map es2 ck2)] S w_)
   obtain ⟨es3,ck3,hI⟩:∃ es3 ck3,Inv w X [.blk b1 (.cells #[.int .i64 k,.int .i64 n,.string s,.slice (some ⟨c1,o1,none⟩) ks.length cap1] ac),.blk b2 (.cells #[.int .i64 k',.int .i64 n',.string s',.slice (some ⟨c2,o2,none⟩) ks'.length cap2] ac),.blk mb (.map es3 ck3)] S w_:=⟨es2,ck2,hI⟩
   exact ⟨av,aw,ao,au,az,aq,aA,aE,aH,aL,ai,fun _=>rfl,am,⟨hI0,hI1,es3,ck3,hI⟩⟩
  ·intro D aY e7 dB dw dC dy dz dA dx d4 nX n6 n5 Bw rQ w_
   rintro ⟨av,aw,ao,au,az,aq,aA,aE,aH,aL,ai,aj,am,⟨hI0,hI1,es3,ck3,hI⟩⟩
   obtain rfl:=aj e7
   refine bJ ?_
   exact ⟨av,aw,ao,au,az,aq,aA,aE,aH,aL,ai,aj,fun _=>rfl,⟨hI0,hI1,es3,ck3,hI⟩⟩
  intro D fN dO d7 hY gh fB fk fi e9 fe eQ eZ e8 dB dw dC dy dz dA dx d4 nX n6 n5 Bw rQ w_
  rintro ⟨av,aw,ao,au,az,aq,aA,aE,aH,aL,ai,aj,am,⟨hI0,hI1,es3,ck3,hI⟩⟩
  obtain rfl:=am fN
  obtain rfl:=aj dO
  obtain rfl:=ai d7
  obtain rfl:=aL hY
  obtain rfl:=aH gh
  obtain rfl:=aE fB
  obtain rfl:=aA fk
  obtain rfl:=aq fi
  obtain rfl:=az e9
  obtain rfl:=au fe
  obtain rfl:=ao eQ
  obtain rfl:=aw eZ
  obtain rfl:=av e8
  clear av aw ao au az aq aA aE aH aL ai aj am
  obtain ⟨es2,ck2,hk2,hI⟩:=hI1 dO
  clear hI0 hI1
  refine bd (fun hne=>?_) (fun he'=>?_)
  ·simp only [Bool.not_eq_true'] at hne
   rw [hne,if_neg (by decide)] at hrel
   rw [<- hrel]
   exact ⟨_,_,_,rfl,hI.pick [false,false,true],Ext.refl _ _ _,rfl,rfl,_,_,rfl,hk2⟩
  ·simp only [Bool.not_eq_false'] at he'
   rw [he',if_pos rfl] at hrel
   refine b0 (by omega) ?_
   exact ⟨⟨j+1,r.2,es2,ck2,hj2,rfl,hrel,hsn,hk2,hI⟩,by simp [intOf]; omega⟩
 ·have:j=ks'.length:=by omega
  subst this
  rw [List.drop_length,<- hle,List.drop_length] at hrel
  rw [<- hrel]
  exact ⟨_,_,_,rfl,hI.pick [false,false,true],Ext.refl _ _ _,rfl,rfl,_,_,rfl,hkc'⟩
end

end Go.Proofs.YtfcbhfjomgopbaaGreat

/- SubsumedClause: both sides. -/
namespace Go.Proofs.YtfcbhfjomgopbaaGreat
open Go Go.RowKit

def st0:a6:=List.replicate 26 none
theorem yG:rA st0:=⟨by simp [st0],fun t ht=>by simp [st0] at ht⟩
theorem KnownM.empty (S:ar):KnownM S #[] st0:=by
 refine ⟨by simp,fun n t ht=>?_,by simp⟩
 rw [st0,List.getElem?_replicate] at ht
 split at ht <;> cases ht
theorem Cx:∀ {ts:List T},(∀ t∈ts,okV t)->wB ts
 | [],_=>by simp [wB]
 | t::ts,h=>by rw [wB]; exact ⟨h t (List.mem_cons_self ..),Cx fun u hu=>h u (List.mem_cons_of_mem _ hu)⟩
theorem Co:∀ {ts:List T},(∀ t∈ts,okK t)->tU ts
 | [],_=>by simp [tU]
 | t::ts,h=>by rw [tU]; exact ⟨h t (List.mem_cons_self ..),Co fun u hu=>h u (List.mem_cons_of_mem _ hu)⟩
theorem yu {c:C} (h:cF c=true):(okV c.head/\okK c.head)/\wB c.body/\tU c.body:=by
 rw [cF] at h
 simp only [Bool.and_eq_true,List.all_eq_true] at h
 obtain ⟨_,h2,h3,_⟩:=h
 have hb:∀ t∈c.body,okV t/\okK t:=fun t ht=>by
  have:=h2 t ht
  rw [eg,Bool.and_eq_true] at this
  exact fO this.1
 exact ⟨fO h3,Cx fun t ht=>(hb t ht).1,Co fun t ht=>(hb t ht).2⟩
theorem EN (z:Array Value) (hz:z=#[.int .i64 0,.int .i64 0,.string ⟨#[]⟩,.slice none 0 0]) (S:ar):KnownC S ((Array.range 104).map (z[· % z.size]!)) st0:=by
 subst hz
 refine ⟨by simp,fun i hi=>⟨fun _=>?_,fun t ht=>?_⟩⟩
 ·simp only [st0,List.length_replicate] at hi
  apply List.ext_getElem?
  intro j
  rw [ba,List.getElem?_take]
  match j with
  | 0|1|2|3=>
   rw [if_pos (by omega),List.getElem?_drop,Array.getElem?_toList,Array.getElem?_map,Array.getElem?_range,if_pos (by omega)]
   simp only [Option.map_some,List.size_toArray,List.length_cons,List.length_nil]
   first
    | rw [show (i * 4+0) % 4=0 by omega]; rfl
    | rw [show (i * 4+1) % 4=1 by omega]; rfl
    | rw [show (i * 4+2) % 4=2 by omega]; rfl
    | rw [show (i * 4+3) % 4=3 by omega]; rfl
  | j+4=>
   rw [if_neg (by omega)]
   rfl
 ·have e:st0[i]=none:=by simp only [st0,List.getElem_replicate]
  rw [e] at ht
  cases ht
section
variable {P:Program} {w w0:World} {X:List Nat} {L:List Item} {S:ar} {K:Value->World->Prop}
attribute [local irreducible] Run CondV ak bg
theorem p9 (h:Inv w0 X L S w) {T ty e:TypeId} {k by_ n:Nat} {z:Value} (hT:ou P T=some (e,k,by_,z)) (hn:n<=4294967296) (hby:by_<=65536) (hn0:n * k≠0)
  (hk:∀ b w',Inv w0 X (L++[.blk b (.cells ((Array.range (n * k)).map (z.cells[· % z.cells.size]!)) e)]) S w'->K (.slice (some ⟨b,0,none⟩) n n) w') :
  Run P (sOp (.makeSlice T (.const (.int .i64 n)) (.const (.int .i64 n))) ty) w K:=by
 obtain ⟨hu,i,hi,hz,hs,hb,hzs⟩:=il hT
 have hw:IntKind.i64.wrap (n:Int)=n:=IntWalk.i64_in _ (by omega)
 have hle:by_ * n<=2 ^ 48:=Nat.le_trans (Nat.mul_le_mul hby hn) (by decide)
 have h1:¬ ((n:Int)<0):=by omega
 have h2:¬ (281474976710656<(i.bytes:Int) * (n:Int)):=by
  rw [hb]
  have:((by_ * n:Nat):Int)<=((2 ^ 48:Nat):Int):=by exact_mod_cast hle
  have e:(((2 ^ 48:Nat)):Int)=281474976710656:=by decide
  rw [e,Int.natCast_mul] at this
  omega
 refine Run.of (v:=.slice (some ⟨w.heap.size,0,none⟩) n n) (w':={ w with heap:=w.heap.push (.cells ((Array.range (n * k)).map (z.cells[· % z.cells.size]!)) e) }) ?_ (hk _ _ (h.alloc _))
 simp [sOp,execOp,ev0,evE,Instr.makeSlice,run_underlying hu,asInt,asIntOf,typeInfo,hi,hw,h1,h2,sizeOf,hs,newRow,newObj,Sem.run,hn0,zeroValue,hz]
end
section
attribute [local irreducible] Run CondV ak bg
end

end Go.Proofs.YtfcbhfjomgopbaaGreat

/- slices.Clone and slices.DeleteFunc of terms. -/
namespace Go.Proofs.YtfcbhfjomgopbaaGreat
open Go Go.RowKit

section
variable {P:Program} {w w0:World} {X:List Nat} {L:List Item} {S:ar} {K:Value->World->Prop}
attribute [local irreducible] Run CondV ak bg
end
section
attribute [local irreducible] Run CondV ak bg
end

end Go.Proofs.YtfcbhfjomgopbaaGreat

/- impl.RenumberClause. -/
namespace Go.Proofs.YtfcbhfjomgopbaaGreat
open Go Go.RowKit
section
variable {P:Program} {w:World} {K:Value->World->Prop}
attribute [local irreducible] Run
end
section
attribute [local irreducible] Run CondV ak bg
end

end Go.Proofs.YtfcbhfjomgopbaaGreat

/- impl.RenumberClause: clauses. -/
namespace Go.Proofs.YtfcbhfjomgopbaaGreat
open Go Go.RowKit
section
attribute [local irreducible] Run CondV ak bg
theorem TrC.zero:TrC [] [.int .i64 0,.int .i64 0,.string ⟨#[]⟩,.slice none 0 0,.slice none 0 0] ⟨⟨0,0,⟨#[]⟩,[]⟩,[]⟩:=
 ⟨[.int .i64 0,.int .i64 0,.string ⟨#[]⟩,.slice none 0 0],.slice none 0 0,[],[],rfl,rfl,TrT.iff.2 ⟨_,rfl,by simp [inI,T.kind],by simp [inI,T.n],by rw [T.name]; decide +kernel,TrSl.nil (by simp [maxLen])⟩,TrSl.nil (by simp [maxLen])⟩
end

end Go.Proofs.YtfcbhfjomgopbaaGreat

/- spec.l15Resolvent. -/
namespace Go.Proofs.YtfcbhfjomgopbaaGreat
open Go Go.RowKit
section
variable {P:Program} {w:World} {K:Value->World->Prop}
attribute [local irreducible] Run
theorem Fe {T:TypeId} {cx cy:Bool} {a b:Int} (hr:-9223372036854775808<=a * b/\a * b<=9223372036854775807) (hk:K (.int .i64 (a * b)) w):Run P (aG .mul T cx cy (.int .i64 a) (.int .i64 b)) w K:=by
 refine Run.of ?_ hk
 simp [aG,dh,binOp,Op.intArith,IntWalk.i64_in _ hr]
end
section
attribute [local irreducible] Run CondV ak bg
end

end Go.Proofs.YtfcbhfjomgopbaaGreat

/- Plain functions: texts of terms and clauses, and how texts are read. Fuel runs out: none. -/
namespace Go.Proofs.YtfcbhfjomgopbaaGreat
open Go Go.RowKit

abbrev Bs:=List UInt8
abbrev bs (s:ByteArray):Bs:=s.data.toList
abbrev st (l:Bs):ByteArray:=⟨l.toArray⟩
def cut (s:Bs) (a b:Nat):Bs:=(s.take b).drop a


/- texts -/
/- clauses and programs -/
end Go.Proofs.YtfcbhfjomgopbaaGreat

/- More rules: arithmetic, conversions, texts joined and cut. -/
namespace Go.Proofs.YtfcbhfjomgopbaaGreat
open Go Go.RowKit
section
variable {P:Program} {w w0:World} {X:List Nat} {L:List Item} {S:ar} {K:Value->World->Prop}
/- a byte out of a text -/
/- string([]byte{x}) -/
end
end Go.Proofs.YtfcbhfjomgopbaaGreat

/- Bytes, numbers, names and operators in texts: spec.l1Sign and its kin. (printed by gen_byt.py) -/
namespace Go.Proofs.YtfcbhfjomgopbaaGreat
open Go Go.RowKit
section
attribute [local irreducible] Run CondV ak bg
end
section
attribute [local irreducible] Run CondV ak bg
abbrev Cn (k n:Int):Value:=.agg #[.int .i64 k,.int .i64 n,.string ⟨#[]⟩,.slice none 0 0]
theorem sU {w:World} {K:Value->World->Prop} {k n:Int} (hk:K (Cn k n) w):Run Tryz.prog (dn ac [(0,.int .i64 k),(1,.int .i64 n)]) w K:=by
 refine Run.of (v:=Cn k n) (w':=w) ?_ hk
 unfold dn
 rw [Sem.run_bind,run_build w ac _ #[.int .i64 k,.int .i64 n,.string ⟨#[]⟩,.slice none 0 0] (by kernel_rfl),Result.andThen_ok]
 rfl
theorem wH (n:Int) (S:ar):Pure Tryz.prog CQ [.int .i64 n] S (Cn 2 n):=by
 intro w hI
 refine xO ?_
 unfold vI
 refine bC hI bA fun b w' hI=>?_
 refine sU ?_
 refine bq hI 0 rfl al rfl rfl (by simp [Value.oneCell']) fun w' hI=>?_
 refine dJ hI 0 al rfl rfl ?_
 exact done hI rfl
end
section
attribute [local irreducible] Run CondV ak bg
end
section
attribute [local irreducible] Run CondV ak bg
end
section
attribute [local irreducible] Run CondV ak bg
end
end Go.Proofs.YtfcbhfjomgopbaaGreat

/- Texts read: spec.l1Struct, l1Chain, l2Read, l2Prime, l2Terms, l2Items. (printed by gen_read.py) -/
namespace Go.Proofs.YtfcbhfjomgopbaaGreat
open Go Go.RowKit
theorem EK (S:ar):RdSl S 4 (RdT S) (.slice none 0 0) []:=⟨none,0,rfl,Nat.le_refl _,Nat.zero_le _,.inl rfl⟩
section
variable {w w0:World} {X:List Nat} {L:List Item} {S:ar} {K:Value->World->Prop}
attribute [local irreducible] Run CondV ak bg
end
section
attribute [local irreducible] Run CondV ak bg
end

end Go.Proofs.YtfcbhfjomgopbaaGreat

/- The source of random numbers: spec.l18Open, pick, of, num. (printed by gen_rd.py) -/
namespace Go.Proofs.YtfcbhfjomgopbaaGreat
open Go Go.RowKit

def F2 (cs:List Value) (n:Nat):Prop:=cs=[.int .u8 (n:Int)]/\n<256
section
variable {P:Program} {w:World} {K:Value->World->Prop}
end
theorem RdSl.u8 {S:ar} {sl:Value} {ys:List Nat} (h:RdSl S 1 F2 sl ys) (h0:0<ys.length):∃ b o cap c E fz,sl=.slice (some ⟨b,o,none⟩) ys.length cap/\S b=some (.cells c E fz)/\
  ∀ i,i<ys.length->∃ y:Nat,c[o+i * 1]?=some (.int .u8 (y:Int))/\y<256:=by
 obtain ⟨a,cap,rfl,hl,hc,h⟩:=h
 rcases h with rfl|⟨b,o,c,E,fz,rfl,hS,hR⟩
 ·simp at h0
 ·refine ⟨b,o,cap,c,E,fz,rfl,hS,fun i hi=>?_⟩
  obtain ⟨h1,h2⟩:=hR i hi
  exact ⟨ys[i],aS h1 0 _ rfl,h2⟩
section
attribute [local irreducible] Run CondV ak bg
end
end Go.Proofs.YtfcbhfjomgopbaaGreat

/- Texts written: spec.l2Text and its kin, l4Text, FormatClause. -/
namespace Go.Proofs.YtfcbhfjomgopbaaGreat
open Go Go.RowKit
section
variable {w:World} {S:ar}
attribute [local irreducible] Run CondV ak bg
end
/- lengths -/
def lenOf:Value->Nat
 | .slice _ n _=>n
 | _=>0
section
attribute [local irreducible] Run CondV ak bg
end
end Go.Proofs.YtfcbhfjomgopbaaGreat

/- Copies whose topmost row is still the caller's own, all else published. (printed by gen_top.py out of Copy and CopyC) -/
namespace Go.Proofs.YtfcbhfjomgopbaaGreat
open Go Go.RowKit
theorem Grown.rows {α:Type} {k:Nat} {R:bo->List Value->α->Prop} {R':List Value->α->Prop} {Ls:List bo} {css:List (List Value)} {ys:List α} {S:ar} (h:Grown k R Ls css ys) (hi:Ins S Ls.flatten)
  (hR:∀ L cs x,Ins S L->R L cs x->R' cs x):Rows k R' css ys:=
 ⟨h.hc,h.hk,fun i h1 h2=>hR _ _ _ (ug hi (by rw [h.hL]; exact h1)) (h.hR i h1 (by rw [h.hL]; exact h1) h2)⟩
section
attribute [local irreducible] Run CondV ak bg
end
end Go.Proofs.YtfcbhfjomgopbaaGreat

/- Clauses and programs read: spec.l4Text, FormatClause, l4Goals, ParseClause, l18Cut, ParseProgram. -/
namespace Go.Proofs.YtfcbhfjomgopbaaGreat
open Go Go.RowKit
section
variable {w0 w:World} {X:List Nat} {L:List Item} {S:ar} {P:Program} {K:Value->World->Prop}
attribute [local irreducible] Run CondV ak bg
end
section
variable {S:ar}
attribute [local irreducible] Run CondV ak bg
end
end Go.Proofs.YtfcbhfjomgopbaaGreat

/- Terms drawn: literal lists, appends in any order, spec.l1Draw, l1Some, l1Mutate: what is drawn is readable and light. -/
namespace Go.Proofs.YtfcbhfjomgopbaaGreat
open Go Go.RowKit
theorem F1 {b:Bool} {n:Nat} (h:b=decide (1<=n)) (h':b=false):n=0:=by
 rw [h',eq_comm,decide_eq_false_iff_not] at h; omega
theorem FZ {a b:Bool} {k n:Nat} (h:a=decide (k<=n)) (ha:a=true) (h':b=decide (k+1<=n)) (hb:b=false):n=k:=by
 rw [ha,eq_comm,decide_eq_true_iff] at h
 rw [hb,eq_comm,decide_eq_false_iff_not] at h'
 omega
theorem Fo {b:Bool} {n m:Nat} (hl:n<=m) (h:b=decide (m<=n)) (hb:b=true):n=m:=by
 rw [hb,eq_comm,decide_eq_true_iff] at h; omega
def Eg:List (Nat × Value)->List ByteArray
 | (_,.string s)::l=>s::Eg l
 | _=>[]
theorem Fr {α:Type} {f:α->Value} (l:List α) {i:Nat} (hi:i<l.length):ba (l.map f).toArray i 1=[f l[i]]:=by
 rw [ba,List.drop_eq_getElem_cons (by simpa using hi)]
 simp
section
variable {w0 w:World} {X:List Nat} {L A:List Item} {S:ar} {K:Value->World->Prop}
attribute [local irreducible] Run CondV ak bg
theorem Inv.last (h:Inv w0 X L S w) (i:Nat) {it:Item} (hi:L[i]?=some it):Inv w0 X (L.eraseIdx i++[it]) S w:=by
 refine h.perm ?_
 obtain ⟨h1,_⟩:=ra hi it
 rw [List.eraseIdx_eq_take_drop_succ]
 conv=>rhs; rw [h1]
 rw [List.append_assoc]
 exact List.Perm.append_left _ List.perm_append_comm
theorem Dy {n:Nat} {ps:List (Nat × Value)} (h:Inv w0 X L S w)
  (hr:(bB xY n ps).run Tryz.prog w=.ok (.value (.slice (some ⟨w.heap.size,0,none⟩) n n)) { w with heap:=w.heap.push (.cells ((Eg ps).map Value.string).toArray pC) })
  (hn:(Eg ps).length=n) (hm:n<=1000) (hk:∀ v S1 w',Ext w0.heap.size X S S1->RdSl S1 1 x2 v (Eg ps)->Inv w0 X L S1 w'->K v w'):Run Tryz.prog (bB xY n ps) w K:=by
 refine B2 (v:=fun b=>.slice (some ⟨b,0,none⟩) n n) (o:=.cells ((Eg ps).map Value.string).toArray pC) h hr fun b w' hI=>?_
 obtain ⟨S1,hI,hE,hS⟩:=hI.pub1
 refine hk _ S1 w' hE ?_ hI
 exact RdSl.ofCells hS hn (by simp only [maxLen]; omega) fun i hi=>Fr _ hi
/- one value drawn by a call, put behind a row: the stages -/
variable {b d:Nat} {c:Array Value} {E:TypeId} {kv:Value} {css:List (List Value)} {F:Nat->List Item} {Q:List Value->Nat->ar->Prop} {xv xs xa:Value}
end
/- how much a drawn term weighs, and how far the reader has gone -/
end Go.Proofs.YtfcbhfjomgopbaaGreat

/- spec.l1Draw, l1Some: a drawn term is readable and light. -/
namespace Go.Proofs.YtfcbhfjomgopbaaGreat
open Go Go.RowKit
theorem zQ {S:ar} {k n:Int} (hk:inI k) (hn:inI n):RdT S [.int .i64 k,.int .i64 n,.string ⟨#[]⟩,.slice none 0 0] (.mk k n emptyB []):=
 RdT.iff.2 ⟨_,rfl,hk,hn,Nat.zero_le _,EK S⟩
section
variable {w0 w:World} {X:List Nat} {L:List Item} {S:ar} {K:Value->World->Prop} {P:Program}
attribute [local irreducible] Run CondV ak bg
end
section
variable {br:Nat} {sl:Value} {ys:List Nat}
attribute [local irreducible] Run CondV ak bg
end
end Go.Proofs.YtfcbhfjomgopbaaGreat

/- spec.l1Mutate. -/
namespace Go.Proofs.YtfcbhfjomgopbaaGreat
open Go Go.RowKit
section
variable {w0 w:World} {X:List Nat} {L A:List Item} {S:ar} {K:Value->World->Prop} {P:Program}
attribute [local irreducible] Run CondV ak bg
end
section
variable {br:Nat} {sl:Value} {ys:List Nat}
attribute [local irreducible] Run CondV ak bg
end
end Go.Proofs.YtfcbhfjomgopbaaGreat

/- spec.l4Mutate, l4MutateAll. -/
namespace Go.Proofs.YtfcbhfjomgopbaaGreat
open Go Go.RowKit
section
variable {w0 w:World} {X:List Nat} {L A:List Item} {S:ar} {K:Value->World->Prop} {P:Program}
end
section
variable {br:Nat} {sl:Value} {ys:List Nat}
attribute [local irreducible] Run CondV ak bg
end
end Go.Proofs.YtfcbhfjomgopbaaGreat

/- spec.l4MutateAll, l4Texts, l4Program, l4Clause, l14Two. -/
namespace Go.Proofs.YtfcbhfjomgopbaaGreat
open Go Go.RowKit
def Light (n m:Nat) (q:List C):Prop:=q.length<=n/\∀ c∈q,wC c<=m
theorem Light.le {n m:Nat} {q:List C} (h:Light n m q):q.length+wP q<=n+n * m:=by
 have:∀ q:List C,(∀ c∈q,wC c<=m)->wP q<=q.length * m:=by
  intro q
  induction q with
  | nil=>intro _; simp [wP]
  | cons c q ih=>
   intro h
   have h1:=h c (List.mem_cons_self ..)
   have h2:=ih fun d hd=>h d (List.mem_cons_of_mem _ hd)
   simp only [wP,List.length_cons,Nat.succ_mul]
   omega
 have h1:=this q h.2
 have h2:q.length * m<=n * m:=Nat.mul_le_mul_right _ h.1
 have:=h.1
 omega
theorem Light.append {n n' m:Nat} {q q':List C} (h:Light n m q) (h':Light n' m q'):Light (n+n') m (q++q'):=
 ⟨by rw [List.length_append]; exact Nat.add_le_add h.1 h'.1,fun c hc=>(List.mem_append.1 hc).elim (h.2 c) (h'.2 c)⟩
/- a program that is still the caller's own row -/
section
variable {w0 w:World} {X:List Nat} {L A:List Item} {S:ar}
end
section
variable {br:Nat} {sl:Value} {ys:List Nat}
attribute [local irreducible] Run CondV ak bg
end
end Go.Proofs.YtfcbhfjomgopbaaGreat

/- spec.l4Texts, l4Program, l4Clause, l14Two. -/
namespace Go.Proofs.YtfcbhfjomgopbaaGreat
open Go Go.RowKit
section
attribute [local irreducible] Run CondV ak bg
variable {br:Nat} {sl:Value} {ys:List Nat}
end
end Go.Proofs.YtfcbhfjomgopbaaGreat

/- spec.l4Clause. -/
namespace Go.Proofs.YtfcbhfjomgopbaaGreat
open Go Go.RowKit
section
variable {br:Nat} {sl:Value} {ys:List Nat}
attribute [local irreducible] Run CondV ak bg
end
end Go.Proofs.YtfcbhfjomgopbaaGreat

/- What calls what, and what can be reached: both sides. -/
namespace Go.Proofs.YtfcbhfjomgopbaaGreat
open Go Go.RowKit
attribute [local irreducible] Run CondV ak bg

end Go.Proofs.YtfcbhfjomgopbaaGreat

/- The graph of calls: the plain form. -/
namespace Go.Proofs.YtfcbhfjomgopbaaGreat
open Go Go.RowKit
attribute [local irreducible] Run CondV ak bg

/- what may still come in -/
/- rows of predicates: their length, an element -/
section
variable {P:Program} {w w0:World} {X:List Nat} {L:List Item} {S:ar} {K:Value->World->Prop}
end

end Go.Proofs.YtfcbhfjomgopbaaGreat

/- What the clauses for a name call: both sides. -/
namespace Go.Proofs.YtfcbhfjomgopbaaGreat
open Go Go.RowKit
attribute [local irreducible] Run CondV ak bg

/- the program's side goes over the clauses' numbers -/
end Go.Proofs.YtfcbhfjomgopbaaGreat

/- What some predicates can lead to: both sides. -/
namespace Go.Proofs.YtfcbhfjomgopbaaGreat
open Go Go.RowKit
attribute [local irreducible] Run CondV ak bg

end Go.Proofs.YtfcbhfjomgopbaaGreat

/- Which predicates can lead to themselves: both sides. -/
namespace Go.Proofs.YtfcbhfjomgopbaaGreat
open Go Go.RowKit
attribute [local irreducible] Run CondV ak bg

end Go.Proofs.YtfcbhfjomgopbaaGreat

/- PredsOf, CallsOf, ReachOf: both sides. -/
namespace Go.Proofs.YtfcbhfjomgopbaaGreat
open Go Go.RowKit
attribute [local irreducible] Run CondV ak bg

end Go.Proofs.YtfcbhfjomgopbaaGreat

/- A predicate that comes in: its size, its copy, its reading. -/
namespace Go.Proofs.YtfcbhfjomgopbaaGreat
open Go Go.ChangeShapes Go.WideShapes Go.ChangeAt Go.RowKit
section
attribute [local irreducible] Run CondV ak bg
end
theorem two {cs:List Value} (h:cs.length=2):∃ a b,cs=[a,b]:=by
 match cs,h with
 | [a,b],_=>exact ⟨a,b,rfl⟩
end Go.Proofs.YtfcbhfjomgopbaaGreat

/- spec.l14Pred, DrawPredsOf, DrawCallsOf, DrawRecursivePred. -/
namespace Go.Proofs.YtfcbhfjomgopbaaGreat
open Go Go.RowKit
section
variable {br:Nat} {sl:Value} {ys:List Nat}
attribute [local irreducible] Run CondV ak bg
theorem Pd.one (x:Pd):∀ u∈x.cells,u.oneCell'=true:=by
 intro u hu
 have hu':u∈([.string x.name,.int .i64 x.arity]:List Value):=hu
 simp at hu'
 rcases hu' with rfl|rfl <;> rfl
end
end Go.Proofs.YtfcbhfjomgopbaaGreat

/- What the laws compare with: pgPreds, pgPred, impl.ClauseSame, pgClauses; bytes that come in. -/
namespace Go.Proofs.YtfcbhfjomgopbaaGreat
open Go Go.ChangeShapes Go.WideShapes Go.ChangeAt Go.RowKit
section
variable {w0 w:World} {X:List Nat} {L:List Item} {S:ar} {K:Value->World->Prop}
attribute [local irreducible] Run CondV ak bg
end
end Go.Proofs.YtfcbhfjomgopbaaGreat

/- Arithmetic and comparisons of numbers, on both sides. -/
namespace Go.Proofs.YtfcbhfjomgopbaaGreat
open Go Go.RowKit
def zc (a b:Int):Int:=if a.tmod b≠0/\(decide (a.tmod b<0) != decide (b<0))=true then a.tmod b+b else a.tmod b
def gl (n:Int):Int × Int:=if n < -999 ∨ 999<n then (0,5) else (n,0)
def opA (s:ByteArray) (a b:Int):Int × Int:=
 if s=⟨#[43]⟩ then gl (a+b)
 else if s=⟨#[45]⟩ then gl (a - b)
 else if s=⟨#[42]⟩ then gl (a * b)
 else if b=0 then (0,4)
 else if s=⟨#[109,111,100]⟩ then (zc a b,0)
 else (a.tdiv b,0)
def gq (s:ByteArray):List (Int × Int)->Int × Int
 | [a,b]=>if cH s=1 ∨ cH s=2 then (if a.2≠0 then (0,a.2) else if b.2≠0 then (0,b.2) else opA s a.1 b.1) else (0,3)
 | _=>(0,3)
mutual
def bG:T->Int × Int
 | .mk k n s ks=>if k=1 then (0,2) else if k=2 then (n,0) else gq s (cM ks)
def cM:List T->List (Int × Int)
 | []=>[]
 | t::ts=>bG t::cM ts
end
theorem uK:∀ ts:List T,cM ts=ts.map bG
 | []=>rfl
 | t::ts=>by rw [cM,uK ts,List.map_cons]
/- numbers within their limits -/
mutual
def okN:T->Prop
 | .mk k n _ ks=>(k=2->-999<=n/\n<=999)/\xA ks
def xA:List T->Prop
 | []=>True
 | t::ts=>okN t/\xA ts
end
theorem dR:∀ {ts:List T},xA ts->∀ t∈ts,okN t
 | t::ts,h,x,hx=>by
  rw [xA] at h
  rcases List.mem_cons.1 hx with rfl|hx
  ·exact h.1
  ·exact dR h.2 x hx
theorem okN.kids {t:T} (h:okN t):xA t.kids:=by cases t; rw [okN] at h; exact h.2
def Sm (n:Int):Prop:=-999<=n/\n<=999
theorem rj (n:Int):Sm (gl n).1:=by
 unfold gl Sm
 split
 ·simp
 ·simp only []; omega
theorem zg {a b:Int} (ha:Sm a):Sm (a.tdiv b):=by
 unfold Sm at *
 have h1:(a.tdiv b).natAbs<=a.natAbs:=by
  rw [Int.natAbs_tdiv]
  exact Nat.div_le_self _ _
 omega
theorem yO {a b:Int} (_:Sm b) (h0:b≠0):(a.tmod b).natAbs<b.natAbs:=by
 rw [Int.natAbs_tmod]
 exact Nat.mod_lt _ (by omega)
theorem Ct {a b:Int} (hb:Sm b) (h0:b≠0):Sm (zc a b):=by
 have h:=yO (a:=a) hb h0
 unfold zc
 split
 ·rename_i h1
  obtain ⟨h1,h2⟩:=h1
  unfold Sm at *
  by_cases h3:a.tmod b<0
  ·by_cases h4:b<0
   ·simp [h3,h4] at h2
   ·omega
  ·by_cases h4:b<0
   ·omega
   ·simp [h3,h4] at h2
 ·unfold Sm at *; omega
theorem FG {s:ByteArray} {a b:Int} (ha:Sm a) (hb:Sm b):Sm (opA s a b).1:=by
 unfold opA
 split
 ·exact rj _
 split
 ·exact rj _
 split
 ·exact rj _
 split
 ·simp [Sm]
 split
 ·rename_i h0 _; exact Ct hb h0
 ·exact zg ha
theorem jO:∀ t:T,okN t->Sm (bG t).1:=by
 refine T.ind fun k n s ks ih h=>?_
 rw [okN] at h
 rw [bG]
 split
 ·simp [Sm]
 split
 ·rename_i hk; exact h.1 hk
 rw [uK]
 match ks,ih,h.2 with
 | [],_,_=>simp [gq,Sm]
 | [x],_,_=>simp [gq,Sm]
 | [x,y],ih,h2=>
  have hx:=ih x (by simp) (dR h2 x (by simp))
  have hy:=ih y (by simp) (dR h2 y (by simp))
  simp only [List.map_cons,List.map_nil,gq]
  split
  ·split
   ·simp [Sm]
   ·split
    ·simp [Sm]
    ·exact FG hx hy
  ·simp [Sm]
 | _::_::_::_,_,_=>simp [gq,Sm]
/- the mod of the other side -/
theorem vw {x b:Int} (h:x.natAbs<b.natAbs):x.tmod b=x:=by
 have h1:=Int.tmod_add_mul_tdiv x b
 have h2:(x.tdiv b).natAbs=0:=by rw [Int.natAbs_tdiv]; exact Nat.div_eq_of_lt h
 have h3:x.tdiv b=0:=by omega
 rw [h3] at h1
 simpa using h1
theorem AV {m b:Int} (h0:0<=m) (h:m<b):(m+b).tmod b=m:=by
 rw [Int.tmod_eq_emod_of_nonneg (by omega),Int.add_emod_right,Int.emod_eq_of_lt h0 h]
theorem CW {m b:Int} (h0:m<=0) (h:b<m):(m+b).tmod b=m:=by
 have h1:=AV (m:=-m) (b:=-b) (by omega) (by omega)
 rw [Int.tmod_neg,show -m+-b=-(m+b) by omega,Int.neg_tmod] at h1
 omega
theorem E6 {a b:Int} (h0:b≠0):(a.tmod b+b).tmod b=zc a b:=by
 have hlt:(a.tmod b).natAbs<b.natAbs:=by
  rw [Int.natAbs_tmod]
  exact Nat.mod_lt _ (by omega)
 obtain ⟨m,hm⟩:∃ m,m=a.tmod b:=⟨_,rfl⟩
 unfold zc
 rw [<- hm] at hlt ⊢
 by_cases h3:m<0
 ·by_cases h4:b<0
  ·rw [if_neg (by simp [h3,h4]),CW (by omega) (by omega)]
  ·rw [if_pos (by simp [h3,h4]; omega),vw (by omega)]
 ·by_cases h4:b<0
  ·by_cases h5:m=0
   ·subst h5; simp
   ·rw [if_pos (by simp [h3,h4,h5]),vw (by omega)]
  ·rw [if_neg (by simp [h3,h4]),AV (by omega) (by omega)]
def f5 (s:ByteArray) (a b:Int):Bool:=
 if s=⟨#[60]⟩ then decide (a<b)
 else if s=⟨#[62]⟩ then decide (b<a)
 else if s=⟨#[61,60]⟩ then decide (a<=b)
 else if s=⟨#[62,61]⟩ then decide (b<=a)
 else decide (a=b)
def dl (b:Bool):Int:=if b=true then 0 else 1
def B6 (s:ByteArray):List (Int × Int)->Int
 | [a,b]=>if a.2≠0 then a.2 else if b.2≠0 then b.2 else dl (f5 s a.1 b.1)
 | _=>0
def dc:List ByteArray:=[⟨#[60]⟩,⟨#[62]⟩,⟨#[61,60]⟩,⟨#[62,61]⟩,⟨#[61,58,61]⟩]
abbrev E3 (p:Int × Int):Value:=.tuple #[.int .i64 p.1,.int .i64 p.2]
theorem Au (s:ByteArray) (l:List ByteArray):(l.any fun x=>decide (x=s))=ca s l:=by
 rw [ca]
 congr 1
 funext x
 rw [decide_eq_decide]
 exact eq_comm
theorem gX {l:List T} (h:l.length=2):∃ x y,l=[x,y]:=by
 match l,h with
 | [x,y],_=>exact ⟨x,y,rfl⟩
theorem Dc (n:Int):gl n=if (decide (-999<=n) && decide (n<=999))=true then (n,0) else (0,5):=by
 unfold gl
 by_cases h:n < -999 ∨ 999<n
 ·rw [if_pos h,if_neg (by simp; omega)]
 ·rw [if_neg h,if_pos (by simp; omega)]
theorem Dl {n:Int} (h:Sm n):gl n=(n,0):=by
 unfold gl Sm at *
 rw [if_neg (by omega)]
section
attribute [local irreducible] Run CondV ak bg
theorem gn (n:Int) (S:ar):Pure Tryz.prog za [.int .i64 n] S (E3 (gl n)):=by
 intro w hI
 refine rP ?_
 unfold nJ
 refine ⟨fun t w'=>t=.bool (decide (n < -999 ∨ 999<n))/\Inv w [] [] S w',?_,?_⟩
 ·refine bz ?_
  refine pT (fun h=>⟨?_,hI⟩) (fun h=>?_)
  ·rw [decide_eq_true (.inl (of_decide_eq_true h))]
  ·refine hG ?_
   refine jM h ⟨?_,hI⟩
   have h:=of_decide_eq_false h
   rw [Value.bool.injEq,decide_eq_decide]
   omega
 intro q _ _ _ _ _ w'
 rintro ⟨rfl,hI⟩
 refine bf (fun h=>done hI ?_) (fun h=>done hI ?_)
 ·rw [gl,if_pos h]
 ·rw [gl,if_neg h]
theorem wX (a b:Int) (h0:b≠0) (hb:Sm b) (S:ar):Pure Tryz.prog Db [.int .i64 a,.int .i64 b] S (.int .i64 (zc a b)):=by
 intro w hI
 have hm:=yO (a:=a) hb h0
 unfold Sm at hb
 refine xI ?_
 unfold ve
 refine Dv h0 ?_
 refine ⟨fun t w'=>t=.int .i64 (zc a b)/\Inv w [] [] S w',?_,?_⟩
 ·refine ⟨fun t w'=>t=.bool (decide (a.tmod b≠0/\(decide (a.tmod b<0) != decide (b<0))=true))/\Inv w [] [] S w',?_,?_⟩
  ·refine bQ ?_
   refine gg (fun h=>?_) (fun h=>⟨?_,hI⟩)
   ·refine bz ?_
    refine bz ?_
    refine DV y5 ?_
    refine eG h ⟨?_,hI⟩
    simp at h
    rw [Value.bool.injEq]
    by_cases h1:a.tmod b<0 <;> by_cases h2:b<0 <;> simp [h,h1,h2]
   ·simp at h; simp [h]
  intro q _ _ _ _ _ _ _ _ w'
  rintro ⟨rfl,hI⟩
  refine bf (fun h=>?_) (fun h=>?_)
  ·refine b0 (by omega) ?_
   exact ⟨by rw [zc,if_pos h],hI⟩
  ·exact ⟨by rw [zc,if_neg h],hI⟩
 intro q _ _ _ _ _ _ _ _ _ _ _ _ w'
 rintro ⟨rfl,hI⟩
 exact done hI rfl
theorem xD (a b:Int) (h0:b≠0) (ha:Sm a) (S:ar):Pure Tryz.prog CV [.int .i64 a,.int .i64 b] S (.int .i64 (a.tdiv b)):=by
 intro w hI
 have:=zg (b:=b) ha
 unfold Sm at this
 refine xL ?_
 unfold vl
 refine Fk h0 (by omega) ?_
 exact done hI rfl
theorem Dx {a b:Int} (ha:Sm a) (hb:Sm b):-998001<=a * b/\a * b<=998001:=by
 unfold Sm at *
 have h1:(a * b).natAbs=a.natAbs * b.natAbs:=Int.natAbs_mul a b
 have h2:a.natAbs * b.natAbs<=999 * 999:=Nat.mul_le_mul (by omega) (by omega)
 omega
theorem zt (s:ByteArray) (a b:Int) (ha:Sm a) (hb:Sm b) (S:ar):Pure Tryz.prog Er [.string s,.int .i64 a,.int .i64 b] S (E3 (opA s a b)):=by
 intro w hI
 have ha':=ha
 have hb':=hb
 have hmul:=Dx ha hb
 unfold Sm at ha hb
 refine yK ?_
 unfold yb
 refine bm ?_
 refine bf (fun h=>?_) (fun h1=>?_)
 ·refine b0 (by omega) ?_
  refine Run.callPure jd ji hI (gn _ S) fun w' hI=>?_
  refine be (v:=.int .i64 _) rfl ?_
  refine be (v:=.int .i64 _) rfl ?_
  exact done hI (by rw [opA,if_pos h])
 refine bm ?_
 refine bf (fun h=>?_) (fun h2=>?_)
 ·refine jA (by omega) ?_
  refine Run.callPure jd ji hI (gn _ S) fun w' hI=>?_
  refine be (v:=.int .i64 _) rfl ?_
  refine be (v:=.int .i64 _) rfl ?_
  exact done hI (by rw [opA,if_neg h1,if_pos h])
 refine bm ?_
 refine bf (fun h=>?_) (fun h3=>?_)
 ·refine Fe (by omega) ?_
  refine Run.callPure jd ji hI (gn _ S) fun w' hI=>?_
  refine be (v:=.int .i64 _) rfl ?_
  refine be (v:=.int .i64 _) rfl ?_
  exact done hI (by rw [opA,if_neg h1,if_neg h2,if_pos h])
 refine bu ?_
 refine bf (fun h=>?_) (fun h4=>?_)
 ·exact done hI (by rw [opA,if_neg h1,if_neg h2,if_neg h3,if_pos h])
 refine bm ?_
 refine bf (fun h=>?_) (fun h5=>?_)
 ·refine Run.callPure BO Be hI (wX _ _ h4 hb' S) fun w' hI=>?_
  exact done hI (by rw [opA,if_neg h1,if_neg h2,if_neg h3,if_neg h4,if_pos h])
 ·refine Run.callPure Bt BL hI (xD _ _ h4 ha' S) fun w' hI=>?_
  exact done hI (by rw [opA,if_neg h1,if_neg h2,if_neg h3,if_neg h4,if_neg h5])
theorem cq (b:Bool) (S:ar):Pure Tryz.prog BM [.bool b] S (.int .i64 (dl b)):=by
 intro w hI
 refine uG ?_
 unfold sm
 refine bd (fun h=>done hI ?_) (fun h=>done hI ?_) <;> rw [h] <;> rfl
theorem c8 (b:Bool) (S:ar):Pure Tryz.prog n_i_holds [.bool b] S (.int .i64 (dl b)):=by
 intro w hI
 refine calls_i_holds ?_
 unfold sh_i_holds
 refine bd (fun h=>done hI ?_) (fun h=>done hI ?_) <;> rw [h] <;> rfl
theorem tO (s:ByteArray) (a b:Int) (S:ar):Pure Tryz.prog AR [.string s,.int .i64 a,.int .i64 b] S (.bool (f5 s a b)):=by
 intro w hI
 refine tB ?_
 unfold pv
 refine bm ?_
 refine bf (fun h=>bz (done hI (by rw [f5,if_pos h]))) (fun h1=>?_)
 refine bm ?_
 refine bf (fun h=>hG (done hI (by rw [f5,if_neg h1,if_pos h]))) (fun h2=>?_)
 refine bm ?_
 refine bf (fun h=>gi (done hI (by rw [f5,if_neg h1,if_neg h2,if_pos h]))) (fun h3=>?_)
 refine bm ?_
 refine bf (fun h=>g5 (done hI (by rw [f5,if_neg h1,if_neg h2,if_neg h3,if_pos h]))) (fun h4=>?_)
 exact bu (done hI (by rw [f5,if_neg h1,if_neg h2,if_neg h3,if_neg h4]))
theorem od (s:ByteArray) (S:ar):Pure Tryz.prog vh [.string s] S (.bool (ca s dc)):=by
 intro w hI
 refine ot ?_
 unfold kZ;dsimp only
 refine bm ?_
 refine pT (fun h=>?_) (fun h1=>?_)
 ·repeat (first|refine ab ?_|refine ad (by decide) ?_|refine aa ?_|refine af ?_|refine ag ?_)
  exact done hI (by simp only [ca,dc,List.any_cons,h,Bool.true_or])
 refine bm ?_
 refine jM h1 ?_
 refine pT (fun h=>?_) (fun h2=>?_)
 ·repeat (first|refine ab ?_|refine ad (by decide) ?_|refine aa ?_|refine af ?_|refine ag ?_)
  exact done hI (by simp only [ca,dc,List.any_cons,h,Bool.true_or,Bool.or_true])
 refine bm ?_
 refine jM h2 ?_
 refine pT (fun h=>?_) (fun h3=>?_)
 ·repeat (first|refine ab ?_|refine ad (by decide) ?_|refine aa ?_|refine af ?_|refine ag ?_)
  exact done hI (by simp only [ca,dc,List.any_cons,h,Bool.true_or,Bool.or_true])
 refine bm ?_
 refine jM h3 ?_
 refine pT (fun h=>?_) (fun h4=>?_)
 ·repeat (first|refine ab ?_|refine ad (by decide) ?_|refine aa ?_|refine af ?_|refine ag ?_)
  exact done hI (by simp only [ca,dc,List.any_cons,h,Bool.true_or,Bool.or_true])
 refine bm ?_
 refine jM h4 ?_
 exact done hI (by simp only [ca,dc,List.any_cons,List.any_nil,h1,h2,h3,h4,Bool.false_or,Bool.or_false])
theorem gW:∀ (t:T) (S:ar) (cs:List Value),RdT S cs t->okN t->Pure Tryz.prog zM [.agg cs.toArray] S (E3 (bG t)):=by
 refine T.ind fun k n s ks ih S cs h hn=>?_
 intro w hI
 obtain ⟨kv,rfl,_,_,_,hks⟩:=RdT.iff.1 h
 rw [okN] at hn
 simp only [T.name,T.kids,T.kind,T.n] at hks ⊢
 refine s8 ?_
 unfold pV
 refine bt hI fun b1 w' hI=>?_
 refine ah hI 0 rfl aU aR rfl ?_
 refine bu ?_
 refine bf (fun h1=>done hI (by rw [bG,if_pos h1])) (fun h1=>?_)
 refine bu ?_
 refine bf (fun h2=>?_) (fun h2=>?_)
 ·refine ah (u:=.int .i64 n) hI 0 rfl a9 aR rfl ?_
  exact done hI (by rw [bG,if_neg h1,if_pos h2])
 have e0:bG (.mk k n s ks)=gq s (cM ks):=by rw [bG,if_neg h1,if_neg h2]
 rw [e0]
 refine ah hI 0 rfl bi bk rfl ?_
 refine Run.callPure pj qq hI (k9 s S) fun w' hI=>?_
 refine ⟨fun t w'=>t=.bool (!(decide (ks.length=2) && (decide (cH s=1) || decide (cH s=2))))/\Inv w [] [.blk b1 (.cells #[.int .i64 k,.int .i64 n,.string s,kv] ac)] S w',?_,?_⟩
 ·refine ah hI 0 rfl aP aO rfl ?_
  refine a5 hks aC ?_
  refine bQ ?_
  have el:decide ((ks.length:Int)=2)=decide (ks.length=2):=by rw [decide_eq_decide]; omega
  rw [el]
  cases hl:decide (ks.length=2)
  ·repeat (first|refine ab ?_|refine ad (by decide) ?_|refine aa ?_|refine af ?_|refine ag ?_)
   exact ⟨rfl,hI⟩
  repeat (first|refine ab ?_|refine ad (by decide) ?_|refine aa ?_|refine af ?_|refine ag ?_)
  refine bQ ?_
  cases h3:decide (cH s=1)
  ·repeat (first|refine ab ?_|refine ad (by decide) ?_|refine aa ?_|refine af ?_|refine ag ?_)
   refine bQ ?_
   repeat (first|refine ab ?_|refine ad (by decide) ?_|refine aa ?_|refine af ?_|refine ag ?_)
   exact ⟨rfl,hI⟩
  ·repeat (first|refine ab ?_|refine ad (by decide) ?_|refine aa ?_|refine af ?_|refine ag ?_)
   exact ⟨rfl,hI⟩
 intro q _ _ _ _ _ _ _ _ _ _ _ w'
 rintro ⟨rfl,hI⟩
 refine bd (fun hc=>done hI ?_) (fun hc=>?_)
 ·match ks,hc with
  | [],_|[_],_|_::_::_::_,_=>rfl
  | [x,y],hc=>
   simp at hc
   rw [cM,cM,cM,gq,if_neg (by omega)]
 simp only [Bool.not_eq_false',Bool.and_eq_true,Bool.or_eq_true,decide_eq_true_eq] at hc
 obtain ⟨hl,hv⟩:=hc
 obtain ⟨x,y,rfl⟩:=gX hl
 have e1:gq s (cM [x,y])=if (bG x).2≠0 then (0,(bG x).2) else if (bG y).2≠0 then (0,(bG y).2) else opA s (bG x).1 (bG y).1:=by
  rw [cM,cM,cM,gq,if_pos hv]
 rw [e1]
 have nx:=dR hn.2 x (by simp)
 have ny:=dR hn.2 y (by simp)
 refine ah hI 0 rfl aP aO rfl ?_
 refine cj (i:=0) hI hks aC al (by simp) (fun _ _=>RdT.length) fun cs' hcs'=>?_
 refine Run.callPure fR f1 hI (ih x (by simp) S cs' hcs' nx) fun w' hI=>?_
 refine be (v:=.int .i64 _) rfl ?_
 refine be (v:=.int .i64 _) rfl ?_
 refine bQ ?_
 refine bd (fun h5=>done hI ?_) (fun h5=>?_)
 ·simp at h5
  rw [if_pos h5]
 simp at h5
 rw [if_neg (by simp [h5])]
 refine ah hI 0 rfl aP aO rfl ?_
 refine cj (i:=1) hI hks aC al (by simp) (fun _ _=>RdT.length) fun cs' hcs'=>?_
 refine Run.callPure fR f1 hI (ih y (by simp) S cs' hcs' ny) fun w' hI=>?_
 refine be (v:=.int .i64 _) rfl ?_
 refine be (v:=.int .i64 _) rfl ?_
 refine bQ ?_
 refine bd (fun h6=>done hI ?_) (fun h6=>?_)
 ·simp at h6
  rw [if_pos h6]
 simp at h6
 rw [if_neg (by simp [h6])]
 refine ah hI 0 rfl bi bk rfl ?_
 refine Run.callPure C4 C2 hI (zt s _ _ (jO _ nx) (jO _ ny) S) fun w' hI=>?_
 refine be (v:=.int .i64 _) rfl ?_
 refine be (v:=.int .i64 _) rfl ?_
 exact done hI rfl
theorem pA {s:ByteArray} {k n:Int} {ks:List T} {S:ar} {cs:List Value} (h:RdT S cs (.mk k n s ks)) (hl:ks.length=2) (hn:xA ks):Pure Tryz.prog xG [.agg cs.toArray] S (.int .i64 (B6 s (cM ks))):=by
 intro w hI
 obtain ⟨kv,rfl,_,_,_,hks⟩:=RdT.iff.1 h
 simp only [T.name,T.kids,T.kind,T.n] at hks ⊢
 obtain ⟨x,y,rfl⟩:=gX hl
 have nx:=dR hn x (by simp)
 have ny:=dR hn y (by simp)
 rw [cM,cM,cM,B6]
 refine qe ?_
 unfold mo
 refine bt hI fun b1 w' hI=>?_
 refine ah hI 0 rfl aP aO rfl ?_
 refine cj (i:=0) hI hks aC al (by simp) (fun _ _=>RdT.length) fun cs' hcs'=>?_
 refine Run.callPure fR f1 hI (gW x S cs' hcs' nx) fun w' hI=>?_
 refine be (v:=.int .i64 _) rfl ?_
 refine be (v:=.int .i64 _) rfl ?_
 refine bQ ?_
 refine bd (fun h5=>done hI ?_) (fun h5=>?_)
 ·simp at h5
  rw [if_pos h5]
 simp at h5
 rw [if_neg (by simp [h5])]
 refine ah hI 0 rfl aP aO rfl ?_
 refine cj (i:=1) hI hks aC al (by simp) (fun _ _=>RdT.length) fun cs' hcs'=>?_
 refine Run.callPure fR f1 hI (gW y S cs' hcs' ny) fun w' hI=>?_
 refine be (v:=.int .i64 _) rfl ?_
 refine be (v:=.int .i64 _) rfl ?_
 refine bQ ?_
 refine bd (fun h6=>done hI ?_) (fun h6=>?_)
 ·simp at h6
  rw [if_pos h6]
 simp at h6
 rw [if_neg (by simp [h6])]
 refine ah hI 0 rfl bi bk rfl ?_
 refine Run.callPure yP zw hI (tO s _ _ S) fun w' hI=>?_
 refine Run.callPure dj di hI (cq _ S) fun w' hI=>?_
 exact done hI rfl
theorem ja:∀ (t:T) (S:ar) (cs:List Value),RdT S cs t->okN t->Pure Tryz.prog CE [.agg cs.toArray] S (E3 (bG t)):=by
 refine T.ind fun k n s ks ih S0 cs h hn=>?_
 intro w hI
 obtain ⟨kv,rfl,_,_,_,hks⟩:=RdT.iff.1 h
 rw [okN] at hn
 simp only [T.name,T.kids,T.kind,T.n] at hks ⊢
 refine xp ?_
 unfold vi
 refine bt hI fun b1 w' hI=>?_
 refine ah hI 0 rfl aU aR rfl ?_
 refine bu ?_
 refine bf (fun h2=>?_) (fun h2=>?_)
 ·refine ah (u:=.int .i64 n) hI 0 rfl a9 aR rfl ?_
  exact done hI (by rw [bG,if_neg (by omega),if_pos h2])
 refine ah hI 0 rfl aU aR rfl ?_
 refine bu ?_
 refine bf (fun h1=>done hI (by rw [bG,if_pos h1])) (fun h1=>?_)
 have e0:bG (.mk k n s ks)=gq s (cM ks):=by rw [bG,if_neg h1,if_neg h2]
 rw [e0]
 refine ⟨fun t w'=>t=.bool (!(decide (ks.length=2) && ca s (qu++iR)))/\∃ S,Sle S0 S/\Inv w [] [.blk b1 (.cells #[.int .i64 k,.int .i64 n,.string s,kv] ac)] S w',?_,?_⟩
 ·refine ah hI 0 rfl aP aO rfl ?_
  refine a5 hks aC ?_
  refine bQ ?_
  have el:decide ((ks.length:Int)=2)=decide (ks.length=2):=by rw [decide_eq_decide]; omega
  rw [el]
  cases hl:decide (ks.length=2)
  ·repeat (first|refine ab ?_|refine ad (by decide) ?_|refine aa ?_|refine af ?_|refine ag ?_)
   exact ⟨rfl,S0,Sle.refl _,hI⟩
  repeat (first|refine ab ?_|refine ad (by decide) ?_|refine aa ?_|refine af ?_|refine ag ?_)
  refine Dy hI (by kernel_rfl) rfl (by omega) fun v S1 w' hE1 hv hI=>?_
  refine ah hI 0 rfl bi bk rfl ?_
  refine Run.callPure eD eE hI (eq s hv) fun w' hI=>?_
  refine bJ ?_
  repeat (first|refine ab ?_|refine ad (by decide) ?_|refine aa ?_|refine af ?_|refine ag ?_)
  refine ⟨?_,S1,hE1.1,hI⟩
  rw [Au]
  rfl
 intro q _ _ _ _ _ _ _ _ _ _ _ w'
 rintro ⟨rfl,S,hle,hI⟩
 have hks:=hks.monoT hle
 have hlev:ca s (qu++iR)=true↔cH s=1 ∨ cH s=2:=by
  have e1:ca s (qu++iR)=(ca s qu || ca s iR):=by rw [ca,List.any_append]; rfl
  rw [e1]
  unfold cH
  have hex:ca s ls=true->ca s qu=false/\ca s iR=false:=by
   intro hc
   rw [ca,List.any_eq_true] at hc
   obtain ⟨x,hx,hd⟩:=hc
   have hd:=of_decide_eq_true hd
   subst hd
   simp only [ls,List.mem_cons,List.not_mem_nil,or_false] at hx
   rcases hx with rfl|rfl|rfl|rfl|rfl|rfl|rfl|rfl|rfl <;> exact ⟨by decide +kernel,by decide +kernel⟩
  cases hc:ca s ls
  ·cases hs:ca s qu <;> cases hp:ca s iR <;> simp
  ·simp [hex hc]
 refine bd (fun hc=>g9 hI hle ?_) (fun hc=>?_)
 ·match ks,hc with
  | [],_|[_],_|_::_::_::_,_=>rfl
  | [x,y],hc=>
   have hc:ca s (qu++iR)=false:=by simpa using hc
   rw [cM,cM,cM,gq,if_neg (by rw [<- hlev,hc]; decide)]
 simp only [Bool.not_eq_false',Bool.and_eq_true,decide_eq_true_eq] at hc
 obtain ⟨hl,hv⟩:=hc
 rw [hlev] at hv
 obtain ⟨x,y,rfl⟩:=gX hl
 have e1:gq s (cM [x,y])=if (bG x).2≠0 then (0,(bG x).2) else if (bG y).2≠0 then (0,(bG y).2) else opA s (bG x).1 (bG y).1:=by
  rw [cM,cM,cM,gq,if_pos hv]
 rw [e1]
 have nx:=dR hn.2 x (by simp)
 have ny:=dR hn.2 y (by simp)
 refine ah hI 0 rfl aP aO rfl ?_
 refine cj (i:=0) hI hks aC al (by simp) (fun _ _=>RdT.length) fun cs' hcs'=>?_
 refine Run.callPure iG iz hI (ih x (by simp) S cs' hcs' nx) fun w' hI=>?_
 refine be (v:=.int .i64 _) rfl ?_
 refine be (v:=.int .i64 _) rfl ?_
 refine bQ ?_
 refine bd (fun h5=>g9 hI hle ?_) (fun h5=>?_)
 ·simp at h5
  rw [if_pos h5]
 simp at h5
 rw [if_neg (by simp [h5])]
 refine ah hI 0 rfl aP aO rfl ?_
 refine cj (i:=1) hI hks aC al (by simp) (fun _ _=>RdT.length) fun cs' hcs'=>?_
 refine Run.callPure iG iz hI (ih y (by simp) S cs' hcs' ny) fun w' hI=>?_
 refine be (v:=.int .i64 _) rfl ?_
 refine be (v:=.int .i64 _) rfl ?_
 refine bQ ?_
 refine bd (fun h6=>g9 hI hle ?_) (fun h6=>?_)
 ·simp at h6
  rw [if_pos h6]
 simp at h6
 rw [if_neg (by simp [h6])]
 have ax:=jO x nx
 have ay:=jO y ny
 obtain ⟨a,ha⟩:∃ a,a=(bG x).1:=⟨_,rfl⟩
 obtain ⟨b,hb⟩:∃ b,b=(bG y).1:=⟨_,rfl⟩
 rw [<- ha] at ax ⊢
 rw [<- hb] at ay ⊢
 have hmul:=Dx ax ay
 have ax':=ax
 have ay':=ay
 unfold Sm at ax ay
 refine ⟨fun q w'=>∃ m:Int,q=.int .i64 m/\opA s a b=gl m/\Inv w [] [.blk b1 (.cells #[.int .i64 k,.int .i64 n,.string s,kv] ac)] S w',?_,?_⟩
 ·refine ah hI 0 rfl bi bk rfl ?_
  refine bm ?_
  refine bf (fun h=>?_) (fun h1=>?_)
  ·exact b0 (by omega) ⟨_,rfl,by rw [opA,if_pos h],hI⟩
  refine bm ?_
  refine bf (fun h=>?_) (fun h2=>?_)
  ·exact jA (by omega) ⟨_,rfl,by rw [opA,if_neg h1,if_pos h],hI⟩
  refine bm ?_
  refine bf (fun h=>?_) (fun h3=>?_)
  ·exact Fe (by omega) ⟨_,rfl,by rw [opA,if_neg h1,if_neg h2,if_pos h],hI⟩
  refine bu ?_
  refine bf (fun h=>?_) (fun h4=>?_)
  ·exact g9 hI hle (by rw [opA,if_neg h1,if_neg h2,if_neg h3,if_pos h])
  have hd:=zg (b:=b) ax'
  have hd':=hd
  unfold Sm at hd
  refine Fk h4 (by omega) ?_
  refine ah hI 0 rfl bi bk rfl ?_
  refine bm ?_
  refine bf (fun h=>?_) (fun h5=>?_)
  ·have hm:=yO (a:=a) ay' h4
   refine Dv h4 ?_
   refine b0 (by omega) ?_
   refine Dv h4 ?_
   refine ⟨_,rfl,?_,hI⟩
   rw [opA,if_neg h1,if_neg h2,if_neg h3,if_neg h4,if_pos h,E6 h4,Dl (Ct ay' h4)]
  ·refine ⟨_,rfl,?_,hI⟩
   rw [opA,if_neg h1,if_neg h2,if_neg h3,if_neg h4,if_neg h5,Dl hd']
 intro _ _ _ _ _ _ _ _ _ _ _ _ _ _ _ _ _ _ _ _ _ _ _ _ _ _ _ q _ _ _ _ _ _ _ w'
 rintro ⟨m,rfl,hop,hI⟩
 refine Run.callPure fH fL hI (eN _ _ _ S) fun w' hI=>?_
 refine bJ ?_
 rw [hop,Dc]
 refine bd (fun hc=>g9 hI hle ?_) (fun hc=>g9 hI hle ?_)
 ·rw [Bool.not_eq_true'] at hc
  rw [hc]; rfl
 ·rw [Bool.not_eq_false'] at hc
  rw [hc]; rfl
def EL (t:T):Bool:=decide (t.kind=3) && (decide (t.kids.length=2) && ca t.name dc)
theorem rR {t:T} {S0:ar} {cs:List Value} (h:RdT S0 cs t):Pure Tryz.prog zq [.agg cs.toArray] S0 (.bool (EL t)):=by
 intro w hI
 obtain ⟨kv,rfl,_,_,_,hks⟩:=RdT.iff.1 h
 refine q6 ?_
 unfold np;dsimp only
 unfold EL
 refine bt hI fun b1 w' hI=>?_
 refine ah hI 0 rfl aU aR rfl ?_
 refine bu ?_
 have el:decide ((t.kids.length:Int)=2)=decide (t.kids.length=2):=by rw [decide_eq_decide]; omega
 cases hk:decide (t.kind=3)
 ·repeat (first|refine ab ?_|refine ad (by decide) ?_|refine aa ?_|refine af ?_|refine ag ?_)
  exact done hI rfl
 repeat (first|refine ab ?_|refine ad (by decide) ?_|refine aa ?_|refine af ?_|refine ag ?_)
 refine ah hI 0 rfl aP aO rfl ?_
 refine a5 hks aC ?_
 refine bu ?_
 rw [el]
 repeat (first|refine ab ?_|refine ad (by decide) ?_|refine aa ?_|refine af ?_|refine ag ?_)
 cases hl:decide (t.kids.length=2)
 ·repeat (first|refine ab ?_|refine ad (by decide) ?_|refine aa ?_|refine af ?_|refine ag ?_)
  exact done hI rfl
 repeat (first|refine ab ?_|refine ad (by decide) ?_|refine aa ?_|refine af ?_|refine ag ?_)
 refine Dy hI (by kernel_rfl) rfl (by omega) fun v S1 w' hE1 hv hI=>?_
 refine ah hI 0 rfl bi bk rfl ?_
 refine Run.callPure eD eE hI (eq t.name hv) fun w' hI=>?_
 repeat (first|refine ab ?_|refine ad (by decide) ?_|refine aa ?_|refine af ?_|refine ag ?_)
 refine g9 hI hE1.1 ?_
 rw [Au]
 rfl
theorem rx {s:ByteArray} {k n:Int} {ks:List T} {S:ar} {cs:List Value} (h:RdT S cs (.mk k n s ks)) (hl:ks.length=2) (hn:xA ks):Pure Tryz.prog yC [.agg cs.toArray] S (.int .i64 (B6 s (cM ks))):=by
 intro w hI
 obtain ⟨kv,rfl,_,_,_,hks⟩:=RdT.iff.1 h
 simp only [T.name,T.kids,T.kind,T.n] at hks ⊢
 obtain ⟨x,y,rfl⟩:=gX hl
 have nx:=dR hn x (by simp)
 have ny:=dR hn y (by simp)
 rw [cM,cM,cM,B6]
 refine rU ?_
 unfold nk
 refine bt hI fun b1 w' hI=>?_
 refine ah hI 0 rfl aP aO rfl ?_
 refine cj (i:=0) hI hks aC al (by simp) (fun _ _=>RdT.length) fun cs' hcs'=>?_
 refine Run.callPure iG iz hI (ja x S cs' hcs' nx) fun w' hI=>?_
 refine be (v:=.int .i64 _) rfl ?_
 refine be (v:=.int .i64 _) rfl ?_
 refine bQ ?_
 refine bd (fun h5=>done hI ?_) (fun h5=>?_)
 ·simp at h5
  rw [if_pos h5]
 simp at h5
 rw [if_neg (by simp [h5])]
 refine ah hI 0 rfl aP aO rfl ?_
 refine cj (i:=1) hI hks aC al (by simp) (fun _ _=>RdT.length) fun cs' hcs'=>?_
 refine Run.callPure iG iz hI (ja y S cs' hcs' ny) fun w' hI=>?_
 refine be (v:=.int .i64 _) rfl ?_
 refine be (v:=.int .i64 _) rfl ?_
 refine bQ ?_
 refine bd (fun h6=>done hI ?_) (fun h6=>?_)
 ·simp at h6
  rw [if_pos h6]
 simp at h6
 rw [if_neg (by simp [h6])]
 refine ah hI 0 rfl bi bk rfl ?_
 have hcode:∀ (b:Bool) {w':World} {L:List Item},Inv w [] L S w'->f5 s (bG x).1 (bG y).1=b->Run Tryz.prog (aN (.func (.func n_i_holds) #[] #[]) [.bool b]) w' fun v w''=>Ending.returned v=.returned (.int .i64 (dl (f5 s (bG x).1 (bG y).1)))/\Inv w [] [] S w'':=fun b w' L hI e=>
  Run.callPure fn_i_holds nm_i_holds hI (c8 b S) fun w' hI=>done hI (by rw [e])
 refine bm ?_
 refine bf (fun h=>bz (hcode _ hI (by rw [f5,if_pos h]))) (fun h1=>?_)
 refine bm ?_
 refine bf (fun h=>hG (hcode _ hI (by rw [f5,if_neg h1,if_pos h]))) (fun h2=>?_)
 refine bm ?_
 refine bf (fun h=>gi (hcode _ hI (by rw [f5,if_neg h1,if_neg h2,if_pos h]))) (fun h3=>?_)
 refine bm ?_
 refine bf (fun h=>g5 (hcode _ hI (by rw [f5,if_neg h1,if_neg h2,if_neg h3,if_pos h]))) (fun h4=>?_)
 exact bu (hcode _ hI (by rw [f5,if_neg h1,if_neg h2,if_neg h3,if_neg h4]))
end
end Go.Proofs.YtfcbhfjomgopbaaGreat
