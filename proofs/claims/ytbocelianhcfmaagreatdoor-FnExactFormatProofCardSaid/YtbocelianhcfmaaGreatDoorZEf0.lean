/- The numbers of the library functions whose contracts the kit has proved, at this program. -/
import Derived.Shelf.LaysM
import Derived.Shelf.Strings.OnBuilder
import Derived.Shelf.Strconv.Itoa3
import Derived.Test.YtbocelianhcfmaaGreatDoorZEfF
import Derived.Test.YtbocelianhcfmaaGreatDoorZEfS
import Derived.Test.YtbocelianhcfmaaGreatDoorZEfgz
namespace Go.Proofs.YtbocelianhcfmaaGreatDoor
section
def mT:Go.Shelf.Ren:=⟨fun|156=>107|165=>130|166=>131|169=>132|240=>161|241=>162|276=>184|277=>185|n=>n,fun|31=>96|9=>9|3=>3|4=>4|0=>0|20=>20|72=>156|76=>160|70=>154|37=>39|75=>159|127=>189|164=>208|5=>5|80=>162|n=>n,fun|n=>n⟩
theorem uQ:Go.Proofs.Lays.n156 Tryz.prog mT where
 mixed:=by kernel_rfl
 f156:=Tryz.func107.trans (congrArg some (by kernel_rfl))
 f165:=Tryz.func130.trans (congrArg some (by kernel_rfl))
 f166:=Tryz.func131.trans (congrArg some (by kernel_rfl))
 f169:=Tryz.func132.trans (congrArg some (by kernel_rfl))
 f240:=Tryz.func161.trans (congrArg some (by kernel_rfl))
 f241:=Tryz.func162.trans (congrArg some (by kernel_rfl))
 f276:=Tryz.func184.trans (congrArg some (by kernel_rfl))
 f277:=Tryz.func185.trans (congrArg some (by kernel_rfl))
 t0:=Tryz.underlying0
 a0:=Tryz.isAgg0
 z0:=Tryz.sizeOf0
 v0:=Tryz.zeroValue0
 t3:=Tryz.underlying3
 a3:=Tryz.isAgg3
 z3:=Tryz.sizeOf3
 v3:=Tryz.zeroValue3
 t4:=Tryz.underlying4
 a4:=Tryz.isAgg4
 z4:=Tryz.sizeOf4
 v4:=Tryz.zeroValue4
 t9:=Tryz.underlying9
 a9:=Tryz.isAgg9
 z9:=Tryz.sizeOf9
 v9:=Tryz.zeroValue9
 t20:=Tryz.underlying20
 a20:=Tryz.isAgg20
 z20:=Tryz.sizeOf20
 v20:=Tryz.zeroValue20
 t31:=Tryz.underlying96
 a31:=Tryz.isAgg96
 z31:=Tryz.sizeOf96
 v31:=Tryz.zeroValue96
 t37:=Tryz.underlying39
 a37:=Tryz.isAgg39
 z37:=Tryz.sizeOf39
 v37:=Tryz.zeroValue39
 t70:=Tryz.underlying154
 a70:=Tryz.isAgg154
 z70:=Tryz.sizeOf154
 v70:=Tryz.zeroValue154
 t72:=Tryz.underlying156
 a72:=Tryz.isAgg156
 z72:=Tryz.sizeOf156
 v72:=Tryz.zeroValue156
 t75:=Tryz.underlying159
 a75:=Tryz.isAgg159
 z75:=Tryz.sizeOf159
 v75:=Tryz.zeroValue159
 t76:=Tryz.underlying160
 a76:=Tryz.isAgg160
 z76:=Tryz.sizeOf160
 v76:=Tryz.zeroValue160
 t127:=Tryz.underlying189
 a127:=Tryz.isAgg189
 z127:=Tryz.sizeOf189
 v127:=Tryz.zeroValue189
 t164:=Tryz.underlying208
 a164:=Tryz.isAgg208
 z164:=Tryz.sizeOf208
 v164:=Tryz.zeroValue208
theorem uY:Go.Proofs.Builder.Extra Tryz.prog mT where
 sizeBuilder:=by kernel_rfl
 liesBuilder:=by kernel_rfl
 t5:=Tryz.underlying5
 a5:=Tryz.isAgg5
 z5:=Tryz.sizeOf5
 v5:=Tryz.zeroValue5
 infoByte:=by kernel_rfl
 cellsByte:=by kernel_rfl
 sizeByte:=by kernel_rfl
 neB5:=by decide
def rx:Go.Shelf.Ren:=⟨fun|171=>43|243=>73|246=>108|283=>133|284=>134|285=>135|286=>136|129=>164|317=>163|318=>165|319=>166|320=>167|337=>186|338=>187|n=>n,fun|3=>3|9=>9|2=>2|4=>4|171=>163|0=>0|53=>164|37=>39|5=>5|173=>167|212=>190|51=>191|20=>20|213=>192|46=>194|232=>217|233=>218|n=>n,fun|17=>0|18=>2|19=>3|n=>n⟩
theorem uT:Go.Proofs.LaysM.n171 Tryz.prog rx where
 mixed:=by kernel_rfl
 f129:=Tryz.func164.trans (congrArg some (by kernel_rfl))
 f171:=Tryz.func43.trans (congrArg some (by kernel_rfl))
 f243:=Tryz.func73.trans (congrArg some (by kernel_rfl))
 f246:=Tryz.func108.trans (congrArg some (by kernel_rfl))
 f283:=Tryz.func133.trans (congrArg some (by kernel_rfl))
 f284:=Tryz.func134.trans (congrArg some (by kernel_rfl))
 f285:=Tryz.func135.trans (congrArg some (by kernel_rfl))
 f286:=Tryz.func136.trans (congrArg some (by kernel_rfl))
 f317:=Tryz.func163.trans (congrArg some (by kernel_rfl))
 f318:=Tryz.func165.trans (congrArg some (by kernel_rfl))
 f319:=Tryz.func166.trans (congrArg some (by kernel_rfl))
 f320:=Tryz.func167.trans (congrArg some (by kernel_rfl))
 f337:=Tryz.func186.trans (congrArg some (by kernel_rfl))
 f338:=Tryz.func187.trans (congrArg some (by kernel_rfl))
 t0:=Tryz.underlying0
 a0:=Tryz.isAgg0
 z0:=Tryz.sizeOf0
 v0:=Tryz.zeroValue0
 t2:=Tryz.underlying2
 a2:=Tryz.isAgg2
 z2:=Tryz.sizeOf2
 v2:=Tryz.zeroValue2
 t3:=Tryz.underlying3
 a3:=Tryz.isAgg3
 z3:=Tryz.sizeOf3
 v3:=Tryz.zeroValue3
 t4:=Tryz.underlying4
 a4:=Tryz.isAgg4
 z4:=Tryz.sizeOf4
 v4:=Tryz.zeroValue4
 t5:=Tryz.underlying5
 a5:=Tryz.isAgg5
 z5:=Tryz.sizeOf5
 v5:=Tryz.zeroValue5
 t9:=Tryz.underlying9
 a9:=Tryz.isAgg9
 z9:=Tryz.sizeOf9
 v9:=Tryz.zeroValue9
 t20:=Tryz.underlying20
 a20:=Tryz.isAgg20
 z20:=Tryz.sizeOf20
 v20:=Tryz.zeroValue20
 t37:=Tryz.underlying39
 a37:=Tryz.isAgg39
 z37:=Tryz.sizeOf39
 v37:=Tryz.zeroValue39
 t46:=Tryz.underlying194
 a46:=Tryz.isAgg194
 z46:=Tryz.sizeOf194
 v46:=Tryz.zeroValue194
 t51:=Tryz.underlying191
 a51:=Tryz.isAgg191
 z51:=Tryz.sizeOf191
 v51:=Tryz.zeroValue191
 t53:=Tryz.underlying164
 a53:=Tryz.isAgg164
 z53:=Tryz.sizeOf164
 v53:=Tryz.zeroValue164
 t171:=Tryz.underlying163
 a171:=Tryz.isAgg163
 z171:=Tryz.sizeOf163
 v171:=Tryz.zeroValue163
 t173:=Tryz.underlying167
 a173:=Tryz.isAgg167
 z173:=Tryz.sizeOf167
 v173:=Tryz.zeroValue167
 t212:=Tryz.underlying190
 a212:=Tryz.isAgg190
 z212:=Tryz.sizeOf190
 v212:=Tryz.zeroValue190
 t213:=Tryz.underlying192
 a213:=Tryz.isAgg192
 z213:=Tryz.sizeOf192
 t232:=Tryz.underlying217
 a232:=Tryz.isAgg217
 z232:=Tryz.sizeOf217
 v232:=Tryz.zeroValue217
 t233:=Tryz.underlying218
 a233:=Tryz.isAgg218
 z233:=Tryz.sizeOf218
 v233:=Tryz.zeroValue218
 g17:=by kernel_rfl
 g18:=by kernel_rfl
 g19:=by kernel_rfl
 i0:=by kernel_rfl
 i2:=by kernel_rfl
 i3:=by kernel_rfl
 i4:=by kernel_rfl
 i5:=by kernel_rfl
 i9:=by kernel_rfl
 i20:=by kernel_rfl
 i37:=by kernel_rfl
 i46:=by kernel_rfl
 i51:=by kernel_rfl
 i53:=by kernel_rfl
 i171:=by kernel_rfl
 i173:=by kernel_rfl
 i212:=by kernel_rfl
 i232:=by kernel_rfl
 i233:=by kernel_rfl
 m17:=by kernel_rfl
 m18:=by kernel_rfl
 m19:=by kernel_rfl
end
section
open Go Go.RowKit
attribute [local irreducible] Run CondV ah ax

abbrev aq:=List (Nat × Obj)
def cF (L:aq):List Item:=L.map fun p=>.blk p.1 p.2
theorem pC (L M:aq):cF (L++M)=cF L++cF M:=by simp [cF]
def Ins (S:ab) (L:aq):Prop:=∀ p∈L,S p.1=some p.2
theorem Ins.mono {S S':ab} {L:aq} (h:Ins S L) (hs:Sle S S'):Ins S' L:=fun p hp=>hs _ _ (h p hp)
theorem Ins.left {S:ab} {L M:aq} (h:Ins S (L++M)):Ins S L:=fun p hp=>h p (List.mem_append_left _ hp)
theorem Ins.right {S:ab} {L M:aq} (h:Ins S (L++M)):Ins S M:=fun p hp=>h p (List.mem_append_right _ hp)
theorem du {L:aq} {b:Nat}:b∈aH (cF L)↔∃ p∈L,p.1=b:=by
 simp only [aH,cF,List.mem_flatMap,List.mem_map]
 constructor
 ·rintro ⟨it,⟨p,hp,rfl⟩,hb⟩
  simp only [Item.foot,List.mem_singleton] at hb
  exact ⟨p,hp,hb.symm⟩
 ·rintro ⟨p,hp,rfl⟩
  exact ⟨_,⟨p,hp,rfl⟩,by simp [Item.foot]⟩

theorem Inv.publishAll {w0 w:World} {X:List Nat} {A:List Item}:∀ (L:aq) {S:ab},Inv w0 X (A++cF L) S w->
  ∃ S',Inv w0 X A S' w/\Sle S S'/\Ins S' L/\∀ b o,S' b=some o->S b=some o ∨ b∈aH (cF L)
 | [],S,h=>⟨S,by simpa [cF] using h,Sle.refl S,by intro p hp; simp at hp,fun b o hb=>.inl hb⟩
 | p::L,S,h=>by
  have hi:(A++cF (p::L))[A.length]?=some (.blk p.1 p.2):=by simp [cF]
  obtain ⟨h1,h2⟩:=h.publish hi
  have he:(A++cF (p::L)).eraseIdx A.length=A++cF L:=by simp [cF,List.eraseIdx_append_of_length_le]
  rw [he] at h1
  obtain ⟨S',h3,h4,h5,h6⟩:=publishAll L h1
  refine ⟨S',h3,h2.trans h4,fun q hq=>?_,fun b o hb=>?_⟩
  ·rcases List.mem_cons.1 hq with rfl|hq
   ·exact h4 _ _ (by simp [iA])
   ·exact h5 q hq
  ·rcases h6 b o hb with h7|h7
   ·simp only [iA] at h7
    split at h7
    ·rename_i e; right; rw [du]; exact ⟨p,List.mem_cons_self ..,e.symm⟩
    ·exact .inl h7
   ·right
    obtain ⟨q,hq,e⟩:=du.1 h7
    exact du.2 ⟨q,List.mem_cons_of_mem _ hq,e⟩

def TrSl {α:Type} (k:Nat) (R:aq->List Value->α->Prop) (L:aq) (v:Value) (xs:List α):Prop:=
 ∃ a cap,v=.slice a xs.length cap/\xs.length<=cap/\cap<=maxLen/\
  ((xs=[]/\L=[]) ∨ ∃ b c E,∃ Ls:List aq,a=some ⟨b,0,none⟩/\L=(b,.cells c E)::Ls.flatten/\Ls.length=xs.length/\cap * k<=c.size/\
   ∀ i (h:i<xs.length) (h':i<Ls.length),R Ls[i] (aF c (i * k) k) xs[i])
inductive TrT:aq->List Value->T->Prop
 | nil {k n:Int} {s:ByteArray} {a:Option Addr} {cap:Nat} (hk:inI k) (hn:inI n) (hs:s.size<=maxLen) (hc:cap<=maxLen) :
   TrT [] [.int .i64 k,.int .i64 n,.string s,.slice a 0 cap] (.mk k n s [])
 | cons {k n:Int} {s:ByteArray} {kids:List T} {b cap:Nat} {c:Array Value} {E:TypeId} {Ls:List aq} (hk:inI k) (hn:inI n) (hs:s.size<=maxLen) (hl:kids.length<=cap) (hc:cap<=maxLen)
   (hLs:Ls.length=kids.length) (hsz:cap * 4<=c.size) (h:∀ i (h:i<kids.length) (h':i<Ls.length),TrT Ls[i] (aF c (i * 4) 4) kids[i]) :
   TrT ((b,.cells c E)::Ls.flatten) [.int .i64 k,.int .i64 n,.string s,.slice (some ⟨b,0,none⟩) kids.length cap] (.mk k n s kids)
theorem TrT.iff {L:aq} {cs:List Value} {t:T}:TrT L cs t ↔
  ∃ ks,cs=[.int .i64 t.kind,.int .i64 t.n,.string t.name,ks]/\inI t.kind/\inI t.n/\t.name.size<=maxLen/\TrSl 4 TrT L ks t.kids:=by
 constructor
 ·intro h
  cases h with
  | nil hk hn hs hc=>exact ⟨_,rfl,hk,hn,hs,_,_,rfl,Nat.zero_le _,hc,.inl ⟨rfl,rfl⟩⟩
  | cons hk hn hs hl hc hLs hsz h=>exact ⟨_,rfl,hk,hn,hs,_,_,rfl,hl,hc,.inr ⟨_,_,_,_,rfl,rfl,hLs,hsz,h⟩⟩
 ·obtain ⟨k,n,s,kids⟩:=t
  rintro ⟨ks,rfl,hk,hn,hs,a,cap,rfl,hl,hc,h⟩
  rcases h with ⟨h,rfl⟩|⟨b,c,E,Ls,rfl,rfl,hLs,hsz,h⟩
  ·simp only [T.kids] at h
   subst h
   exact TrT.nil hk hn hs hc
  ·exact TrT.cons hk hn hs hl hc hLs hsz h
theorem TrT.length {L:aq} {cs:List Value} {t:T} (h:TrT L cs t):cs.length=4:=by
 obtain ⟨ks,rfl,_⟩:=TrT.iff.1 h; rfl
theorem TrT.one {L:aq} {cs:List Value} {t:T} (h:TrT L cs t):∀ u∈cs,u.oneCell'=true:=by
 obtain ⟨ks,rfl,_,_,_,a,cap,rfl,_⟩:=TrT.iff.1 h
 intro u hu
 simp at hu
 rcases hu with rfl|rfl|rfl|rfl <;> rfl
theorem RdT.one {S:ab} {cs:List Value} {t:T} (h:RdT S cs t):∀ u∈cs,u.oneCell'=true:=by
 obtain ⟨ks,rfl,_,_,_,a,cap,rfl,_⟩:=RdT.iff.1 h
 intro u hu
 simp at hu
 rcases hu with rfl|rfl|rfl|rfl <;> rfl
theorem nS {S:ab} {Ls:List aq} (h:Ins S Ls.flatten) {i:Nat} (hi:i<Ls.length):Ins S Ls[i]:=
 fun p hp=>h p (List.mem_flatten.2 ⟨_,List.getElem_mem hi,hp⟩)
theorem TrSl.rd {α:Type} {S:ab} {k:Nat} {R:aq->List Value->α->Prop} {R':List Value->α->Prop} {L:aq} {v:Value} {xs:List α} (h:TrSl k R L v xs) (hi:Ins S L)
  (hR:∀ L cs x,Ins S L->R L cs x->R' cs x):RdSl S k R' v xs:=by
 obtain ⟨a,cap,rfl,hl,hc,h⟩:=h
 refine ⟨a,cap,rfl,hl,hc,?_⟩
 rcases h with ⟨h,_⟩|⟨b,c,E,Ls,rfl,rfl,hLs,hsz,h⟩
 ·exact .inl h
 ·refine .inr ⟨b,0,c,E,(0,0),rfl,hi _ (List.mem_cons_self ..),fun i h1=>?_⟩
  rw [Nat.zero_add]
  exact hR _ _ _ (nS (fun p hp=>hi p (List.mem_cons_of_mem _ hp)) (by omega)) (h i h1 (by omega))
theorem TrT.rd {S:ab} {L:aq} {cs:List Value} {t:T} (h:TrT L cs t) (hi:Ins S L):RdT S cs t:=by
 induction h with
 | nil hk hn hs hc=>exact RdT.nil hk hn hs hc
 | cons hk hn hs hl hc hLs hsz h ih=>
  refine RdT.cons hk hn hs hl hc (hi _ (List.mem_cons_self ..)) (o:=0) fun i h1=>?_
  rw [Nat.zero_add]
  exact ih i h1 (by omega) (nS (fun p hp=>hi p (List.mem_cons_of_mem _ hp)) (by omega))
def TrC (L:aq) (cs:List Value) (c:C):Prop:=∃ hd ks L1 L2,cs=hd++[ks]/\L=L1++L2/\TrT L1 hd c.head/\TrSl 4 TrT L2 ks c.body
theorem TrC.rd {S:ab} {L:aq} {cs:List Value} {c:C} (h:TrC L cs c) (hi:Ins S L):RdC S cs c:=by
 obtain ⟨hd,ks,L1,L2,rfl,rfl,h1,h2⟩:=h
 exact ⟨hd,ks,rfl,h1.rd hi.left,h2.rd hi.right fun _ _ _ hi h=>h.rd hi⟩
theorem TrC.length {L:aq} {cs:List Value} {c:C} (h:TrC L cs c):cs.length=5:=by
 obtain ⟨hd,ks,L1,L2,rfl,rfl,h1,h2⟩:=h; simp [h1.length]
theorem TrC.one {L:aq} {cs:List Value} {c:C} (h:TrC L cs c):∀ u∈cs,u.oneCell'=true:=by
 obtain ⟨hd,ks,L1,L2,rfl,rfl,h1,a,cap,rfl,_⟩:=h
 intro u hu
 rcases List.mem_append.1 hu with hu|hu
 ·exact h1.one u hu
 ·simp at hu; subst hu; rfl

section
variable {P:Program} {w w0:World} {X:List Nat} {L:List Item} {S:ab} {K:Value->World->Prop}
theorem Run.call0 {f:FuncId} {fn:Func} {args:List Value} {Post:Value->List Item->ab->Prop}
  (hf:P.funcs[f]?=some fn) (hn:(fn.name == "runtime.NumGoroutine" || fn.body.isNone)=false) (h:Inv w0 X L S w) (hc:Tri P f args [] S Post)
  (hk:∀ v I' S' w',Post v I' S'->Sle S S'->Inv w0 X (L++I') S' w'->K v w'):Run P (bB (.func (.func f) #[] #[]) args) w K:=
 Run.call (A:=L) (I:=[]) hf hn (by simpa using h) hc hk
theorem cS {T U ty ty' E:TypeId} {f d b:Nat} {c:Array Value} {v:Value} (hI:Inv w0 X L S w) (i:Nat) (hi:L[i]?=some (.blk b (.cells c E))) (hf:aW P T f=some d) (hU:fD P U=true) (hlt:Nat.blt d c.size=true)
  (hv:v.cells=#[v]) (h1:v.oneCell'=true)
  {K:Value->Value->World->Prop} (hk:∀ w',Inv w0 X (L.set i (.blk b (.cells (c.setIfInBounds d v) E))) S w'->K (.pointer (some ⟨b,d,none⟩)) undef w') :
  Run P (sOp (.fieldAddr T (.const (.pointer (some ⟨b,0,none⟩))) f) ty) w fun q w'=>Run P (sOp (.store U (.const q) (.const v)) ty') w' (K q):=by
 have hlt:d<c.size:=by simpa [Nat.blt_eq] using hlt
 refine a8 hf ?_
 rw [Nat.zero_add]
 refine dm hI i (n:=1) (by rw [hv]; rfl) (by rw [hU]; rfl) hi (by omega) (by rw [hv]; simpa using h1) fun w' hI'=>hk w' ?_
 have:aM c d v.cells.toList=c.setIfInBounds d v:=by
  rw [hv]
  apply Array.toList_inj.1
  simp only [aM,Array.toList_setIfInBounds]
  have hl:d<c.toList.length:=by simpa using hlt
  rw [List.set_eq_take_append_cons_drop,if_pos hl]
  simp
 rw [this] at hI'
 exact hI'
theorem r4 {T ty E:TypeId} {o b n:Nat} {c:Array Value} {v:Value} (hI:Inv w0 X L S w) (i:Nat) (hi:L[i]?=some (.blk b (.cells c E))) (hT:fy P T=some n) (hn:v.cells.size=n) (hfit:Nat.ble (o+n) c.size=true)
  (h1:∀ u∈v.cells.toList,u.oneCell'=true) (hk:∀ w',Inv w0 X (L.set i (.blk b (.cells (aM c o v.cells.toList) E))) S w'->K undef w') :
  Run P (sOp (.store T (.const (.pointer (some ⟨b,o,none⟩))) (.const v)) ty) w K:=
 dm hI i hn (by rw [hT]; simp) hi (Nat.le_of_ble_eq_true hfit) h1 hk
theorem cB {T ty E:TypeId} {b n:Nat} {c cs:Array Value} (hI:Inv w0 X L S w) (i:Nat) (hi:L[i]?=some (.blk b (.cells c E))) (hT:fy P T=some n) (hn:cs.size=n) (hc:c.size=n)
  (h1:∀ u∈cs.toList,u.oneCell'=true) (hk:∀ w',Inv w0 X (L.set i (.blk b (.cells cs E))) S w'->K undef w') :
  Run P (sOp (.store T (.const (.pointer (some ⟨b,0,none⟩))) (.const (.agg cs))) ty) w K:=by
 refine dm hI i (v:=.agg cs) (n:=n) hn (by rw [hT]; simp) hi (by omega) h1 fun w' hI'=>hk w' ?_
 have:aM c 0 (Value.agg cs).cells.toList=cs:=by
  rw [gX _ _ (by simp [Value.cells,hn,hc])]
  simp [Value.cells]
 rw [this] at hI'
 exact hI'
theorem ph {T U ty ty' E E':TypeId} {k b len cap j:Nat} {c:Array Value} {v:Value} (hI:Inv w0 X L S w) (i:Nat) (hi:L[i]?=some (.blk b (.cells c E'))) (hu:bl P T=some (E,k)) (hU:fy P U=some k)
  (hj:j<len) (hfit:(j+1) * k<=c.size) (hv:v.cells.size=k) (h1:∀ u∈v.cells.toList,u.oneCell'=true)
  {K:Value->Value->World->Prop} (hk:∀ w',Inv w0 X (L.set i (.blk b (.cells (aM c (j * k) v.cells.toList) E'))) S w'->K (.pointer (some ⟨b,j * k,none⟩)) undef w') :
  Run P (sOp (.indexAddr T (.const (.slice (some ⟨b,0,none⟩) len cap)) (.const (.int .i64 j))) ty) w fun p w'=>Run P (sOp (.store U (.const p) (.const v)) ty') w' (K p):=by
 refine bd hu hj ?_
 rw [Nat.zero_add]
 exact dm hI i (n:=k) hv (by rw [hU]; simp) hi (by rw [Nat.add_mul,Nat.one_mul] at hfit; omega) h1 hk
end

theorem TrSl.nil {α:Type} {k:Nat} {R:aq->List Value->α->Prop} {a:Option Addr} {cap:Nat} (hc:cap<=maxLen):TrSl k R [] (.slice a 0 cap) ([]:List α):=
 ⟨a,cap,rfl,Nat.zero_le _,hc,.inl ⟨rfl,rfl⟩⟩
def Part {α:Type} (k:Nat) (R:aq->List Value->α->Prop) (c:Array Value) (Ls:List aq) (xs:List α):Prop:=
 Ls.length=xs.length/\∀ i (h:i<xs.length) (h':i<Ls.length),R Ls[i] (aF c (i * k) k) xs[i]
theorem Part.nil {α:Type} (k:Nat) (R:aq->List Value->α->Prop) (c:Array Value):Part k R c [] ([]:List α):=⟨rfl,fun i h=>by simp at h⟩
theorem Part.snoc {α:Type} {k:Nat} {R:aq->List Value->α->Prop} {c:Array Value} {Ls:List aq} {xs:List α} (h:Part k R c Ls xs) {cs:List Value} {L:aq} {x:α} (hx:R L cs x) (hl:cs.length=k)
  (hfit:(xs.length+1) * k<=c.size):Part k R (aM c (xs.length * k) cs) (Ls++[L]) (xs++[x]):=by
 have hf:xs.length * k+cs.length<=c.size:=by rw [hl]; rw [Nat.add_mul,Nat.one_mul] at hfit; exact hfit
 refine ⟨by simp [h.1],fun i h1 h2=>?_⟩
 by_cases hi:i<xs.length
 ·have h3:i<Ls.length:=by rw [h.1]; exact hi
  rw [List.getElem_append_left h3,List.getElem_append_left hi,ky hf]
  ·exact h.2 i hi h3
  ·left
   have:(i+1) * k<=xs.length * k:=Nat.mul_le_mul_right _ hi
   rw [Nat.add_mul,Nat.one_mul] at this
   exact this
 ·have hi':i=xs.length:=by simp at h1; omega
  subst hi'
  have h3:xs.length=Ls.length:=h.1.symm
  rw [List.getElem_append_right (by omega),List.getElem_append_right (by omega)]
  simp only [h3,Nat.sub_self,List.getElem_cons_zero]
  rw [<- h3,<- hl,jl (by rw [hl] at hf ⊢; exact hf)]
  exact hx
theorem Part.sl {α:Type} {k:Nat} {R:aq->List Value->α->Prop} {b:Nat} {c:Array Value} {E:TypeId} {Ls:List aq} {xs:List α} {cap:Nat} (h:Part k R c Ls xs) (h1:xs.length<=cap) (h2:cap<=maxLen) (h3:cap * k<=c.size) :
  TrSl k R ((b,.cells c E)::Ls.flatten) (.slice (some ⟨b,0,none⟩) xs.length cap) xs:=
 ⟨_,cap,rfl,h1,h2,.inr ⟨b,c,E,Ls,rfl,rfl,h.1,h3,h.2⟩⟩
end
section
open Go Go.RowKit
section
variable {P:Program} {w:World} {K:Value->World->Prop} {ty:TypeId}
attribute [local irreducible] Run CondV ah ax
theorem cz {a:Bool} {v:Value} {A:Prop} (ht:a=true->A) (hf:a=false->K (.bool false) w):ah (.bool a) true A (Run P (sOp (.pick (.const (.bool a)) (.const v) (.const (.bool false))) ty) w K):=
 sN ht fun h=>by
  have h':a=false:=by simpa using h
  refine i7 ?_
  rw [h']
  exact hf h'
theorem bH {a:Bool} {v u:Value} (ha:a=true) (hk:K v w):Run P (sOp (.pick (.const (.bool a)) (.const v) (.const u)) ty) w K:=by
 refine i7 ?_
 rw [ha]
 exact hk
theorem d3 {v:Value} {A:Prop} (hk:K (.bool false) w):ah (.bool false) true A (Run P (sOp (.pick (.const (.bool false)) (.const v) (.const (.bool false))) ty) w K):=
 cz (fun h=>by cases h) fun _=>hk
theorem od {a:Bool} {v:Value} {A:Prop} (ht:a=true->K (.bool true) w) (hf:a=false->A):ah (.bool a) false A (Run P (sOp (.pick (.const (.bool a)) (.const (.bool true)) (.const v)) ty) w K):=
 sN hf fun h=>by
  have h':a=true:=by simpa using h
  refine i7 ?_
  rw [h']
  exact ht h'
theorem jK {a:Bool} {v u:Value} (ha:a=false) (hk:K v w):Run P (sOp (.pick (.const (.bool a)) (.const u) (.const v)) ty) w K:=by
 refine i7 ?_
 rw [ha]
 exact hk
theorem u0 {v:Value} {A:Prop} (hk:K (.bool true) w):ah (.bool true) false A (Run P (sOp (.pick (.const (.bool true)) (.const (.bool true)) (.const v)) ty) w K):=
 od (fun _=>hk) fun h=>by cases h
end

def j8 (cs:List Value) (s:ByteArray):Prop:=cs=[.string s]
section
variable {P:Program} {w w0:World} {X:List Nat} {L:List Item} {S:ab} {K:Value->World->Prop}
attribute [local irreducible] Run CondV ah ax
theorem r8 (h:Inv w0 X L S w) {s:Sem Next} {v:Nat->Value} {o:Obj} (hr:s.run P w=.ok (.value (v w.heap.size)) { w with heap:=w.heap.push o })
  (hk:∀ b w',Inv w0 X (L++[.blk b o]) S w'->K (v b) w'):Run P s w K:=Run.of hr (hk _ _ (h.alloc o))
theorem Inv.publishLast {b:Nat} {o:Obj} (h:Inv w0 X (L++[.blk b o]) S w):Inv w0 X L (iA S b o) w/\Sle S (iA S b o):=by
 have hi:(L++[Item.blk b o])[L.length]?=some (.blk b o):=by simp
 have:=h.publish hi
 rwa [show (L++[Item.blk b o]).eraseIdx L.length=L by simp [List.eraseIdx_append_of_length_le]] at this
theorem rf {α:Type} {T U ty ty' E:TypeId} {R:List Value->α->Prop} {v u:Value} {xs:List α} (hI:Inv w0 X L S w) (h:RdSl S 1 R v xs) (hu:bl P T=some (E,1)) (hU:fD P U=true)
  {i:Nat} (hi:i<xs.length) (hR:∀ cs,R cs xs[i]->cs=[u]) {K:Value->Value->World->Prop} (hk:K (elP v (i * 1)) u w) :
  Run P (sOp (.indexAddr T (.const v) (.const (.int .i64 i))) ty) w fun p w'=>Run P (sOp (.load U (.const p)) ty') w' (K p):=by
 obtain ⟨b,o,cap,c,E',fz,rfl,hS,hr⟩:=h.at_ hi
 refine bd hu hi ?_
 refine sA hU ?_ hk
 rw [hI.cellS hS]
 exact bb (hR _ hr) 0 u rfl
end
theorem RdSl.ofCells {α:Type} {S:ab} {R:List Value->α->Prop} {b n:Nat} {c:Array Value} {E:TypeId} {fz:Nat × Nat} {xs:List α} (hS:S b=some (.cells c E fz)) (hn:xs.length=n) (hm:n<=maxLen)
  (h:∀ i (h:i<xs.length),R (aF c i 1) xs[i]):RdSl S 1 R (.slice (some ⟨b,0,none⟩) n n) xs:=by
 subst hn
 exact ⟨_,_,rfl,Nat.le_refl _,hm,.inr ⟨b,0,c,E,fz,rfl,hS,fun i hi=>by rw [Nat.zero_add,Nat.mul_one]; exact h i hi⟩⟩
end
section
open Go

def signs:List ByteArray:=[⟨#[43]⟩,⟨#[45]⟩,⟨#[42]⟩,⟨#[47,47]⟩,⟨#[61]⟩,⟨#[92,61]⟩,⟨#[61,61]⟩,⟨#[60]⟩,⟨#[62]⟩,⟨#[61,60]⟩,⟨#[62,61]⟩,⟨#[61,58,61]⟩,⟨#[46]⟩,⟨#[91,93]⟩,⟨#[33]⟩]
def ec (b:UInt8):Bool:=decide (97<=b.toNat) && decide (b.toNat<=122)
def dE (s:ByteArray):Bool:=s.data.toList.all ec
def cH (s:ByteArray):Bool:=dE s && (decide (1<=s.size) && decide (s.size<=6))
def cJ (s:ByteArray):Bool:=cH s || signs.any fun x=>decide (x=s)
def bZ:ByteArray:=⟨#[]⟩
def bn (t:T):Bool:=
 if t.kind=1 then decide (0<=t.n) && (decide (t.n<=25) && (decide (t.name=bZ) && decide (t.kids.length=0)))
 else if t.kind=2 then decide (-999<=t.n) && (decide (t.n<=999) && (decide (t.name=bZ) && decide (t.kids.length=0)))
 else if t.kind=3 then decide (t.n=0) && (cJ t.name && decide (t.kids.length<=4))
 else false
mutual
def bL:T->Int->Bool
 | .mk k n s ks,d=>if d<1 then false else bn (.mk k n s ks) && bU ks (d - 1)
def bU:List T->Int->Bool
 | [],_=>true
 | t::ts,d=>bL t d && bU ts d
end
mutual
def bD:T->Int
 | .mk _ _ _ ks=>1+bw ks
def bw:List T->Int
 | []=>0
 | t::ts=>bD t+bw ts
end
mutual
def cD:T->Int->Int
 | .mk _ _ _ ks,most=>bE ks 1 most
def bE:List T->Int->Int->Int
 | [],n,_=>n
 | t::ts,n,most=>if n<=most then bE ts (n+cD t (most - n)) most else n
end
def bz (t:T):Bool:=bL t 30 && decide (bD t<=120)

mutual
theorem cV:∀ t:T,1<=bD t
 | .mk _ _ _ ks=>by simp only [bD]; have:=cY ks; omega
theorem cY:∀ ts:List T,0<=bw ts
 | []=>by simp [bw]
 | t::ts=>by simp only [bw]; have:=cV t; have:=cY ts; omega
end
mutual
theorem iF:∀ (t:T) (most:Int),0<=most->(bD t<=most->cD t most=bD t)/\(most<bD t->most<cD t most/\cD t most<=bD t)
 | .mk _ _ _ ks,most,h=>by
  simp only [bD,cD]
  have:=mO ks 1 most h (by omega)
  exact this
theorem mO:∀ (ts:List T) (n most:Int),0<=most->1<=n->(n+bw ts<=most->bE ts n most=n+bw ts)/\(most<n+bw ts->most<bE ts n most/\bE ts n most<=n+bw ts)
 | [],n,most,h,h1=>by
  simp only [bw,bE]
  exact ⟨fun _=>by omega,fun _=>by omega⟩
 | t::ts,n,most,h,h1=>by
  simp only [bw,bE]
  have hp:=cV t
  have hl:=cY ts
  by_cases hn:n<=most
  ·rw [if_pos hn]
   have ht:=iF t (most - n) (by omega)
   by_cases hc:bD t<=most - n
   ·rw [ht.1 hc]
    have hr:=mO ts (n+bD t) most h (by omega)
    exact ⟨fun h2=>by rw [hr.1 (by omega)]; omega,fun h2=>by have:=hr.2 (by omega); omega⟩
   ·have h3:=ht.2 (by omega)
    have h4:bE ts (n+cD t (most - n)) most=n+cD t (most - n):=by
     cases ts with
     | nil=>rfl
     | cons u us=>rw [bE,if_neg (by omega)]
    rw [h4]
    exact ⟨fun h2=>by omega,fun h2=>by omega⟩
  ·rw [if_neg hn]
   exact ⟨fun h2=>by omega,fun h2=>by omega⟩
end
theorem rC (t:T):decide (cD t 120<=120)=decide (bD t<=120):=by
 have h:=iF t 120 (by omega)
 by_cases hc:bD t<=120
 ·rw [h.1 hc]
 ·have:=h.2 (by omega)
  rw [decide_eq_false (by omega),decide_eq_false hc]

mutual
def bu:T->Int->Int->Bool × Int
 | .mk k n s ks,deep,c=>
  if 120<c+1 ∨ 30<deep then (false,c+1)
  else if k=1 ∨ k=2 then (bn (.mk k n s ks),c+1)
  else if k=3 then (if bn (.mk k n s ks) then c8 ks (deep+1) (c+1) else (false,c+1))
  else (false,c+1)
def c8:List T->Int->Int->Bool × Int
 | [],_,c=>(true,c)
 | t::ts,deep,c=>if (bu t deep c).1 then c8 ts deep (bu t deep c).2 else (false,(bu t deep c).2)
end
theorem sH {k n:Int} {s:ByteArray} {ks:List T} (h:bn (.mk k n s ks)=true) (hk:k=1 ∨ k=2):ks=[]:=by
 unfold bn at h
 simp only [T.kind,T.n,T.name,T.kids] at h
 rcases hk with rfl|rfl <;> simp at h <;> exact h.2.2.2
theorem s0 {k n:Int} {s:ByteArray} {ks:List T} (h:bn (.mk k n s ks)=true):k=1 ∨ k=2 ∨ k=3:=by
 unfold bn at h
 simp only [T.kind,T.n,T.name,T.kids] at h
 by_cases h1:k=1
 ·exact .inl h1
 ·by_cases h2:k=2
  ·exact .inr (.inl h2)
  ·by_cases h3:k=3
   ·exact .inr (.inr h3)
   ·simp [h1,h2,h3] at h
mutual
theorem la:∀ (t:T) (deep c:Int),(bu t deep c).1=(bL t (31 - deep) && decide (c+bD t<=120))/\((bu t deep c).1=true->(bu t deep c).2=c+bD t)
 | .mk k n s ks,deep,c=>by
  have hl:=cY ks
  rw [show bD (T.mk k n s ks)=1+bw ks from rfl]
  simp only [bu,bL]
  by_cases h1:120<c+1 ∨ 30<deep
  ·rw [if_pos h1]
   refine ⟨?_,fun h=>by cases h⟩
   rcases h1 with h1|h1
   ·rw [decide_eq_false (show ¬ (c+(1+bw ks)<=120) by omega),Bool.and_false]
   ·rw [if_pos (show 31 - deep<1 by omega)]; rfl
  ·rw [if_neg h1,if_neg (show ¬ (31 - deep<1) by omega)]
   by_cases h2:k=1 ∨ k=2
   ·rw [if_pos h2]
    cases ho:bn (.mk k n s ks) with
    | false=>exact ⟨rfl,fun h=>by cases h⟩
    | true=>
     have:=sH ho h2
     subst this
     rw [show bw []=0 from rfl]
     simp only [bU,Bool.true_and]
     exact ⟨by rw [decide_eq_true (show c+(1+0)<=120 by omega)],fun _=>by omega⟩
   ·rw [if_neg h2]
    by_cases h3:k=3
    ·rw [if_pos h3]
     cases ho:bn (.mk k n s ks) with
     | false=>exact ⟨rfl,fun h=>by cases h⟩
     | true=>
      simp only [if_true,Bool.true_and]
      have:=pp ks (deep+1) (c+1)
      rw [show 31 - (deep+1)=31 - deep - 1 by omega] at this
      rw [show c+(1+bw ks)=c+1+bw ks by omega]
      refine ⟨?_,this.2⟩
      rw [this.1]
      cases ks with
      | nil=>rw [show bw []=0 from rfl,decide_eq_true (show c+1+0<=120 by omega)]; rfl
      | cons t ts=>simp
    ·rw [if_neg h3]
     have ho:bn (.mk k n s ks)=false:=by
      rw [<- Bool.not_eq_true]
      intro h
      rcases s0 h with e|e|e
      ·exact h2 (.inl e)
      ·exact h2 (.inr e)
      ·exact h3 e
     rw [ho]
     exact ⟨rfl,fun h=>by cases h⟩
theorem pp:∀ (ts:List T) (deep c:Int),(c8 ts deep c).1=(bU ts (31 - deep) && (ts.isEmpty || decide (c+bw ts<=120)))/\((c8 ts deep c).1=true->(c8 ts deep c).2=c+bw ts)
 | [],deep,c=>by simp [c8,bU,bw]
 | t::ts,deep,c=>by
  have ht:=la t deep c
  have hp:=cY ts
  rw [show bw (t::ts)=bD t+bw ts from rfl]
  simp only [c8,bU,List.isEmpty_cons,Bool.false_or]
  cases h1:(bu t deep c).1 with
  | false=>
   rw [h1] at ht
   have h2:=ht.1
   refine ⟨?_,fun h=>by cases h⟩
   simp only [Bool.false_eq_true,if_false]
   cases hs:bL t (31 - deep) with
   | false=>rfl
   | true=>
    rw [hs,Bool.true_and] at h2
    have:¬ (c+bD t<=120):=of_decide_eq_false h2.symm
    rw [decide_eq_false (show ¬ (c+(bD t+bw ts)<=120) by omega),Bool.and_false]
  | true=>
   rw [h1] at ht
   have h2:=ht.1
   have h3:=ht.2 rfl
   simp only [if_true]
   rw [h3]
   have hs:bL t (31 - deep)=true/\c+bD t<=120:=by
    have:=h2.symm
    simpa using this
   have hl:=pp ts deep (c+bD t)
   rw [show c+(bD t+bw ts)=c+bD t+bw ts by omega]
   refine ⟨?_,hl.2⟩
   rw [hl.1,hs.1,Bool.true_and]
   cases ts with
   | nil=>rw [show bw []=0 from rfl,decide_eq_true (show c+bD t+0<=120 by omega)]; rfl
   | cons u us=>simp
end
theorem qH (t:T):(bu t 1 0).1=bz t:=by
 rw [(la t 1 0).1,bz]
 simp
end
section
open Go Go.RowKit
attribute [local irreducible] Run CondV ah ax

mutual
def wT:T->Nat
 | .mk _ _ s ks=>s.size+ks.length+wL ks
def wL:List T->Nat
 | []=>0
 | t::ts=>wT t+wL ts
end
theorem sK:∀ {ts:List T} {t:T},t∈ts->wT t<=wL ts
 | x::xs,t,h=>by
  simp only [wL]
  rcases List.mem_cons.1 h with rfl|h
  ·omega
  ·have:=sK h; omega

abbrev se {α:Type} (k:Nat) (R:aq->List Value->α->Prop) (S:ab) (xs:List α):Value->List Item->ab->Prop:=
 fun v I' S'=>S'=S/\∃ L,I'=cF L/\TrSl k R L v xs
abbrev ua (S:ab) (t:T):Value->List Item->ab->Prop:=fun v I' S'=>S'=S/\∃ cs L,v=.agg cs.toArray/\I'=cF L/\TrT L cs t

theorem ls {ts:List T} (ih:∀ t∈ts,∀ (S:ab) (cs:List Value),RdT S cs t->wT t<=1048576->Tri Tryz.prog f5 [.agg cs.toArray] [] S (ua S t))
  {S:ab} {v:Value} (h:RdSl S 4 (RdT S) v ts) (hw:ts.length+wL ts<=1048576):Tri Tryz.prog fb [v] [] S (se 4 TrT S ts):=by
 intro w hI
 refine gC.2 ?_
 dsimp only[gC,am]
 refine az h cb ?_
 refine jv hI jf (by omega) (by omega) fun b c w' hc hI=>?_
 refine ⟨fun i w'=>∃ (k:Nat) (c:Array Value) (Ls:List aq),k<=ts.length/\i=.int .i64 k/\c.size=ts.length * 4/\Part 4 TrT c Ls (ts.take k)/\Inv w [] (cF ((b,.cells c ay)::Ls.flatten)) S w',
  fun i _=>ts.length - (intOf i).toNat,⟨0,c,[],Nat.zero_le _,rfl,hc,Part.nil _ _ _,hI⟩,?_⟩
 intro t4 _ _ _ _ _ _ _ _ _ _ _ _ _ _ w'
 rintro ⟨k,c,Ls,hk,rfl,hc,hp,hI⟩
 refine az h cb ?_
 refine aZ ?_
 refine aP (fun hki=>?_) (fun hki=>?_)
 ·have hk':k<ts.length:=by omega
  have htl:(ts.take k).length=k:=by simp; omega
  refine bm hI h cb g9 hk' (fun _ _=>RdT.length) fun cs hcs=>?_
  have hm:=List.getElem_mem hk'
  have hwm:=sK hm
  refine Run.call0 e8 eI hI (ih _ hm S cs hcs (by omega)) fun v' I' S' w'=>?_
  rintro ⟨rfl,cs',L,rfl,rfl,hT⟩ _ hI
  refine ph hI 0 (k:=4) (by rfl) ag ac hk' (by omega) (by simp [Value.cells,hT.length]) (by simpa [Value.cells] using hT.one) fun w' hI=>?_
  refine br (by omega) ?_
  refine ⟨⟨k+1,aM c (k * 4) cs',Ls++[L],hk',rfl,?_,?_,?_⟩,by simp [intOf]; omega⟩
  ·rw [fQ _ _ _ (by rw [hT.length]; omega)]; exact hc
  ·have:=hp.snoc hT hT.length (by rw [htl]; omega)
   rw [htl] at this
   rw [List.take_succ_eq_append_getElem hk']
   exact this
  ·simp only [List.flatten_append,List.flatten_cons,List.flatten_nil,List.append_nil]
   simpa [cF,Value.cells] using hI
 ·have:k=ts.length:=by omega
  subst this
  rw [List.take_length] at hp
  exact ⟨_,_,_,rfl,hI,Ext.refl _ _ _,rfl,_,rfl,hp.sl (Nat.le_refl _) (by simp only [maxLen]; omega) (by omega)⟩

theorem d9:∀ (t:T) (S:ab) (cs:List Value),RdT S cs t->wT t<=1048576->Tri Tryz.prog f5 [.agg cs.toArray] [] S (ua S t):=by
 refine T.ind fun k n s ks ih S cs h hw=>?_
 intro w hI
 obtain ⟨kv,rfl,h1,h2,hs,hks⟩:=RdT.iff.1 h
 simp only [T.name,T.kids,T.kind,T.n] at h1 h2 hs hks ⊢
 simp only [wT] at hw
 refine j0.2 ?_
 dsimp only[j0,am]
 refine aG hI fun b1 w' hI=>?_
 refine cm hI gO fun b2 w' hI=>?_
 refine cm hI gO fun b3 w' hI=>?_
 refine aa hI 0 rfl pH ar rfl ?_
 refine cS hI 2 rfl aB ar rfl rfl rfl fun w' hI=>?_
 refine aa hI 0 rfl qt ar rfl ?_
 refine cS hI 2 rfl aR ar rfl rfl rfl fun w' hI=>?_
 refine aa hI 0 rfl kO al rfl ?_
 refine cS hI 2 rfl ai al rfl rfl rfl fun w' hI=>?_
 refine aa hI 0 rfl lH mV rfl ?_
 refine Run.call0 gY gH hI (ls ih hks (by omega)) fun v' I' S' w'=>?_
 rintro ⟨rfl,L,rfl,hT⟩ _ hI
 have hv:v'.cells=#[v']/\v'.oneCell'=true:=by obtain ⟨a,cap,rfl,_⟩:=hT; exact ⟨rfl,rfl⟩
 refine cS hI 2 rfl af aj rfl hv.1 hv.2 fun w' hI=>?_
 refine ao hI 2 ac rfl rfl ?_
 refine cB hI 1 rfl ac rfl rfl ?_ fun w' hI=>?_
 ·intro u hu
  have hu':u∈([.int .i64 k,.int .i64 n,.string s,v']:List Value):=hu
  simp at hu'
  rcases hu' with rfl|rfl|rfl|rfl <;> first|rfl|exact hv.2
 refine q5 hI 1 ac rfl rfl ?_
 refine ⟨_,_,_,rfl,hI.sub (List.sublist_append_right [_,_,_] (cF L)),Ext.refl _ _ _,rfl,[.int .i64 k,.int .i64 n,.string s,v'],L,rfl,rfl,TrT.iff.2 ⟨v',rfl,h1,h2,hs,hT⟩⟩
theorem me {ts:List T} {S:ab} {v:Value} (h:RdSl S 4 (RdT S) v ts) (hw:ts.length+wL ts<=1048576):Tri Tryz.prog fb [v] [] S (se 4 TrT S ts):=
 ls (fun t _=>d9 t) h hw
end
section
open Go Go.RowKit
attribute [local irreducible] Run CondV ah ax

theorem pE {α:Type} (p:α->Bool) (l:List α) (k:Nat) (h:k<l.length):(l.drop k).all p=(p l[k] && (l.drop (k+1)).all p):=by
 rw [List.drop_eq_getElem_cons h,List.all_cons]
theorem sR {α:Type} (p:α->Bool) (l:List α) (k:Nat) (h:k<l.length):(l.drop k).any p=(p l[k] || (l.drop (k+1)).any p):=by
 rw [List.drop_eq_getElem_cons h,List.any_cons]
theorem dD (s:ByteArray):s.data.toList.length=s.size:=by rw [Array.length_toList]; rfl
theorem ov (s:ByteArray) (k:Nat) (h:k<s.size):s.data.toList[k]'(by rw [dD]; exact h)=s[k]:=rfl

theorem gD (s:ByteArray) (hs:s.size<=maxLen) (S:ab):Pure Tryz.prog qK [.string s] S (.bool (cH s)):=by
 intro w hI
 simp only [maxLen] at hs
 refine j7.2 ?_
 dsimp only[j7,am]
 refine ⟨fun i w'=>∃ k:Nat,k<=s.size/\i=.int .i64 k/\(s.data.toList.drop k).all ec=dE s/\Inv w [] [] S w',fun i _=>s.size - (intOf i).toNat,⟨0,Nat.zero_le _,rfl,rfl,hI⟩,?_⟩
 intro t3 _ _ _ _ _ _ _ _ _ _ _ _ _ _ _ _ _ w'
 rintro ⟨k,hk,rfl,hrel,hI⟩
 refine dd aw ?_
 refine aZ ?_
 refine aP (fun hki=>?_) (fun hki=>?_)
 ·have hk':k<s.size:=by omega
  have hstep:=pE ec s.data.toList k (by rw [dD]; exact hk')
  rw [ov s k hk'] at hstep
  refine ⟨fun t w'=>t=.bool (!ec s[k])/\Inv w [] [] S w',?_,?_⟩
  ·refine cZ aw hk' ?_
   refine aZ ?_
   refine od (fun h=>⟨?_,hI⟩) (fun h=>?_)
   ·have h:=of_decide_eq_true h
    rw [ec,decide_eq_false (show ¬ 97<=s[k].toNat by omega)]; rfl
   ·refine cZ aw hk' ?_
    refine cA ?_
    refine jK h ⟨?_,hI⟩
    have h:=of_decide_eq_false h
    rw [ec,decide_eq_true (show 97<=s[k].toNat by omega),Bool.true_and]
    by_cases h2:s[k].toNat<=122
    ·rw [decide_eq_true h2,decide_eq_false (by omega)]; rfl
    ·rw [decide_eq_false h2,decide_eq_true (by omega)]; rfl
  intro t _ _ _ _ _ _ _ _ _ w'
  rintro ⟨rfl,hI⟩
  refine ak (fun h=>ae hI ?_) (fun h=>?_)
  ·simp at h
   rw [cH,<- hrel,hstep,h]; rfl
  ·simp at h
   refine br (by omega) ?_
   refine ⟨⟨k+1,hk',rfl,by rw [<- hrel,hstep,h]; rfl,hI⟩,by simp [intOf]; omega⟩
 ·have:k=s.size:=by omega
  subst this
  have hl:dE s=true:=by rw [<- hrel,<- dD,List.drop_length]; rfl
  refine dd aw ?_
  refine et ?_
  refine cz (fun h=>?_) (fun h=>ae hI ?_)
  ·refine dd aw ?_
   refine c7 ?_
   refine bH h (ae hI ?_)
   have h:=of_decide_eq_true h
   rw [cH,hl,decide_eq_true (show 1<=s.size by omega)]
   by_cases h2:s.size<=6
   ·rw [decide_eq_true h2,decide_eq_true (by omega)]; rfl
   ·rw [decide_eq_false h2,decide_eq_false (by omega)]; rfl
  ·have h:=of_decide_eq_false h
   rw [cH,hl,decide_eq_false (show ¬ 1<=s.size by omega)]; rfl

def iR:Array Value:=(signs.map Value.string).toArray
theorem pf {S:ab} {b:Nat} {E:TypeId} (hS:S b=some (.cells iR E)):RdSl S 1 j8 (.slice (some ⟨b,0,none⟩) 15 15) signs:=by
 refine RdSl.ofCells hS rfl (by decide) ?_
 intro i hi
 have hi':i<15:=hi
 match i,hi' with
 | 0,_|1,_|2,_|3,_|4,_|5,_|6,_|7,_|8,_|9,_|10,_|11,_|12,_|13,_|14,_=>rfl
abbrev mC (S:ab):Value->List Item->ab->Prop:=fun v I' S'=>I'=[]/\Sle S S'/\RdSl S' 1 j8 v signs
theorem oY {S:ab} {b n:Nat} {o:Obj} (h:n<=b) (hs:Sle S (iA S b o)):Ext n [] S (iA S b o):=
 ⟨hs,fun c o' hc=>by
  simp only [iA] at hc
  split at hc
  ·rename_i e; subst e; exact .inr (.inr h)
  ·exact .inl hc⟩
theorem lW (S:ab):Tri Tryz.prog o8 [] [] S (mC S):=by
 intro w hI
 refine iv.2 ?_
 dsimp only[iv,qX]
 refine r8 (v:=fun b=>.slice (some ⟨b,0,none⟩) 15 15) (o:=.cells iR eH) hI (by kernel_rfl) fun b w' hI=>?_
 have hnew:w.heap.size<=b:=by
  rcases hI.new b (by simp [aH,Item.foot]) with h|h
  ·simp [aH] at h
  ·exact h
 obtain ⟨h1,h2⟩:=Inv.publishLast (L:=[]) hI
 exact ⟨_,_,_,rfl,h1,oY hnew h2,rfl,h2,pf (by simp [iA]; rfl)⟩
theorem oU (s:ByteArray) {xs:List ByteArray} {S:ab} {v:Value} (h:RdSl S 1 j8 v xs):Pure Tryz.prog rF [v,.string s] S (.bool (xs.any fun x=>decide (x=s))):=by
 intro w hI
 have hlen:=h.le
 simp only [maxLen] at hlen
 refine lo.2 ?_
 dsimp only[lo,aC]
 refine ⟨fun i w'=>∃ k:Nat,k<=xs.length/\i=.int .i64 k/\(xs.drop k).any (fun x=>decide (x=s))=xs.any (fun x=>decide (x=s))/\Inv w [] [] S w',fun i _=>xs.length - (intOf i).toNat,⟨0,Nat.zero_le _,rfl,rfl,hI⟩,?_⟩
 intro t3 _ _ _ _ _ _ _ _ _ _ _ _ _ w'
 rintro ⟨k,hk,rfl,hrel,hI⟩
 refine az h d1 ?_
 refine aZ ?_
 refine aP (fun hki=>?_) (fun hki=>?_)
 ·have hk':k<xs.length:=by omega
  have hstep:=sR (fun x=>decide (x=s)) xs k hk'
  refine rf hI h d1 al hk' (fun cs hcs=>hcs) ?_
  refine aJ ?_
  refine ak (fun he=>ae hI ?_) (fun he=>?_)
  ·rw [<- hrel,hstep,he]; rfl
  ·refine br (by omega) ?_
   exact ⟨⟨k+1,hk',rfl,by rw [<- hrel,hstep,he]; rfl,hI⟩,by simp [intOf]; omega⟩
 ·have:k=xs.length:=by omega
  subst this
  exact ae hI (by rw [<- hrel,List.drop_length]; rfl)
theorem oX {w w':World} {L:List Item} {S S':ab} {r r':Value} (h:Inv w [] L S' w') (hs:Sle S S') (e:r'=r):Ending.returned r'=.returned r/\Inv w [] [] S w':=⟨by rw [e],h.nil.less hs⟩
theorem iQ (s:ByteArray) (hs:s.size<=maxLen) (S:ab):Pure Tryz.prog ml [.string s] S (.bool (cJ s)):=by
 intro w hI
 refine eK.2 ?_
 dsimp only[eK,am]
 refine Run.callPure jn jE hI (gD s hs S) fun w' hI=>?_
 refine od (fun h=>ae hI ?_) (fun h=>?_)
 ·rw [cJ,h]; rfl
 ·refine Run.call0 nx nR hI (lW S) fun v' I' S' w'=>?_
  rintro ⟨rfl,_,hr⟩ hle hI
  refine Run.callPure qD qG hI (oU s hr) fun w' hI=>?_
  refine jK h (oX hI hle ?_)
  rw [cJ,h]; rfl

theorem oP {t:T} {S:ab} {cs:List Value} (h:RdT S cs t):Pure Tryz.prog rm [.agg cs.toArray] S (.bool (bn t)):=by
 intro w hI
 obtain ⟨kv,rfl,_,_,hs,hks⟩:=RdT.iff.1 h
 obtain ⟨k,n,s,ks⟩:=t
 simp only [T.name,T.kids,T.kind,T.n] at hs hks ⊢
 refine lh.2 ?_
 dsimp only[lh,am]
 refine aG hI fun b1 w' hI=>?_
 refine aa hI 0 rfl aB ar rfl ?_
 refine a6 ?_
 refine aP (fun hk=>?_) (fun hk=>?_)
 ·have ho:bn (.mk k n s ks)=(decide (0<=n) && (decide (n<=25) && (decide (s=bZ) && decide (ks.length=0)))):=by
   rw [bn]; exact if_pos hk
  refine aa hI 0 rfl aR ar rfl ?_
  refine et ?_
  refine cz (fun h1=>?_) (fun h1=>?_)
  ·refine aa hI 0 rfl aR ar rfl ?_
   refine c7 ?_
   refine bH h1 ?_
   refine cz (fun h2=>?_) (fun h2=>?_)
   ·refine aa hI 0 rfl ai al rfl ?_
    refine aJ ?_
    refine bH h2 ?_
    refine cz (fun h3=>?_) (fun h3=>ae hI ?_)
    ·refine aa hI 0 rfl af aj rfl ?_
     refine az hks ag ?_
     refine a6 ?_
     refine bH h3 (ae hI ?_)
     rw [ho,h1,h2,show decide (s=bZ)=true from h3]
     simp
    ·rw [ho,h1,h2,show decide (s=bZ)=false from h3]; rfl
   ·refine d3 (ae hI ?_)
    rw [ho,h1,h2]; rfl
  ·refine d3 (d3 (ae hI ?_))
   rw [ho,h1]; rfl
 refine a6 ?_
 refine aP (fun hk2=>?_) (fun hk2=>?_)
 ·have ho:bn (.mk k n s ks)=(decide (-999<=n) && (decide (n<=999) && (decide (s=bZ) && decide (ks.length=0)))):=by
   rw [bn]; exact (if_neg hk).trans (if_pos hk2)
  refine aa hI 0 rfl aR ar rfl ?_
  refine et ?_
  refine cz (fun h1=>?_) (fun h1=>?_)
  ·refine aa hI 0 rfl aR ar rfl ?_
   refine c7 ?_
   refine bH h1 ?_
   refine cz (fun h2=>?_) (fun h2=>?_)
   ·refine aa hI 0 rfl ai al rfl ?_
    refine aJ ?_
    refine bH h2 ?_
    refine cz (fun h3=>?_) (fun h3=>ae hI ?_)
    ·refine aa hI 0 rfl af aj rfl ?_
     refine az hks ag ?_
     refine a6 ?_
     refine bH h3 (ae hI ?_)
     rw [ho,h1,h2,show decide (s=bZ)=true from h3]
     simp
    ·rw [ho,h1,h2,show decide (s=bZ)=false from h3]; rfl
   ·refine d3 (ae hI ?_)
    rw [ho,h1,h2]; rfl
  ·refine d3 (d3 (ae hI ?_))
   rw [ho,h1]; rfl
 refine a6 ?_
 refine aP (fun hk3=>?_) (fun hk3=>ae hI ?_)
 ·have ho:bn (.mk k n s ks)=(decide (n=0) && (cJ s && decide (ks.length<=4))):=by
   rw [bn]; exact (if_neg hk).trans ((if_neg hk2).trans (if_pos hk3))
  refine aa hI 0 rfl aR ar rfl ?_
  refine a6 ?_
  refine cz (fun h1=>?_) (fun h1=>?_)
  ·refine aa hI 0 rfl ai al rfl ?_
   refine Run.callPure lN lf hI (iQ s hs S) fun w' hI=>?_
   refine bH h1 ?_
   refine cz (fun h2=>?_) (fun h2=>ae hI ?_)
   ·refine aa hI 0 rfl af aj rfl ?_
    refine az hks ag ?_
    refine c7 ?_
    refine bH h2 (ae hI ?_)
    rw [ho,h1,h2]
    simp
    omega
   ·rw [ho,h1,h2]; rfl
  ·refine d3 (ae hI ?_)
   rw [ho,h1]; rfl
 ·rw [bn]
  exact congrArg Value.bool ((if_neg hk).trans ((if_neg hk2).trans (if_neg hk3))).symm

theorem mc:∀ (t:T) (S:ab) (cs:List Value) (d:Int),RdT S cs t->-1<=d->d<=1000->Pure Tryz.prog oE [.agg cs.toArray,.int .i64 d] S (.bool (bL t d)):=by
 refine T.ind fun k n s ks ih S cs d h h0 h1=>?_
 intro w hI
 have hcs:=h
 obtain ⟨kv,rfl,_,_,hs,hks⟩:=RdT.iff.1 h
 simp only [T.name,T.kids,T.kind,T.n] at hs hks ⊢
 have hlen:=hks.le
 simp only [maxLen] at hlen
 refine hK.2 ?_
 dsimp only[hK,aC]
 refine aG hI fun b1 w' hI=>?_
 refine ⟨fun t w'=>t=.bool (decide (d<1) || !bn (.mk k n s ks))/\Inv w [] [.blk b1 (.cells #[.int .i64 k,.int .i64 n,.string s,kv] ay)] S w',?_,?_⟩
 ·refine aZ ?_
  refine od (fun h=>⟨by rw [h]; rfl,hI⟩) (fun h=>?_)
  refine ao hI 0 ac rfl rfl ?_
  refine Run.callPure pV qq hI (oP hcs) fun w' hI=>?_
  refine bv ?_
  exact jK h ⟨by rw [h]; rfl,hI⟩
 intro t _ _ _ _ _ _ w'
 rintro ⟨rfl,hI⟩
 refine ak (fun hb=>ae hI ?_) (fun hb=>?_)
 ·rw [bL]
  by_cases hd:d<1
  ·rw [if_pos hd]
  ·rw [if_neg hd]
   simp [hd] at hb
   rw [hb]; rfl
 have hd:¬ d<1:=fun h=>by simp [h] at hb
 have ho:bn (.mk k n s ks)=true:=by simp [hd] at hb; exact hb
 refine ⟨fun i w'=>∃ j:Nat,j<=ks.length/\i=.int .i64 j/\bU (ks.drop j) (d - 1)=bU ks (d - 1)/\Inv w [] [.blk b1 (.cells #[.int .i64 k,.int .i64 n,.string s,kv] ay)] S w',
  fun i _=>ks.length - (intOf i).toNat,⟨0,Nat.zero_le _,rfl,rfl,hI⟩,?_⟩
 intro t5 _ _ _ _ _ _ _ _ _ _ _ _ _ _ _ _ _ w'
 rintro ⟨j,hj,rfl,hrel,hI⟩
 refine aa hI 0 rfl af aj rfl ?_
 refine az hks ag ?_
 refine aZ ?_
 refine aP (fun hji=>?_) (fun hji=>?_)
 ·have hj':j<ks.length:=by omega
  have hstep:bU (ks.drop j) (d - 1)=(bL ks[j] (d - 1) && bU (ks.drop (j+1)) (d - 1)):=by
   rw [List.drop_eq_getElem_cons hj',bU]
  refine aa hI 0 rfl af aj rfl ?_
  refine bm hI hks ag ac hj' (fun _ _=>RdT.length) fun cs' hcs'=>?_
  refine fG (by omega) ?_
  refine Run.callPure gt gu hI (ih _ (List.getElem_mem hj') S cs' (d - 1) hcs' (by omega) (by omega)) fun w' hI=>?_
  refine bv ?_
  refine ak (fun hne=>ae hI ?_) (fun he=>?_)
  ·simp at hne
   rw [bL,if_neg hd,ho,<- hrel,hstep,hne]; rfl
  ·simp at he
   refine br (by omega) ?_
   exact ⟨⟨j+1,hj',rfl,by rw [<- hrel,hstep,he]; rfl,hI⟩,by simp [intOf]; omega⟩
 ·have:j=ks.length:=by omega
  subst this
  refine ae hI ?_
  rw [bL,if_neg hd,ho,<- hrel,List.drop_length,bU]; rfl

theorem qk:∀ (ts:List T) (j:Nat) (h:j<ts.length),bw (ts.drop j)=bD ts[j]+bw (ts.drop (j+1)):=by
 intro ts j h
 rw [List.drop_eq_getElem_cons h,bw]
theorem lZ:∀ (t:T) (S:ab) (cs:List Value) (most:Int),RdT S cs t->0<=most->most<=1000->bD t<=4611686018427387904->Pure Tryz.prog oz [.agg cs.toArray,.int .i64 most] S (.int .i64 (cD t most)):=by
 refine T.ind fun k n s ks ih S cs most h h0 h1 hc=>?_
 intro w hI
 obtain ⟨kv,rfl,_,_,hs,hks⟩:=RdT.iff.1 h
 simp only [T.name,T.kids,T.kind,T.n] at hs hks ⊢
 have hlen:=hks.le
 simp only [maxLen] at hlen
 rw [show bD (T.mk k n s ks)=1+bw ks from rfl] at hc
 refine g6.2 ?_
 dsimp only[g6,aC]
 refine aG hI fun b1 w' hI=>?_
 refine ⟨fun i m w'=>∃ (j:Nat) (c:Int),j<=ks.length/\i=.int .i64 j/\m=.int .i64 c/\1<=c/\c+bw (ks.drop j)<=1+bw ks/\bE (ks.drop j) c most=bE ks 1 most/\Inv w [] [.blk b1 (.cells #[.int .i64 k,.int .i64 n,.string s,kv] ay)] S w',
  fun i _ _=>ks.length - (intOf i).toNat,⟨0,1,Nat.zero_le _,rfl,rfl,by omega,by rw [List.drop_zero]; omega,rfl,hI⟩,?_⟩
 intro t6 _ _ t5 _ _ _ _ _ _ _ _ _ _ _ _ _ _ _ _ _ _ _ _ _ w'
 rintro ⟨j,c,hj,rfl,rfl,hc1,hc2,hrel,hI⟩
 refine ⟨fun t w'=>t=.bool (decide (j<ks.length) && decide (c<=most))/\Inv w [] [.blk b1 (.cells #[.int .i64 k,.int .i64 n,.string s,kv] ay)] S w',?_,?_⟩
 ·refine aa hI 0 rfl af aj rfl ?_
  refine az hks ag ?_
  refine aZ ?_
  refine cz (fun h=>?_) (fun h=>⟨?_,hI⟩)
  ·refine c7 ?_
   refine bH h ⟨?_,hI⟩
   rw [decide_eq_true (show j<ks.length from by have:=of_decide_eq_true h; omega)]; rfl
  ·rw [decide_eq_false (show ¬ j<ks.length from by have:=of_decide_eq_false h; omega)]; rfl
 intro t _ _ _ _ _ _ _ _ _ w'
 rintro ⟨rfl,hI⟩
 refine ak (fun hb=>?_) (fun hb=>ae hI ?_)
 ·simp at hb
  obtain ⟨hj',hcm⟩:=hb
  have hsp:=qk ks j hj'
  have hstep:bE (ks.drop j) c most=bE (ks.drop (j+1)) (c+cD ks[j] (most - c)) most:=by
   rw [List.drop_eq_getElem_cons hj',bE,if_pos hcm]
  have hct:=iF ks[j] (most - c) (by omega)
  have hp:=cV ks[j]
  have hlp:=cY (ks.drop (j+1))
  have hcle:1<=cD ks[j] (most - c)/\cD ks[j] (most - c)<=bD ks[j]:=by
   by_cases hq:bD ks[j]<=most - c
   ·rw [hct.1 hq]; omega
   ·have:=hct.2 (by omega); omega
  refine aa hI 0 rfl af aj rfl ?_
  refine bm hI hks ag ac hj' (fun _ _=>RdT.length) fun cs' hcs'=>?_
  refine fG (by omega) ?_
  refine Run.callPure g7 g5 hI (ih _ (List.getElem_mem hj') S cs' (most - c) hcs' (by omega) (by omega) (by omega)) fun w' hI=>?_
  refine br (by omega) ?_
  refine br (by omega) ?_
  exact ⟨⟨j+1,_,hj',rfl,rfl,by omega,by omega,by rw [<- hrel,hstep],hI⟩,by simp [intOf]; omega⟩
 ·show Value.int .i64 c=Value.int .i64 (bE ks 1 most)
  rw [<- hrel]
  by_cases hj':j<ks.length
  ·simp [hj'] at hb
   rw [List.drop_eq_getElem_cons hj',bE,if_neg (by omega)]
  ·rw [List.drop_eq_nil_of_le (by omega),bE]

mutual
theorem sJ:∀ t:T,bD t<=1+(wT t:Int)
 | .mk k n s ks=>by
  rw [show bD (T.mk k n s ks)=1+bw ks from rfl,wT]
  have:=rZ ks
  omega
theorem rZ:∀ ts:List T,bw ts<=ts.length+(wL ts:Int)
 | []=>by simp [bw,wL]
 | t::ts=>by
  rw [show bw (t::ts)=bD t+bw ts from rfl,wL,List.length_cons]
  have:=sJ t; have:=rZ ts
  omega
end

theorem iK {t:T} {S:ab} {cs:List Value} (h:RdT S cs t) (hc:bD t<=4611686018427387904):Pure Tryz.prog lQ [.agg cs.toArray] S (.bool (bz t)):=by
 intro w hI
 have hl:=h.length
 refine e5.2 ?_
 dsimp only[e5,am]
 refine aG hI fun b1 w' hI=>?_
 refine ao hI 0 ac rfl (by simpa [Value.cells] using hl) ?_
 refine Run.callPure gt gu hI (mc t S cs 30 h (by omega) (by omega)) fun w' hI=>?_
 refine cz (fun h1=>?_) (fun h1=>ae hI ?_)
 ·refine ao hI 0 ac rfl (by simpa [Value.cells] using hl) ?_
  refine Run.callPure g7 g5 hI (lZ t S cs 120 h (by omega) (by omega) hc) fun w' hI=>?_
  refine c7 ?_
  refine bH h1 (ae hI ?_)
  rw [bz,h1,rC]; rfl
 ·rw [bz,h1]; rfl
end
section
open Go Go.RowKit
attribute [local irreducible] Run CondV ah ax

def aX {α σ:Type} (step:σ->α->Bool × σ):σ->List α->Nat->Int × σ
 | st,[],_=>(-1,st)
 | st,x::xs,k=>if (step st x).1 then ((k:Int),(step st x).2) else aX step (step st x).2 xs (k+1)
def dG {α σ:Type} (step:σ->α->Bool × σ):σ->List α->Bool × σ
 | st,[]=>(false,st)
 | st,x::xs=>if (step st x).1 then (true,(step st x).2) else dG step (step st x).2 xs
theorem dX {α σ:Type} (step:σ->α->Bool × σ):∀ (xs:List α) (st:σ) (k:Nat),decide (0<=(aX step st xs k).1)=(dG step st xs).1/\(aX step st xs k).2=(dG step st xs).2
 | [],st,k=>by simp [aX,dG]
 | x::xs,st,k=>by
  by_cases h:(step st x).1=true
  ·simp [aX,dG,h]
  ·simpa [aX,dG,h] using dX step xs (step st x).2 (k+1)
theorem mR {α:Type} (p:α->Bool):∀ xs:List α,dG (σ:=Unit) (fun _ x=>(p x,())) () xs=(xs.any p,())
 | []=>rfl
 | x::xs=>by
  simp only [dG,List.any_cons]
  cases h:p x with
  | true=>rfl
  | false=>rw [mR p xs]; rfl
abbrev fv (f:FuncId) (cap:List Value):Value:=.func (.func f) #[] cap.toArray
section
variable {P:Program} {w w0:World} {X:List Nat} {A I:List Item} {S:ab} {K:Value->World->Prop}
theorem rO {P:Program} {f:FuncId} {fn:Func} {cap args:List Value} {w:World} (hf:P.funcs[f]?=some fn) (hn:(fn.name == "runtime.NumGoroutine" || fn.body.isNone)=false) :
  (bB (fv f cap) args).run P w=.ok (.enter f (args++cap).toArray) w:=by
 simp only [Bool.or_eq_false_iff] at hn
 have h1:¬ fn.name = "runtime.NumGoroutine" := by simpa using hn.1
 have h2:¬ fn.body=none:=fun e=>by rw [e] at hn; simp at hn
 simp [bB,Deferred.ofValue,invoke,callFunc,hf,h1,h2]
theorem Run.callV {f:FuncId} {fn:Func} {cap args:List Value} {Post:Value->List Item->ab->Prop}
  (hf:P.funcs[f]?=some fn) (hn:(fn.name == "runtime.NumGoroutine" || fn.body.isNone)=false) (h:Inv w0 X (A++I) S w) (hc:Tri P f (args++cap) I S Post)
  (hk:∀ v I' S' w',Post v I' S'->Sle S S'->Inv w0 X (A++I') S' w'->K v w'):Run P (bB (fv f cap) args) w K:=by
 unfold Run
 rw [rO hf hn]
 refine (hc w (h.sub (List.sublist_append_right A I)).begin).mono ?_
 rintro e w' ⟨v,I',S',rfl,hI,hE,hP⟩
 exact hk v I' S' w' hP hE.1 (Inv.step h hI hE.2)
end
structure Cb (P:Program) (f:FuncId) (fn:Func) {α σ:Type} (cap:List Value) (S:ab) (It:σ->List Item) (ok:σ->Prop) (step:σ->α->Bool × σ) (R:Value->α->Prop) (xs:List α):Prop where
 hf:P.funcs[f]?=some fn
 hn:(fn.name == "runtime.NumGoroutine" || fn.body.isNone)=false
 keep:∀ st x,x∈xs->ok st->(step st x).1=false->ok (step st x).2
 call:∀ st x v,x∈xs->ok st->R v x->Tri P f (v::cap) (It st) S fun r I' S'=>r=.bool (step st x).1/\I'=It (step st x).2/\S'=S
theorem Cb.pure {P:Program} {f:FuncId} {fn:Func} {α:Type} {cap:List Value} {S:ab} {p:α->Bool} {R:Value->α->Prop} {xs:List α} (L:List Item) (hf:P.funcs[f]?=some fn) (hn:(fn.name == "runtime.NumGoroutine" || fn.body.isNone)=false)
  (h:∀ x v,x∈xs->R v x->Tri P f (v::cap) L S fun r I' S'=>r=.bool (p x)/\I'=L/\S'=S):Cb P f fn cap S (fun _:Unit=>L) (fun _=>True) (fun _ x=>(p x,())) R xs:=
 ⟨hf,hn,fun _ _ _ _ _=>trivial,fun _ x v hx _ hR=>h x v hx hR⟩

theorem gE {σ:Type} {f:FuncId} {fn:Func} {cap:List Value} {S:ab} {It:σ->List Item} {ok:σ->Prop} {step:σ->T->Bool × σ} {xs:List T} {v:Value}
  (hcb:Cb Tryz.prog f fn cap S It ok step (fun v x=>∃ cs,v=.agg cs.toArray/\RdT S cs x) xs) (h:RdSl S 4 (RdT S) v xs) {st:σ} (hok:ok st) :
  Tri Tryz.prog ge [v,fv f cap] (It st) S fun r I' S'=>r=.int .i64 (aX step st xs 0).1/\I'=It (aX step st xs 0).2/\S'=S:=by
 intro w hI
 have hlen:=h.le
 simp only [maxLen] at hlen
 refine cG.2 ?_
 dsimp only[cG,aC]
 refine az h ag ?_
 refine ⟨fun i w'=>∃ (k:Nat) (st':σ),k<=xs.length/\i=.int .i64 k/\ok st'/\aX step st' (xs.drop k) k=aX step st xs 0/\Inv w (aH (It st)) (It st') S w',fun i _=>xs.length - (intOf i).toNat,
  ⟨0,st,Nat.zero_le _,rfl,hok,rfl,hI⟩,?_⟩
 intro t8 _ _ _ _ _ _ _ _ _ _ _ _ w'
 rintro ⟨k,st',hk,rfl,hok',hrel,hI⟩
 refine aZ ?_
 refine aP (fun hki=>?_) (fun hki=>?_)
 ·have hk':k<xs.length:=by omega
  have hm:=List.getElem_mem hk'
  have hstep:aX step st' (xs.drop k) k=if (step st' xs[k]).1 then ((k:Int),(step st' xs[k]).2) else aX step (step st' xs[k]).2 (xs.drop (k+1)) (k+1):=by
   rw [List.drop_eq_getElem_cons hk',aX]
  refine bm hI h ag ac hk' (fun _ _=>RdT.length) fun cs hcs=>?_
  refine Run.callV (A:=[]) (args:=[.agg cs.toArray]) hcb.hf hcb.hn (by simpa using hI) (hcb.call st' _ _ hm hok' ⟨cs,rfl,hcs⟩) fun v' I' S' w'=>?_
  rintro ⟨rfl,rfl,rfl⟩ _ hI
  refine ak (fun hb=>?_) (fun hb=>?_)
  ·rw [if_pos hb] at hstep
   refine ⟨_,_,_,rfl,by simpa using hI,Ext.refl _ _ _,?_,?_,rfl⟩
   ·rw [<- hrel,hstep]
   ·rw [<- hrel,hstep]
  ·refine br (by omega) ?_
   rw [hb] at hstep
   refine ⟨⟨k+1,_,hk',rfl,hcb.keep st' _ hm hok' hb,?_,by simpa using hI⟩,by simp [intOf]; omega⟩
   rw [<- hrel,hstep]
   rfl
 ·have:k=xs.length:=by omega
  subst this
  rw [List.drop_length,aX] at hrel
  exact ⟨_,_,_,rfl,hI,Ext.refl _ _ _,by rw [<- hrel],by rw [<- hrel],rfl⟩
theorem eP {σ:Type} {f:FuncId} {fn:Func} {cap:List Value} {S:ab} {It:σ->List Item} {ok:σ->Prop} {step:σ->T->Bool × σ} {xs:List T} {v:Value}
  (hcb:Cb Tryz.prog f fn cap S It ok step (fun v x=>∃ cs,v=.agg cs.toArray/\RdT S cs x) xs) (h:RdSl S 4 (RdT S) v xs) {st:σ} (hok:ok st) :
  Tri Tryz.prog en [v,fv f cap] (It st) S fun r I' S'=>r=.bool (dG step st xs).1/\I'=It (dG step st xs).2/\S'=S:=by
 intro w hI
 refine bY.2 ?_
 dsimp only[bY,aC]
 refine Run.call (A:=[]) fC fu (by simpa using hI) (gE hcb h hok) fun v' I' S' w'=>?_
 rintro ⟨rfl,rfl,rfl⟩ _ hI
 refine et ?_
 have he:=dX step xs st 0
 exact ⟨_,_,_,rfl,by simpa using hI,Ext.refl _ _ _,by rw [he.1],by rw [he.2],rfl⟩
end
section
open Go Go.RowKit
attribute [local irreducible] Run CondV ah ax

theorem cK (n low high:Int) (S:ab):Pure Tryz.prog pU [.int .i64 n,.int .i64 low,.int .i64 high] S (.bool (decide (low<=n) && decide (n<=high))):=by
 intro w hI
 refine jo.2 ?_
 dsimp only[jo,ed]
 refine c7 ?_
 refine cz (fun h=>?_) (fun h=>ae hI (by rw [h]; rfl))
 refine c7 ?_
 exact bH h (ae hI (by rw [h]; rfl))
theorem cE (s:ByteArray) (hs:s.size<=maxLen) (S:ab):Pure Tryz.prog ma [.string s] S (.bool (cH s)):=by
 intro w hI
 simp only [maxLen] at hs
 refine eM.2 ?_
 dsimp only[eM,am]
 refine dd aw ?_
 refine ⟨fun i w'=>∃ k:Nat,k<=s.size/\i=.int .i64 k/\(s.data.toList.drop k).all ec=dE s/\Inv w [] [] S w',fun i _=>s.size - (intOf i).toNat,⟨0,Nat.zero_le _,rfl,rfl,hI⟩,?_⟩
 intro t6 _ _ _ _ _ _ _ _ _ _ _ _ _ _ _ w'
 rintro ⟨k,hk,rfl,hrel,hI⟩
 refine aZ ?_
 refine aP (fun hki=>?_) (fun hki=>?_)
 ·have hk':k<s.size:=by omega
  have hstep:=pE ec s.data.toList k (by rw [dD]; exact hk')
  rw [ov s k hk'] at hstep
  refine ⟨fun t w'=>t=.bool (!ec s[k])/\Inv w [] [] S w',?_,?_⟩
  ·refine cZ aw hk' ?_
   refine aZ ?_
   refine od (fun h=>⟨?_,hI⟩) (fun h=>?_)
   ·have h:=of_decide_eq_true h
    rw [ec,decide_eq_false (show ¬ 97<=s[k].toNat by omega)]; rfl
   ·refine cZ aw hk' ?_
    refine cA ?_
    refine jK h ⟨?_,hI⟩
    have h:=of_decide_eq_false h
    rw [ec,decide_eq_true (show 97<=s[k].toNat by omega),Bool.true_and]
    by_cases h2:s[k].toNat<=122
    ·rw [decide_eq_true h2,decide_eq_false (by omega)]; rfl
    ·rw [decide_eq_false h2,decide_eq_true (by omega)]; rfl
  intro t _ _ _ _ _ _ _ _ _ w'
  rintro ⟨rfl,hI⟩
  refine ak (fun h=>ae hI ?_) (fun h=>?_)
  ·simp at h
   rw [cH,<- hrel,hstep,h]; rfl
  ·simp at h
   refine br (by omega) ?_
   refine ⟨⟨k+1,hk',rfl,by rw [<- hrel,hstep,h]; rfl,hI⟩,by simp [intOf]; omega⟩
 ·have:k=s.size:=by omega
  subst this
  have hl:dE s=true:=by rw [<- hrel,<- dD,List.drop_length]; rfl
  refine dd aw ?_
  refine Run.callPure dl dq hI (cK _ _ _ S) fun w' hI=>ae hI ?_
  rw [cH,hl,Bool.true_and]
  congr 1
  rw [Bool.eq_iff_iff]
  simp
  omega
theorem mm (S:ab):Tri Tryz.prog o9 [] [] S (mC S):=by
 intro w hI
 refine gw.2 ?_
 dsimp only[gw,qX]
 refine r8 (v:=fun b=>.slice (some ⟨b,0,none⟩) 15 15) (o:=.cells iR eH) hI (by kernel_rfl) fun b w' hI=>?_
 have hnew:w.heap.size<=b:=by
  rcases hI.new b (by simp [aH,Item.foot]) with h|h
  ·simp [aH] at h
  ·exact h
 obtain ⟨h1,h2⟩:=Inv.publishLast (L:=[]) hI
 exact ⟨_,_,_,rfl,h1,oY hnew h2,rfl,h2,pf (by simp [iA]; rfl)⟩
theorem fX (s:ByteArray) {xs:List ByteArray} {S:ab} {v:Value} (h:RdSl S 1 j8 v xs) :
  Pure Tryz.prog iY [v,.string s] S (.int .i64 (aX (σ:=Unit) (fun _ x=>(decide (x=s),())) () xs 0).1):=by
 intro w hI
 have hlen:=h.le
 simp only [maxLen] at hlen
 refine dh.2 ?_
 dsimp only[dh,aC]
 refine az h d1 ?_
 refine ⟨fun i w'=>∃ k:Nat,k<=xs.length/\i=.int .i64 k/\aX (σ:=Unit) (fun _ x=>(decide (x=s),())) () (xs.drop k) k=aX (σ:=Unit) (fun _ x=>(decide (x=s),())) () xs 0/\Inv w [] [] S w',
  fun i _=>xs.length - (intOf i).toNat,⟨0,Nat.zero_le _,rfl,rfl,hI⟩,?_⟩
 intro t8 _ _ _ _ _ _ _ _ _ _ _ _ w'
 rintro ⟨k,hk,rfl,hrel,hI⟩
 refine aZ ?_
 refine aP (fun hki=>?_) (fun hki=>?_)
 ·have hk':k<xs.length:=by omega
  rw [List.drop_eq_getElem_cons hk',aX] at hrel
  refine rf hI h d1 al hk' (fun cs hcs=>hcs) ?_
  refine aJ ?_
  refine aP (fun he=>ae hI ?_) (fun he=>?_)
  ·rw [<- hrel,if_pos (by simpa using he.symm)]
  ·refine br (by omega) ?_
   rw [if_neg (by simpa using fun e=>he e.symm)] at hrel
   exact ⟨⟨k+1,hk',rfl,hrel,hI⟩,by simp [intOf]; omega⟩
 ·have:k=xs.length:=by omega
  subst this
  rw [List.drop_length,aX] at hrel
  exact ae hI (by rw [<- hrel])
theorem ek (s:ByteArray) {xs:List ByteArray} {S:ab} {v:Value} (h:RdSl S 1 j8 v xs) :
  Pure Tryz.prog fA [v,.string s] S (.bool (xs.any fun x=>decide (x=s))):=by
 intro w hI
 refine cr.2 ?_
 dsimp only[cr,aC]
 refine Run.callPure gj ib hI (fX s h) fun w' hI=>?_
 refine et (ae hI ?_)
 rw [(dX _ xs () 0).1,mR]
theorem jc (s:ByteArray) (hs:s.size<=maxLen) (S:ab):Pure Tryz.prog mA [.string s] S (.bool (cJ s)):=by
 intro w hI
 refine ff.2 ?_
 dsimp only[ff,am]
 refine Run.callPure de dc hI (cE s hs S) fun w' hI=>?_
 refine od (fun h=>ae hI ?_) (fun h=>?_)
 ·rw [cJ,h]; rfl
 ·refine Run.call0 ni nH hI (mm S) fun v' I' S' w'=>?_
  rintro ⟨rfl,_,hr⟩ hle hI
  refine Run.callPure eX eS hI (ek s hr) fun w' hI=>?_
  refine jK h (oX hI hle ?_)
  rw [cJ,h]; rfl

abbrev bp (b:Nat) (c:Int):Item:=.blk b (.cells #[.int .i64 c] cu)
abbrev dN (bc:Nat) (S:ab) (r:Bool × Int):Value->List Item->ab->Prop:=fun v I' S'=>v=.bool r.1/\I'=[bp bc r.2]/\S'=S
theorem oI:∀ (t:T) (deep c:Int),c<=120->(bu t deep c).1=true->c<(bu t deep c).2/\(bu t deep c).2<=120:=by
 intro t deep c hc h
 have:=la t deep c
 rw [this.2 h]
 have h1:=this.1
 rw [h] at h1
 have h2:=h1.symm
 simp at h2
 have:=cV t
 omega
theorem mM (deep:Int):∀ (ks:List T) (c:Int),dG (fun c t=>(!(bu t deep c).1,(bu t deep c).2)) c ks=(!(c8 ks deep c).1,(c8 ks deep c).2)
 | [],c=>by simp [dG,c8]
 | t::ts,c=>by
  by_cases h:(bu t deep c).1=true
  ·simp [dG,c8,h,mM deep ts]
  ·simp [dG,c8,h]

theorem qI:∀ (t:T) (S:ab) (cs:List Value) (deep c:Int) (bc:Nat),RdT S cs t->0<=deep->deep<=31->0<=c->c<=120->
  Tri Tryz.prog sn [.agg cs.toArray,.int .i64 deep,.pointer (some ⟨bc,0,none⟩)] [bp bc c] S (dN bc S (bu t deep c)):=by
 refine T.ind fun k n s ks ih S cs deep c bc h hd0 hd1 hc0 hc1=>?_
 intro w hI
 obtain ⟨kv,rfl,_,_,hs,hks⟩:=RdT.iff.1 h
 simp only [T.name,T.kids,T.kind,T.n] at hs hks ⊢
 have hend:∀ {L:List Item} {w':World} {v:Value} (r:Bool × Int),Inv w (aH [bp bc c]) (bp bc r.2::L) S w'->v=.bool r.1->r=bu (.mk k n s ks) deep c->
   ∃ v' I' S',Ending.returned v=.returned v'/\Inv w (aH [bp bc c]) I' S' w'/\Ext w.heap.size (aH [bp bc c]) S S'/\dN bc S (bu (.mk k n s ks) deep c) v' I' S':=by
  intro L w' v r h1 h2 h3
  subst h3
  exact ⟨_,_,_,rfl,h1.pick [true],Ext.refl _ _ _,h2,rfl,rfl⟩
 refine nb.2 ?_
 dsimp only[nb,ed]
 refine aG hI fun b3 w' hI=>?_
 refine aG hI fun b4 w' hI=>?_
 refine aG hI fun b5 w' hI=>?_
 refine aQ hI 3 fm rfl rfl ?_
 refine cg ?_
 refine aQ hI 0 ar rfl rfl ?_
 refine br (by omega) ?_
 refine cg ?_
 refine dm hI 0 (n:=1) rfl (by rw [ar]; rfl) rfl (Nat.le_of_ble_eq_true rfl) (by simp [Value.cells]; rfl) fun w' hI=>?_
 refine ⟨fun t w'=>t=.bool (decide (120<c+1 ∨ 30<deep))/\Inv w (aH [bp bc c]) [bp bc (c+1),.blk b3 (.cells #[.int .i64 k,.int .i64 n,.string s,kv] ay),.blk b4 (.cells #[.int .i64 deep] cu),.blk b5 (.cells #[.pointer (some ⟨bc,0,none⟩)] bG)] S w',?_,?_⟩
 ·refine aQ hI 3 fm rfl rfl ?_
  refine cg ?_
  refine aQ hI 0 ar rfl rfl ?_
  refine cA ?_
  refine od (fun h=>⟨?_,hI⟩) (fun h=>?_)
  ·have h:=of_decide_eq_true h
   rw [decide_eq_true (show 120<c+1 ∨ 30<deep from .inl h)]
  ·refine aQ hI 2 ar rfl rfl ?_
   refine cA ?_
   refine jK h ⟨?_,hI⟩
   have h:=of_decide_eq_false h
   congr 1
   rw [Bool.eq_iff_iff]
   simp
   omega
 intro t _ _ _ _ _ _ _ w'
 rintro ⟨rfl,hI⟩
 refine aP (fun hb=>?_) (fun hb=>?_)
 ·exact hend (false,c+1) hI rfl (by rw [bu,if_pos hb])
 have hsc:∀ r,(if k=1 ∨ k=2 then (bn (.mk k n s ks),c+1) else if k=3 then (if bn (.mk k n s ks) then c8 ks (deep+1) (c+1) else (false,c+1)) else (false,c+1))=r->r=bu (.mk k n s ks) deep c:=by
  intro r hr
  rw [bu,if_neg hb,hr]
 refine aa hI 1 rfl aB ar rfl ?_
 refine a6 ?_
 refine aP (fun hk=>?_) (fun hk=>?_)
 ·have ho:bn (.mk k n s ks)=(decide (0<=n) && (decide (n<=25) && (decide (s=bZ) && decide (ks.length=0)))):=by
   rw [bn]; exact if_pos hk
  have hfin:∀ {w':World} {b:Bool},Inv w (aH [bp bc c]) [bp bc (c+1),.blk b3 (.cells #[.int .i64 k,.int .i64 n,.string s,kv] ay),.blk b4 (.cells #[.int .i64 deep] cu),.blk b5 (.cells #[.pointer (some ⟨bc,0,none⟩)] bG)] S w'->
    b=bn (.mk k n s ks)->∃ v' I' S',Ending.returned (.bool b)=.returned v'/\Inv w (aH [bp bc c]) I' S' w'/\Ext w.heap.size (aH [bp bc c]) S S'/\dN bc S (bu (.mk k n s ks) deep c) v' I' S':=
   fun hI hb=>hend (_,c+1) hI (by rw [hb]) (hsc _ (if_pos (.inl hk)))
  refine aa hI 1 rfl aR ar rfl ?_
  refine Run.callPure dl dq hI (cK _ _ _ S) fun w' hI=>?_
  refine cz (fun h2=>?_) (fun h2=>?_)
  ·have h2':=h2
   rw [Bool.and_eq_true] at h2'
   refine aa hI 1 rfl ai al rfl ?_
   refine aJ ?_
   refine bH h2 ?_
   refine cz (fun h3=>?_) (fun h3=>hfin hI ?_)
   ·refine aa hI 1 rfl af aj rfl ?_
    refine az hks ag ?_
    refine a6 ?_
    refine bH h3 (hfin hI ?_)
    rw [ho,h2'.1,h2'.2,show decide (s=bZ)=true from h3]
    simp
   ·rw [ho,h2'.1,h2'.2,show decide (s=bZ)=false from h3]; rfl
  ·refine d3 (hfin hI ?_)
   rw [ho,<- Bool.and_assoc,h2]; rfl
 refine a6 ?_
 refine aP (fun hk2=>?_) (fun hk2=>?_)
 ·have ho:bn (.mk k n s ks)=(decide (-999<=n) && (decide (n<=999) && (decide (s=bZ) && decide (ks.length=0)))):=by
   rw [bn]; exact (if_neg hk).trans (if_pos hk2)
  have hfin:∀ {w':World} {b:Bool},Inv w (aH [bp bc c]) [bp bc (c+1),.blk b3 (.cells #[.int .i64 k,.int .i64 n,.string s,kv] ay),.blk b4 (.cells #[.int .i64 deep] cu),.blk b5 (.cells #[.pointer (some ⟨bc,0,none⟩)] bG)] S w'->
    b=bn (.mk k n s ks)->∃ v' I' S',Ending.returned (.bool b)=.returned v'/\Inv w (aH [bp bc c]) I' S' w'/\Ext w.heap.size (aH [bp bc c]) S S'/\dN bc S (bu (.mk k n s ks) deep c) v' I' S':=
   fun hI hb=>hend (_,c+1) hI (by rw [hb]) (hsc _ (if_pos (.inr hk2)))
  refine aa hI 1 rfl aR ar rfl ?_
  refine Run.callPure dl dq hI (cK _ _ _ S) fun w' hI=>?_
  refine cz (fun h2=>?_) (fun h2=>?_)
  ·have h2':=h2
   rw [Bool.and_eq_true] at h2'
   refine aa hI 1 rfl ai al rfl ?_
   refine aJ ?_
   refine bH h2 ?_
   refine cz (fun h3=>?_) (fun h3=>hfin hI ?_)
   ·refine aa hI 1 rfl af aj rfl ?_
    refine az hks ag ?_
    refine a6 ?_
    refine bH h3 (hfin hI ?_)
    rw [ho,h2'.1,h2'.2,show decide (s=bZ)=true from h3]
    simp
   ·rw [ho,h2'.1,h2'.2,show decide (s=bZ)=false from h3]; rfl
  ·refine d3 (hfin hI ?_)
   rw [ho,<- Bool.and_assoc,h2]; rfl
 refine a6 ?_
 have hk12:¬ (k=1 ∨ k=2):=fun h=>h.elim hk hk2
 refine aP (fun hk3=>?_) (fun hk3=>?_)
 ·have ho:bn (.mk k n s ks)=(decide (n=0) && (cJ s && decide (ks.length<=4))):=by
   rw [bn]; exact (if_neg hk).trans ((if_neg hk2).trans (if_pos hk3))
  refine ⟨fun t w'=>t=.bool (!bn (.mk k n s ks))/\Inv w (aH [bp bc c]) [bp bc (c+1),.blk b3 (.cells #[.int .i64 k,.int .i64 n,.string s,kv] ay),.blk b4 (.cells #[.int .i64 deep] cu),.blk b5 (.cells #[.pointer (some ⟨bc,0,none⟩)] bG)] S w',?_,?_⟩
  ·refine aa hI 1 rfl aR ar rfl ?_
   refine mK ?_
   refine od (fun h1=>?_) (fun h1=>?_)
   ·have h1':decide (n=0)=false:=by simpa using h1
    refine u0 ⟨?_,hI⟩
    rw [ho,h1']; rfl
   ·have h1':decide (n=0)=true:=by simpa using h1
    refine aa hI 1 rfl ai al rfl ?_
    refine Run.callPure kE kC hI (jc s hs S) fun w' hI=>?_
    refine bv ?_
    refine jK h1 ?_
    refine od (fun h2=>⟨?_,hI⟩) (fun h2=>?_)
    ·have h2':cJ s=false:=by simpa using h2
     rw [ho,h1',h2']; rfl
    ·have h2':cJ s=true:=by simpa using h2
     refine aa hI 1 rfl af aj rfl ?_
     refine az hks ag ?_
     refine cA ?_
     refine jK h2 ⟨?_,hI⟩
     rw [ho,h1',h2',Bool.true_and,Bool.true_and]
     congr 1
     rw [Bool.eq_iff_iff]
     simp
     omega
  intro t _ _ _ _ _ _ _ _ _ _ _ _ _ _ w'
  rintro ⟨rfl,hI⟩
  refine ak (fun hb1=>?_) (fun hb1=>?_)
  ·have hb1':bn (.mk k n s ks)=false:=by simpa using hb1
   exact hend (false,c+1) hI rfl (hsc _ (by rw [if_neg hk12,if_pos hk3,hb1']; rfl))
  ·have hb1':bn (.mk k n s ks)=true:=by simpa using hb1
   refine aa hI 1 rfl af aj rfl ?_
   refine lu ?_
   have hcb:Cb Tryz.prog qd Tryz.f139 [.pointer (some ⟨b4,0,none⟩),.pointer (some ⟨b5,0,none⟩)] S
     (fun c:Int=>[bp bc c,.blk b4 (.cells #[.int .i64 deep] cu),.blk b5 (.cells #[.pointer (some ⟨bc,0,none⟩)] bG)]) (fun c=>0<=c/\c<=120)
     (fun c t=>(!(bu t (deep+1) c).1,(bu t (deep+1) c).2)) (fun v x=>∃ cs,v=.agg cs.toArray/\RdT S cs x) ks:=by
    refine ⟨o0,pz,fun st x _ hst hf=>?_,fun st x v hx hst=>?_⟩
    ·have:=oI x (deep+1) st hst.2 (by simpa using hf)
     omega
    ·rintro ⟨cs,rfl,hcs⟩ w1 hI
     have hl:=hcs.length
     refine ju.2 ?_
     dsimp only[ju,ed]
     refine aG hI fun b w' hI=>?_
     refine ao hI 3 ac rfl (by simpa [Value.cells] using hl) ?_
     refine aQ hI 1 ar rfl rfl ?_
     refine br (by omega) ?_
     refine aQ hI 2 fm rfl rfl ?_
     have hI:=hI.perm (M:=[.blk b4 (.cells #[.int .i64 deep] cu),.blk b5 (.cells #[.pointer (some ⟨bc,0,none⟩)] bG),.blk b (.cells (Value.agg cs.toArray).cells ay)]++[bp bc st])
      (List.perm_append_comm (l₁:=[_,_,_]) (l₂:=[bp bc st]))
     refine Run.call mP ng hI (ih x hx S cs (deep+1) st bc hcs (by omega) (by omega) hst.1 hst.2) fun v' I' S' w'=>?_
     rintro ⟨rfl,rfl,rfl⟩ _ hI
     refine bv ?_
     have hI:=(hI.perm (M:=[bp bc (bu x (deep+1) st).2]++[.blk b4 (.cells #[.int .i64 deep] cu),.blk b5 (.cells #[.pointer (some ⟨bc,0,none⟩)] bG),.blk b (.cells (Value.agg cs.toArray).cells ay)])
      List.perm_append_comm).pick [true,true,true,false]
     exact ⟨_,_,_,rfl,hI,Ext.refl _ _ _,rfl,rfl,rfl⟩
   have hI:=hI.perm (M:=[.blk b3 (.cells #[.int .i64 k,.int .i64 n,.string s,kv] ay)]++[bp bc (c+1),.blk b4 (.cells #[.int .i64 deep] cu),.blk b5 (.cells #[.pointer (some ⟨bc,0,none⟩)] bG)]) (List.Perm.swap _ _ _)
   refine Run.call d5 d8 hI (eP hcb hks ⟨by omega,by omega⟩) fun v' I' S' w'=>?_
   rintro ⟨rfl,rfl,rfl⟩ _ hI
   refine bv ?_
   rw [mM] at hI ⊢
   have hI:=hI.perm (M:=[bp bc (c8 ks (deep+1) (c+1)).2,.blk b3 (.cells #[.int .i64 k,.int .i64 n,.string s,kv] ay),.blk b4 (.cells #[.int .i64 deep] cu),.blk b5 (.cells #[.pointer (some ⟨bc,0,none⟩)] bG)]) (List.Perm.swap _ _ _)
   refine hend (c8 ks (deep+1) (c+1)) hI (by simp) (hsc _ (by rw [if_neg hk12,if_pos hk3,hb1']; rfl))
 ·exact hend (false,c+1) hI rfl (hsc _ (by rw [if_neg hk12,if_neg hk3]))

theorem je {t:T} {S:ab} {cs:List Value} (h:RdT S cs t):Pure Tryz.prog lY [.agg cs.toArray] S (.bool (bz t)):=by
 intro w hI
 have hl:=h.length
 refine eE.2 ?_
 dsimp only[eE,am]
 refine aG hI fun b1 w' hI=>?_
 refine cm hI sP fun b2 w' hI=>?_
 refine dm hI 1 (n:=1) rfl (by rw [ar]; rfl) rfl (Nat.le_of_ble_eq_true rfl) (by simp [Value.cells]; rfl) fun w' hI=>?_
 refine ao hI 0 ac rfl (by simpa [Value.cells] using hl) ?_
 refine Run.call (A:=[_]) (I:=[bp b2 0]) mP ng hI (qI t S cs 1 0 b2 h (by omega) (by omega) (by omega) (by omega)) fun v' I' S' w'=>?_
 rintro ⟨rfl,rfl,rfl⟩ _ hI
 exact ae hI (by rw [qH])
end
section
open Go Go.RowKit
attribute [local irreducible] Run CondV ah ax

def kF:List ByteArray:=[⟨#[61]⟩,⟨#[92,61]⟩,⟨#[61,61]⟩,⟨#[60]⟩,⟨#[62]⟩,⟨#[61,60]⟩,⟨#[62,61]⟩,⟨#[61,58,61]⟩,⟨#[105,115]⟩]
def fY:List ByteArray:=[⟨#[116,114,117,101]⟩,⟨#[102,97,105,108]⟩]
def kP:List ByteArray:=[⟨#[118,97,114]⟩,⟨#[110,111,110,118,97,114]⟩,⟨#[97,116,111,109]⟩,⟨#[105,110,116]⟩]
def oM:List ByteArray:=[⟨#[43]⟩,⟨#[45]⟩]
def jV:List ByteArray:=[⟨#[42]⟩,⟨#[47,47]⟩,⟨#[109,111,100]⟩]
def bt (s:ByteArray) (l:List ByteArray):Bool:=l.any fun x=>decide (s=x)
def bI (s:ByteArray) (n:Int):Bool:=
 if bt s kF=true then decide (n=2)
 else if bt s fY=true then decide (n=0)
 else if bt s kP=true then decide (n=1)
 else if s=⟨#[97,114,103]⟩ then decide (n=3)
 else false
def ad (s:ByteArray):Int:=if bt s kF=true then 3 else if bt s oM=true then 2 else if bt s jV=true then 1 else 0
def qv (t:T):Bool:=decide (t.kind=3) && (decide (t.name=⟨#[33]⟩) && decide (t.kids.length=0))
def io (t:T):Bool:=decide (t.kind=3) && decide (t.kids.length=0)
def gb (t:T):Bool:=decide (t.kind=3) && bI t.name t.kids.length
def ew (t:T):Bool:=decide (t.kind=3) && (cH t.name && (!bI t.name t.kids.length && decide (ad t.name=0)))
def jz (t:T):Bool:=bz t && (qv t || (ew t || gb t))
theorem rq (s:ByteArray):(!decide (0<ad s))=decide (ad s=0):=by
 unfold ad
 split
 ·rfl
 ·split
  ·rfl
  ·split <;> rfl

theorem dK (s:ByteArray) (n:Int) (S:ab):Pure Tryz.prog mt [.string s,.int .i64 n] S (.bool (bI s n)):=by
 intro w hI
 refine fg.2 ?_
 dsimp only[fg,aC]
 obtain ⟨q,hq⟩:∃ q,bt s kF=q:=⟨_,rfl⟩
 have hq1:=hq
 refine ⟨fun t w'=>t=.bool q/\Inv w [] [] S w',?_,?_⟩
 ·unfold bt kF at hq
  iterate 8
   refine aJ ?_
   refine ak (fun h=>⟨by rw [List.any_cons,h] at hq; rw [h,<- hq]; rfl,hI⟩) (fun h=>?_)
   rw [List.any_cons,h,Bool.false_or] at hq
  refine aJ ⟨?_,hI⟩
  rw [<- hq]; simp
 intro t _ _ _ _ _ _ _ _ _ w'
 rintro ⟨rfl,hI⟩
 refine ak (fun h=>?_) (fun h=>?_)
 ·exact a6 (ae hI (by rw [bI,if_pos (hq1.trans h)]))
 have e1:bI s n=if bt s fY=true then decide (n=0) else if bt s kP=true then decide (n=1) else if s=⟨#[97,114,103]⟩ then decide (n=3) else false:=by
  rw [bI,if_neg (by rw [hq1,h]; decide)]
 clear hq hq1 h
 obtain ⟨q,hq⟩:∃ q,bt s fY=q:=⟨_,rfl⟩
 have hq1:=hq
 refine ⟨fun t w'=>t=.bool q/\Inv w [] [] S w',?_,?_⟩
 ·unfold bt fY at hq
  refine aJ ?_
  refine ak (fun h=>⟨by rw [List.any_cons,h] at hq; rw [h,<- hq]; rfl,hI⟩) (fun h=>?_)
  rw [List.any_cons,h,Bool.false_or] at hq
  refine aJ ⟨?_,hI⟩
  rw [<- hq]; simp
 intro _ t _ w'
 rintro ⟨rfl,hI⟩
 refine ak (fun h=>?_) (fun h=>?_)
 ·exact a6 (ae hI (by rw [e1,if_pos (hq1.trans h)]))
 rw [if_neg (by rw [hq1,h]; decide)] at e1
 clear hq hq1 h
 obtain ⟨q,hq⟩:∃ q,bt s kP=q:=⟨_,rfl⟩
 have hq1:=hq
 refine ⟨fun t w'=>t=.bool q/\Inv w [] [] S w',?_,?_⟩
 ·unfold bt kP at hq
  iterate 3
   refine aJ ?_
   refine ak (fun h=>⟨by rw [List.any_cons,h] at hq; rw [h,<- hq]; rfl,hI⟩) (fun h=>?_)
   rw [List.any_cons,h,Bool.false_or] at hq
  refine aJ ⟨?_,hI⟩
  rw [<- hq]; simp
 intro _ _ _ t _ w'
 rintro ⟨rfl,hI⟩
 refine ak (fun h=>?_) (fun h=>?_)
 ·exact a6 (ae hI (by rw [e1,if_pos (hq1.trans h)]))
 rw [if_neg (by rw [hq1,h]; decide)] at e1
 refine aJ ?_
 refine aP (fun h=>?_) (fun h=>?_)
 ·exact a6 (ae hI (by rw [e1,if_pos h]))
 ·exact ae hI (by rw [e1,if_neg h])
theorem jj (s:ByteArray) (n:Int) (S:ab):Pure Tryz.prog lU [.string s,.int .i64 n] S (.bool (bI s n)):=by
 intro w hI
 refine eR.2 ?_
 dsimp only[eR,aC]
 obtain ⟨q,hq⟩:∃ q,bt s kF=q:=⟨_,rfl⟩
 have hq1:=hq
 refine ⟨fun t w'=>t=.bool q/\Inv w [] [] S w',?_,?_⟩
 ·unfold bt kF at hq
  iterate 8
   refine aJ ?_
   refine ak (fun h=>⟨by rw [List.any_cons,h] at hq; rw [h,<- hq]; rfl,hI⟩) (fun h=>?_)
   rw [List.any_cons,h,Bool.false_or] at hq
  refine aJ ⟨?_,hI⟩
  rw [<- hq]; simp
 intro t _ _ _ _ _ _ _ _ _ w'
 rintro ⟨rfl,hI⟩
 refine ak (fun h=>?_) (fun h=>?_)
 ·exact a6 (ae hI (by rw [bI,if_pos (hq1.trans h)]))
 have e1:bI s n=if bt s fY=true then decide (n=0) else if bt s kP=true then decide (n=1) else if s=⟨#[97,114,103]⟩ then decide (n=3) else false:=by
  rw [bI,if_neg (by rw [hq1,h]; decide)]
 clear hq hq1 h
 obtain ⟨q,hq⟩:∃ q,bt s fY=q:=⟨_,rfl⟩
 have hq1:=hq
 refine ⟨fun t w'=>t=.bool q/\Inv w [] [] S w',?_,?_⟩
 ·unfold bt fY at hq
  refine aJ ?_
  refine ak (fun h=>⟨by rw [List.any_cons,h] at hq; rw [h,<- hq]; rfl,hI⟩) (fun h=>?_)
  rw [List.any_cons,h,Bool.false_or] at hq
  refine aJ ⟨?_,hI⟩
  rw [<- hq]; simp
 intro _ t _ w'
 rintro ⟨rfl,hI⟩
 refine ak (fun h=>?_) (fun h=>?_)
 ·exact a6 (ae hI (by rw [e1,if_pos (hq1.trans h)]))
 rw [if_neg (by rw [hq1,h]; decide)] at e1
 clear hq hq1 h
 obtain ⟨q,hq⟩:∃ q,bt s kP=q:=⟨_,rfl⟩
 have hq1:=hq
 refine ⟨fun t w'=>t=.bool q/\Inv w [] [] S w',?_,?_⟩
 ·unfold bt kP at hq
  iterate 3
   refine aJ ?_
   refine ak (fun h=>⟨by rw [List.any_cons,h] at hq; rw [h,<- hq]; rfl,hI⟩) (fun h=>?_)
   rw [List.any_cons,h,Bool.false_or] at hq
  refine aJ ⟨?_,hI⟩
  rw [<- hq]; simp
 intro _ _ _ t _ w'
 rintro ⟨rfl,hI⟩
 refine ak (fun h=>?_) (fun h=>?_)
 ·exact a6 (ae hI (by rw [e1,if_pos (hq1.trans h)]))
 rw [if_neg (by rw [hq1,h]; decide)] at e1
 refine aJ ?_
 refine aP (fun h=>?_) (fun h=>?_)
 ·exact a6 (ae hI (by rw [e1,if_pos h]))
 ·exact ae hI (by rw [e1,if_neg h])

theorem bx (s:ByteArray) (S:ab):Pure Tryz.prog oW [.string s] S (.int .i64 (ad s)):=by
 intro w hI
 refine gU.2 ?_
 dsimp only[gU,am]
 obtain ⟨q,hq⟩:∃ q,bt s kF=q:=⟨_,rfl⟩
 have hq1:=hq
 refine ⟨fun t w'=>t=.bool q/\Inv w [] [] S w',?_,?_⟩
 ·unfold bt kF at hq
  iterate 8
   refine aJ ?_
   refine ak (fun h=>⟨by rw [List.any_cons,h] at hq; rw [h,<- hq]; rfl,hI⟩) (fun h=>?_)
   rw [List.any_cons,h,Bool.false_or] at hq
  refine aJ ⟨?_,hI⟩
  rw [<- hq]; simp
 intro _ _ _ _ _ _ _ _ t _ w'
 rintro ⟨rfl,hI⟩
 refine ak (fun h=>?_) (fun h=>?_)
 ·exact ae hI (by rw [show ad s=3 from if_pos (hq1.trans h)] <;> rfl)
 have e1:ad s=if bt s oM=true then 2 else if bt s jV=true then 1 else 0:=by
  rw [ad,if_neg (by rw [hq1,h]; decide)]
 clear hq hq1 h
 obtain ⟨q,hq⟩:∃ q,bt s oM=q:=⟨_,rfl⟩
 have hq1:=hq
 refine ⟨fun t w'=>t=.bool q/\Inv w [] [] S w',?_,?_⟩
 ·unfold bt oM at hq
  refine aJ ?_
  refine ak (fun h=>⟨by rw [List.any_cons,h] at hq; rw [h,<- hq]; rfl,hI⟩) (fun h=>?_)
  rw [List.any_cons,h,Bool.false_or] at hq
  refine aJ ⟨?_,hI⟩
  rw [<- hq]; simp
 intro _ t _ w'
 rintro ⟨rfl,hI⟩
 refine ak (fun h=>?_) (fun h=>?_)
 ·exact ae hI (by rw [show ad s=2 from e1.trans (if_pos (hq1.trans h))] <;> rfl)
 rw [if_neg (by rw [hq1,h]; decide)] at e1
 clear hq hq1 h
 obtain ⟨q,hq⟩:∃ q,bt s jV=q:=⟨_,rfl⟩
 have hq1:=hq
 refine ⟨fun t w'=>t=.bool q/\Inv w [] [] S w',?_,?_⟩
 ·unfold bt jV at hq
  iterate 2
   refine aJ ?_
   refine ak (fun h=>⟨by rw [List.any_cons,h] at hq; rw [h,<- hq]; rfl,hI⟩) (fun h=>?_)
   rw [List.any_cons,h,Bool.false_or] at hq
  refine aJ ⟨?_,hI⟩
  rw [<- hq]; simp
 intro _ _ t _ w'
 rintro ⟨rfl,hI⟩
 refine ak (fun h=>?_) (fun h=>?_)
 ·exact ae hI (by rw [show ad s=1 from e1.trans (if_pos (hq1.trans h))] <;> rfl)
 ·exact ae hI (by rw [show ad s=0 from e1.trans (if_neg (by rw [hq1,h]; decide))] <;> rfl)
theorem bJ (s:ByteArray) (S:ab):Pure Tryz.prog o6 [.string s] S (.tuple #[.int .i64 (ad s),.bool (decide (ad s=1) || decide (ad s=2))]):=by
 intro w hI
 refine gW.2 ?_
 dsimp only[gW,am]
 obtain ⟨q,hq⟩:∃ q,bt s kF=q:=⟨_,rfl⟩
 have hq1:=hq
 refine ⟨fun t w'=>t=.bool q/\Inv w [] [] S w',?_,?_⟩
 ·unfold bt kF at hq
  iterate 8
   refine aJ ?_
   refine ak (fun h=>⟨by rw [List.any_cons,h] at hq; rw [h,<- hq]; rfl,hI⟩) (fun h=>?_)
   rw [List.any_cons,h,Bool.false_or] at hq
  refine aJ ⟨?_,hI⟩
  rw [<- hq]; simp
 intro _ _ _ _ _ _ _ _ t _ w'
 rintro ⟨rfl,hI⟩
 refine ak (fun h=>?_) (fun h=>?_)
 ·exact ae hI (by rw [show ad s=3 from if_pos (hq1.trans h)] <;> rfl)
 have e1:ad s=if bt s oM=true then 2 else if bt s jV=true then 1 else 0:=by
  rw [ad,if_neg (by rw [hq1,h]; decide)]
 clear hq hq1 h
 obtain ⟨q,hq⟩:∃ q,bt s oM=q:=⟨_,rfl⟩
 have hq1:=hq
 refine ⟨fun t w'=>t=.bool q/\Inv w [] [] S w',?_,?_⟩
 ·unfold bt oM at hq
  refine aJ ?_
  refine ak (fun h=>⟨by rw [List.any_cons,h] at hq; rw [h,<- hq]; rfl,hI⟩) (fun h=>?_)
  rw [List.any_cons,h,Bool.false_or] at hq
  refine aJ ⟨?_,hI⟩
  rw [<- hq]; simp
 intro _ t _ w'
 rintro ⟨rfl,hI⟩
 refine ak (fun h=>?_) (fun h=>?_)
 ·exact ae hI (by rw [show ad s=2 from e1.trans (if_pos (hq1.trans h))] <;> rfl)
 rw [if_neg (by rw [hq1,h]; decide)] at e1
 clear hq hq1 h
 obtain ⟨q,hq⟩:∃ q,bt s jV=q:=⟨_,rfl⟩
 have hq1:=hq
 refine ⟨fun t w'=>t=.bool q/\Inv w [] [] S w',?_,?_⟩
 ·unfold bt jV at hq
  iterate 2
   refine aJ ?_
   refine ak (fun h=>⟨by rw [List.any_cons,h] at hq; rw [h,<- hq]; rfl,hI⟩) (fun h=>?_)
   rw [List.any_cons,h,Bool.false_or] at hq
  refine aJ ⟨?_,hI⟩
  rw [<- hq]; simp
 intro _ _ t _ w'
 rintro ⟨rfl,hI⟩
 refine ak (fun h=>?_) (fun h=>?_)
 ·exact ae hI (by rw [show ad s=1 from e1.trans (if_pos (hq1.trans h))] <;> rfl)
 ·exact ae hI (by rw [show ad s=0 from e1.trans (if_neg (by rw [hq1,h]; decide))] <;> rfl)

theorem pg {t:T} {S:ab} {cs:List Value} (h:RdT S cs t):Pure Tryz.prog ro [.agg cs.toArray] S (.bool (qv t)):=by
 intro w hI
 obtain ⟨kv,rfl,_,_,hs,hks⟩:=RdT.iff.1 h
 obtain ⟨k,n,s,ks⟩:=t
 simp only [T.name,T.kids,T.kind,T.n] at hs hks ⊢
 refine k6.2 ?_
 dsimp only[k6,am]
 refine aG hI fun b1 w' hI=>?_
 refine aa hI 0 rfl aB ar rfl ?_
 refine a6 ?_
 rw [show qv (.mk k n s ks)=(decide (k=3) && (decide (s=⟨#[33]⟩) && decide (ks.length=0))) from rfl]
 cases h1:decide (k=3)
 ·refine rpG ?_
  exact ae hI rfl
 ·refine rpG ?_
  refine aa hI 0 rfl ai al rfl ?_
  refine aJ ?_
  cases h2:decide (s=⟨#[33]⟩)
  ·refine rpG ?_
   exact ae hI rfl
  ·refine rpG ?_
   refine aa hI 0 rfl af aj rfl ?_
   refine az hks ag ?_
   refine a6 ?_
   refine rpG ?_
   exact ae hI (by simp)

theorem l0 {t:T} {S:ab} {cs:List Value} (h:RdT S cs t):Pure Tryz.prog o3 [.agg cs.toArray] S (.bool (ew t)):=by
 intro w hI
 obtain ⟨kv,rfl,_,_,hs,hks⟩:=RdT.iff.1 h
 obtain ⟨k,n,s,ks⟩:=t
 simp only [T.name,T.kids,T.kind,T.n] at hs hks ⊢
 refine gI.2 ?_
 dsimp only[gI,am]
 refine aG hI fun b1 w' hI=>?_
 refine aa hI 0 rfl aB ar rfl ?_
 refine a6 ?_
 rw [show ew (.mk k n s ks)=(decide (k=3) && (cH s && (!bI s ks.length && decide (ad s=0)))) from rfl]
 cases h1:decide (k=3)
 ·refine rpG ?_
  exact ae hI rfl
 ·refine rpG ?_
  refine aa hI 0 rfl ai al rfl ?_
  refine Run.callPure jn jE hI (gD s hs S) fun w' hI=>?_
  cases h2:cH s
  ·refine rpG ?_
   exact ae hI rfl
  ·refine rpG ?_
   refine aa hI 0 rfl ai al rfl ?_
   refine aa hI 0 rfl af aj rfl ?_
   refine az hks ag ?_
   refine Run.callPure e6 ep hI (dK s _ S) fun w' hI=>?_
   refine bv ?_
   cases h3:bI s ks.length
   ·refine rpG ?_
    refine aa hI 0 rfl ai al rfl ?_
    refine Run.callPure bX bV hI (bx s S) fun w' hI=>?_
    refine a6 ?_
    refine rpG ?_
    exact ae hI rfl
   ·refine rpG ?_
    exact ae hI rfl

theorem nG {t:T} {S:ab} {cs:List Value} (h:RdT S cs t):Pure Tryz.prog qJ [.agg cs.toArray] S (.bool (qv t || (ew t || gb t))):=by
 intro w hI
 have h0:=h
 obtain ⟨kv,rfl,_,_,hs,hks⟩:=RdT.iff.1 h
 obtain ⟨k,n,s,ks⟩:=t
 simp only [T.name,T.kids,T.kind,T.n] at h0 hs hks ⊢
 refine jF.2 ?_
 dsimp only[jF,am]
 refine aG hI fun b1 w' hI=>?_
 refine ao hI 0 ac rfl rfl ?_
 refine Run.callPure qu qx hI (pg h0) fun w' hI=>?_
 cases h1:qv (.mk k n s ks)
 ·refine rpG ?_
  refine ao hI 0 ac rfl rfl ?_
  refine Run.callPure n0 n4 hI (l0 h0) fun w' hI=>?_
  cases h2:ew (.mk k n s ks)
  ·refine rpG ?_
   refine aa hI 0 rfl aB ar rfl ?_
   refine a6 ?_
   rw [show gb (.mk k n s ks)=(decide (k=3) && bI s ks.length) from rfl]
   cases h3:decide (k=3)
   ·refine rpG ?_
    exact ae hI rfl
   ·refine rpG ?_
    refine aa hI 0 rfl ai al rfl ?_
    refine aa hI 0 rfl af aj rfl ?_
    refine az hks ag ?_
    refine Run.callPure e6 ep hI (dK s _ S) fun w' hI=>?_
    refine rpG ?_
    exact ae hI rfl
  ·refine rpG ?_
   exact ae hI rfl
 ·refine rpG ?_
  exact ae hI rfl

theorem tQ {t:T} (h:wT t<=1048576):bD t<=4611686018427387904:=by
 have:=sJ t
 omega
theorem ji {t:T} {S:ab} {cs:List Value} (h:RdT S cs t) (hc:wT t<=1048576):Pure Tryz.prog ms [.agg cs.toArray] S (.bool (jz t)):=by
 intro w hI
 have hl:=h.length
 refine eT.2 ?_
 dsimp only[eT,am]
 refine aG hI fun b1 w' hI=>?_
 refine ao hI 0 ac rfl (by simpa [Value.cells] using hl) ?_
 refine Run.callPure lk kS hI (iK h (tQ hc)) fun w' hI=>?_
 rw [jz]
 cases h1:bz t
 ·refine rpG ?_
  exact ae hI rfl
 ·refine rpG ?_
  refine ao hI 0 ac rfl (by simpa [Value.cells] using hl) ?_
  refine Run.callPure ou oF hI (nG h) fun w' hI=>?_
  refine rpG ?_
  exact ae hI rfl


theorem gd (s:ByteArray) (S:ab):Pure Tryz.prog r7 [.string s] S (.bool (decide (0<ad s))):=by
 intro w hI
 refine mD.2 ?_
 dsimp only[mD,am]
 refine Run.callPure cL cM hI (bJ s S) fun w' hI=>?_
 refine bS rfl ?_
 refine bS rfl ?_
 refine cA ?_
 exact ae hI rfl
theorem fP {t:T} {S:ab} {cs:List Value} (h:RdT S cs t):Pure Tryz.prog oh [.agg cs.toArray] S (.bool (gb t)):=by
 intro w hI
 obtain ⟨kv,rfl,_,_,hs,hks⟩:=RdT.iff.1 h
 obtain ⟨k,n,s,ks⟩:=t
 simp only [T.name,T.kids,T.kind,T.n] at hs hks ⊢
 refine ia.2 ?_
 dsimp only[ia,am]
 refine aG hI fun b1 w' hI=>?_
 refine aa hI 0 rfl aB ar rfl ?_
 refine a6 ?_
 rw [show gb (.mk k n s ks)=(decide (k=3) && bI s ks.length) from rfl]
 cases h3:decide (k=3)
 ·refine rpG ?_
  exact ae hI rfl
 ·refine rpG ?_
  refine aa hI 0 rfl ai al rfl ?_
  refine aa hI 0 rfl af aj rfl ?_
  refine az hks ag ?_
  refine Run.callPure lC lb hI (jj s _ S) fun w' hI=>?_
  refine rpG ?_
  exact ae hI rfl
theorem mg {t:T} {S:ab} {cs:List Value} (h:RdT S cs t):Pure Tryz.prog pe [.agg cs.toArray] S (.bool (ew t)):=by
 intro w hI
 have h0:=h
 obtain ⟨kv,rfl,_,_,hs,hks⟩:=RdT.iff.1 h
 obtain ⟨k,n,s,ks⟩:=t
 simp only [T.name,T.kids,T.kind,T.n] at h0 hs hks ⊢
 refine gF.2 ?_
 dsimp only[gF,am]
 refine aG hI fun b1 w' hI=>?_
 refine aa hI 0 rfl aB ar rfl ?_
 refine a6 ?_
 have hb:gb (.mk k n s ks)=(decide (k=3) && bI s ks.length):=rfl
 rw [show ew (.mk k n s ks)=(decide (k=3) && (cH s && (!bI s ks.length && decide (ad s=0)))) from rfl]
 cases h1:decide (k=3)
 ·refine rpG ?_
  exact ae hI rfl
 ·rw [h1] at hb
  refine rpG ?_
  refine aa hI 0 rfl ai al rfl ?_
  refine Run.callPure de dc hI (cE s hs S) fun w' hI=>?_
  cases h2:cH s
  ·refine rpG ?_
   exact ae hI rfl
  ·refine rpG ?_
   refine aa hI 0 rfl ai al rfl ?_
   refine Run.callPure iM iE hI (gd s S) fun w' hI=>?_
   refine bv ?_
   rw [rq]
   cases h3:decide (ad s=0)
   ·refine rpG ?_
    exact ae hI (by simp)
   ·refine rpG ?_
    refine ao hI 0 ac rfl rfl ?_
    refine Run.callPure hX gh hI (fP h0) fun w' hI=>?_
    refine bv ?_
    refine rpG ?_
    exact ae hI (by rw [hb]; simp)
theorem d4 {t:T} {S:ab} {cs:List Value} (h:RdT S cs t):Pure Tryz.prog pQ [.agg cs.toArray] S (.bool (io t)):=by
 intro w hI
 obtain ⟨kv,rfl,_,_,hs,hks⟩:=RdT.iff.1 h
 obtain ⟨k,n,s,ks⟩:=t
 simp only [T.name,T.kids,T.kind,T.n] at hs hks ⊢
 refine jN.2 ?_
 dsimp only[jN,am]
 refine aG hI fun b1 w' hI=>?_
 refine aa hI 0 rfl aB ar rfl ?_
 refine a6 ?_
 rw [show io (.mk k n s ks)=(decide (k=3) && decide (ks.length=0)) from rfl]
 cases h3:decide (k=3)
 ·refine rpG ?_
  exact ae hI rfl
 ·refine rpG ?_
  refine aa hI 0 rfl af aj rfl ?_
  refine az hks ag ?_
  refine a6 ?_
  refine rpG ?_
  exact ae hI (by simp)
theorem oT {t:T} {S:ab} {cs:List Value} (h:RdT S cs t):Pure Tryz.prog rH [.agg cs.toArray] S (.bool (qv t)):=by
 intro w hI
 have h0:=h
 obtain ⟨kv,rfl,_,_,hs,hks⟩:=RdT.iff.1 h
 obtain ⟨k,n,s,ks⟩:=t
 simp only [T.name,T.kids,T.kind,T.n] at h0 hs hks ⊢
 refine k5.2 ?_
 dsimp only[k5,am]
 refine aG hI fun b1 w' hI=>?_
 refine ao hI 0 ac rfl rfl ?_
 refine Run.callPure eO ez hI (d4 h0) fun w' hI=>?_
 rw [show qv (.mk k n s ks)=(decide (k=3) && (decide (s=⟨#[33]⟩) && decide (ks.length=0))) from rfl]
 cases h1:io (.mk k n s ks)
 ·refine rpG ?_
  refine ae hI ?_
  replace h1:(decide (k=3) && decide (ks.length=0))=false:=h1
  cases h2:decide (k=3)
  ·rfl
  ·rw [h2,Bool.true_and] at h1
   rw [h1,Bool.and_false]; rfl
 ·refine rpG ?_
  refine aa hI 0 rfl ai al rfl ?_
  refine aJ ?_
  refine rpG ?_
  refine ae hI ?_
  replace h1:(decide (k=3) && decide (ks.length=0))=true:=h1
  rw [Bool.and_eq_true] at h1
  rw [h1.1,h1.2]; simp
theorem iT {t:T} {S:ab} {cs:List Value} (h:RdT S cs t):Pure Tryz.prog l4 [.agg cs.toArray] S (.bool (jz t)):=by
 intro w hI
 have hl:=h.length
 refine er.2 ?_
 dsimp only[er,am]
 refine aG hI fun b1 w' hI=>?_
 refine ao hI 0 ac rfl (by simpa [Value.cells] using hl) ?_
 refine Run.callPure k8 kU hI (je h) fun w' hI=>?_
 rw [jz]
 cases h1:bz t
 ·refine rpG ?_
  exact ae hI rfl
 ·refine rpG ?_
  refine ao hI 0 ac rfl (by simpa [Value.cells] using hl) ?_
  refine Run.callPure nU nF hI (mg h) fun w' hI=>?_
  cases h2:ew t
  ·refine rpG ?_
   refine ao hI 0 ac rfl (by simpa [Value.cells] using hl) ?_
   refine Run.callPure hX gh hI (fP h) fun w' hI=>?_
   cases h3:gb t
   ·refine rpG ?_
    refine ao hI 0 ac rfl (by simpa [Value.cells] using hl) ?_
    refine Run.callPure qA pG hI (oT h) fun w' hI=>?_
    refine rpG ?_
    exact ae hI (by simp)
   ·refine rpG ?_
    exact ae hI (by simp)
  ·refine rpG ?_
   exact ae hI (by simp)
end
end Go.Proofs.YtbocelianhcfmaaGreatDoor
