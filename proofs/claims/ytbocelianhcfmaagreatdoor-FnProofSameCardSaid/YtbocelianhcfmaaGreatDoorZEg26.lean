/- The numbers of the library functions whose contracts the kit has proved, at this program. -/
import Derived.Shelf.LaysM
import Derived.Shelf.Strings.OnBuilder
import Derived.Shelf.Strconv.Itoa3
import Derived.Test.YtbocelianhcfmaaGreatDoorZEgF
import Derived.Test.YtbocelianhcfmaaGreatDoorZEg4
import Derived.Test.YtbocelianhcfmaaGreatDoorZEg0
import Derived.Test.YtbocelianhcfmaaGreatDoorZEg8
namespace Go.Proofs.YtbocelianhcfmaaGreatDoor
section
def Cr:Go.Shelf.Ren:=⟨fun|156=>107|165=>130|166=>131|169=>132|240=>161|241=>162|276=>184|277=>185|n=>n,fun|31=>96|9=>9|3=>3|4=>4|0=>0|20=>20|72=>156|76=>160|70=>154|37=>39|75=>159|127=>189|164=>208|5=>5|80=>162|n=>n,fun|n=>n⟩
theorem P3:Go.Proofs.Lays.n156 Tryz.prog Cr where
 mixed:=by kernel_rfl
 f156:=Tryz.func107.trans (congrArg some (by kernel_rfl))
 f165:=Tryz.func130.trans (congrArg some (by kernel_rfl))
 f166:=Tryz.func131.trans (congrArg some (by kernel_rfl))
 f169:=Tryz.func132.trans (congrArg some (by kernel_rfl))
 f240:=Tryz.func161.trans (congrArg some (by kernel_rfl))
 f241:=Tryz.func162.trans (congrArg some (by kernel_rfl))
 f276:=Tryz.func184.trans (congrArg some (by kernel_rfl))
 f277:=Tryz.func185.trans (congrArg some (by kernel_rfl))
 t0:=Tryz.underlying0
 a0:=Tryz.isAgg0
 z0:=Tryz.sizeOf0
 v0:=Tryz.zeroValue0
 t3:=Tryz.underlying3
 a3:=Tryz.isAgg3
 z3:=Tryz.sizeOf3
 v3:=Tryz.zeroValue3
 t4:=Tryz.underlying4
 a4:=Tryz.isAgg4
 z4:=Tryz.sizeOf4
 v4:=Tryz.zeroValue4
 t9:=Tryz.underlying9
 a9:=Tryz.isAgg9
 z9:=Tryz.sizeOf9
 v9:=Tryz.zeroValue9
 t20:=Tryz.underlying20
 a20:=Tryz.isAgg20
 z20:=Tryz.sizeOf20
 v20:=Tryz.zeroValue20
 t31:=Tryz.underlying96
 a31:=Tryz.isAgg96
 z31:=Tryz.sizeOf96
 v31:=Tryz.zeroValue96
 t37:=Tryz.underlying39
 a37:=Tryz.isAgg39
 z37:=Tryz.sizeOf39
 v37:=Tryz.zeroValue39
 t70:=Tryz.underlying154
 a70:=Tryz.isAgg154
 z70:=Tryz.sizeOf154
 v70:=Tryz.zeroValue154
 t72:=Tryz.underlying156
 a72:=Tryz.isAgg156
 z72:=Tryz.sizeOf156
 v72:=Tryz.zeroValue156
 t75:=Tryz.underlying159
 a75:=Tryz.isAgg159
 z75:=Tryz.sizeOf159
 v75:=Tryz.zeroValue159
 t76:=Tryz.underlying160
 a76:=Tryz.isAgg160
 z76:=Tryz.sizeOf160
 v76:=Tryz.zeroValue160
 t127:=Tryz.underlying189
 a127:=Tryz.isAgg189
 z127:=Tryz.sizeOf189
 v127:=Tryz.zeroValue189
 t164:=Tryz.underlying208
 a164:=Tryz.isAgg208
 z164:=Tryz.sizeOf208
 v164:=Tryz.zeroValue208
theorem P5:Go.Proofs.Builder.Extra Tryz.prog Cr where
 sizeBuilder:=by kernel_rfl
 liesBuilder:=by kernel_rfl
 t5:=Tryz.underlying5
 a5:=Tryz.isAgg5
 z5:=Tryz.sizeOf5
 v5:=Tryz.zeroValue5
 infoByte:=by kernel_rfl
 cellsByte:=by kernel_rfl
 sizeByte:=by kernel_rfl
 neB5:=by decide
def KY:Go.Shelf.Ren:=⟨fun|171=>43|243=>73|246=>108|283=>133|284=>134|285=>135|286=>136|129=>164|317=>163|318=>165|319=>166|320=>167|337=>186|338=>187|n=>n,fun|3=>3|9=>9|2=>2|4=>4|171=>163|0=>0|53=>164|37=>39|5=>5|173=>167|212=>190|51=>191|20=>20|213=>192|46=>194|232=>217|233=>218|n=>n,fun|17=>0|18=>2|19=>3|n=>n⟩
theorem PU:Go.Proofs.LaysM.n171 Tryz.prog KY where
 mixed:=by kernel_rfl
 f129:=Tryz.func164.trans (congrArg some (by kernel_rfl))
 f171:=Tryz.func43.trans (congrArg some (by kernel_rfl))
 f243:=Tryz.func73.trans (congrArg some (by kernel_rfl))
 f246:=Tryz.func108.trans (congrArg some (by kernel_rfl))
 f283:=Tryz.func133.trans (congrArg some (by kernel_rfl))
 f284:=Tryz.func134.trans (congrArg some (by kernel_rfl))
 f285:=Tryz.func135.trans (congrArg some (by kernel_rfl))
 f286:=Tryz.func136.trans (congrArg some (by kernel_rfl))
 f317:=Tryz.func163.trans (congrArg some (by kernel_rfl))
 f318:=Tryz.func165.trans (congrArg some (by kernel_rfl))
 f319:=Tryz.func166.trans (congrArg some (by kernel_rfl))
 f320:=Tryz.func167.trans (congrArg some (by kernel_rfl))
 f337:=Tryz.func186.trans (congrArg some (by kernel_rfl))
 f338:=Tryz.func187.trans (congrArg some (by kernel_rfl))
 t0:=Tryz.underlying0
 a0:=Tryz.isAgg0
 z0:=Tryz.sizeOf0
 v0:=Tryz.zeroValue0
 t2:=Tryz.underlying2
 a2:=Tryz.isAgg2
 z2:=Tryz.sizeOf2
 v2:=Tryz.zeroValue2
 t3:=Tryz.underlying3
 a3:=Tryz.isAgg3
 z3:=Tryz.sizeOf3
 v3:=Tryz.zeroValue3
 t4:=Tryz.underlying4
 a4:=Tryz.isAgg4
 z4:=Tryz.sizeOf4
 v4:=Tryz.zeroValue4
 t5:=Tryz.underlying5
 a5:=Tryz.isAgg5
 z5:=Tryz.sizeOf5
 v5:=Tryz.zeroValue5
 t9:=Tryz.underlying9
 a9:=Tryz.isAgg9
 z9:=Tryz.sizeOf9
 v9:=Tryz.zeroValue9
 t20:=Tryz.underlying20
 a20:=Tryz.isAgg20
 z20:=Tryz.sizeOf20
 v20:=Tryz.zeroValue20
 t37:=Tryz.underlying39
 a37:=Tryz.isAgg39
 z37:=Tryz.sizeOf39
 v37:=Tryz.zeroValue39
 t46:=Tryz.underlying194
 a46:=Tryz.isAgg194
 z46:=Tryz.sizeOf194
 v46:=Tryz.zeroValue194
 t51:=Tryz.underlying191
 a51:=Tryz.isAgg191
 z51:=Tryz.sizeOf191
 v51:=Tryz.zeroValue191
 t53:=Tryz.underlying164
 a53:=Tryz.isAgg164
 z53:=Tryz.sizeOf164
 v53:=Tryz.zeroValue164
 t171:=Tryz.underlying163
 a171:=Tryz.isAgg163
 z171:=Tryz.sizeOf163
 v171:=Tryz.zeroValue163
 t173:=Tryz.underlying167
 a173:=Tryz.isAgg167
 z173:=Tryz.sizeOf167
 v173:=Tryz.zeroValue167
 t212:=Tryz.underlying190
 a212:=Tryz.isAgg190
 z212:=Tryz.sizeOf190
 v212:=Tryz.zeroValue190
 t213:=Tryz.underlying192
 a213:=Tryz.isAgg192
 z213:=Tryz.sizeOf192
 t232:=Tryz.underlying217
 a232:=Tryz.isAgg217
 z232:=Tryz.sizeOf217
 v232:=Tryz.zeroValue217
 t233:=Tryz.underlying218
 a233:=Tryz.isAgg218
 z233:=Tryz.sizeOf218
 v233:=Tryz.zeroValue218
 g17:=by kernel_rfl
 g18:=by kernel_rfl
 g19:=by kernel_rfl
 i0:=by kernel_rfl
 i2:=by kernel_rfl
 i3:=by kernel_rfl
 i4:=by kernel_rfl
 i5:=by kernel_rfl
 i9:=by kernel_rfl
 i20:=by kernel_rfl
 i37:=by kernel_rfl
 i46:=by kernel_rfl
 i51:=by kernel_rfl
 i53:=by kernel_rfl
 i171:=by kernel_rfl
 i173:=by kernel_rfl
 i212:=by kernel_rfl
 i232:=by kernel_rfl
 i233:=by kernel_rfl
 m17:=by kernel_rfl
 m18:=by kernel_rfl
 m19:=by kernel_rfl
end
section
open Go Go.RowKit
def uJ (x:Bs):Bs:=[40]++x++[41]
def ek:List Bs->Bs
 | []=>[]
 | [x]=>x
 | x::y::l=>x++[44]++ek (y::l)
def lfx (t:T) (y:Bs) (m:Int):Bs:=if iS t=true then uJ y else if de t=true/\m<aO t.name then uJ y else y
def brx (t:T) (y:Bs) (m:Int):Bs:=if de t=true/\m<aO t.name then uJ y else y
def rtx (t:T) (y:Bs) (m:Int):Bs:=if iS t=true ∨ mu (brx t y m)=false then uJ (brx t y m) else brx t y m
def yB (t:T) (l:List (Bs × Bs)):Bs:=
 if dz t=true then (match l with
  | [p,q]=>[91]++p.1++q.2++[93]
  | _=>[])
 else if de t=true then (match t.kids,l with
  | [a,b],[p,q]=>lfx a p.1 (if aO t.name=3 then 2 else aO t.name)++dh (bs t.name)++rtx b q.1 (aO t.name - 1)
  | _,_=>[])
 else if t.kind=3/\0<t.kids.length then bs t.name++[40]++ek (l.map (·.1))++[41]
 else (pH t).getD []
def Er (t:T) (l:List (Bs × Bs)) (x:Bs):Bs:=
 if dz t=true then (match l with
  | [p,q]=>[44]++p.1++q.2
  | _=>[])
 else if ux t=true then [] else [124]++x
mutual
def bo:T->Bs × Bs
 | .mk k n s ks=>(yB (.mk k n s ks) (boL ks),Er (.mk k n s ks) (boL ks) (yB (.mk k n s ks) (boL ks)))
def boL:List T->List (Bs × Bs)
 | []=>[]
 | t::ts=>bo t::boL ts
end
def tx (t:T):Bs:=(bo t).1
def tl (t:T):Bs:=(bo t).2
theorem Cx:∀ ks:List T,boL ks=ks.map bo
 | []=>rfl
 | t::ts=>by rw [boL,Cx ts]; rfl
theorem Gb:∀ t:T,tx t=yB t (t.kids.map bo)
 | .mk k n s ks=>by rw [tx,bo,Cx]; rfl
theorem Li:∀ t:T,tl t=Er t (t.kids.map bo) (tx t)
 | .mk k n s ks=>by rw [Gb,tl,bo,Cx]; rfl
theorem jk {t:T} (h:dz t=true):t.kind=3/\t.name=st [46]/\∃ a b,t.kids=[a,b]:=by
 simp only [dz,Bool.and_eq_true,decide_eq_true_eq] at h
 refine ⟨h.1,h.2.1,?_⟩
 match hk:t.kids,h.2.2 with
 | [a,b],_=>exact ⟨a,b,rfl⟩
theorem ri {t:T} (h:de t=true):t.kind=3/\0<aO t.name/\∃ a b,t.kids=[a,b]:=by
 simp only [de,Bool.and_eq_true,decide_eq_true_eq] at h
 refine ⟨h.1,h.2.2,?_⟩
 match hk:t.kids,h.2.1 with
 | [a,b],_=>exact ⟨a,b,rfl⟩
theorem Dm {t a b:T} (hp:dz t=true) (hk:t.kids=[a,b]):tx t=[91]++tx a++tl b++[93]:=by
 rw [Gb]; unfold yB; rw [if_pos hp,hk]; rfl
theorem Dn {t a b:T} (hp:dz t=true) (hk:t.kids=[a,b]):tl t=[44]++tx a++tl b:=by
 rw [Li]; unfold Er; rw [if_pos hp,hk]; rfl
theorem Ig {t:T} (hp:dz t=false) (hn:ux t=true):tl t=[]:=by
 rw [Li]; unfold Er; rw [if_neg (by rw [hp]; decide),if_pos hn]
theorem C6 {t:T} (hp:dz t=false) (hn:ux t=false):tl t=[124]++tx t:=by
 rw [Li]; unfold Er; rw [if_neg (by rw [hp]; decide),if_neg (by rw [hn]; decide)]
theorem yq {t a b:T} (hp:dz t=false) (hi:de t=true) (hk:t.kids=[a,b]) :
  tx t=lfx a (tx a) (if aO t.name=3 then 2 else aO t.name)++dh (bs t.name)++rtx b (tx b) (aO t.name - 1):=by
 rw [Gb]; unfold yB; rw [if_neg (by rw [hp]; decide),if_pos hi,hk]; rfl
theorem DD {t:T} (hp:dz t=false) (hi:de t=false) (h:t.kind=3/\0<t.kids.length):tx t=bs t.name++[40]++ek (t.kids.map tx)++[41]:=by
 rw [Gb]; unfold yB; rw [if_neg (by rw [hp]; decide),if_neg (by rw [hi]; decide),if_pos h,List.map_map]; rfl
theorem tV {t:T} (hp:dz t=false) (hi:de t=false) (h:¬(t.kind=3/\0<t.kids.length)):tx t=(pH t).getD []:=by
 rw [Gb]; unfold yB; rw [if_neg (by rw [hp]; decide),if_neg (by rw [hi]; decide),if_neg h]
def okTx (t:T):Prop:=∃ d,ei t d=true
theorem zr {t:T} (h:cE t=true):okTx t:=by
 rw [cE,Bool.and_eq_true] at h
 exact ⟨30,h.1⟩
theorem yK:∀ {ts:List T} {d:Int},eV ts d=true->∀ t∈ts,ei t d=true
 | [],_,_,t,ht=>by simp at ht
 | x::xs,d,h,t,ht=>by
  rw [eV,Bool.and_eq_true] at h
  rcases List.mem_cons.1 ht with rfl|ht
  ·exact h.1
  ·exact yK h.2 t ht
theorem okTx.own {t:T} (h:okTx t):dC t=true:=by
 obtain ⟨d,h⟩:=h
 cases t
 rw [ei] at h
 split at h
 ·cases h
 ·rw [Bool.and_eq_true] at h; exact h.1
theorem okTx.kid {t:T} (h:okTx t):∀ a∈t.kids,okTx a:=by
 obtain ⟨d,h⟩:=h
 cases t
 rw [ei] at h
 split at h
 ·cases h
 ·rw [Bool.and_eq_true] at h
  exact fun a ha=>⟨_,yK h.2 a ha⟩
theorem gQ {t:T} (h:dC t=true):(t.kind=1/\(0<=t.n/\t.n<=25)/\t.kids=[]) ∨ (t.kind=2/\(-999<=t.n/\t.n<=999)/\t.kids=[]) ∨ (t.kind=3/\gt t.name=true/\t.kids.length<=4):=by
 unfold dC at h
 by_cases e1:t.kind=1
 ·rw [if_pos e1] at h
  simp only [Bool.and_eq_true,decide_eq_true_eq,List.length_eq_zero_iff] at h
  exact .inl ⟨e1,⟨h.1,h.2.1⟩,h.2.2.2⟩
 ·rw [if_neg e1] at h
  by_cases e2:t.kind=2
  ·rw [if_pos e2] at h
   simp only [Bool.and_eq_true,decide_eq_true_eq,List.length_eq_zero_iff] at h
   exact .inr (.inl ⟨e2,⟨h.1,h.2.1⟩,h.2.2.2⟩)
  ·rw [if_neg e2] at h
   by_cases e3:t.kind=3
   ·rw [if_pos e3] at h
    simp only [Bool.and_eq_true,decide_eq_true_eq] at h
    exact .inr (.inr ⟨e3,h.2.1,h.2.2⟩)
   ·rw [if_neg e3] at h; cases h
def noNl (x:Bs):Prop:=∀ b∈x,b.toNat≠10
theorem noNl.app {x y:Bs} (hx:noNl x) (hy:noNl y):noNl (x++y):=fun b hb=>(List.mem_append.1 hb).elim (hx b) (hy b)
theorem noNl.lit {x:Bs} (h:x.all (fun b=>decide (b.toNat≠10))=true):noNl x:=fun b hb=>of_decide_eq_true (List.all_eq_true.1 h b hb)
def Iv (n:Nat):Bool:=match r8 20 n [] with
 | some r=>decide (0<r.length) && (decide (r.length<=3) && r.all fun b=>decide (b.toNat≠10))
 | none=>false
theorem HU:∀ n:Nat,n<=999->Iv n=true:=by
 have h:∀ n:Fin 1000,Iv n.val=true:=by decide +kernel
 exact fun n hn=>h ⟨n,by omega⟩
theorem s4 {n:Int} (h:-999<=n/\n<=999):∃ r,AL n=some r/\0<r.length/\r.length<=4/\noNl r:=by
 have hd:∀ m:Nat,m<=999->∃ r,r8 20 m []=some r/\0<r.length/\r.length<=3/\noNl r:=fun m hm=>by
  have h1:=HU m hm
  unfold Iv at h1
  split at h1
  ·rename_i r hr
   simp only [Bool.and_eq_true,decide_eq_true_eq] at h1
   exact ⟨r,hr,h1.1,h1.2.1,noNl.lit h1.2.2⟩
  ·cases h1
 unfold AL
 split
 ·obtain ⟨r,h1,h2,h3,h4⟩:=hd (-n).toNat (by omega)
  refine ⟨45::r,by rw [h1]; rfl,by simp,by simp; omega,?_⟩
  exact noNl.app (x:=[45]) (noNl.lit (by decide)) h4
 ·obtain ⟨r,h1,h2,h3,h4⟩:=hd n.toNat (by omega)
  exact ⟨r,h1,h2,by omega,h4⟩
theorem xQ {s:ByteArray} (h:gt s=true):0<(bs s).length/\(bs s).length<=6/\noNl (bs s):=by
 rw [gt,Bool.or_eq_true] at h
 rcases h with h|h
 ·rw [iw,lL] at h
  simp only [Bool.and_eq_true,decide_eq_true_eq] at h
  have hs:(bs s).length=s.size:=Array.length_toList
  refine ⟨by omega,by omega,fun b hb=>?_⟩
  have:=List.all_eq_true.1 h.1 b hb
  simp only [mO,Bool.and_eq_true,decide_eq_true_eq] at this
  omega
 ·simp only [List.any_eq_true,decide_eq_true_eq] at h
  obtain ⟨x,hx,rfl⟩:=h
  have hall:signs.all (fun y=>decide (0<(bs y).length) && (decide ((bs y).length<=6) && (bs y).all fun b=>decide (b.toNat≠10)))=true:=by decide +kernel
  have:=List.all_eq_true.1 hall x hx
  simp only [Bool.and_eq_true,decide_eq_true_eq] at this
  exact ⟨this.1,this.2.1,noNl.lit this.2.2⟩
theorem BL {t:T} (ho:dC t=true) (h:¬(t.kind=3/\0<t.kids.length)):∃ x,pH t=some x/\0<x.length/\x.length<=6/\noNl x:=by
 unfold pH
 rcases gQ ho with ⟨h1,h2,_⟩|⟨h1,h2,_⟩|⟨h1,h2,h3⟩
 ·rw [if_pos h1,if_pos h2]
  refine ⟨_,rfl,by simp,by simp,fun b hb=>?_⟩
  simp only [List.mem_singleton] at hb
  subst hb
  have:(UInt8.ofNat (65+t.n.toNat)).toNat=(65+t.n.toNat) % 256:=UInt8.toNat_ofNat'
  omega
 ·rw [if_neg (by omega),if_pos h1,if_pos h2]
  obtain ⟨r,h4,h5,h6,h7⟩:=s4 h2
  exact ⟨r,h4,h5,by omega,h7⟩
 ·rw [if_neg (by omega),if_neg (by omega),if_pos (by omega)]
  obtain ⟨h4,h5,h6⟩:=xQ h2
  exact ⟨_,rfl,h4,h5,h6⟩
def Hv:List Bs->Nat
 | []=>0
 | x::l=>x.length+Hv l
theorem BX:∀ l:List Bs,(ek l).length<=Hv l+l.length
 | []=>by simp [ek]
 | [x]=>by simp [ek,Hv]
 | x::y::l=>by
  have:=BX (y::l)
  simp only [ek,Hv,List.length_append,List.length_cons,List.length_nil] at this ⊢
  omega
theorem GJ:∀ l:List Bs,(∀ x∈l,noNl x)->noNl (ek l)
 | [],_=>by intro b hb; simp [ek] at hb
 | [x],h=>h x (by simp)
 | x::y::l,h=>((h x (by simp)).app (noNl.lit (by decide))).app (GJ (y::l) fun z hz=>h z (List.mem_cons_of_mem _ hz))
theorem CR {x:Bs} (h:noNl x):noNl (uJ x):=((noNl.lit (by decide)).app h).app (noNl.lit (by decide))
theorem Im {t:T} {y:Bs} {m:Int} (h:0<y.length) (hn:noNl y):0<(brx t y m).length/\(brx t y m).length<=y.length+2/\noNl (brx t y m):=by
 unfold brx
 split
 ·exact ⟨by simp [uJ],by simp [uJ],CR hn⟩
 ·exact ⟨h,by omega,hn⟩
theorem Ph {t:T} {y:Bs} {m:Int} (h:0<y.length) (hn:noNl y):0<(lfx t y m).length/\(lfx t y m).length<=y.length+2/\noNl (lfx t y m):=by
 unfold lfx
 split
 ·exact ⟨by simp [uJ],by simp [uJ],CR hn⟩
 ·exact Im h hn
theorem PB {t:T} {y:Bs} {m:Int} (h:0<y.length) (hn:noNl y):0<(rtx t y m).length/\(rtx t y m).length<=y.length+4/\noNl (rtx t y m):=by
 obtain ⟨h1,h2,h3⟩:=Im (t:=t) (m:=m) h hn
 unfold rtx
 split
 ·exact ⟨by simp [uJ],by simp [uJ]; omega,CR h3⟩
 ·exact ⟨h1,by omega,h3⟩
theorem KJ {s:ByteArray} (h:gt s=true):(dh (bs s)).length<=8/\noNl (dh (bs s)):=by
 obtain ⟨h1,h2,h3⟩:=xQ h
 unfold dh
 split
 ·refine ⟨by simp only [List.length_append,List.length_cons,List.length_nil]; omega,?_⟩
  have:=((noNl.lit (x:=[32]) (by decide)).app h3).app (noNl.lit (x:=[32]) (by decide))
  simpa using this
 ·exact ⟨by omega,h3⟩
def cn (t:T):Nat:=(dl t).toNat
def cnL:List T->Nat
 | []=>0
 | t::ts=>cn t+cnL ts
theorem L0:∀ ts:List T,((cnL ts:Nat):Int)=cL ts
 | []=>rfl
 | t::ts=>by
  have:=L0 ts
  have:=fG t
  simp only [cnL,cL,cn]
  omega
theorem y9:∀ t:T,cn t=1+cnL t.kids
 | .mk k n s ks=>by
  have:=L0 ks
  have hp:=dS ks
  simp only [cn,dl,T.kids]
  omega
theorem Dt:∀ {ts:List T} {t:T},t∈ts->cn t<=cnL ts
 | x::xs,t,h=>by
  simp only [cnL]
  rcases List.mem_cons.1 h with rfl|h
  ·omega
  ·have:=Dt h; omega
theorem oH (t:T):1<=cn t:=by rw [y9]; omega
theorem Mn:∀ ts:List T,(∀ a∈ts,(tx a).length<=20 * cn a)->Hv (ts.map tx)<=20 * cnL ts
 | [],_=>by simp [Hv]
 | t::ts,h=>by
  have h1:=h t (by simp)
  have h2:=Mn ts fun a ha=>h a (List.mem_cons_of_mem _ ha)
  simp only [List.map_cons,Hv,cnL]
  omega
theorem Md:∀ t:T,okTx t->(0<(tx t).length/\(tx t).length<=20 * cn t/\noNl (tx t))/\((tl t).length<=20 * cn t+1/\noNl (tl t)):=by
 refine T.ind fun k n s ks ih h=>?_
 obtain ⟨t,ht⟩:∃ t,t=T.mk k n s ks:=⟨_,rfl⟩
 have hks:t.kids=ks:=by rw [ht]; rfl
 rw [<- ht] at h ⊢
 rw [<- hks] at ih
 clear ht hks
 have hc:=y9 t
 have ih:=fun a ha=>ih a ha (h.kid a ha)
 cases hp:dz t with
 | true=>
  obtain ⟨_,_,a,b,hk⟩:=jk hp
  rw [hk] at ih hc
  obtain ⟨⟨a1,a2,a3⟩,-⟩:=ih a (by simp)
  obtain ⟨-,b2,b3⟩:=ih b (by simp)
  simp only [cnL] at hc
  rw [Dm hp hk,Dn hp hk]
  refine ⟨⟨by simp,by simp; omega,?_⟩,by simp; omega,?_⟩
  ·exact ((noNl.lit (x:=[91]) (by decide)).app a3 |>.app b3).app (noNl.lit (by decide))
  ·exact ((noNl.lit (x:=[44]) (by decide)).app a3).app b3
 | false=>
  have hx:0<(tx t).length/\(tx t).length<=20 * cn t/\noNl (tx t):=by
   cases hi:de t with
   | true=>
    obtain ⟨h3,hl,a,b,hk⟩:=ri hi
    obtain ⟨hn1,hn2⟩:(dh (bs t.name)).length<=8/\noNl (dh (bs t.name)):=by
     rcases gQ h.own with h1|h1|h1
     ·omega
     ·omega
     ·exact KJ h1.2.1
    rw [hk] at ih hc
    obtain ⟨⟨a1,a2,a3⟩,-⟩:=ih a (by simp)
    obtain ⟨⟨b1,b2,b3⟩,-⟩:=ih b (by simp)
    simp only [cnL] at hc
    rw [yq hp hi hk]
    obtain ⟨l1,l2,l3⟩:=Ph (t:=a) (m:=if aO t.name=3 then 2 else aO t.name) a1 a3
    obtain ⟨r1,r2,r3⟩:=PB (t:=b) (m:=aO t.name - 1) b1 b3
    refine ⟨by simp only [List.length_append]; omega,by simp only [List.length_append]; omega,(l3.app hn2).app r3⟩
   | false=>
    by_cases hk:t.kind=3/\0<t.kids.length
    ·rw [DD hp hi hk]
     obtain ⟨hn,hl⟩:gt t.name=true/\t.kids.length<=4:=by
      rcases gQ h.own with h1|h1|h1
      ·omega
      ·omega
      ·exact h1.2
     obtain ⟨n1,n2,n3⟩:=xQ hn
     have hs:=Mn t.kids fun a ha=>(ih a ha).1.2.1
     have hj:=BX (t.kids.map tx)
     have hjn:=GJ (t.kids.map tx) fun x hx=>by
      obtain ⟨a,ha,rfl⟩:=List.mem_map.1 hx
      exact (ih a ha).1.2.2
     rw [List.length_map] at hj
     refine ⟨by simp only [List.length_append,List.length_cons,List.length_nil]; omega,by simp only [List.length_append,List.length_cons,List.length_nil]; omega,((n3.app (noNl.lit (by decide))).app hjn).app (noNl.lit (by decide))⟩
    ·obtain ⟨x,h1,h2,h3,h4⟩:=BL h.own hk
     rw [tV hp hi hk,h1]
     have:=oH t
     exact ⟨h2,by simp only [Option.getD_some]; omega,h4⟩
  refine ⟨hx,?_⟩
  cases hn:ux t with
  | true=>rw [Ig hp hn]; exact ⟨by simp,by intro b hb; simp at hb⟩
  | false=>rw [C6 hp hn]; exact ⟨by simp; omega,(noNl.lit (x:=[124]) (by decide)).app hx.2.2⟩
theorem yG:∀ (l:List Bs) (x:Bs),l≠[]->ek (l++[x])=ek l++[44]++x
 | [],_,h=>absurd rfl h
 | [y],x,_=>rfl
 | y::z::l,x,_=>by
  have:=yG (z::l) x (by simp)
  rw [List.cons_append] at this
  rw [List.cons_append,List.cons_append,ek,this,ek]
  simp
theorem zn:∀ (ts:List T) (f:Nat) (out:Bs),(∀ a∈ts,∀ g,8 * cn a<=g->nV g a=some (tx a))->8 * cnL ts+ts.length+1<=f->jN f ts out=some (out++ek (ts.map tx))
 | [],0,_,_,h=>by simp at h
 | [],f+1,out,_,_=>by rw [jN]; simp [ek]
 | t::ts,0,_,_,h=>by simp at h
 | t::ts,f+1,out,hx,h=>by
  simp only [cnL,List.length_cons] at h
  rw [jN,hx t (by simp) f (by omega)]
  simp only []
  rw [zn ts f _ (fun a ha=>hx a (List.mem_cons_of_mem _ ha)) (by omega)]
  cases ts with
  | nil=>simp [ek]
  | cons u us=>simp [ek]
theorem My (ts:Nat):∀ (t:T) (items:List T) (f:Nat),cn t<=ts->okTx t->items≠[]->(∀ u,okTx u->cn u<=ts->∀ g,8 * cn u<=g->nV g u=some (tx u))->(∀ a∈items,∀ g,8 * cn a<=g->nV g a=some (tx a))->
  8 * (cn t+cnL items)+items.length+3<=f->un f t items=some ([91]++ek (items.map tx)++tl t++[93]):=by
 refine T.ind fun k n s ks ih items f hle ho hne hx hI hf=>?_
 obtain ⟨t,ht⟩:∃ t,t=T.mk k n s ks:=⟨_,rfl⟩
 have hks:t.kids=ks:=by rw [ht]; rfl
 rw [<- ht] at ho hle hf ⊢
 rw [<- hks] at ih
 clear ht hks
 have hc:=y9 t
 cases f with
 | zero=>omega
 | succ g=>
 rw [un]
 cases hp:dz t with
 | true=>
  obtain ⟨_,_,a,b,hk⟩:=jk hp
  rw [if_pos rfl,hk]
  simp only []
  rw [hk] at hc ih
  simp only [cnL] at hc
  have ha:okTx a:=ho.kid a (by rw [hk]; simp)
  have hb:okTx b:=ho.kid b (by rw [hk]; simp)
  have e:∀ l:List T,cnL (l++[a])=cnL l+cn a:=fun l=>by
   induction l with
   | nil=>simp [cnL]
   | cons x l ih=>simp only [List.cons_append,cnL,ih]; omega
  rw [ih b (by simp) (items++[a]) g (by omega) hb (by simp) hx ?_ (by rw [e]; simp only [List.length_append,List.length_cons,List.length_nil]; omega)]
  ·rw [List.map_append,List.map_cons,List.map_nil,yG _ _ (by simpa using hne),Dn hp hk]
   simp
  ·intro u hu
   rcases List.mem_append.1 hu with hu|hu
   ·exact hI u hu
   ·simp only [List.mem_singleton] at hu
    subst hu
    exact hx _ ha (by omega)
 | false=>
  rw [if_neg (by decide),zn items g [] hI (by omega)]
  simp only [List.nil_append]
  cases hn:ux t with
  | true=>rw [if_pos rfl,Ig hp hn]; simp
  | false=>
   rw [if_neg (by decide),hx t ho hle g (by omega)]
   simp only []
   rw [C6 hp hn]
   simp
theorem Jc:∀ (N:Nat) (t:T),cn t<=N->okTx t->∀ f,8 * cn t<=f->nV f t=some (tx t)
 | 0,t,hN,_,_,_=>by have:=oH t; omega
 | N+1,t,hN,ho,f,hf=>by
  have ih:=Jc N
  have hc:=y9 t
  have hp1:=oH t
  have hkid:∀ a∈t.kids,∀ g,8 * cn a<=g->nV g a=some (tx a):=fun a ha=>ih a (by have:=Dt ha; omega) (ho.kid a ha)
  cases f with
  | zero=>omega
  | succ f=>
  rw [nV]
  cases hp:dz t with
  | true=>
   rw [if_pos rfl]
   obtain ⟨_,_,a,b,hk⟩:=jk hp
   cases f with
   | zero=>omega
   | succ g=>
   rw [un,if_pos hp,hk]
   simp only [List.nil_append]
   rw [hk] at hc hkid
   simp only [cnL] at hc
   rw [My N b [a] g (by omega) (ho.kid b (by rw [hk]; simp)) (by simp) (fun u hu hle=>ih u hle hu) (fun u hu=>by
    simp only [List.mem_singleton] at hu
    subst hu
    exact hkid _ (by simp)) (by simp only [cnL,List.length_cons,List.length_nil]; omega),Dm hp hk]
   rfl
  | false=>
   rw [if_neg (by decide)]
   cases hi:de t with
   | true=>
    rw [if_pos rfl]
    obtain ⟨_,_,a,b,hk⟩:=ri hi
    rw [hk] at hc hkid
    simp only [cnL] at hc
    rw [hk,yq hp hi hk]
    simp only []
    have ha:=hkid a (by simp)
    have hb:=hkid b (by simp)
    have bra:∀ (u:T) (l:Int) (g:Nat),(∀ g,8 * cn u<=g->nV g u=some (tx u))->8 * cn u+1<=g->jQ g u l=some (brx u (tx u) l):=fun u l g hu hg=>by
     cases g with
     | zero=>omega
     | succ g=>
     rw [jQ,hu g (by omega)]
     rfl
    have h1:BP f a (if aO t.name=3 then 2 else aO t.name)=some (lfx a (tx a) (if aO t.name=3 then 2 else aO t.name)):=by
     cases f with
     | zero=>omega
     | succ g=>
     rw [BP,lfx]
     split
     ·rw [ha g (by omega)]; rfl
     ·rw [bra a _ g ha (by omega)]; rfl
    have h2:vt f b (aO t.name - 1)=some (rtx b (tx b) (aO t.name - 1)):=by
     cases f with
     | zero=>omega
     | succ g=>
     have hne:brx b (tx b) (aO t.name - 1)≠[]:=by
      obtain ⟨⟨b1,_,b3⟩,_⟩:=Md b (ho.kid b (by rw [hk]; simp))
      have:=(Im (t:=b) (m:=aO t.name - 1) b1 b3).1
      intro e
      rw [e] at this
      simp at this
     rw [vt,bra b _ g hb (by omega)]
     simp only []
     rw [if_neg hne]
     rfl
    rw [h1,h2]
   | false=>
    rw [if_neg (by decide)]
    by_cases hk:t.kind=3/\0<t.kids.length
    ·have hl:t.kids.length<=4:=by
      rcases gQ ho.own with h1|h1|h1
      ·omega
      ·omega
      ·exact h1.2.2
     rw [if_pos hk,zn t.kids f [] hkid (by omega),DD hp hi hk]
     simp
    ·obtain ⟨x,h1,_⟩:=BL ho.own hk
     rw [if_neg hk,tV hp hi hk,h1]
     rfl
theorem yJ {t:T} (h:cE t=true):nV 960 t=some (tx t)/\(0<(tx t).length/\(tx t).length<=2400/\noNl (tx t)):=by
 have ho:=zr h
 rw [cE,Bool.and_eq_true,decide_eq_true_eq] at h
 have hc:cn t<=120:=by have:=fG t; unfold cn; omega
 obtain ⟨⟨h1,h2,h3⟩,_⟩:=Md t ho
 exact ⟨Jc 120 t hc ho 960 (by omega),h1,by omega,h3⟩
end
section
open Go Go.RowKit
def TabS (S:ae):Prop:=∃ g E fz,Tryz.prog.globalNamed "internal/strconv.uint64pow10" = some g/\S g=some (.cells (Lib.pow10Tab.map fun z=>Value.int .u64 z).toArray E fz)
theorem TabS.mono {S S':ae} (h:TabS S) (hs:Sle S S'):TabS S':=by
 obtain ⟨g,E,fz,hg,hS⟩:=h
 exact ⟨g,E,fz,hg,hs _ _ hS⟩
theorem TabS.is {w w0:World} {X:List Nat} {L:List Item} {S:ae} (h:TabS S) (hI:Inv w0 X L S w):Lib.TabIs Tryz.prog w "internal/strconv.uint64pow10" .u64 Lib.pow10Tab:=by
 obtain ⟨g,E,fz,hg,hS⟩:=h
 unfold Lib.TabIs World.var?
 rw [hg,Option.bind_some,(hI.pub g _ hS).1]
theorem yZ:∀ (f n:Nat) (out:Bs),n<10 ^ f->0<f->r8 f n out=some (Lib.decDigits n++out)
 | 0,_,_,_,h=>by omega
 | f+1,n,out,hn,_=>by
  rw [r8,Lib.decDigits]
  by_cases h:9<n
  ·rw [if_pos h,dif_neg (by omega)]
   have hf:0<f:=by
    cases f with
    | zero=>simp at hn; omega
    | succ f=>omega
   rw [yZ f (n / 10) _ (by rw [Nat.pow_succ] at hn; omega) hf]
   simp
  ·rw [if_neg h,dif_pos (by omega)]
   rfl
theorem KV {n:Int} (h:-999<=n/\n<=999):AL n=some (Lib.itoa n):=by
 have h20:(1000:Nat)<=10 ^ 20:=by decide
 unfold AL Lib.itoa
 split
 ·rw [yZ 20 _ [] (by omega) (by omega),List.append_nil,show (-n).toNat=n.natAbs by omega]
  rfl
 ·rw [yZ 20 _ [] (by omega) (by omega),List.append_nil]
theorem zZ:∀ l:List Bs,Lib.join l [44]=ek l
 | []=>rfl
 | [x]=>Lib.join_one _ _
 | x::y::l=>by
  have h:=zZ (y::l)
  rw [Lib.join_cons] at h ⊢
  rw [ek,<- h,Lib.joinTail,List.map_cons,List.flatten_cons,<- Lib.joinTail]
  simp
section
variable {S:ae}
attribute [local irreducible] Run CondV ar aI
theorem y6 {n:Int} {r:Bs} (hT:TabS S) (h:-999<=n/\n<=999) (hr:AL n=some r):Pure Tryz.prog vl [.int .i64 n] S (.string (st r)):=by
 intro w hI
 rw [KV h,Option.some.injEq] at hr
 refine Calls.mono (Any.strconv_Itoa PU n (by omega) (by omega) w (hT.is hI)) ?_
 rintro e w' ⟨rfl,k,os,rfl⟩
 exact ⟨by rw [hr],hI.grow ⟨by simp [Sort.grow,World.drewN],rfl,rfl,rfl,fun b hb=>by
  show (w.heap++os)[b]?=_
  rw [Array.getElem?_append_left hb]⟩⟩
theorem Hz {v:Value} {xs:List ByteArray} (h:RdSl S 1 iQ v xs) (hne:xs≠[]) (hx:xs.length<=1000000) (hl:(ek (xs.map bs)).length<=1000000) :
  Pure Tryz.prog vz [v,.string (st [44])] S (.string (st (ek (xs.map bs)))):=by
 intro w hI
 obtain ⟨a,cap,rfl,hle,hcm,hc⟩:=h
 rcases hc with hc|⟨b,o,c,E,fz,rfl,hS,hc⟩
 ·exact absurd hc hne
 rw [<- zZ] at hl ⊢
 have hcells:∀ (j:Nat) x,xs[j]?=some x->w.cell? ⟨b,o+j,none⟩=some (.string x):=fun j x hj=>by
  obtain ⟨h1,h2⟩:=List.getElem?_eq_some_iff.1 hj
  have:=hc j h1
  rw [h2] at this
  rw [hI.cellS hS]
  unfold iQ aL at this
  have h3:=congrArg (fun l=>l[0]?) this
  simpa using h3
 refine Calls.mono (Any.strings_Join P3 P5 b o cap xs (st [44]) w hcells (hI.publt hS) (by omega) hle (by exact Nat.le_trans hl (by omega))) ?_
 rintro e w' ⟨rfl,hB⟩
 exact ⟨rfl,hI.grow ⟨hB.size,hB.os,hB.tape,hB.output,hB.block⟩⟩
end
end
section
open Go Go.RowKit
def HY (c:Nat):Bool:=decide ((97<=c/\c<=122) ∨ (65<=c/\c<=90) ∨ (48<=c/\c<=57) ∨ c=91 ∨ c=40)
theorem MG {s:Bs} (h:0<s.length):mu s=HY s[0].toNat:=by
 cases s with
 | nil=>simp at h
 | cons c l=>
  unfold mu sml dig upp btw sgn HY
  simp only [List.getElem?_cons_zero,List.getElem_cons_zero]
  rw [Bool.eq_iff_iff]
  simp only [Bool.or_eq_true,Bool.and_eq_true,decide_eq_true_eq]
  omega
def opx (t:T) (y:Bs) (m:Int) (r:Bool):Bs:=if m<(if t.kids.length=2 then aO t.name else 0) ∨ iS t=true ∨ (r=true/\mu y=false) then uJ y else y
theorem Kv {t:T} (h:dC t=true):de t=true↔t.kids.length=2/\0<aO t.name:=by
 simp only [de,Bool.and_eq_true,decide_eq_true_eq]
 refine ⟨fun h1=>h1.2,fun h1=>⟨?_,h1⟩⟩
 rcases gQ h with h2|h2|h2
 ·rw [h2.2.2] at h1; simp at h1
 ·rw [h2.2.2] at h1; simp at h1
 ·exact h2.1
theorem xO {t:T} {m:Int} (h:dC t=true) (hm:0<=m):(m<if t.kids.length=2 then aO t.name else 0)↔(de t=true/\m<aO t.name):=by
 rw [Kv h]
 split
 ·rename_i h2
  exact ⟨fun h1=>⟨⟨h2,by omega⟩,h1⟩,fun h1=>h1.2⟩
 ·rename_i h2
  exact ⟨fun h1=>by omega,fun h1=>absurd h1.1.1 h2⟩
theorem Lp {t:T} {y:Bs} {m:Int} (h:dC t=true) (hm:0<=m):opx t y m false=lfx t y m:=by
 unfold opx lfx
 by_cases h1:iS t=true
 ·rw [if_pos (.inr (.inl h1)),if_pos h1]
 ·rw [if_neg h1]
  by_cases h2:de t=true/\m<aO t.name
  ·rw [if_pos h2,if_pos (.inl ((xO h hm).2 h2))]
  ·rw [if_neg h2,if_neg]
   rintro (h3|h3|h3)
   ·exact h2 ((xO h hm).1 h3)
   ·exact h1 h3
   ·cases h3.1
theorem KZ {t:T} {y:Bs} {m:Int} (h:dC t=true) (hm:0<=m):opx t y m true=rtx t y m:=by
 unfold opx rtx brx
 by_cases h2:de t=true/\m<aO t.name
 ·rw [if_pos h2,if_pos (.inl ((xO h hm).2 h2)),if_neg]
  rintro (h3|h3)
  ·simp only [iS,de,Bool.and_eq_true,decide_eq_true_eq] at h3 h2
   omega
  ·cases h3
 ·rw [if_neg h2]
  have h3:¬ (m<if t.kids.length=2 then aO t.name else 0):=fun h3=>h2 ((xO h hm).1 h3)
  by_cases h4:iS t=true ∨ mu y=false
  ·rw [if_pos h4,if_pos]
   exact .inr (h4.imp id fun h5=>⟨rfl,h5⟩)
  ·rw [if_neg h4,if_neg]
   rintro (h5|h5|h5)
   ·exact h3 h5
   ·exact h4 (.inl h5)
   ·exact h4 (.inr h5.2)
def opsB:List ByteArray:=pr++(Gh++wO)
theorem Kp {s:ByteArray} (h:0<aO s):s∈opsB:=by
 unfold aO at h
 have hm:∀ {l:List ByteArray},cV s l=true->s∈l:=fun {l} hl=>by
  simp only [cV,List.any_eq_true,decide_eq_true_eq] at hl
  obtain ⟨x,hx,rfl⟩:=hl
  exact hx
 unfold opsB
 split at h
 ·rename_i h1; exact List.mem_append_left _ (hm h1)
 ·split at h
  ·rename_i h1; exact List.mem_append_right _ (List.mem_append_left _ (hm h1))
  ·split at h
   ·rename_i h1; exact List.mem_append_right _ (List.mem_append_right _ (hm h1))
   ·omega
theorem Bw {s:ByteArray} (h:0<aO s):dh (bs s)=(if iw s=true then 32::(bs s++[32]) else bs s)/\s.size<=3/\(aO s=1 ∨ aO s=2 ∨ aO s=3):=by
 have hall:opsB.all (fun s=>decide (dh (bs s)=(if iw s=true then 32::(bs s++[32]) else bs s)) && (decide (s.size<=3) && decide (aO s=1 ∨ aO s=2 ∨ aO s=3)))=true:=by decide +kernel
 have:=List.all_eq_true.1 hall s (Kp h)
 simp only [Bool.and_eq_true,decide_eq_true_eq] at this
 exact this
section
variable {S:ae}
attribute [local irreducible] Run CondV ar aI
theorem A7 {c:Nat}:Pure Tryz.prog vI [.int .u8 (c:Int)] S (.bool (decide (48<=c/\c<=57))):=by
 intro w hI
 refine sx.2 ?_
 dsimp only[sx,aE]
 by_cases h1:48<=c
 ·refine iO (by omega) ?_
  refine rpG ?_
  refine fi ?_
  refine rpG ?_
  exact done hI (by congr 1; rw [decide_eq_decide]; omega)
 ·refine l5 (by omega) ?_
  refine rpG ?_
  exact done hI (by rw [decide_eq_false (by omega)])
theorem qO {c:Nat} {b:Bool} (h:decide (48<=c/\c<=57)=b):Pure Tryz.prog vI [.int .u8 (c:Int)] S (.bool b):=h ▸ A7
theorem rY {t:T} {cs:List Value} (h:RdT S cs t):Pure Tryz.prog IA [.agg cs.toArray] S (.bool (dz t)):=by
 intro w hI
 obtain ⟨kv,rfl,_,_,_,hk⟩:=RdT.iff.1 h
 obtain ⟨ka,kc,rfl,_⟩:=id hk
 refine wZ.2 ?_
 dsimp only[wZ,aE]
 refine be hI fun b1 w' hI=>?_
 refine ad hI 0 rfl aM aw rfl ?_
 by_cases h3:t.kind=3
 ·refine dx h3 ?_
  refine rpG ?_
  refine ad hI 0 rfl aH aC rfl ?_
  refine bf (b:=st [46]) ?_
  cases hn:decide (t.name=st [46])
  ·refine rpG ?_
   exact done hI (by rw [dz,hn,Bool.false_and,Bool.and_false])
  ·refine rpG ?_
   refine ad hI 0 rfl ak al rfl ?_
   refine dL ah ?_
   refine bh ?_
   refine rpG ?_
   refine done hI ?_
   rw [dz,hn,decide_eq_true h3,Bool.true_and,Bool.true_and]
   congr 1
   rw [decide_eq_decide]
   omega
 ·refine cQ h3 ?_
  refine rpG ?_
  exact done hI (by rw [dz,decide_eq_false h3,Bool.false_and])
theorem Gi {t:T} {cs:List Value} (h:RdT S cs t):Pure Tryz.prog KA [.agg cs.toArray] S (.bool (ux t)):=by
 intro w hI
 have h0:=h
 obtain ⟨kv,rfl,_,_,_,hk⟩:=RdT.iff.1 h
 obtain ⟨ka,kc,rfl,_⟩:=id hk
 refine yA.2 ?_
 dsimp only[yA,aE]
 refine be hI fun b1 w' hI=>?_
 refine ag hI 0 ac rfl rfl ?_
 refine Run.callPure m9 nz hI (mq h0) fun w' hI=>?_
 have e:ux t=(sL t && decide (t.name=st [91,93])):=by
  rw [ux,sL,Bool.and_assoc,Bool.and_comm (decide (t.kids.length=0))]
 rw [e]
 cases ha:sL t
 ·refine rpG ?_
  exact done hI rfl
 ·refine rpG ?_
  refine ad hI 0 rfl aH aC rfl ?_
  refine bf (b:=st [91,93]) ?_
  refine rpG ?_
  exact done hI rfl
theorem CH {n:Int} (h:0<=n/\n<=25):Pure Tryz.prog Hr [.int .i64 n] S (.string (st [UInt8.ofNat (65+n.toNat)])):=by
 intro w hI
 refine wB.2 ?_
 dsimp only[wB,aE]
 obtain ⟨m,rfl⟩:∃ m:Nat,n=(m:Int):=⟨n.toNat,by omega⟩
 rw [Int.toNat_natCast]
 refine dM (a:=65) (b:=m) rfl rfl (by omega) ?_
 refine l7 ma eq (IntWalk.u8_in _ (by omega)) ?_
 refine rt hI o8 Jo eq aF fun w' hI=>?_
 exact done hI rfl
theorem zA (s:ByteArray):Pure Tryz.prog sk [.string s] S (.int .i64 (if aO s=1 ∨ aO s=2 then aO s else aO s - 1)):=by
 intro w hI
 refine pA.2 ?_
 dsimp only[pA,aE]
 refine Run.callPure je iV hI (fH s S) fun w' hI=>?_
 refine ai rfl ?_
 refine ai rfl ?_
 refine av (fun hb=>?_) (fun hb=>?_)
 ·rw [Bool.or_eq_true,decide_eq_true_eq,decide_eq_true_eq] at hb
  exact done hI (by rw [if_pos hb]; rfl)
 ·rw [Bool.or_eq_false_iff,decide_eq_false_iff_not,decide_eq_false_iff_not] at hb
  have hl:0<=aO s/\aO s<=3:=by
   unfold aO
   split <;> try split <;> try split <;> omega
   all_goals omega
  refine gy (by omega) ?_
  exact done hI (by rw [if_neg (by omega)])
theorem Ds {s:ByteArray} (h:0<aO s):Pure Tryz.prog zg [.string s] S (.string (st (dh (bs s)))):=by
 intro w hI
 obtain ⟨e,hs,_⟩:=Bw h
 refine vW.2 ?_
 dsimp only[vW,aE]
 refine Run.callPure jx jK hI (iN s (by simp only [maxLen]; omega) S) fun w' hI=>?_
 have hl:(bs s).length=s.size:=Array.length_toList
 refine av (fun hb=>?_) (fun hb=>?_)
 ·rw [if_pos hb] at e
  refine bA (a:=[32]) (b:=bs s) (by simp only [List.length_cons,List.length_nil]; omega) ?_
  refine bA (b:=[32]) (by simp only [List.length_append,List.length_cons,List.length_nil]; omega) ?_
  exact done hI (by rw [e]; rfl)
 ·rw [if_neg (by rw [hb]; decide)] at e
  exact done hI (by rw [e])
def PZ:Value->Nat
 | .string s=>s.size
 | _=>0
def sT (N:Nat):Prop:=∀ (t:T) (S:ae) (cs:List Value),cn t<=N->okTx t->TabS S->RdT S cs t->Pure Tryz.prog vd [.agg cs.toArray] S (.string (st (tx t)))
theorem yi {t:T} (ho:okTx t) (h:cn t<=120):0<(tx t).length/\(tx t).length<=2400:=by
 have:=(Md t ho).1
 omega
set_option maxHeartbeats 1000000 in
theorem qm {t:T} {cs:List Value} {m:Int} {r:Bool} {N:Nat} (ih:sT N) (hN:N<=120) (hc:cn t<=N) (ho:okTx t) (hT:TabS S) (h:RdT S cs t) :
  Pure Tryz.prog vm [.agg cs.toArray,.int .i64 m,.bool r] S (.string (st (opx t (tx t) m r))):=by
 intro w hI
 have h0:=h
 have hlx:=yi ho (by omega)
 obtain ⟨kv,rfl,_,_,_,hk⟩:=RdT.iff.1 h
 obtain ⟨ka,kc,rfl,_⟩:=id hk
 obtain ⟨lv,hlv⟩:∃ lv:Int,lv=if t.kids.length=2 then aO t.name else 0:=⟨_,rfl⟩
 refine kF.2 ?_
 dsimp only[kF,cM]
 refine be hI fun b3 w' hI=>?_
 refine ag hI 0 ac rfl rfl ?_
 refine Run.callPure gT gK hI (ih t S _ hc ho hT h0) fun w' hI=>?_
 refine ⟨fun v w'=>v=.int .i64 lv/\Inv w [] [.blk b3 (.cells #[.int .i64 t.kind,.int .i64 t.n,.string t.name,.slice ka t.kids.length kc] ab)] S w',?_,?_⟩
 ·refine ad hI 0 rfl ak al rfl ?_
  refine dL ah ?_
  refine bh ?_
  refine aN (fun h2=>?_) (fun h2=>?_)
  ·refine ad hI 0 rfl aH aC rfl ?_
   refine Run.callPure je iV hI (fH _ S) fun w' hI=>?_
   refine ai rfl ?_
   refine ai rfl ?_
   exact ⟨by rw [hlv,if_pos (by omega)]; rfl,hI⟩
  ·exact ⟨by rw [hlv,if_neg (by omega)],hI⟩
 intro t8 _ _ _ _ _ _ _ _ _ _ w'
 rintro ⟨rfl,hI⟩
 refine dy (i:=0) aF hlx.1 ?_
 have hpc:=MG hlx.1
 obtain ⟨c,hcc⟩:∃ c,c=(tx t)[0].toNat:=⟨_,rfl⟩
 rw [<- hcc] at hpc ⊢
 obtain ⟨p,hp⟩:∃ p,p=HY c:=⟨_,rfl⟩
 rw [<- hp] at hpc
 refine ⟨fun v w'=>v=.bool p/\Inv w [] [.blk b3 (.cells #[.int .i64 t.kind,.int .i64 t.n,.string t.name,.slice ka t.kids.length kc] ab)] S w',?_,?_⟩
 ·have hT1:(97<=c/\c<=122) ∨ (65<=c/\c<=90) ∨ (48<=c/\c<=57) ∨ c=91 ∨ c=40 ∨ (c<48/\c≠40) ∨ (57<c/\c<65) ∨ (90<c/\c<97/\c≠91) ∨ 122<c:=by omega
  rcases hT1 with hc1|hc1|hc1|hc1|hc1|hc1|hc1|hc1|hc1
  iterate 5
   obtain rfl:p=true:=hp.trans (decide_eq_true (by omega))
   clear hp
   repeat first
    | exact ⟨rfl,hI⟩
    | refine au ?_
    | refine bn (by decide) ?_
    | refine fX ?_
    | refine ik ?_
    | refine fM ?_
    | refine iO (by omega) ?_
    | refine l5 (by omega) ?_
    | refine uG (by omega) ?_
    | refine DJ (by omega) ?_
    | refine dx (by omega) ?_
    | refine cQ (by omega) ?_
    | refine Run.callPure mj mA hI (qO (b:=true) (decide_eq_true (by omega))) fun w' hI=>?_
    | refine Run.callPure mj mA hI (qO (b:=false) (decide_eq_false (by omega))) fun w' hI=>?_
  iterate 4
   obtain rfl:p=false:=hp.trans (decide_eq_false (by omega))
   clear hp
   repeat first
    | exact ⟨rfl,hI⟩
    | refine au ?_
    | refine bn (by decide) ?_
    | refine fX ?_
    | refine ik ?_
    | refine fM ?_
    | refine iO (by omega) ?_
    | refine l5 (by omega) ?_
    | refine uG (by omega) ?_
    | refine DJ (by omega) ?_
    | refine dx (by omega) ?_
    | refine cQ (by omega) ?_
    | refine Run.callPure mj mA hI (qO (b:=false) (decide_eq_false (by omega))) fun w' hI=>?_
 intro t10 _ _ _ _ _ _ _ _ _ _ _ _ _ _ _ _ _ _ _ _ _ _ _ _ _ _ w'
 rintro ⟨rfl,hI⟩
 have hsl:iS t=(sL t && decide (0<aO t.name)):=by rw [iS,sL,Bool.and_assoc]
 obtain ⟨at_,ha⟩:∃ a,sL t=a:=⟨_,rfl⟩
 obtain ⟨op_,ho_⟩:∃ a,decide (0<aO t.name)=a:=⟨_,rfl⟩
 have hlv3:-10<=lv/\lv<=10:=by
  rw [hlv]
  split
  ·unfold aO
   split <;> try split <;> try split <;> omega
   all_goals omega
  ·omega
 rw [ha,ho_] at hsl
 have hop:opx t (tx t) m r=if (decide (m<lv) || ((at_ && op_) || (r && !p)))=true then uJ (tx t) else tx t:=by
  unfold opx
  rw [<- hlv,hsl,hpc]
  congr 1
  simp only [Bool.or_eq_true,decide_eq_true_eq,Bool.and_eq_true,Bool.not_eq_true']
 rw [hop]
 clear hop hlv
 refine ⟨fun v w'=>v=.bool (decide (m<lv) || ((at_ && op_) || (r && !p)))/\Inv w [] [.blk b3 (.cells #[.int .i64 t.kind,.int .i64 t.n,.string t.name,.slice ka t.kids.length kc] ab)] S w',?_,?_⟩
 ·by_cases hlm:m<lv
  ·rw [decide_eq_true hlm]
   refine DG (by omega) ?_
   repeat first
    | exact ⟨rfl,hI⟩
    | refine au ?_
    | refine bn (by decide) ?_
    | refine fX ?_
    | refine ik ?_
    | refine fM ?_
  ·rw [decide_eq_false hlm]
   refine gP (by omega) ?_
   refine rpG ?_
   refine ag hI 0 ac rfl rfl ?_
   refine Run.callPure m9 nz hI (mq h0) fun w' hI=>?_
   rw [ha]
   cases at_ <;> cases r <;> cases p
   iterate 4
    repeat first
     | exact ⟨rfl,hI⟩
     | refine au ?_
     | refine bn (by decide) ?_
     | refine fX ?_
     | refine ik ?_
     | refine fM ?_
     | refine bW ?_
   all_goals refine rpG ?_
   all_goals refine ad hI 0 rfl aH aC rfl ?_
   all_goals refine Run.callPure u7 u3 hI (rj _ S) fun w' hI=>?_
   all_goals rw [ho_]
   all_goals cases op_
   all_goals
    repeat first
     | exact ⟨rfl,hI⟩
     | refine au ?_
     | refine bn (by decide) ?_
     | refine fX ?_
     | refine ik ?_
     | refine fM ?_
     | refine bW ?_
 intro t69 _ _ _ _ _ _ _ _ _ _ _ _ _ _ _ _ _ _ w'
 rintro ⟨rfl,hI⟩
 refine av (fun hb=>?_) (fun hb=>?_)
 ·rw [if_pos hb]
  refine bA (a:=[40]) (by simp only [List.length_cons,List.length_nil]; omega) ?_
  refine bA (b:=[41]) (by simp only [List.length_append,List.length_cons,List.length_nil]; omega) ?_
  exact done hI rfl
 ·rw [hb,if_neg (by decide)]
  exact done hI rfl
end
end
end Go.Proofs.YtbocelianhcfmaaGreatDoor
