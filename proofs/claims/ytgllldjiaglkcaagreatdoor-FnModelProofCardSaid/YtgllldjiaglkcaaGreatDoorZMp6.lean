/- More rules: arithmetic, conversions, texts joined and cut. -/
import Derived.Test.YtgllldjiaglkcaaGreatDoorZMp4
import Derived.Test.YtgllldjiaglkcaaGreatDoorZMp5
import Derived.Test.YtgllldjiaglkcaaGreatDoorZMpF
namespace Go.Proofs.YtgllldjiaglkcaaGreatDoor
section
open Go Go.RowKit
section
variable {P:Program} {w w0:World} {X:List Nat} {L:List Item} {S:ae} {K:Value->World->Prop}
theorem F8 {T:TypeId} {cx cy:Bool} {k:IntKind} {a b:Int} (h:a<b) (hk:K (.bool true) w):Run P (cK .lss T cx cy (.int k a) (.int k b)) w K:=by
 refine bH ?_
 rw [aI h]
 exact hk
theorem fN {T:TypeId} {cx cy:Bool} {k:IntKind} {a b:Int} (h:¬ (a<b)) (hk:K (.bool false) w):Run P (cK .lss T cx cy (.int k a) (.int k b)) w K:=by
 refine bH ?_
 rw [aP h]
 exact hk
theorem MO {T:TypeId} {cx cy:Bool} {k:IntKind} {a b:Int} (h:a<=b) (hk:K (.bool true) w):Run P (cK .leq T cx cy (.int k a) (.int k b)) w K:=by
 refine gy ?_
 rw [aI h]
 exact hk
theorem WZ {T:TypeId} {cx cy:Bool} {k:IntKind} {a b:Int} (h:¬ (a<=b)) (hk:K (.bool false) w):Run P (cK .leq T cx cy (.int k a) (.int k b)) w K:=by
 refine gy ?_
 rw [aP h]
 exact hk
theorem Rg {T:TypeId} {cx cy:Bool} {k:IntKind} {a b:Int} (h:b<a) (hk:K (.bool true) w):Run P (cK .gtr T cx cy (.int k a) (.int k b)) w K:=by
 refine dA ?_
 rw [aI h]
 exact hk
theorem o3 {T:TypeId} {cx cy:Bool} {k:IntKind} {a b:Int} (h:¬ (b<a)) (hk:K (.bool false) w):Run P (cK .gtr T cx cy (.int k a) (.int k b)) w K:=by
 refine dA ?_
 rw [aP h]
 exact hk
theorem qJ {T:TypeId} {cx cy:Bool} {k:IntKind} {a b:Int} (h:b<=a) (hk:K (.bool true) w):Run P (cK .geq T cx cy (.int k a) (.int k b)) w K:=by
 refine jS ?_
 rw [aI h]
 exact hk
theorem Ct {T:TypeId} {cx cy:Bool} {k:IntKind} {a b:Int} (h:¬ (b<=a)) (hk:K (.bool false) w):Run P (cK .geq T cx cy (.int k a) (.int k b)) w K:=by
 refine jS ?_
 rw [aP h]
 exact hk
theorem gF {T:TypeId} {cx cy:Bool} {k:IntKind} {a b:Int} (h:a=b) (hk:K (.bool true) w):Run P (cK .eql T cx cy (.int k a) (.int k b)) w K:=by
 refine bl ?_
 rw [aI h]
 exact hk
theorem fm {T:TypeId} {cx cy:Bool} {k:IntKind} {a b:Int} (h:¬ (a=b)) (hk:K (.bool false) w):Run P (cK .eql T cx cy (.int k a) (.int k b)) w K:=by
 refine bl ?_
 rw [aP h]
 exact hk
theorem Z9 {T:TypeId} {cx cy:Bool} {a b:Nat} (hb:0<b) (ha:a<=9223372036854775807) (hk:K (.int .i64 ((a / b:Nat):Int)) w):Run P (cK .quo T cx cy (.int .i64 (a:Int)) (.int .i64 (b:Int))) w K:=by
 refine Run.of ?_ hk
 have h0:¬ ((b:Int)=0):=by omega
 have h1:IntKind.i64.wrap ((a:Int).tdiv b)=((a / b:Nat):Int):=by
  rw [IntWalk.i64_quo _ _ (by omega)]; rfl
 simp only [cK,db,binOp,Op.intDiv,Sem.run_bind,Result.andThen_ok,ah h0,Sem.run_pure]
 exact congrArg (fun v=>Result.ok (Next.value (.int .i64 v)) w) h1
theorem RH {T:TypeId} {cx cy:Bool} {a b:Nat} (hb:0<b) (hk:K (.int .i64 ((a % b:Nat):Int)) w):Run P (cK .rem T cx cy (.int .i64 (a:Int)) (.int .i64 (b:Int))) w K:=by
 refine Run.of ?_ hk
 have h1:(a:Int).tmod b=((a % b:Nat):Int):=by
  rw [IntWalk.rem_in _ _ (by omega)]; rfl
 have h0:¬ ((b:Int)=0):=by omega
 simp only [cK,db,binOp,Op.intDiv,Sem.run_bind,Result.andThen_ok,ah h0,Sem.run_pure]
 exact congrArg (fun v=>Result.ok (Next.value (.int .i64 v)) w) h1
theorem aar {T:TypeId} {cx cy:Bool} {a b:Nat} (ha:a<4611686018427387904) (hb:b<4611686018427387904) (hk:K (.int .i64 ((a ^^^ b:Nat):Int)) w):Run P (cK .xor T cx cy (.int .i64 (a:Int)) (.int .i64 (b:Int))) w K:=by
 refine Run.of ?_ hk
 have hx:a ^^^ b<2 ^ 62:=Nat.xor_lt_two_pow (by simpa using ha) (by simpa using hb)
 have e1:(BitVec.ofInt 64 (a:Int)).toNat=a:=by rw [BitVec.toNat_ofInt]; omega
 have e2:(BitVec.ofInt 64 (b:Int)).toNat=b:=by rw [BitVec.toNat_ofInt]; omega
 have h1:IntKind.i64.wrap ((BitVec.ofInt 64 (a:Int) ^^^ BitVec.ofInt 64 (b:Int)).toNat:Int)=((a ^^^ b:Nat):Int):=by
  rw [BitVec.toNat_xor,e1,e2]
  exact IntWalk.i64_in _ (by omega)
 simp only [cK,db,binOp,Op.intBits,Sem.run_bind,Result.andThen_ok,Sem.run_pure]
 exact congrArg (fun v=>Result.ok (Next.value (.int .i64 v)) w) h1
theorem aaj {T:TypeId} {cx cy:Bool} {k:IntKind} {a b c:Int} (hr:k.wrap (a+b)=c) (hk:K (.int k c) w):Run P (cK .add T cx cy (.int k a) (.int k b)) w K:=
 Run.of (by simp [cK,db,binOp,Op.intArith,hr]) hk
theorem XG {T:TypeId} {cx cy:Bool} {k:IntKind} {a b c:Int} (hr:k.wrap (a - b)=c) (hk:K (.int k c) w):Run P (cK .sub T cx cy (.int k a) (.int k b)) w K:=
 Run.of (by simp [cK,db,binOp,Op.intArith,hr]) hk
theorem sJ {src dst ty:TypeId} {k k':IntKind} {n m:Int} {d:TypeDesc} (hs:P.underlying src=some d) (hd:P.underlying dst=some (.int k')) (hr:k'.wrap n=m) (hk:K (.int k' m) w) :
  Run P (sOp (.convert src dst (.const (.int k n))) ty) w K:=by
 refine Run.of ?_ hk
 simp [sOp,execOp,ev0,evE,convert,run_underlying hs,run_underlying hd,Conv.intToInt,hr]
theorem Zu {T ty:TypeId} {n:Int} (hr:-9223372036854775808<=-n/\-n<=9223372036854775807) (hk:K (.int .i64 (-n)) w):Run P (sOp (.unOp .neg T (.const (.int .i64 n))) ty) w K:=
 Run.of (by simp [sOp,execOp,ev0,evE,Op.unary,Op.intArith,Int.zero_sub,IntWalk.i64_in _ hr]) hk
theorem Z8 (a b:Bs):st a++st b=st (a++b):=by
 apply ByteArray.ext
 simp [st]
theorem eh {T:TypeId} {cx cy:Bool} {a b:Bs} (hl:a.length+b.length<=9223372036854775807) (hk:K (.string (st (a++b))) w):Run P (cK .add T cx cy (.string (st a)) (.string (st b))) w K:=by
 refine Run.of ?_ hk
 have h1:¬ (9223372036854775807<(((st a).size+(st b).size:Nat):Int)):=by rw [qs,qs]; omega
 have h2:IntKind.i64.max=9223372036854775807:=by decide
 simp only [cK,binOp,Op.stringOp,Sem.run_bind,kI,Result.andThen_ok,gt_iff_lt,h2,ah h1,Sem.run_pure,Z8]
theorem aan (s:Bs) (a b:Nat):(st s).extract a b=st (cut s a b):=by
 apply ByteArray.ext
 apply F4.1
 simp [cut,ByteArray.data_extract,List.drop_take]
theorem FU {T ty:TypeId} {s:Bs} {a b:Nat} (hu:P.underlying T=some .string) (hab:a<=b) (hb:b<=s.length) (hk:K (.string (st (cut s a b))) w) :
  Run P (sOp (.slice T (.const (.string (st s))) (some (.const (.int .i64 a))) (some (.const (.int .i64 b))) none) ty) w K:=by
 refine Run.of ?_ hk
 have hb':b<=(st s).size:=by rw [qs]; exact hb
 simp [sOp,execOp,ev0,evE,Instr.sliceAt,Instr.slice,Instr.sliceBounds,run_underlying hu,u6 hab,u6 hb',aan]
theorem fa {T ty:TypeId} {s:Bs} {i:Nat} (hu:P.underlying T=some .string) (hi:i<s.length) (hk:K (.int .u8 s[i].toNat) w) :
  Run P (sOp (.index T (.const (.string (st s))) (.const (.int .i64 i))) ty) w K:=by
 have hi':i<(st s).size:=by rw [qs]; exact hi
 refine mh hu hi' ?_
 have:(st s)[i]=s[i]:=by simp [st,ByteArray.getElem_eq_getElem_data]
 rw [this]
 exact hk
theorem gu {T ty:TypeId} {cs:List Bool} {s:Bs} (hu:P.underlying T=some .string) (hk:K (.int .i64 s.length) w):Run P (bM .len #[T] ty cs [.string (st s)]) w K:=by
 refine mj hu ?_
 rw [qs]
 exact hk
theorem Fo {T:TypeId} {cx cy:Bool} {a b:Bs} (hk:K (.bool (decide (a=b))) w):Run P (cK .eql T cx cy (.string (st a)) (.string (st b))) w K:=by
 refine bS ?_
 have:decide (st a=st b)=decide (a=b):=by
  rw [fg]
  exact ⟨fun h=>by rw [<- La a,h,La],fun h=>by rw [h]⟩
 rw [this]
 exact hk
theorem Tl {T:TypeId} {cx cy:Bool} {a b:Bs} (hk:K (.bool (!decide (a=b))) w):Run P (cK .neq T cx cy (.string (st a)) (.string (st b))) w K:=by
 refine xW ?_
 have:decide (st a=st b)=decide (a=b):=by
  rw [fg]
  exact ⟨fun h=>by rw [<- La a,h,La],fun h=>by rw [h]⟩
 rw [this]
 exact hk
theorem Hu (h:Inv w0 X L S w) {T T' D ty e:TypeId} {by_:Nat} {z:Value} {n:Nat} (hT:mU P T=some (e,1,by_,z)) (he:P.underlying T'=some (.slice e)) (hb:P.underlying e=some (.int .u8)) (hD:P.underlying D=some .string)
  {K:Value->Value->World->Prop} (hk:∀ w',Inv w0 X L S w'->K (.slice (some ⟨w.heap.size,0,none⟩) 1 1) (.string (st [UInt8.ofNat n])) w') :
  Run P (bC T 1 [(0,.int .u8 (n:Int))]) w fun u w'=>Run P (sOp (.convert T' D (.const u)) ty) w' (K u):=by
 refine uU h hT rfl (by omega) (by omega) fun w' hI=>?_
 have hi:(L++[Item.blk w.heap.size (.cells (Value.int .u8 (n:Int)).cells e)])[L.length]?=some (.blk w.heap.size (.cells (Value.int .u8 (n:Int)).cells e)):=by
  rw [iu (aW _),eB]; rfl
 have hc:w'.cell? ⟨w.heap.size,0,none⟩=some (.int .u8 (n:Int)):=by rw [hI.cellL hi]; rfl
 have hl:=run_loadCells_list (P:=P) (w:=w') ⟨w.heap.size,0,none⟩ [.int .u8 (n:Int)] (fun j v hj=>by
  match j with
  | 0=>simp only [F2,bg] at hj; subst hj; rw [gn]; exact hc
  | j+1=>simp at hj)
 simp only [bw,bU] at hl
 refine Run.of (w':=w') ?_ (hk _ (hI.sub (dB _ _)))
 simp [sOp,execOp,ev0,evE,convert,run_underlying he,run_underlying hb,run_underlying hD,Conv.bytesToString,hl,st]
 rfl
end
end
section
open Go Go.RowKit
theorem mZ {s:Bs} {i:Nat} (h:i<s.length) (c:Nat):sgn s i c=decide (s[i].toNat=c):=by simp [sgn,List.getElem?_eq_getElem h]
theorem Xb {s:Bs} {i:Nat} (h:¬ i<s.length) (c:Nat):sgn s i c=false:=by simp [sgn,List.getElem?_eq_none (Nat.le_of_not_lt h)]
theorem rb {s:Bs} {i:Nat} (h:i<s.length) (a b:Nat):btw s i a b=(decide (a<=s[i].toNat) && decide (s[i].toNat<=b)):=by simp [btw,List.getElem?_eq_getElem h]
theorem QY {s:Bs} {i:Nat} (h:¬ i<s.length) (a b:Nat):btw s i a b=false:=by simp [btw,List.getElem?_eq_none (Nat.le_of_not_lt h)]
theorem Hw {s:Bs} {i a b:Nat} (h:btw s i a b=true):i<s.length:=by
 rcases MC i s.length with h1|h1
 ·exact h1
 ·rw [QY (by omega)] at h; cases h
theorem jF {s:Bs} {i c:Nat} (h:sgn s i c=true):i<s.length:=by
 rcases MC i s.length with h1|h1
 ·exact h1
 ·rw [Xb (by omega)] at h; cases h
section
attribute [local irreducible] Run CondV az aO
theorem cX (s:Bs) (i c:Nat) (S:ae):Pure Tryz.prog QR [.string (st s),.int .i64 (i:Int),.int .u8 (c:Int)] S (.bool (sgn s i c)):=by
 intro w hI
 refine C3.2 ?_
 dsimp only[C3,dN]
 refine qJ (by omega) ?_
 refine rpG ?_
 refine gu ba ?_
 by_cases h:i<s.length
 ·refine F8 (by omega) ?_
  refine rpG ?_
  refine fa ba h ?_
  refine bl ?_
  refine rpG ?_
  refine done hI ?_
  rw [mZ h]
  congr 1
  rw [fg]
  omega
 ·refine fN (by omega) ?_
  refine rpG ?_
  exact done hI (by rw [Xb h])
theorem iZ (s:Bs) (i:Nat) (S:ae):Pure Tryz.prog Od [.string (st s),.int .i64 (i:Int)] S (.bool (dig s i)):=by
 intro w hI
 refine za.2 ?_
 dsimp only[za,aY]
 refine qJ (by omega) ?_
 refine rpG ?_
 refine gu ba ?_
 by_cases h:i<s.length
 ·refine F8 (by omega) ?_
  refine rpG ?_
  refine fa ba h ?_
  rw [dig,rb h]
  by_cases h2:48<=s[i].toNat
  ·refine qJ (by omega) ?_
   refine rpG ?_
   refine fa ba h ?_
   refine gy ?_
   refine rpG ?_
   refine done hI ?_
   rw [aI h2,dg]
   congr 1
   rw [fg]
   omega
  ·refine Ct (by omega) ?_
   refine rpG ?_
   exact done hI (by rw [aP h2,iG])
 ·refine fN (by omega) ?_
  refine rpG ?_
  exact done hI (by rw [dig,QY h])
theorem rM (s:Bs) (i:Nat) (S:ae):Pure Tryz.prog Qr [.string (st s),.int .i64 (i:Int)] S (.bool (sml s i)):=by
 intro w hI
 refine yS.2 ?_
 dsimp only[yS,aY]
 refine qJ (by omega) ?_
 refine rpG ?_
 refine gu ba ?_
 by_cases h:i<s.length
 ·refine F8 (by omega) ?_
  refine rpG ?_
  refine fa ba h ?_
  rw [sml,rb h]
  by_cases h2:97<=s[i].toNat
  ·refine qJ (by omega) ?_
   refine rpG ?_
   refine fa ba h ?_
   refine gy ?_
   refine rpG ?_
   refine done hI ?_
   rw [aI h2,dg]
   congr 1
   rw [fg]
   omega
  ·refine Ct (by omega) ?_
   refine rpG ?_
   exact done hI (by rw [aP h2,iG])
 ·refine fN (by omega) ?_
  refine rpG ?_
  exact done hI (by rw [sml,QY h])
end
theorem TD {s:Bs} {i:Nat} (h:i<s.length):dig s i=true↔48<=s[i].toNat/\s[i].toNat<=57:=by
 rw [dig,rb h,bu,bk,bk]
theorem UT {d:Bs} {j:Nat} (h:j<d.length) (m:Nat):IH (d.drop j) m=IH (d.drop (j+1)) (m * 10+(d[j].toNat - 48)):=by
 rw [cU h,IH]
section
attribute [local irreducible] Run CondV az aO
theorem Nx (d:Bs) (hd:∀ i,i<d.length->dig d i=true) (h0:0<d.length) (h4:d.length<=4) (hz:¬ (sgn d 0 48=true/\1<d.length)) (S:ae) :
  Pure Tryz.prog Rx [.string (st d)] S (.tuple #[.int .i64 ((IH d 0:Nat):Int),.bool true]):=by
 intro w hI
 refine CF.2 ?_
 dsimp only[CF,aM]
 have hd0:=(TD h0).1 (hd 0 h0)
 refine ⟨fun t w'=>t=.bool false/\Inv w [] [] S w',?_,?_⟩
 ·refine gu ba ?_
  refine Rg (by omega) ?_
  refine rpG ?_
  refine fa (i:=0) ba h0 ?_
  refine fm (by omega) ?_
  refine rpG ?_
  exact ⟨rfl,hI⟩
 intro t4 _ _ _ _ _ _ _ _ w'
 rintro ⟨rfl,hI⟩
 refine ⟨fun t w'=>t=.string (st d)/\Inv w [] [] S w',?_,?_⟩
 ·exact aw (fun hb=>by cases hb) (fun _=>⟨rfl,hI⟩)
 intro t0 _ _ _ w'
 rintro ⟨rfl,hI⟩
 refine ⟨fun t w'=>t=.bool false/\Inv w [] [] S w',?_,?_⟩
 ·refine gu ba ?_
  refine fm (by omega) ?_
  refine rpG ?_
  refine gu ba ?_
  refine o3 (by omega) ?_
  refine rpG ?_
  refine fa (i:=0) ba h0 ?_
  by_cases hs:d[0].toNat=48
  ·refine gF (by omega) ?_
   refine rpG ?_
   refine gu ba ?_
   refine o3 (by
    have:¬ 1<d.length:=fun h=>hz ⟨by rw [mZ h0,hs]; rfl,h⟩
    omega) ?_
   refine rpG ?_
   exact ⟨rfl,hI⟩
  ·refine fm (by omega) ?_
   refine rpG ?_
   exact ⟨rfl,hI⟩
 intro t38 _ _ _ _ _ _ _ _ _ _ _ _ _ _ _ _ _ _ _ _ w'
 rintro ⟨rfl,hI⟩
 refine aw (fun hb=>by cases hb) (fun _=>?_)
 refine ⟨fun i n w'=>∃ j m:Nat,j<=d.length/\i=.int .i64 j/\n=.int .i64 m/\m<10 ^ j/\IH (d.drop j) m=IH d 0/\Inv w [] [] S w',fun i _ _=>d.length - (intOf i).toNat,
  ⟨0,0,be _,rfl,rfl,by simp,rfl,hI⟩,?_⟩
 intro t6 _ _ t5 _ _ _ _ _ _ _ _ _ _ _ _ _ _ _ _ _ _ _ _ _ _ _ _ w'
 rintro ⟨j,m,hj,rfl,rfl,hm,hval,hI⟩
 have hp:10 ^ j<=10 ^ 4:=NB (by omega) (by omega)
 refine gu ba ?_
 refine bH ?_
 refine aL (fun hji=>?_) (fun hji=>?_)
 ·have hj':j<d.length:=by omega
  have hdj:=(TD hj').1 (hd j hj')
  refine ⟨fun t w'=>t=.bool false/\Inv w [] [] S w',?_,?_⟩
  ·refine fa ba hj' ?_
   refine fN (by omega) ?_
   refine rpG ?_
   refine fa ba hj' ?_
   refine o3 (by omega) ?_
   refine rpG ?_
   exact ⟨rfl,hI⟩
  intro t54 _ _ _ _ _ _ _ _ _ w'
  rintro ⟨rfl,hI⟩
  refine aw (fun hb=>by cases hb) (fun _=>?_)
  refine H2 (by omega) ?_
  refine fa ba hj' ?_
  refine XG (c:=((d[j].toNat - 48:Nat):Int)) ?_ ?_
  ·rw [IntWalk.u8_in _ (by omega)]; omega
  refine sJ gY fK (IntWalk.i64_in _ (by omega)) ?_
  refine bp (by omega) ?_
  refine bp (by omega) ?_
  refine ⟨⟨j+1,m * 10+(d[j].toNat - 48),hj',rfl,?_,?_,?_,hI⟩,by simp [intOf]; omega⟩
  ·congr 1
  ·rw [Nat.pow_succ]; omega
  ·rw [<- hval,UT hj']
 ·have:j=d.length:=by omega
  subst this
  rw [dO,IH] at hval
  refine ⟨fun t w'=>t=.int .i64 m/\Inv w [] [] S w',aw (fun hb=>by cases hb) (fun _=>⟨rfl,hI⟩),?_⟩
  intro t5 _ _ _ w'
  rintro ⟨rfl,hI⟩
  exact done hI (by rw [hval])
abbrev Lr (k n:Int):Value:=.agg #[.int .i64 k,.int .i64 n,.string ⟨#[]⟩,.slice none 0 0]
theorem ue {w:World} {K:Value->World->Prop} {k n:Int} (hk:K (Lr k n) w):Run Tryz.prog (cB ab [(0,.int .i64 k),(1,.int .i64 n)]) w K:=by
 refine Run.of (v:=Lr k n) (w':=w) ?_ hk
 unfold cB
 rw [Sem.run_bind,run_build w ab _ #[.int .i64 k,.int .i64 n,.string ⟨#[]⟩,.slice none 0 0] (by kernel_rfl),Result.andThen_ok]
 rfl
theorem v8 (n:Int) (S:ae):Pure Tryz.prog Vy [.int .i64 n] S (Lr 1 n):=by
 intro w hI
 refine Hg.2 ?_
 dsimp only[Hg,aM]
 refine aT hI aZ fun b w' hI=>?_
 refine ue ?_
 refine aC hI 0 rfl ad rfl rfl (by simp [Value.oneCell']) fun w' hI=>?_
 refine bJ hI 0 ad rfl rfl ?_
 exact done hI rfl
theorem oO (n:Int) (S:ae):Pure Tryz.prog UM [.int .i64 n] S (Lr 2 n):=by
 intro w hI
 refine HX.2 ?_
 dsimp only[HX,aM]
 refine aT hI aZ fun b w' hI=>?_
 refine ue ?_
 refine aC hI 0 rfl ad rfl rfl (by simp [Value.oneCell']) fun w' hI=>?_
 refine bJ hI 0 ad rfl rfl ?_
 exact done hI rfl
end
theorem QA (s:Bs) (n e:Nat):vf s (n+1) e=if dig s e=true then vf s n (e+1) else e:=rfl
theorem Nq (s:Bs):∀ (n e:Nat),e<=vf s n e/\vf s n e<=e+n
 | 0,e=>by simp [vf]
 | n+1,e=>by
  rw [vf]
  split
  ·have:=Nq s n (e+1); omega
  ·omega
theorem yc (s:Bs):∀ (n e i:Nat),e<=i->i<vf s n e->dig s i=true
 | 0,e,i,h1,h2=>by simp [vf] at h2; omega
 | n+1,e,i,h1,h2=>by
  rw [vf] at h2
  split at h2
  ·rename_i h
   by_cases he:e=i
   ·subst he; exact h
   ·exact yc s n (e+1) i (by omega) h2
  ·omega
theorem Ng {s:Bs} {a b i:Nat} (hi:i<(cut s a b).length):∃ h:a+i<s.length,(cut s a b)[i]=s[a+i]/\a+i<b:=by
 have h1:(cut s a b).length=min b s.length - a:=by simp [cut]
 refine ⟨by omega,?_,by omega⟩
 simp [cut]
theorem Nl {s:Bs} {a b:Nat} (hb:b<=s.length):(cut s a b).length=b - a:=by simp [cut]; omega
theorem Y1 {s:Bs} {a b i:Nat} (hi:i<(cut s a b).length):dig (cut s a b) i=dig s (a+i):=by
 obtain ⟨h,e,_⟩:=Ng hi
 rw [dig,dig,rb hi,rb h,e]
section
attribute [local irreducible] Run CondV az aO
theorem Hf {s:Bs} {i e:Nat} {t:T} (hn:W8 s i=some (t,e)) (hi:i<=100000) (S:ae) :
  ∃ n:Int,inI n/\t=.mk 2 n emptyB []/\i<=e/\e<=i+5/\Pure Tryz.prog Nf [.string (st s),.int .i64 (i:Int)] S (.tuple #[Lr 2 n,.int .i64 (e:Int)]):=by
 unfold W8 at hn
 obtain ⟨fr,hfr⟩:∃ fr,fr=if sgn s i 45=true then i+1 else i:=⟨_,rfl⟩
 simp only [<- hfr] at hn
 obtain ⟨en,hen⟩:∃ en,en=vf s 4 fr:=⟨_,rfl⟩
 simp only [<- hen] at hn
 have hle:=Nq s 4 fr
 rw [<- hen] at hle
 have hfi:i<=fr/\fr<=i+1:=by rw [hfr]; split <;> omega
 split at hn
 ·cases hn
 rename_i hc
 simp only [not_or] at hc
 obtain ⟨hc1,hc2,hc3,hc4⟩:=hc
 simp only [bg,cT] at hn
 obtain ⟨rfl,rfl⟩:=hn
 have hdig:∀ j,j<(cut s fr en).length->dig (cut s fr en) j=true:=fun j hj=>by
  obtain ⟨h1,h2,h3⟩:=Ng hj
  rw [Y1 hj]
  exact yc s 4 fr _ (by omega) (by rw [<- hen]; exact h3)
 have hlen0:0<(cut s fr en).length:=by
  cases he:cut s fr en with
  | nil=>exact absurd he hc1
  | cons a l=>simp
 have hen2:fr<en:=by
  obtain ⟨_,_,h3⟩:=Ng hlen0
  omega
 have hens:en<=s.length:=by
  have:=yc s 4 fr (en - 1) (by omega) (by rw [<- hen]; omega)
  have:=Hw this
  omega
 refine ⟨_,?_,rfl,by omega,by omega,?_⟩
 ·unfold inI; split <;> omega
 intro w hI
 refine vF.2 ?_
 dsimp only[vF,aY]
 refine aT hI aZ fun b4 w' hI=>?_
 refine ⟨fun t w'=>t=.int .i64 (fr:Int)/\Inv w [] [.blk b4 (.cells #[.int .i64 0,.int .i64 0,.string ⟨#[]⟩,.slice none 0 0] ab)] S w',?_,?_⟩
 ·refine Run.callPure dj dp hI (cX s i 45 S) fun w' hI=>?_
  refine aw (fun hb=>?_) (fun hb=>?_)
  ·refine bp (by omega) ?_
   rw [ai hb] at hfr
   exact ⟨by rw [hfr]; congr 1,hI⟩
  ·rw [ah (by rw [hb]; decide)] at hfr
   exact ⟨by rw [hfr],hI⟩
 intro t6 _ _ _ _ _ w'
 rintro ⟨rfl,hI⟩
 refine ⟨fun t w'=>∃ j:Nat,t=.int .i64 (j:Int)/\fr<=j/\j<=fr+4/\vf s (fr+4 - j) j=en/\Inv w [] [.blk b4 (.cells #[.int .i64 0,.int .i64 0,.string ⟨#[]⟩,.slice none 0 0] ab)] S w',fun t _=>fr+4 - (intOf t).toNat,
  ⟨fr,rfl,aW _,by omega,by rw [oV]; exact hen.symm,hI⟩,?_⟩
 intro t6 _ _ _ _ _ _ _ _ _ _ _ w'
 rintro ⟨j,rfl,hj1,hj2,hj3,hI⟩
 refine ⟨fun t w'=>t=.bool (dig s j && decide (j<fr+4))/\Inv w [] [.blk b4 (.cells #[.int .i64 0,.int .i64 0,.string ⟨#[]⟩,.slice none 0 0] ab)] S w',?_,?_⟩
 ·refine Run.callPure l4 lZ hI (iZ s j S) fun w' hI=>?_
  cases hdj:dig s j
  ·refine rpG ?_
   exact ⟨rfl,hI⟩
  ·refine rpG ?_
   refine bp (by omega) ?_
   refine bH ?_
   refine rpG ?_
   refine ⟨?_,hI⟩
   rw [dg]
   congr 1
   rw [fg]
   omega
 intro t25 _ _ _ _ _ _ _ _ w'
 rintro ⟨rfl,hI⟩
 refine aw (fun hb=>?_) (fun hb=>?_)
 ·rw [bu,bk] at hb
  refine bp (by omega) ?_
  refine ⟨⟨j+1,rfl,by omega,by omega,?_,hI⟩,by simp [intOf]; omega⟩
  rw [<- hj3,show fr+4 - j=(fr+4 - (j+1))+1 by omega,QA,ai hb.1]
 ·have hje:j=en:=by
   rw [<- hj3]
   by_cases h4:j=fr+4
   ·rw [h4,eB]; rfl
   ·rw [show fr+4 - j=(fr+4 - (j+1))+1 by omega,QA,ah]
    intro hd
    rw [hd,dg,jC] at hb
    omega
  subst hje
  refine FU ba (by omega) hens ?_
  refine Run.callPure On PP hI (Nx _ hdig hlen0 (by rw [Nl hens]; omega) hc2 S) fun w' hI=>?_
  obtain ⟨n,hn⟩:∃ n,n=IH (cut s fr j) 0:=⟨_,rfl⟩
  rw [<- hn]
  refine ar (v:=.int .i64 (n:Int)) rfl ?_
  refine ar (v:=.bool true) rfl ?_
  simp only [<- hn] at hc3 hc4 ⊢
  refine ⟨fun t w'=>t=.bool false/\Inv w [] [.blk b4 (.cells #[.int .i64 0,.int .i64 0,.string ⟨#[]⟩,.slice none 0 0] ab)] S w',?_,?_⟩
  ·refine bQ ?_
   refine rpG ?_
   by_cases hfi':i<fr
   ·refine Rg (by omega) ?_
    refine rpG ?_
    refine bl ?_
    have:¬ n=0:=fun h=>hc3 ⟨hfi',h⟩
    rw [aP (by omega)]
    refine rpG ?_
    refine o3 (by omega) ?_
    refine rpG ?_
    exact ⟨rfl,hI⟩
   ·refine o3 (by omega) ?_
    refine rpG ?_
    refine o3 (by omega) ?_
    refine rpG ?_
    exact ⟨rfl,hI⟩
  intro t50 _ _ _ _ _ _ _ _ _ _ _ _ _ _ w'
  rintro ⟨rfl,hI⟩
  refine aw (fun hb=>by cases hb) (fun _=>?_)
  refine ⟨fun t w'=>t=.int .i64 (if i<fr then -(n:Int) else n)/\Inv w [] [.blk b4 (.cells #[.int .i64 0,.int .i64 0,.string ⟨#[]⟩,.slice none 0 0] ab)] S w',?_,?_⟩
  ·refine dA ?_
   refine aL (fun hb=>?_) (fun hb=>?_)
   ·refine Zu (by omega) ?_
    exact ⟨by rw [ai (by omega)],hI⟩
   ·exact ⟨by rw [ah (by omega)],hI⟩
  intro t8 _ _ _ _ _ w'
  rintro ⟨rfl,hI⟩
  refine Run.callPure xl xN hI (oO _ S) fun w' hI=>?_
  refine aC hI 0 rfl ad rfl rfl (by simp [Value.oneCell']) fun w' hI=>?_
  refine bJ hI 0 ad rfl rfl ?_
  exact done hI rfl
end
theorem RdSl.some1 {α:Type} {S:ae} {k:Nat} {R:List Value->α->Prop} {v:Value} {xs:List α} (h:RdSl S k R v xs) (h0:0<xs.length):∃ b o cap,v=.slice (some ⟨b,o,none⟩) xs.length cap:=by
 obtain ⟨b,o,cap,c,E,fz,e,_,_⟩:=h.at_ h0
 exact ⟨b,o,cap,e⟩
theorem NJ (s:Bs) (n e:Nat):Ep s (n+1) e=if sml s e=true then Ep s n (e+1) else e:=rfl
def TN (o:Option (Bs × Nat)):Value:=match o with
 | none=>.tuple #[.string ⟨#[]⟩,.int .i64 (-1)]
 | some (n,e)=>.tuple #[.string (st n),.int .i64 (e:Int)]
theorem RS (s:Bs) (i:Nat) {j:Nat} (h:j<signs.length) (b:Bs):jU s i (signs.drop j) b=jU s i (signs.drop (j+1)) (if decide (i+signs[j].size<=s.length)=true/\cut s i (i+signs[j].size)=bs signs[j]/\b.length<signs[j].size then bs signs[j] else b):=by
 rw [cU h,jU]
theorem NH:∀ x∈signs,x.size<=3:=by decide
section
attribute [local irreducible] Run CondV az aO
theorem zy {s:Bs} {i:Nat} (hi:i<s.length) (hs:s.length<=100000) (S:ae):Pure Tryz.prog QS [.string (st s),.int .i64 (i:Int)] S (TN (At s i)):=by
 intro w hI
 refine CY.2 ?_
 dsimp only[CY,aY]
 obtain ⟨E,hE⟩:∃ E,E=Ep s (s.length - i) i:=⟨_,rfl⟩
 have hnm:At s i=if i+6<E then none else if i<E then some (cut s i E,E) else if jU s i signs []=[] then none else some (jU s i signs [],i+(jU s i signs []).length):=by
  rw [At,<- hE]
 refine ⟨fun t w'=>∃ e:Nat,t=.int .i64 (e:Int)/\i<=e/\e<=s.length/\Ep s (s.length - e) e=E/\Inv w [] [] S w',fun t _=>s.length - (intOf t).toNat,⟨i,rfl,aW _,by omega,hE.symm,hI⟩,?_⟩
 intro t6 _ _ _ _ _ w'
 rintro ⟨e,rfl,he1,he2,he3,hI⟩
 refine Run.callPure zE yi hI (rM s e S) fun w' hI=>?_
 refine aw (fun hb=>?_) (fun hb=>?_)
 ·have hlt:=Hw hb
  refine bp (by omega) ?_
  refine ⟨⟨e+1,rfl,by omega,by omega,?_,hI⟩,by simp [intOf]; omega⟩
  rw [<- he3,show s.length - e=(s.length - (e+1))+1 by omega,NJ,ai hb]
 have heE:e=E:=by
  rw [<- he3]
  by_cases h:e=s.length
  ·rw [h,eB,Ep]
  ·rw [show s.length - e=(s.length - (e+1))+1 by omega,NJ,ah (by rw [hb]; decide)]
 subst heE
 refine bp (by omega) ?_
 refine dA ?_
 refine aL (fun hb=>done hI (by rw [hnm,ai (by omega)]; rfl)) (fun hb=>?_)
 rw [ah (by omega)] at hnm
 refine dA ?_
 refine aL (fun hb=>?_) (fun hb=>?_)
 ·refine FU ba (by omega) (by omega) ?_
  exact done hI (by rw [hnm,ai (by omega)]; rfl)
 rw [ah (by omega)] at hnm
 refine Run.call0 Ap zS hI (wu S) fun v I' S1 w'=>?_
 rintro ⟨rfl,hle,hr⟩ _ hI
 obtain ⟨b,o,cap,rfl⟩:=RdSl.some1 hr (by decide)
 refine ⟨fun t u w'=>∃ (j:Nat) (best:Bs),j<=signs.length/\t=.int .i64 (j:Int)/\u=.string (st best)/\best.length<=3/\jU s i (signs.drop j) best=jU s i signs []/\Inv w [] [] S1 w',fun t _ _=>signs.length - (intOf t).toNat,
  ⟨0,[],be _,rfl,rfl,by simp,rfl,hI.nil⟩,?_⟩
 intro t9 _ _ t7 _ _ _ _ t65 t64 t63 t62 t61 t60 t59 t58 t57 t56 t55 t54 t53 t52 t51 t50 t49 t48 t47 t46 t45 t44 t43 t42 t41 _ _ _ _ _ _ _ _ _ _ w'
 rintro ⟨j,best,hj0,rfl,rfl,hbl,hbest,hI⟩
 have h15:signs.length=15:=rfl
 refine aF hr cR ?_
 refine bH ?_
 refine aL (fun hji=>?_) (fun hji=>?_)
 ·have hj:j<signs.length:=by omega
  obtain ⟨x,hx⟩:∃ x,x=signs[j]:=⟨_,rfl⟩
  have hx3:x.size<=3:=by rw [hx]; exact NH _ (bz hj)
  obtain ⟨b',o',cap',c,E',fz,hsl,hS,hR⟩:=hr.at_ hj
  cases hsl
  have hcx:c[o+j * 1]?=some (.string x):=by rw [hx]; exact aH hR 0 _ rfl
  rw [RS s i hj,<- hx] at hbest
  refine ⟨fun u w'=>∃ best',u=.string (st best')/\best'.length<=3/\jU s i (signs.drop (j+1)) best'=jU s i signs []/\Inv w [] [] S1 w',?_,?_⟩
  ·refine aE cR hj ?_
   refine ct aU ((hI.cellS hS).trans hcx) ?_
   refine mj ba ?_
   by_cases hlen:i+x.size<=s.length
   ·cases hq:decide (st (cut s i (i+x.size))=x)
    ·skip
     refine ⟨fun D G1 Ln z4 x3 CC Cw Du DE DG CS CL zp ze wa vA vY ut nR oK sW vO wB tB mg qB w_=>Fx D 0 [qB=.int .i64 (i:Int),mg=.int .i64 (x.size:Int),tB=.int .i64 ((i+x.size:Nat):Int),wB=.string (st s),vO=.int .i64 (s.length:Int),sW=.bool true,oK=.bool true,nR=.string (st s),ut=.int .i64 (i:Int),vY=.int .i64 (i:Int),vA=.int .i64 (x.size:Int),wa=.int .i64 ((i+x.size:Nat):Int),ze=.string (st (cut s i (i+x.size))),zp=.slice (some ⟨b,o,none⟩) signs.length cap,CL=.int .i64 (j:Int),CS=.pointer (some ⟨b,o+j * 1,none⟩),DG=.string x,DE=.bool false,Du=.bool false,Cw=.bool false,CC=undef,x3=undef,z4=undef,Ln=undef,G1=.bool false]/\Inv w [] [] S1 w_,⟨Fx.nil _ _,hI.draw⟩,⟨?_,?_,?_,?_,?_,?_,?_,?_,?_,?_,?_,?_,?_,?_,?_,?_,?_,?_,?_,?_,?_,?_,?_,?_,?_,trivial⟩,?_⟩
     all_goals (intro D bF; intros; rename_i G1 Ln z4 x3 CC Cw Du DE DG CS CL zp ze wa vA vY ut nR oK sW vO wB tB mg qB w_ hA_; have hF_:=hA_.1; obtain ⟨⟨cj,ci,bR,ce,bP,bY,bZ,cH,c5,dI,bX,cr,cZ,eo,c8,eQ,fW,hO,jJ,gw,lf,kM,lh,nq,Gr,_⟩,hI⟩:=hA_)
     ·exact ⟨hF_.set 0 rfl,hI⟩
     ·exact ⟨hF_.set 1 rfl,hI⟩
     ·obtain rfl:=cj ‹_›
      obtain rfl:=ci ‹_›
      refine bp (by omega) ?_
      exact ⟨hF_.set 2 rfl,hI⟩
     ·exact ⟨hF_.set 3 rfl,hI⟩
     ·obtain rfl:=ce ‹_›
      refine gu ba ?_
      exact ⟨hF_.set 4 rfl,hI⟩
     ·obtain rfl:=bR ‹_›
      obtain rfl:=bP ‹_›
      refine MO (by omega) ?_
      exact ⟨hF_.set 5 rfl,hI⟩
     ·obtain rfl:=bY ‹_›
      exact ⟨hF_.set 6 rfl,hI⟩
     ·obtain rfl:=bZ ‹_›
      refine bT ?_
      exact ⟨hF_.set 7 rfl,hI⟩
     ·obtain rfl:=bZ ‹_›
      refine bT ?_
      exact ⟨hF_.set 8 rfl,hI⟩
     ·obtain rfl:=bZ ‹_›
      refine bT ?_
      exact ⟨hF_.set 9 rfl,hI⟩
     ·obtain rfl:=bZ ‹_›
      refine bT ?_
      exact ⟨hF_.set 10 rfl,hI⟩
     ·obtain rfl:=dI ‹_›
      obtain rfl:=bX ‹_›
      obtain rfl:=bZ ‹_›
      refine bT ?_; refine bp (by omega) ?_
      exact ⟨hF_.set 11 rfl,hI⟩
     ·obtain rfl:=cH ‹_›
      obtain rfl:=c5 ‹_›
      obtain rfl:=cr ‹_›
      obtain rfl:=bZ ‹_›
      refine bT ?_; refine FU ba (by omega) (by omega) ?_
      exact ⟨hF_.set 12 rfl,hI⟩
     ·obtain rfl:=bZ ‹_›
      refine bT ?_
      exact ⟨hF_.set 13 rfl,hI⟩
     ·obtain rfl:=bZ ‹_›
      refine bT ?_
      exact ⟨hF_.set 14 rfl,hI⟩
     ·obtain rfl:=eo ‹_›
      obtain rfl:=c8 ‹_›
      obtain rfl:=bZ ‹_›
      refine bT ?_; refine aE cR hj ?_
      exact ⟨hF_.set 15 rfl,hI⟩
     ·obtain rfl:=eQ ‹_›
      obtain rfl:=bZ ‹_›
      refine bT ?_; refine ct aU ((hI.cellS hS).trans hcx) ?_
      exact ⟨hF_.set 16 rfl,hI⟩
     ·obtain rfl:=cZ ‹_›
      obtain rfl:=fW ‹_›
      obtain rfl:=bZ ‹_›
      refine bT ?_; refine bS ?_; rw [hq]
      exact ⟨hF_.set 17 rfl,hI⟩
     ·obtain rfl:=bZ ‹_›
      obtain rfl:=hO ‹_›
      refine Fg ?_
      exact ⟨hF_.set 18 rfl,hI⟩
     ·obtain rfl:=jJ ‹_›
      exact ⟨hF_.set 19 rfl,hI⟩
     ·obtain rfl:=gw ‹_›
      refine dG (c:=false) (b:=true) (by decide) ?_
      exact ⟨hF_.set 20 rfl,hI⟩
     ·obtain rfl:=gw ‹_›
      refine dG (c:=false) (b:=true) (by decide) ?_
      exact ⟨hF_.set 21 rfl,hI⟩
     ·obtain rfl:=kM ‹_›
      obtain rfl:=gw ‹_›
      refine dG (c:=false) (b:=true) (by decide) ?_
      exact ⟨hF_.set 22 rfl,hI⟩
     ·obtain rfl:=lf ‹_›
      obtain rfl:=lh ‹_›
      obtain rfl:=gw ‹_›
      refine dG (c:=false) (b:=true) (by decide) ?_
      exact ⟨hF_.set 23 rfl,hI⟩
     ·obtain rfl:=gw ‹_›
      obtain rfl:=nq ‹_›
      refine uQ ?_
      exact ⟨hF_.set 24 rfl,hI⟩
     obtain ⟨rfl,rfl,rfl,rfl,rfl,rfl,rfl,rfl,rfl,rfl,rfl,rfl,rfl,rfl,rfl,rfl,rfl,rfl,rfl,rfl,rfl,rfl,rfl,rfl,rfl,_⟩:=hF_.all
     clear hF_ cj ci bR ce bP bY bZ cH c5 dI bX cr cZ eo c8 eQ fW hO jJ gw lf kM lh nq Gr
     refine aw (fun hb=>by cases hb) (fun _=>?_)
     refine ⟨best,rfl,hbl,?_,hI⟩
     rw [ah] at hbest
     ·exact hbest
     ·rintro ⟨_,h2,_⟩
      rw [jC] at hq
      exact hq (by rw [h2])
    ·rw [bk] at hq
     have hq':=hq
     have hq:decide (st (cut s i (i+x.size))=x)=true:=aI hq'
     skip
     refine ⟨fun D G1 Ln z4 x3 CC Cw Du DE DG CS CL zp ze wa vA vY ut nR oK sW vO wB tB mg qB w_=>Fx D 0 [qB=.int .i64 (i:Int),mg=.int .i64 (x.size:Int),tB=.int .i64 ((i+x.size:Nat):Int),wB=.string (st s),vO=.int .i64 (s.length:Int),sW=.bool true,oK=.bool true,nR=.string (st s),ut=.int .i64 (i:Int),vY=.int .i64 (i:Int),vA=.int .i64 (x.size:Int),wa=.int .i64 ((i+x.size:Nat):Int),ze=.string (st (cut s i (i+x.size))),zp=.slice (some ⟨b,o,none⟩) signs.length cap,CL=.int .i64 (j:Int),CS=.pointer (some ⟨b,o+j * 1,none⟩),DG=.string x,DE=.bool true,Du=.bool true,Cw=.bool true,CC=.int .i64 (x.size:Int),x3=.string (st best),z4=.int .i64 (best.length:Int),Ln=.bool (decide ((best.length:Int)<(x.size:Int))),G1=.bool (decide ((best.length:Int)<(x.size:Int)))]/\Inv w [] [] S1 w_,⟨Fx.nil _ _,hI.draw⟩,⟨?_,?_,?_,?_,?_,?_,?_,?_,?_,?_,?_,?_,?_,?_,?_,?_,?_,?_,?_,?_,?_,?_,?_,?_,?_,trivial⟩,?_⟩
     all_goals (intro D bF; intros; rename_i G1 Ln z4 x3 CC Cw Du DE DG CS CL zp ze wa vA vY ut nR oK sW vO wB tB mg qB w_ hA_; have hF_:=hA_.1; obtain ⟨⟨cj,ci,bR,ce,bP,bY,bZ,cH,c5,dI,bX,cr,cZ,eo,c8,eQ,fW,hO,jJ,gw,lf,kM,lh,nq,Gr,_⟩,hI⟩:=hA_)
     ·exact ⟨hF_.set 0 rfl,hI⟩
     ·exact ⟨hF_.set 1 rfl,hI⟩
     ·obtain rfl:=cj ‹_›
      obtain rfl:=ci ‹_›
      refine bp (by omega) ?_
      exact ⟨hF_.set 2 rfl,hI⟩
     ·exact ⟨hF_.set 3 rfl,hI⟩
     ·obtain rfl:=ce ‹_›
      refine gu ba ?_
      exact ⟨hF_.set 4 rfl,hI⟩
     ·obtain rfl:=bR ‹_›
      obtain rfl:=bP ‹_›
      refine MO (by omega) ?_
      exact ⟨hF_.set 5 rfl,hI⟩
     ·obtain rfl:=bY ‹_›
      exact ⟨hF_.set 6 rfl,hI⟩
     ·obtain rfl:=bZ ‹_›
      refine bT ?_
      exact ⟨hF_.set 7 rfl,hI⟩
     ·obtain rfl:=bZ ‹_›
      refine bT ?_
      exact ⟨hF_.set 8 rfl,hI⟩
     ·obtain rfl:=bZ ‹_›
      refine bT ?_
      exact ⟨hF_.set 9 rfl,hI⟩
     ·obtain rfl:=bZ ‹_›
      refine bT ?_
      exact ⟨hF_.set 10 rfl,hI⟩
     ·obtain rfl:=dI ‹_›
      obtain rfl:=bX ‹_›
      obtain rfl:=bZ ‹_›
      refine bT ?_; refine bp (by omega) ?_
      exact ⟨hF_.set 11 rfl,hI⟩
     ·obtain rfl:=cH ‹_›
      obtain rfl:=c5 ‹_›
      obtain rfl:=cr ‹_›
      obtain rfl:=bZ ‹_›
      refine bT ?_; refine FU ba (by omega) (by omega) ?_
      exact ⟨hF_.set 12 rfl,hI⟩
     ·obtain rfl:=bZ ‹_›
      refine bT ?_
      exact ⟨hF_.set 13 rfl,hI⟩
     ·obtain rfl:=bZ ‹_›
      refine bT ?_
      exact ⟨hF_.set 14 rfl,hI⟩
     ·obtain rfl:=eo ‹_›
      obtain rfl:=c8 ‹_›
      obtain rfl:=bZ ‹_›
      refine bT ?_; refine aE cR hj ?_
      exact ⟨hF_.set 15 rfl,hI⟩
     ·obtain rfl:=eQ ‹_›
      obtain rfl:=bZ ‹_›
      refine bT ?_; refine ct aU ((hI.cellS hS).trans hcx) ?_
      exact ⟨hF_.set 16 rfl,hI⟩
     ·obtain rfl:=cZ ‹_›
      obtain rfl:=fW ‹_›
      obtain rfl:=bZ ‹_›
      refine bT ?_; refine bS ?_; rw [hq]
      exact ⟨hF_.set 17 rfl,hI⟩
     ·obtain rfl:=bZ ‹_›
      obtain rfl:=hO ‹_›
      refine Fg ?_
      exact ⟨hF_.set 18 rfl,hI⟩
     ·obtain rfl:=jJ ‹_›
      exact ⟨hF_.set 19 rfl,hI⟩
     ·obtain rfl:=gw ‹_›
      refine bT ?_
      exact ⟨hF_.set 20 rfl,hI⟩
     ·obtain rfl:=gw ‹_›
      refine bT ?_
      exact ⟨hF_.set 21 rfl,hI⟩
     ·obtain rfl:=kM ‹_›
      obtain rfl:=gw ‹_›
      refine bT ?_; refine gu ba ?_
      exact ⟨hF_.set 22 rfl,hI⟩
     ·obtain rfl:=lf ‹_›
      obtain rfl:=lh ‹_›
      obtain rfl:=gw ‹_›
      refine bT ?_; refine dA ?_
      exact ⟨hF_.set 23 rfl,hI⟩
     ·obtain rfl:=gw ‹_›
      obtain rfl:=nq ‹_›
      refine Fg ?_
      exact ⟨hF_.set 24 rfl,hI⟩
     obtain ⟨rfl,rfl,rfl,rfl,rfl,rfl,rfl,rfl,rfl,rfl,rfl,rfl,rfl,rfl,rfl,rfl,rfl,rfl,rfl,rfl,rfl,rfl,rfl,rfl,rfl,_⟩:=hF_.all
     clear hF_ cj ci bR ce bP bY bZ cH c5 dI bX cr cZ eo c8 eQ fW hO jJ gw lf kM lh nq Gr
     have hcut:cut s i (i+x.size)=bs x:=by rw [<- La (cut s i (i+x.size)),hq']
     refine aL (fun hb=>?_) (fun hb=>?_)
     ·refine aE cR hj ?_
      refine ct aU ((hI.cellS hS).trans hcx) ?_
      refine ⟨bs x,rfl,by rw [<- hcut,Nl hlen]; omega,?_,hI⟩
      rw [ai ⟨aI hlen,hcut,by omega⟩] at hbest
      exact hbest
     ·refine ⟨best,rfl,hbl,?_,hI⟩
      rw [ah] at hbest
      ·exact hbest
      ·rintro ⟨_,_,h3⟩
       omega
   ·skip
    refine ⟨fun D G1 Ln z4 x3 CC Cw Du DE DG CS CL zp ze wa vA vY ut nR oK sW vO wB tB mg qB w_=>Fx D 0 [qB=.int .i64 (i:Int),mg=.int .i64 (x.size:Int),tB=.int .i64 ((i+x.size:Nat):Int),wB=.string (st s),vO=.int .i64 (s.length:Int),sW=.bool false,oK=.bool false,nR=undef,ut=undef,vY=undef,vA=undef,wa=undef,ze=undef,zp=undef,CL=undef,CS=undef,DG=undef,DE=undef,Du=.bool false,Cw=.bool false,CC=undef,x3=undef,z4=undef,Ln=undef,G1=.bool false]/\Inv w [] [] S1 w_,⟨Fx.nil _ _,hI.draw⟩,⟨?_,?_,?_,?_,?_,?_,?_,?_,?_,?_,?_,?_,?_,?_,?_,?_,?_,?_,?_,?_,?_,?_,?_,?_,?_,trivial⟩,?_⟩
    all_goals (intro D bF; intros; rename_i G1 Ln z4 x3 CC Cw Du DE DG CS CL zp ze wa vA vY ut nR oK sW vO wB tB mg qB w_ hA_; have hF_:=hA_.1; obtain ⟨⟨cj,ci,bR,ce,bP,bY,bZ,cH,c5,dI,bX,cr,cZ,eo,c8,eQ,fW,hO,jJ,gw,lf,kM,lh,nq,Gr,_⟩,hI⟩:=hA_)
    ·exact ⟨hF_.set 0 rfl,hI⟩
    ·exact ⟨hF_.set 1 rfl,hI⟩
    ·obtain rfl:=cj ‹_›
     obtain rfl:=ci ‹_›
     refine bp (by omega) ?_
     exact ⟨hF_.set 2 rfl,hI⟩
    ·exact ⟨hF_.set 3 rfl,hI⟩
    ·obtain rfl:=ce ‹_›
     refine gu ba ?_
     exact ⟨hF_.set 4 rfl,hI⟩
    ·obtain rfl:=bR ‹_›
     obtain rfl:=bP ‹_›
     refine WZ (by omega) ?_
     exact ⟨hF_.set 5 rfl,hI⟩
    ·obtain rfl:=bY ‹_›
     exact ⟨hF_.set 6 rfl,hI⟩
    ·obtain rfl:=bZ ‹_›
     refine dG (c:=false) (b:=true) (by decide) ?_
     exact ⟨hF_.set 7 rfl,hI⟩
    ·obtain rfl:=bZ ‹_›
     refine dG (c:=false) (b:=true) (by decide) ?_
     exact ⟨hF_.set 8 rfl,hI⟩
    ·obtain rfl:=bZ ‹_›
     refine dG (c:=false) (b:=true) (by decide) ?_
     exact ⟨hF_.set 9 rfl,hI⟩
    ·obtain rfl:=bZ ‹_›
     refine dG (c:=false) (b:=true) (by decide) ?_
     exact ⟨hF_.set 10 rfl,hI⟩
    ·obtain rfl:=dI ‹_›
     obtain rfl:=bX ‹_›
     obtain rfl:=bZ ‹_›
     refine dG (c:=false) (b:=true) (by decide) ?_
     exact ⟨hF_.set 11 rfl,hI⟩
    ·obtain rfl:=cH ‹_›
     obtain rfl:=c5 ‹_›
     obtain rfl:=cr ‹_›
     obtain rfl:=bZ ‹_›
     refine dG (c:=false) (b:=true) (by decide) ?_
     exact ⟨hF_.set 12 rfl,hI⟩
    ·obtain rfl:=bZ ‹_›
     refine dG (c:=false) (b:=true) (by decide) ?_
     exact ⟨hF_.set 13 rfl,hI⟩
    ·obtain rfl:=bZ ‹_›
     refine dG (c:=false) (b:=true) (by decide) ?_
     exact ⟨hF_.set 14 rfl,hI⟩
    ·obtain rfl:=eo ‹_›
     obtain rfl:=c8 ‹_›
     obtain rfl:=bZ ‹_›
     refine dG (c:=false) (b:=true) (by decide) ?_
     exact ⟨hF_.set 15 rfl,hI⟩
    ·obtain rfl:=eQ ‹_›
     obtain rfl:=bZ ‹_›
     refine dG (c:=false) (b:=true) (by decide) ?_
     exact ⟨hF_.set 16 rfl,hI⟩
    ·obtain rfl:=cZ ‹_›
     obtain rfl:=fW ‹_›
     obtain rfl:=bZ ‹_›
     refine dG (c:=false) (b:=true) (by decide) ?_
     exact ⟨hF_.set 17 rfl,hI⟩
    ·obtain rfl:=bZ ‹_›
     obtain rfl:=hO ‹_›
     refine uQ ?_
     exact ⟨hF_.set 18 rfl,hI⟩
    ·obtain rfl:=jJ ‹_›
     exact ⟨hF_.set 19 rfl,hI⟩
    ·obtain rfl:=gw ‹_›
     refine dG (c:=false) (b:=true) (by decide) ?_
     exact ⟨hF_.set 20 rfl,hI⟩
    ·obtain rfl:=gw ‹_›
     refine dG (c:=false) (b:=true) (by decide) ?_
     exact ⟨hF_.set 21 rfl,hI⟩
    ·obtain rfl:=kM ‹_›
     obtain rfl:=gw ‹_›
     refine dG (c:=false) (b:=true) (by decide) ?_
     exact ⟨hF_.set 22 rfl,hI⟩
    ·obtain rfl:=lf ‹_›
     obtain rfl:=lh ‹_›
     obtain rfl:=gw ‹_›
     refine dG (c:=false) (b:=true) (by decide) ?_
     exact ⟨hF_.set 23 rfl,hI⟩
    ·obtain rfl:=gw ‹_›
     obtain rfl:=nq ‹_›
     refine uQ ?_
     exact ⟨hF_.set 24 rfl,hI⟩
    obtain ⟨rfl,rfl,rfl,rfl,rfl,rfl,rfl,rfl,rfl,rfl,rfl,rfl,rfl,rfl,rfl,rfl,rfl,rfl,rfl,rfl,rfl,rfl,rfl,rfl,rfl,_⟩:=hF_.all
    clear hF_ cj ci bR ce bP bY bZ cH c5 dI bX cr cZ eo c8 eQ fW hO jJ gw lf kM lh nq Gr
    refine aw (fun hb=>by cases hb) (fun _=>?_)
    refine ⟨best,rfl,hbl,?_,hI⟩
    rw [ah] at hbest
    ·exact hbest
    ·rintro ⟨h1,_⟩
     rw [bk] at h1
     exact hlen h1
  intro t7 _ _ _ _ _ _ _ _ _ _ _ _ _ _ _ _ _ _ _ _ _ _ _ _ _ _ _ _ _ _ _ _ _ _ _ w'
  rintro ⟨best',rfl,hbl',hb',hI⟩
  refine bp (by omega) ?_
  exact ⟨⟨j+1,best',hj,rfl,rfl,hbl',hb',hI⟩,by simp [intOf]; omega⟩
 ·have:j=signs.length:=by omega
  subst this
  rw [dO,jU] at hbest
  rw [<- hbest] at hnm
  refine bS ?_
  refine aL (fun hb=>?_) (fun hb=>?_)
  ·have:best=[]:=by rw [<- La best,hb]
   exact fT hI hle (by rw [hnm,ai this]; rfl)
  ·have:¬ best=[]:=fun h=>hb (by rw [h])
   refine gu ba ?_
   refine bp (by omega) ?_
   exact fT hI hle (by rw [hnm,ah this]; rfl)
end
theorem AV (s:Bs) (i:Nat):∀ (l:List ByteArray) (b:Bs),(∀ x∈l,x.size<=3)->b.length<=3->i+b.length<=s.length->i+(jU s i l b).length<=s.length/\(jU s i l b).length<=3
 | [],b,_,h2,h3=>⟨h3,h2⟩
 | x::l,b,h1,h2,h3=>by
  rw [jU]
  have hx:(bs x).length=x.size:=Og
  split
  ·rename_i h
   exact AV s i l _ (fun y hy=>h1 y (aV _ hy)) (by rw [hx]; exact h1 x (aS ..)) (by rw [hx]; exact of_decide_eq_true h.1)
  ·exact AV s i l _ (fun y hy=>h1 y (aV _ hy)) h2 h3
theorem Uv (s:Bs):∀ (n e:Nat),e<=Ep s n e/\Ep s n e<=e+n
 | 0,e=>by simp [Ep]
 | n+1,e=>by
  rw [Ep]
  split
  ·have:=Uv s n (e+1); omega
  ·omega
theorem yC {s:Bs} {i:Nat} {n:Bs} {e:Nat} (hi:i<s.length) (h:At s i=some (n,e)):i<e/\e<=s.length/\n.length<=6/\n≠[]:=by
 have hl:=Uv s (s.length - i) i
 have hb:=AV s i signs [] NH (by simp) (by simpa using Nat.le_of_lt hi)
 unfold At at h
 simp only [] at h
 split at h
 ·cases h
 ·split at h
  ·simp only [bg,cT] at h
   obtain ⟨rfl,rfl⟩:=h
   rename_i h1 h2
   have hc:=Nl (s:=s) (a:=i) (b:=Ep s (s.length - i) i) (by omega)
   refine ⟨h2,by omega,by omega,fun h=>?_⟩
   rw [h] at hc
   simp at hc
   omega
  ·split at h
   ·cases h
   ·simp only [bg,cT] at h
    obtain ⟨rfl,rfl⟩:=h
    rename_i h3
    have:0<(jU s i signs []).length:=by
     cases he:jU s i signs [] with
     | nil=>exact absurd he h3
     | cons a l=>simp
    exact ⟨by omega,by omega,by omega,h3⟩
def opV (o:Option (Bs × Nat)) (i:Nat):Value:=match o with
 | none=>.tuple #[.string ⟨#[]⟩,.int .i64 (i:Int)]
 | some (n,e)=>.tuple #[.string (st n),.int .i64 (e:Int)]
theorem Wx {s:Bs} {i:Nat} {n:Bs} {e:Nat} (h:opF s i=some (n,e)):i<e/\e<=s.length/\n.length<=6/\n≠[]:=by
 unfold opF at h
 obtain ⟨fr,hfr⟩:∃ fr,fr=if sgn s i 32=true then i+1 else i:=⟨_,rfl⟩
 simp only [<- hfr] at h
 have hfi:i<=fr:=by rw [hfr]; split <;> omega
 split at h
 ·cases h
 rename_i hlt
 split at h
 ·cases h
 rename_i nm nx hnm
 obtain ⟨h1,h2,h3,h4⟩:=yC (by omega) hnm
 split at h
 ·cases h
 rename_i hc
 simp only [not_or,not_and,Bool.not_eq_false] at hc
 simp only [bg,cT] at h
 obtain ⟨rfl,rfl⟩:=h
 refine ⟨by split <;> omega,?_,h3,h4⟩
 split
 ·rename_i hw
  have:=jF (hc.2.2 hw)
  omega
 ·exact h2
section
attribute [local irreducible] Run CondV az aO
theorem SD {s:Bs} {i:Nat} (hs:s.length<=100000) (hi:i<=s.length) (S:ae):Pure Tryz.prog WK [.string (st s),.int .i64 (i:Int)] S (opV (opF s i) i):=by
 intro w hI
 refine KP.2 ?_
 dsimp only[KP,aY]
 obtain ⟨fr,hfr⟩:∃ fr,fr=if sgn s i 32=true then i+1 else i:=⟨_,rfl⟩
 have hfi:i<=fr/\fr<=i+1:=by rw [hfr]; split <;> omega
 obtain ⟨r,hr⟩:∃ r,r=opF s i:=⟨_,rfl⟩
 rw [<- hr]
 unfold opF at hr
 simp only [<- hfr] at hr
 refine ⟨fun t w'=>t=.int .i64 (fr:Int)/\Inv w [] [] S w',?_,?_⟩
 ·refine Run.callPure dj dp hI (cX s i 32 S) fun w' hI=>?_
  refine aw (fun hb=>?_) (fun hb=>?_)
  ·refine bp (by omega) ?_
   rw [ai hb] at hfr
   exact ⟨by rw [hfr]; congr 1,hI⟩
  ·rw [ah (by rw [hb]; decide)] at hfr
   exact ⟨by rw [hfr],hI⟩
 intro t6 _ _ _ _ _ w'
 rintro ⟨rfl,hI⟩
 refine gu ba ?_
 refine jS ?_
 refine aL (fun hb=>?_) (fun hb=>?_)
 ·rw [ai (by omega)] at hr
  exact done hI (by rw [hr]; rfl)
 rw [ah (by omega)] at hr
 refine Run.callPure DN CX hI (zy (by omega) hs S) fun w' hI=>?_
 cases hnm:At s fr with
 | none=>
  rw [hnm] at hr
  simp only [] at hr
  simp only [TN]
  refine ar rfl ?_
  refine ar rfl ?_
  refine ⟨fun t w'=>t=.bool true/\Inv w [] [] S w',?_,?_⟩
  ·refine F8 (by omega) ?_
   refine rpG ?_
   exact ⟨rfl,hI⟩
  intro t33 _ _ _ _ _ _ w'
  rintro ⟨rfl,hI⟩
  exact aw (fun _=>done hI (by rw [hr]; rfl)) (fun hb=>by cases hb)
 | some q=>
  obtain ⟨nm,nx⟩:=q
  rw [hnm] at hr
  simp only [] at hr
  obtain ⟨h1,h2,h3,h4⟩:=yC (by omega) hnm
  simp only [TN]
  refine ar (v:=.string (st nm)) rfl ?_
  refine ar (v:=.int .i64 (nx:Int)) rfl ?_
  refine ⟨fun t w'=>t=.bool (decide (cJ (st nm)=0))/\Inv w [] [] S w',?_,?_⟩
  ·refine fN (by omega) ?_
   refine rpG ?_
   refine Run.callPure gg gf hI (eJ _ S) fun w' hI=>?_
   refine bl ?_
   refine rpG ?_
   exact ⟨rfl,hI⟩
  intro t33 _ _ _ _ _ _ w'
  rintro ⟨rfl,hI⟩
  refine aL (fun hb=>?_) (fun hb=>?_)
  ·rw [ai (.inl hb)] at hr
   exact done hI (by rw [hr]; rfl)
  obtain ⟨word,hword⟩:∃ word,word=(decide (nm=[105,115]) || decide (nm=[109,111,100])):=⟨_,rfl⟩
  rw [<- hword] at hr
  refine ⟨fun t w'=>t=.bool word/\Inv w [] [] S w',?_,?_⟩
  ·refine Fo (b:=[105,115]) ?_
   cases h5:decide (nm=[105,115])
   ·refine rpG ?_
    refine Fo (b:=[109,111,100]) ?_
    refine rpG ?_
    exact ⟨by rw [hword,h5,fV],hI⟩
   ·refine rpG ?_
    exact ⟨by rw [hword,h5,s6],hI⟩
  intro t9 _ _ _ _ _ _ w'
  rintro ⟨rfl,hI⟩
  refine ⟨fun t w'=>t=.bool (decide (word≠decide (i<fr)) || (word && !sgn s nx 32))/\Inv w [] [] S w',?_,?_⟩
  ·refine dA ?_
   refine VQ E9 ?_
   have e1:decide ((i:Int)<(fr:Int))=decide (i<fr):=by rw [fg]; omega
   rw [e1]
   cases h6:decide (i<fr) <;> cases word
   ·refine rpG ?_
    exact ⟨by rfl,hI⟩
   ·refine rpG ?_
    exact ⟨by rfl,hI⟩
   ·refine rpG ?_
    exact ⟨by rfl,hI⟩
   ·refine rpG ?_
    refine Run.callPure dj dp hI (cX s nx 32 S) fun w' hI=>?_
    refine bQ ?_
    refine rpG ?_
    exact ⟨by simp,hI⟩
  intro t54 _ _ _ _ _ _ _ _ _ _ _ _ _ w'
  rintro ⟨rfl,hI⟩
  refine aw (fun hb'=>?_) (fun hb'=>?_)
  ·rw [ai] at hr
   ·exact done hI (by rw [hr]; rfl)
   ·rw [jR,bk,bu,jj] at hb'
    exact .inr hb'
  ·rw [ah] at hr
   ·refine ⟨fun t w'=>t=.int .i64 ((if word=true then nx+1 else nx:Nat):Int)/\Inv w [] [] S w',?_,?_⟩
    ·refine aw (fun hw=>?_) (fun hw=>?_)
     ·refine bp (by omega) ?_
      exact ⟨by rw [ai hw]; congr 1,hI⟩
     ·exact ⟨by rw [ah (by rw [hw]; decide)],hI⟩
    intro t8 _ _ _ w'
    rintro ⟨rfl,hI⟩
    exact done hI (by rw [hr]; rfl)
   ·rw [KU,jC] at hb'
    rintro (h|h|⟨h,h'⟩)
    ·exact hb h
    ·exact hb'.1 h
    ·rw [h,h'] at hb'
     simp at hb'
end
end
end Go.Proofs.YtgllldjiaglkcaaGreatDoor
