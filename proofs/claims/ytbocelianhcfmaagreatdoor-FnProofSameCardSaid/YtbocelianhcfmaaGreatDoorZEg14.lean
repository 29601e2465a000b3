/- Queries parsed and drawn, with what is known of them: spec.ParseQuery, l6Query, l6Pair. (printed by gen_drawg.py) -/
import Derived.Test.YtbocelianhcfmaaGreatDoorZEg13
import Derived.Test.YtbocelianhcfmaaGreatDoorZEg12
import Derived.Test.YtbocelianhcfmaaGreatDoorZEg4
import Derived.Test.YtbocelianhcfmaaGreatDoorZEg5
import Derived.Test.YtbocelianhcfmaaGreatDoorZEg10
import Derived.Test.YtbocelianhcfmaaGreatDoorZEg1
import Derived.Test.YtbocelianhcfmaaGreatDoorZEg3
import Derived.Test.YtbocelianhcfmaaGreatDoorZEg2
namespace Go.Proofs.YtbocelianhcfmaaGreatDoor
section
open Go Go.RowKit
def Vq (q:List T):Prop:=l4 q=true/\0<q.length
def LD (s:ByteArray):Bool:=match mB 60 8 (bs s) 0 [] with
 | some (q,n)=>decide (n=s.size) && (l4 q && (decide (wL q<=300) && (decide (s.size<=1000) && decide (0<q.length))))
 | none=>false
theorem KP {s:ByteArray} (h:LD s=true):∃ q,mB 60 8 (bs s) 0 []=some (q,s.size)/\l4 q=true/\wL q<=300/\s.size<=1000/\0<q.length:=by
 unfold LD at h
 split at h
 ·rename_i q n hq
  simp only [Bool.and_eq_true,decide_eq_true_eq] at h
  obtain ⟨rfl,h2,h3,h4,h5⟩:=h
  exact ⟨q,hq,h2,h3,h4,h5⟩
 ·cases h
abbrev Ni (br:Nat) (sl:Value) (p k n m:Nat):Value->List Item->ae->Prop:=fun v I' S'=>∃ p',p'<=p+k/\I'=[rdI br sl p']/\∃ q,RdSl S' 4 (RdT S') v q/\LightT n m q/\Vq q
section
variable {br:Nat} {sl:Value} {ys:List Nat} {S:ae}
attribute [local irreducible] Run CondV ar aI
theorem ki {s:ByteArray} (h:LD s=true):Tri Tryz.prog yr [.string s] [] S fun v I' S'=>I'=[]/\∃ u q,v=.tuple #[u,.bool true]/\RdSl S' 4 (RdT S') u q/\LightT 6 300 q/\Vq q:=by
 intro w hI
 obtain ⟨q,hq,hqv,hqw,hs,hq0⟩:=KP h
 have hql:=Ir hqv
 have hbs:(bs s).length=s.size:=(gj (bs s)).symm
 refine mQ.2 ?_
 dsimp only[mQ,aE]
 refine eQ aF ?_
 refine gP (by omega) ?_
 refine av (fun hb=>by cases hb) (fun _=>?_)
 refine Run.call0E uo rH hI (p6 (i:=0) hq (Nat.le_trans (Nat.le_of_eq hbs) (by omega)) (Nat.zero_le _)) fun v I' S1 w'=>?_
 rintro ⟨rfl,u,rfl,hu⟩ hE1 hI
 have hI:Inv w [] [] S1 w':=hI
 refine ai (v:=u) rfl ?_
 refine ai (v:=.int .i64 (s.size:Int)) rfl ?_
 refine ⟨fun t w'=>t=.bool false/\Inv w [] [] S1 w',?_,?_⟩
 ·refine eQ aF ?_
  refine dt ?_
  rw [decide_eq_true rfl]
  refine rpG ?_
  refine Run.callPure xu xw hI (rh hu (by omega)) fun w' hI=>?_
  rw [hqv]
  refine bW ?_
  refine rpG ?_
  exact ⟨rfl,hI⟩
 intro t25 _ _ _ _ _ _ _ _ w'
 rintro ⟨rfl,hI⟩
 refine av (fun hb=>by cases hb) (fun _=>?_)
 refine dG hI bj fun v0 w' hI=>?_
 refine ⟨fun a b w'=>∃ (j:Nat) (S2:ae) (css:List (List Value)),a=.int .i64 (j:Int)/\j<=q.length/\Ext w.heap.size [] S S2/\Sle S1 S2/\Rows 4 (RdT S2) css (q.take j)/\Inv w [] [aP b ab 4 css] S2 w',
  fun a _ _=>q.length - (intOf a).toNat,⟨0,S1,[],rfl,Nat.zero_le _,hE1,Sle.refl _,Rows.nil _ _,hI⟩,?_⟩
 intro t7 _ _ t6 _ _ _ _ _ _ _ _ _ _ _ _ w'
 rintro ⟨j,S2,css,rfl,hj,hE2,hle,hR,hI⟩
 have hu:=hu.monoT hle
 have hcl:=hR.hc
 refine aK hu ah ?_
 refine bD ?_
 refine aN (fun hji=>?_) (fun hji=>?_)
 ·have hj':j<q.length:=by omega
  have hm:=kM (List.getElem_mem hj')
  have htk:(q.take j).length=j:=by rw [List.length_take]; omega
  refine bP hI hu ah ac hj' (fun _ _=>RdT.length) fun cs hcs=>?_
  refine Run.call0E eD eC hI (fu _ S2 cs hcs (by omega)) fun v' I' S3 w'=>?_
  rintro ⟨rfl,ds,M,rfl,rfl,hT⟩ hE3 hI
  obtain ⟨S3,hI,hE3,hins⟩:=hI.pubExt
  have hr3:=hT.rd hins
  refine fU (css:=css) hI 0 ds bj (by omega) (by omega) rfl hr3.length hr3.one (by omega) (by omega) fun v' w' hI=>?_
  refine bm (by omega) ?_
  exact ⟨⟨j+1,S3,_,rfl,hj',hE2.trans hE3,hle.trans hE3.1,by rw [List.take_succ_eq_append_getElem hj']; exact (hR.monoR fun _ _ h=>RdT.mono hE3.1 h).snoc hr3 hr3.length,hI⟩,by simp [intOf]; omega⟩
 ·have:j=q.length:=by omega
  subst this
  rw [List.take_length] at hR
  obtain ⟨S3,hE3,hI,hr⟩:=JW hI hR
  exact ⟨_,[],S3,rfl,hI,hE2.trans hE3,rfl,_,q,rfl,hr,⟨hql,fun t ht=>by have:=kM ht; omega⟩,hqv,hq0⟩
theorem uO (S:ae):Tri Tryz.prog Ab [] [] S fun v I' S'=>I'=[]/\∃ l,RdSl S' 1 iQ v l/\0<l.length/\l.all LD=true:=by
 intro w hI
 refine nF.2 ?_
 dsimp only[nF,wS]
 refine fh hI (by kernel_rfl) rfl (by omega) fun v S1 w' hE1 hv hI=>?_
 exact ⟨_,[],S1,rfl,hI,hE1,rfl,_,hv,by decide,by decide +kernel⟩
theorem zD {p:Nat} (hrd:RdSl S 1 jd sl ys) (hp:p<=100000000):Tri Tryz.prog En [rdP br] [rdI br sl p] S (Ni br sl p 1 6 300):=by
 intro w hI
 refine tB.2 ?_
 dsimp only[tB,aE]
 refine Run.call0E zi yz hI (uO S) fun v' I' S1 w'=>?_
 rintro ⟨rfl,l,hl,hl0,hok⟩ hE1 hI
 have hI:Inv w [br] [rdI br sl p] S1 w':=hI
 refine aK hl bH ?_
 refine Run.callL bF bE hI (cN (n:=l.length) (hrd.monoU hE1.1) (by omega) hl0) rfl fun v' I' S1 w'=>?_
 rintro ⟨rfl,rfl,k,hk,rfl⟩ _ hI
 have hI:Inv w [br] [rdI br sl (p+1)] S1 w':=hI
 refine eX hI hl bH aC hk (fun cs hcs=>hcs) ?_
 rw [List.all_eq_true] at hok
 refine Run.call0E mJ mL hI (ki (hok _ (List.getElem_mem hk))) fun v I' S2 w'=>?_
 rintro ⟨rfl,u,q,rfl,hu,hq⟩ hE2 hI
 refine ai (v:=u) rfl ?_
 refine ai (v:=.bool true) rfl ?_
 exact ⟨_,_,S2,rfl,hI,hE1.trans hE2,p+1,Nat.le_refl _,rfl,q,hu,hq⟩
abbrev Ok (br:Nat) (sl:Value) (p k:Nat):Value->List Item->ae->Prop:=fun v I' S'=>∃ p',p'<=p+k/\I'=[rdI br sl p']/\∃ u g ps q,v=.tuple #[u,g]/\RdSl S' 5 (RdC S') u ps/\Light 8 200 ps/\0<ps.length/\(∀ c∈ps,dg c=true)/\RdSl S' 4 (RdT S') g q/\LightT 6 300 q/\Vq q
theorem A6 {p:Nat} (hrd:RdSl S 1 jd sl ys) (hp:p<=10000000):Tri Tryz.prog HA [rdP br] [rdI br sl p] S (Ok br sl p 5):=by
 intro w hI
 refine wn.2 ?_
 dsimp only[wn,aE]
 refine Run.call0E rz sB hI (pQ S) fun v' I' S1 w'=>?_
 rintro ⟨rfl,l,hl,hl11,hok⟩ hE1 hI
 have hI:Inv w [br] [rdI br sl p] S1 w':=hI
 refine aK hl bH ?_
 refine Run.callL bF bE hI (cN (n:=l.length) (hrd.monoU hE1.1) (by omega) (by omega)) rfl fun v' I' S1 w'=>?_
 rintro ⟨rfl,rfl,k,hk,rfl⟩ _ hI
 have hI:Inv w [br] [rdI br sl (p+1)] S1 w':=hI
 refine eX hI hl bH aC hk (fun cs hcs=>hcs) ?_
 rw [List.all_eq_true] at hok
 refine Run.call0E kr kI hI (Co (hok _ (List.getElem_mem hk))) fun v I' S2 w'=>?_
 rintro ⟨u,css,ps,rfl,rfl,hR,h0,hps,hpv⟩ hE2 hI
 have hI:Inv w [br] [aP u aQ 5 css,rdI br sl (p+1)] S2 w':=hI.last 0 rfl
 obtain ⟨T0,hE3,hI,hr⟩:=Ec hI hR
 refine ai (v:=u) rfl ?_
 refine ai (v:=.bool true) rfl ?_
 have F0:Ext w.heap.size [br] S T0:=(hE1.trans hE2).trans hE3
 refine fh hI (by kernel_rfl) rfl (by omega) fun v1 T1 w' G1 h1 hI=>?_
 have F1:=F0.trans G1
 refine fh hI (by kernel_rfl) rfl (by omega) fun v2 T2 w' G2 h2 hI=>?_
 have F2:=F1.trans G2
 refine fh hI (by kernel_rfl) rfl (by omega) fun v3 T3 w' G3 h3 hI=>?_
 have F3:=F2.trans G3
 refine fh hI (by kernel_rfl) rfl (by omega) fun v4 T4 w' G4 h4 hI=>?_
 have F4:=F3.trans G4
 refine fh hI (by kernel_rfl) rfl (by omega) fun v5 T5 w' G5 h5 hI=>?_
 have F5:=F4.trans G5
 refine fh hI (by kernel_rfl) rfl (by omega) fun v6 T6 w' G6 h6 hI=>?_
 have F6:=F5.trans G6
 refine fh hI (by kernel_rfl) rfl (by omega) fun v7 T7 w' G7 h7 hI=>?_
 have F7:=F6.trans G7
 refine fh hI (by kernel_rfl) rfl (by omega) fun v8 T8 w' G8 h8 hI=>?_
 have F8:=F7.trans G8
 refine fh hI (by kernel_rfl) rfl (by omega) fun v9 T9 w' G9 h9 hI=>?_
 have F9:=F8.trans G9
 refine fh hI (by kernel_rfl) rfl (by omega) fun v10 T10 w' G10 h10 hI=>?_
 have F10:=F9.trans G10
 refine fh hI (by kernel_rfl) rfl (by omega) fun v11 T11 w' G11 h11 hI=>?_
 have F11:=F10.trans G11
 refine od (v:=fun b=>.slice (some ⟨b,0,none⟩) 11 11) (o:=.cells #[v1,v2,v3,v4,v5,v6,v7,v8,v9,v10,v11] vq) hI ?_ fun b w' hI=>?_
 ·obtain ⟨a1,c1,rfl,_⟩:=id h1; obtain ⟨a2,c2,rfl,_⟩:=id h2; obtain ⟨a3,c3,rfl,_⟩:=id h3; obtain ⟨a4,c4,rfl,_⟩:=id h4; obtain ⟨a5,c5,rfl,_⟩:=id h5; obtain ⟨a6,c6,rfl,_⟩:=id h6; obtain ⟨a7,c7,rfl,_⟩:=id h7; obtain ⟨a8,c8,rfl,_⟩:=id h8; obtain ⟨a9,c9,rfl,_⟩:=id h9; obtain ⟨a10,c10,rfl,_⟩:=id h10; obtain ⟨a11,c11,rfl,_⟩:=id h11; kernel_rfl
 obtain ⟨T12,hI,G12,hS⟩:=Inv.pub1 (A:=[rdI br sl (p+1)]) hI
 have F12:=F11.trans G12
 have L11:=G12.1
 have L10:=G11.1.trans L11
 have L9:=G10.1.trans L10
 have L8:=G9.1.trans L9
 have L7:=G8.1.trans L8
 have L6:=G7.1.trans L7
 have L5:=G6.1.trans L6
 have L4:=G5.1.trans L5
 have L3:=G4.1.trans L4
 have L2:=G3.1.trans L3
 have L1:=G2.1.trans L2
 have hsel:∃ v l,(#[v1,v2,v3,v4,v5,v6,v7,v8,v9,v10,v11]:Array Value)[0+k * 1]?=some v/\RdSl T12 1 iQ v l/\0<l.length/\l.all LD=true:=by
  have hk:k<11:=by omega
  match k,hk with
  | 0,_=>exact ⟨v1,_,rfl,h1.monoS L1,by decide,by decide +kernel⟩
  | 1,_=>exact ⟨v2,_,rfl,h2.monoS L2,by decide,by decide +kernel⟩
  | 2,_=>exact ⟨v3,_,rfl,h3.monoS L3,by decide,by decide +kernel⟩
  | 3,_=>exact ⟨v4,_,rfl,h4.monoS L4,by decide,by decide +kernel⟩
  | 4,_=>exact ⟨v5,_,rfl,h5.monoS L5,by decide,by decide +kernel⟩
  | 5,_=>exact ⟨v6,_,rfl,h6.monoS L6,by decide,by decide +kernel⟩
  | 6,_=>exact ⟨v7,_,rfl,h7.monoS L7,by decide,by decide +kernel⟩
  | 7,_=>exact ⟨v8,_,rfl,h8.monoS L8,by decide,by decide +kernel⟩
  | 8,_=>exact ⟨v9,_,rfl,h9.monoS L9,by decide,by decide +kernel⟩
  | 9,_=>exact ⟨v10,_,rfl,h10.monoS L10,by decide,by decide +kernel⟩
  | 10,_=>exact ⟨v11,_,rfl,h11.monoS L11,by decide,by decide +kernel⟩
 obtain ⟨vk,lk,hcell,hlk,hlk0,hokq⟩:=hsel
 refine ay (k:=1) Ea (by omega) ?_
 refine dd I0 ((hI.cellS hS).trans hcell) ?_
 refine Run.callL bF bE hI (cN (n:=5) (hrd.monoU F12.1) (by omega) (by omega)) rfl fun v' I' S3 w'=>?_
 rintro ⟨rfl,rfl,k5,hk5,rfl⟩ _ hI
 have hI:Inv w [br] [rdI br sl (p+2)] S3 w':=hI
 have hr:=hr.monoC (G1.1.trans L1)
 refine bh ?_
 refine aN (fun _=>?_) (fun _=>?_)
 ·refine Run.callL CC DO hI (zD (hrd.monoU F12.1) (by omega)) rfl fun v' I' S4 w'=>?_
  rintro ⟨p3,hp3,rfl,q,hq,hlq⟩ hE4 hI
  exact ⟨_,_,S4,rfl,hI,F12.trans hE4,p3,by omega,rfl,_,_,ps,q,rfl,hr.monoC hE4.1,hps,h0,hpv,hq,hlq⟩
 ·refine aK hlk bH ?_
  refine Run.callL bF bE hI (cN (n:=lk.length) (hrd.monoU F12.1) (by omega) hlk0) rfl fun v' I' S3 w'=>?_
  rintro ⟨rfl,rfl,k6,hk6,rfl⟩ _ hI
  have hI:Inv w [br] [rdI br sl (p+3)] S3 w':=hI
  refine eX hI hlk bH aC hk6 (fun cs hcs=>hcs) ?_
  rw [List.all_eq_true] at hokq
  refine Run.call0E mJ mL hI (ki (hokq _ (List.getElem_mem hk6))) fun v I' S4 w'=>?_
  rintro ⟨rfl,g,q,rfl,hg,hlq⟩ hE4 hI
  refine ai (v:=g) rfl ?_
  refine ai (v:=.bool true) rfl ?_
  exact ⟨_,_,S4,rfl,hI,F12.trans hE4,p+3,by omega,rfl,u,g,ps,q,rfl,hr.monoC hE4.1,hps,h0,hpv,hg,hlq⟩
end
end
section
open Go Go.RowKit
def RdO (S:ae) (cs:List Value):Option T->Prop
 | none=>cs=j3
 | some t=>RdT S cs t
theorem RdO.length {S:ae} {cs:List Value}:∀ {x:Option T},RdO S cs x->cs.length=4
 | none,h=>by rw [h]; rfl
 | some _,h=>RdT.length h
theorem RdO.one {S:ae} {cs:List Value}:∀ {x:Option T},RdO S cs x->∀ u∈cs,u.oneCell'=true
 | none,h=>by rw [h]; simp [j3,Value.oneCell']
 | some _,h=>RdT.one h
theorem RdO.mono {S S':ae} {cs:List Value} (hs:Sle S S'):∀ {x:Option T},RdO S cs x->RdO S' cs x
 | none,h=>h
 | some _,h=>RdT.mono hs h
theorem KnU.rdO {S:ae} {c:Array Value} {st:aG} (h:KnU S c st) (i:Nat) (hi:i<st.length):RdO S (aL c (i * 4) 4) st[i]:=by
 cases hs:st[i] with
 | none=>exact (h.2 i hi).1 hs
 | some t=>exact (h.2 i hi).2 t hs
theorem KnU.of {S:ae} {c:Array Value} {st:aG} (hs:st.length * 4<=c.size) (h:∀ i (hi:i<st.length),RdO S (aL c (i * 4) 4) st[i]):KnU S c st:=
 ⟨hs,fun i hi=>⟨fun e=>by have:=h i hi; rw [e] at this; exact this,fun t e=>by have:=h i hi; rw [e] at this; exact this⟩⟩
theorem KnU.rd {S S':ae} {c:Array Value} {st:aG} {b cap:Nat} {E:TypeId} {fz:Nat × Nat} (h:KnU S c st) (hS:S' b=some (.cells c E fz)) (h1:st.length<=cap) (h2:cap<=maxLen):RdSl S' 4 (RdO S) (.slice (some ⟨b,0,none⟩) st.length cap) st:=
 ⟨_,cap,rfl,h1,h2,.inr ⟨b,0,c,E,fz,rfl,hS,fun i hi=>by rw [Nat.zero_add]; exact h.rdO i hi⟩⟩
theorem Rows.knu {S:ae} {css:List (List Value)} {st:aG} {c:Array Value} (h:Rows 4 (RdO S) css st) (hs:st.length * 4<=c.size) (hc:c.toList.take (css.length * 4)=css.flatten):KnU S c st:=by
 refine KnU.of hs fun i hi=>?_
 have hcy:=h.hc
 have:=fP 4 css i h.hk (by omega)
 rw [<- hc,List.drop_take,List.take_take,Nat.min_eq_left (by omega)] at this
 rw [aL,this]
 exact h.hR i hi (by omega)
section
variable {w w0:World} {X:List Nat} {A:List Item} {S:ae}
theorem Inv.tab {v:Value} {e:TypeId} {css:List (List Value)} {S1:ae} {st:aG} (h:Inv w0 X (A++[aP v e 4 css]) S w) (hR:Rows 4 (RdO S1) css st) (h0:0<st.length) :
  ∃ g cap cur,v=kvU g st.length cap/\st.length<=cap/\cap<=maxLen/\KnU S1 cur st/\Inv w0 X (A++[.blk g (.cells cur e)]) S w:=by
 have hcy:=hR.hc
 obtain ⟨hl,ho⟩:=Inv.openRow h
 rcases ho with ⟨rfl,h1⟩|⟨g,cap,cur,rfl,hnc,hcm,hcs,ht,hI⟩
 ·omega
 ·rw [hcy] at hnc
  exact ⟨g,cap,cur,by rw [hcy],hnc,hcm,hR.knu (by rw [hcs]; exact Nat.mul_le_mul_right 4 hnc) ht,hI⟩
end
end
section
open Go Go.RowKit
def js:List Int->Int->Int
 | [],m=>m
 | x::xs,m=>js xs (if m<=x then x+1 else m)
def gO (c:C):Int:=js (cB (c.head::c.body) []) 0
theorem vA:∀ (l:List Int) (m:Int),m<=js l m/\∀ x∈l,x<js l m
 | [],m=>⟨Int.le_refl _,fun _ h=>by cases h⟩
 | y::l,m=>by
  have hm:m<=(if m<=y then y+1 else m)/\y<(if m<=y then y+1 else m):=by split <;> omega
  rw [js]
  generalize (if m<=y then y+1 else m)=m' at hm ⊢
  obtain ⟨h1,h2⟩:=vA l m'
  refine ⟨by omega,fun x hx=>?_⟩
  rcases List.mem_cons.1 hx with rfl|hx
  ·omega
  ·exact h2 x hx
theorem Cd (N:Int):∀ (l:List Int) (m:Int),m<=N->(∀ x∈l,x<N)->js l m<=N
 | [],m,h,_=>h
 | y::l,m,h,hx=>by
  rw [js]
  refine Cd N l _ ?_ fun x h=>hx x (List.mem_cons_of_mem _ h)
  have:=hx y (List.mem_cons_self ..)
  split <;> omega
section
attribute [local irreducible] Run CondV ar aI
theorem DQ {ts:List T} {S:ae} {v:Value} (h:RdSl S 4 (RdT S) v ts) (hw:ts.length+wL ts<=1048577):Tri Tryz.prog H4 [v] [] S (EY S (cB ts [])):=by
 intro w hI
 have hlen:=h.le
 simp only [maxLen] at hlen
 have hcl:=DA ts
 refine wu.2 ?_
 dsimp only[wu,aE]
 refine dG hI o7 fun v0 w' hI=>?_
 refine ⟨fun i t w'=>∃ (j:Nat) (l:List Int),j<=ts.length/\i=.int .i64 j/\cB (ts.drop j) l=cB ts []/\l.length+cL (ts.drop j)<=3000000/\Inv w [] [fY t l] S w',
  fun i _ _=>ts.length - (intOf i).toNat,⟨0,[],Nat.zero_le _,rfl,rfl,by simp only [List.drop_zero,List.length_nil]; omega,hI⟩,?_⟩
 intro t4 _ _ t3 _ _ _ _ _ _ _ _ _ _ w'
 rintro ⟨j,l,hj,rfl,hvs,hl,hI⟩
 refine aK h ah ?_
 refine bD ?_
 refine aN (fun hji=>?_) (fun hji=>?_)
 ·have hj':j<ts.length:=by omega
  rw [qU ts j hj'] at hl
  rw [Fg ts j hj'] at hvs
  have hc1:=dS (ts.drop (j+1))
  have hc2:=lS ts[j] l
  refine bP hI h ah ac hj' (fun _ _=>RdT.length) fun cs' hcs'=>?_
  refine Run.call (A:=[]) iy ir hI (ja _ S cs' t3 l hcs' (by omega)) fun v' I' S' w'=>?_
  rintro ⟨rfl,rfl⟩ _ hI
  refine bm (by omega) ?_
  exact ⟨⟨j+1,_,hj',rfl,hvs,by omega,hI⟩,by simp [intOf]; omega⟩
 have:j=ts.length:=by omega
 subst this
 rw [List.drop_length,cB] at hvs
 subst hvs
 exact ⟨_,_,_,rfl,hI,Ext.refl _ _ _,rfl,rfl⟩
theorem AP {c:C} {S:ae} {cs:List Value} (h:RdC S cs c) (hw:wC c<=1048576) (hx:∀ x∈cB (c.head::c.body) [],0<=x/\x<1000000) :
  Pure Tryz.prog Fe [.agg cs.toArray] S (.int .i64 (gO c)):=by
 intro w hI
 obtain ⟨hd,ks,rfl,h1,h2⟩:=h
 have h1':=h1
 obtain ⟨kv,rfl,g1,g2,g3,g4⟩:=RdT.iff.1 h1
 have hlen:=h2.le
 simp only [maxLen] at hlen
 unfold wC at hw
 refine rW.2 ?_
 dsimp only[rW,aE]
 refine be hI fun b1 w' hI=>?_
 refine ao dA ?_
 refine b0 hI 0 [.int .i64 c.head.kind,.int .i64 c.head.n,.string c.head.name,kv] ac rfl rfl MA ?_
 refine dH hI bj (by simp [Value.cells]) (by omega) (by omega) fun b7 w' hI=>?_
 refine ad hI 0 rfl cC al rfl ?_
 have hI:=Inv.closeRow (A:=[_]) (cap:=1) (k:=4) (n:=1) hI (by omega) (by simp [maxLen]) (by simp [Value.cells])
 refine dI hI 1 (css:=[[.int .i64 c.head.kind,.int .i64 c.head.n,.string c.head.name,kv]]) bj (by omega) rfl h2 (fun _ _=>RdT.length) (fun _ _=>RdT.one) (by simp; omega) (by omega) fun v' w' css2 hR hI=>?_
 have hR:=(Rows.one h1' h1'.length).append hR
 obtain ⟨S1,hle1,hrd,hI,_⟩:=Inv.lend (A:=[_]) hI
 have hts:RdSl S1 4 (RdT S1) v' (c.head::c.body):=(RowRd.rows hR hrd).mono (Sle.refl _) fun _ _ h=>h.mono hle1
 refine Run.call0 FX E7 hI (DQ hts (by simp only [wL,List.length_cons]; omega)) fun v11 I' S' w'=>?_
 rintro ⟨rfl,rfl⟩ _ hI
 rw [gO]
 generalize cB (c.head::c.body) []=vs at hI hx ⊢
 obtain ⟨S2,hle2,hrd,hI,_⟩:=Inv.lend (A:=[_]) hI
 have hrd:=hrd.ints
 have hvl:=hrd.le
 simp only [maxLen] at hvl
 refine ⟨fun i t w'=>∃ (j:Nat) (m:Int),j<=vs.length/\i=.int .i64 j/\t=.int .i64 m/\js (vs.drop j) m=js vs 0/\Inv w [] [.blk b1 (.cells #[.int .i64 c.head.kind,.int .i64 c.head.n,.string c.head.name,kv,ks] aQ)] S2 w',
  fun i _ _=>vs.length - (intOf i).toNat,⟨0,0,Nat.zero_le _,rfl,rfl,rfl,hI⟩,?_⟩
 intro t5 _ _ t4 _ _ _ _ _ _ _ _ _ _ _ _ _ _ _ w'
 rintro ⟨j,m,hj,rfl,rfl,hvs,hI⟩
 refine aK hrd cW ?_
 refine bD ?_
 refine aN (fun hji=>?_) (fun hji=>?_)
 ·have hj':j<vs.length:=by omega
  obtain ⟨hx0,hx1⟩:=hx _ (List.getElem_mem hj')
  rw [List.drop_eq_getElem_cons hj',js] at hvs
  refine ⟨fun t w'=>t=.int .i64 (if m<=vs[j] then vs[j]+1 else m)/\Inv w [] [.blk b1 (.cells #[.int .i64 c.head.kind,.int .i64 c.head.n,.string c.head.name,kv,ks] aQ)] S2 w',?_,?_⟩
  ·refine eX hI hrd cW aw hj' (fun cs hcs=>hcs) ?_
   refine iu ?_
   refine aN (fun he=>?_) (fun he=>?_)
   ·refine eX hI hrd cW aw hj' (fun cs hcs=>hcs) ?_
    refine bm (by omega) ?_
    exact ⟨by rw [if_pos (by omega)],hI⟩
   ·exact ⟨by rw [if_neg (by omega)],hI⟩
  intro t4' _ _ _ _ _ _ _ _ _ _ _ w'
  rintro ⟨rfl,hI⟩
  refine bm (by omega) ?_
  exact ⟨⟨j+1,_,hj',rfl,rfl,hvs,hI⟩,by simp [intOf]; omega⟩
 have:j=vs.length:=by omega
 subst this
 rw [List.drop_length,js] at hvs
 subst hvs
 exact ⟨rfl,((hI.less hle2).less hle1).pick [false]⟩
end
end
section
open Go Go.RowKit
def RdG (S:ae) (cs:List Value) (g:T × Int):Prop:=∃ hd,cs=hd++[.int .i64 g.2]/\RdT S hd g.1
theorem RdG.length {S:ae} {cs:List Value} {g:T × Int} (h:RdG S cs g):cs.length=5:=by
 obtain ⟨hd,rfl,h⟩:=h; simp [h.length]
theorem RdG.one {S:ae} {cs:List Value} {g:T × Int} (h:RdG S cs g):∀ u∈cs,u.oneCell'=true:=by
 obtain ⟨hd,rfl,h⟩:=h
 intro u hu
 rcases List.mem_append.1 hu with hu|hu
 ·exact h.one u hu
 ·rw [List.mem_singleton] at hu; subst hu; rfl
theorem RdG.mono {S S':ae} {cs:List Value} {g:T × Int} (hs:Sle S S') (h:RdG S cs g):RdG S' cs g:=by
 obtain ⟨hd,rfl,h⟩:=h; exact ⟨hd,rfl,h.mono hs⟩
theorem RdSl.monoG {S S':ae} {v:Value} {gs:List (T × Int)} (hs:Sle S S') (h:RdSl S 5 (RdG S) v gs):RdSl S' 5 (RdG S') v gs:=h.mono hs fun _ _=>RdG.mono hs
section
variable {w:World} {K:Value->World->Prop}
attribute [local irreducible] Run
theorem FR {a b k:Int} {s:ByteArray} {x:Value} (hk:K (.agg #[.int .i64 a,.int .i64 b,.string s,x,.int .i64 k]) w) :
  Run Tryz.prog (bI g7 [(0,.agg #[.int .i64 a,.int .i64 b,.string s,x]),(1,.int .i64 k)]) w K:=by
 refine Run.of (v:=.agg #[.int .i64 a,.int .i64 b,.string s,x,.int .i64 k]) (w':=w) ?_ hk
 unfold bI
 rw [Sem.run_bind,run_build w g7 _ #[.int .i64 a,.int .i64 b,.string s,x,.int .i64 k] (by kernel_rfl),Result.andThen_ok]
 rfl
end
section
attribute [local irreducible] Run CondV ar aI
abbrev LY (gs:List (T × Int)):Value->List Item->ae->Prop:=fun q I' S'=>I'=[]/\RdSl S' 5 (RdG S') q gs
theorem qr {N:Nat} (hN:N<=1000000) (m:Int) (hm0:0<=m) (hm1:m<=1000000) (k:Int) {ts:List T} {rest:List (T × Int)} {S:ae} {v vr:Value} (h:RdSl S 4 (RdT S) v ts) (hr:RdSl S 5 (RdG S) vr rest)
  (ho:∀ t∈ts,okU N t/\wT t<=1048576) (hl:ts.length<=1000000) (hlr:rest.length<=1000000000) :
  Tri Tryz.prog wy [v,.int .i64 m,.int .i64 k,vr] [] S (LY (ts.map (fun t=>(bT m t,k))++rest)):=by
 intro w hI
 refine rQ.2 ?_
 dsimp only[rQ,JL]
 refine dG hI nE fun v0 w' hI=>?_
 refine ⟨fun i t w'=>∃ (j:Nat) (css:List (List Value)) (S1:ae),j<=ts.length/\i=.int .i64 j/\Ext w.heap.size [] S S1/\Rows 5 (RdG S1) css ((ts.take j).map (fun t=>(bT m t,k)))/\Inv w [] [aP t g7 5 css] S1 w',
  fun i _ _=>ts.length - (intOf i).toNat,⟨0,[],S,Nat.zero_le _,rfl,Ext.refl _ _ _,Rows.nil _ _,hI⟩,?_⟩
 intro t10 _ _ t9 _ _ _ _ _ _ _ _ _ _ _ _ _ _ _ w'
 rintro ⟨j,css,S1,hj,rfl,hE,hR,hI⟩
 have hcl:=hR.hc
 rw [List.length_map,List.length_take,Nat.min_eq_left hj] at hcl
 refine aK h ah ?_
 refine bD ?_
 refine aN (fun hji=>?_) (fun hji=>?_)
 ·have hj':j<ts.length:=by omega
  obtain ⟨ho1,ho2⟩:=ho _ (List.getElem_mem hj')
  refine bP hI (h.monoT hE.1) ah ac hj' (fun _ _=>RdT.length) fun cs hcs=>?_
  refine Run.call0E mx mn hI (pM hN m hm0 hm1 _ S1 cs hcs ho1 ho2) fun v' I' S' w'=>?_
  rintro ⟨eS,cs',L,rfl,rfl,hT⟩ _ hI
  rw [eS] at hI
  obtain ⟨S2,hI,hE2,hins⟩:=hI.pubExt
  have hrd:=hT.rd hins
  have hrd0:=hrd
  obtain ⟨kv,rfl,_⟩:=RdT.iff.1 hrd
  refine FR ?_
  have hG:RdG S2 [.int .i64 (bT m ts[j]).kind,.int .i64 (bT m ts[j]).n,.string (bT m ts[j]).name,kv,.int .i64 k] (bT m ts[j],k):=⟨_,rfl,hrd0⟩
  refine fU hI 0 [.int .i64 (bT m ts[j]).kind,.int .i64 (bT m ts[j]).n,.string (bT m ts[j]).name,kv,.int .i64 k] nE (by omega) (by omega) rfl rfl hG.one (by omega) (by omega) fun v' w' hI=>?_
  refine bm (by omega) ?_
  refine ⟨⟨j+1,_,S2,hj',rfl,hE.trans hE2,?_,hI⟩,by simp [intOf]; omega⟩
  rw [List.take_succ_eq_append_getElem hj',List.map_append]
  exact (hR.monoR fun _ _ h=>h.mono hE2.1).snoc hG rfl
 have:j=ts.length:=by omega
 subst this
 rw [List.take_length] at hR
 refine dI hI 0 (css:=css) nE (by omega) rfl (hr.monoG hE.1) (fun _ _=>RdG.length) (fun _ _=>RdG.one) (by omega) (by omega) fun v' w' css2 hR2 hI=>?_
 obtain ⟨S3,hE3,hrd,hI⟩:=Inv.lendExt (A:=[]) hI
 exact ⟨_,_,_,rfl,hI,hE.trans hE3,rfl,RowRd.rows ((hR.append hR2).monoR fun _ _ h=>h.mono hE3.1) hrd⟩
end
end
section
open Go Go.RowKit

def KnownM (S:ae) (es:Array MapEntry) (st:aG):Prop:=
 (∀ e∈es.toList,∃ (n:Nat) (t:T) (cs:List Value),e.key=.int .i64 n/\e.val=.agg cs.toArray/\RdT S cs t/\st[n]?=some (some t))/\(∀ (n:Nat) (t:T),st[n]?=some (some t)->∃ e∈es.toList,e.key=.int .i64 n)/\(es.toList.map (·.key)).Nodup
theorem KnownM.push {S:ae} {es:Array MapEntry} {st:aG} (h:KnownM S es st) {n:Nat} (hn:n<st.length) (hno:∀ t,st[n]?≠some (some t)) {cs:List Value} {u:T} (hu:RdT S cs u) (ck:Nat) :
  KnownM S (es.push { key:=.int .i64 n,val:=.agg cs.toArray,born:=ck }) (st.set n (some u)):=by
 refine ⟨fun e he=>?_,fun m t ht=>?_,?_⟩
 ·rw [Array.toList_push] at he
  rcases List.mem_append.1 he with he|he
  ·obtain ⟨m,t,cs',hk,hv,hR,hs⟩:=h.1 e he
   refine ⟨m,t,cs',hk,hv,hR,?_⟩
   have:n≠m:=fun e=>hno t (by rw [e]; exact hs)
   rw [List.getElem?_set_ne this]
   exact hs
  ·simp at he
   subst he
   exact ⟨n,u,cs,rfl,rfl,hu,by rw [List.getElem?_set_self hn]⟩
 ·rw [Array.toList_push]
  by_cases e:n=m
  ·exact ⟨_,List.mem_append_right _ (List.mem_singleton.2 rfl),by rw [e]⟩
  ·rw [List.getElem?_set_ne e] at ht
   obtain ⟨x,hx,hk⟩:=h.2.1 m t ht
   exact ⟨x,List.mem_append_left _ hx,hk⟩
 ·rw [Array.toList_push,List.map_append,List.nodup_append]
  refine ⟨h.2.2,by simp,fun a ha b hb e=>?_⟩
  simp only [List.map_cons,List.map_nil,List.mem_singleton] at hb
  subst hb
  obtain ⟨x,hx,rfl⟩:=List.mem_map.1 ha
  obtain ⟨m,t,cs',hk,_,_,hs⟩:=h.1 x hx
  rw [hk] at e
  simp only [Value.int.injEq,true_and] at e
  have:m=n:=by omega
  subst this
  exact hno t hs
section
attribute [local irreducible] Run CondV ar aI
end
end
section
open Go Go.RowKit

def st0:aG:=List.replicate 26 none
theorem KnownM.empty (S:ae):KnownM S #[] st0:=by
 refine ⟨by simp,fun n t ht=>?_,by simp⟩
 rw [st0,List.getElem?_replicate] at ht
 split at ht <;> cases ht
section
variable {P:Program} {w w0:World} {X:List Nat} {L:List Item} {S:ae} {K:Value->World->Prop}
attribute [local irreducible] Run CondV ar aI
theorem CS (h:Inv w0 X L S w) {T ty e:TypeId} {k by_ n:Nat} {z:Value} (hT:fb P T=some (e,k,by_,z)) (hn:n<=4294967296) (hby:by_<=65536) (hn0:n * k≠0)
  (hk:∀ b w',Inv w0 X (L++[.blk b (.cells ((Array.range (n * k)).map (z.cells[· % z.cells.size]!)) e)]) S w'->K (.slice (some ⟨b,0,none⟩) n n) w') :
  Run P (sOp (.makeSlice T (.const (.int .i64 n)) (.const (.int .i64 n))) ty) w K:=by
 obtain ⟨hu,i,hi,hz,hs,hb,hzs⟩:=gZ hT
 have hw:IntKind.i64.wrap (n:Int)=n:=IntWalk.i64_in _ (by omega)
 have hle:by_ * n<=2 ^ 48:=Nat.le_trans (Nat.mul_le_mul hby hn) (by decide)
 have h1:¬ ((n:Int)<0):=by omega
 have h2:¬ (281474976710656<(i.bytes:Int) * (n:Int)):=by
  rw [hb]
  have:((by_ * n:Nat):Int)<=((2 ^ 48:Nat):Int):=by exact_mod_cast hle
  have e:(((2 ^ 48:Nat)):Int)=281474976710656:=by decide
  rw [e,Int.natCast_mul] at this
  omega
 refine Run.of (v:=.slice (some ⟨w.heap.size,0,none⟩) n n) (w':={ w with heap:=w.heap.push (.cells ((Array.range (n * k)).map (z.cells[· % z.cells.size]!)) e) }) ?_ (hk _ _ (h.alloc _))
 simp [sOp,execOp,ev0,evE,Instr.makeSlice,run_underlying hu,asInt,asIntOf,typeInfo,hi,hw,h1,h2,sizeOf,hs,newRow,newObj,Sem.run,hn0,zeroValue,hz]
end
section
attribute [local irreducible] Run CondV ar aI
end
end
section
open Go Go.RowKit

section
variable {P:Program} {w w0:World} {X:List Nat} {L:List Item} {S:ae} {K:Value->World->Prop}
attribute [local irreducible] Run CondV ar aI
end
section
attribute [local irreducible] Run CondV ar aI
end
end
section
open Go Go.RowKit
section
variable {P:Program} {w:World} {K:Value->World->Prop}
attribute [local irreducible] Run
end
section
attribute [local irreducible] Run CondV ar aI
end
end
section
open Go Go.RowKit
mutual
theorem Jq (vs:List Int):∀ t:T,wT (fw vs t)=wT t
 | .mk k n s ks=>by rw [fw,wT,wT,uZ,Jt vs ks]
theorem Jt (vs:List Int):∀ ts:List T,wL (kG vs ts)=wL ts
 | []=>rfl
 | t::ts=>by rw [kG,wL,wL,Jq vs t,Jt vs ts]
end
section
attribute [local irreducible] Run CondV ar aI
theorem TrC.zero:TrC [] [.int .i64 0,.int .i64 0,.string ⟨#[]⟩,.slice none 0 0,.slice none 0 0] ⟨⟨0,0,⟨#[]⟩,[]⟩,[]⟩:=
 ⟨[.int .i64 0,.int .i64 0,.string ⟨#[]⟩,.slice none 0 0],.slice none 0 0,[],[],rfl,rfl,TrT.iff.2 ⟨_,rfl,by simp [inI,T.kind],by simp [inI,T.n],by rw [T.name]; decide +kernel,TrSl.nil (by simp [maxLen])⟩,TrSl.nil (by simp [maxLen])⟩
end
end
section
open Go Go.RowKit
section
variable {P:Program} {w:World} {K:Value->World->Prop}
attribute [local irreducible] Run
end
section
attribute [local irreducible] Run CondV ar aI
end
end
section
open Go Go.RowKit
attribute [local irreducible] Run CondV ar aI
end
section
open Go Go.RowKit
attribute [local irreducible] Run CondV ar aI

section
variable {P:Program} {w w0:World} {X:List Nat} {L:List Item} {S:ae} {K:Value->World->Prop}
end
end
section
open Go Go.RowKit
attribute [local irreducible] Run CondV ar aI
end
section
open Go Go.RowKit
attribute [local irreducible] Run CondV ar aI
end
section
open Go Go.RowKit
attribute [local irreducible] Run CondV ar aI
end
section
open Go Go.RowKit
attribute [local irreducible] Run CondV ar aI
end
section
open Go Go.ChangeShapes Go.WideShapes Go.ChangeAt Go.RowKit
section
attribute [local irreducible] Run CondV ar aI
end
theorem two {cs:List Value} (h:cs.length=2):∃ a b,cs=[a,b]:=by
 match cs,h with
 | [a,b],_=>exact ⟨a,b,rfl⟩
end
section
open Go Go.RowKit
section
variable {br:Nat} {sl:Value} {ys:List Nat}
attribute [local irreducible] Run CondV ar aI
theorem Pd.one (x:Pd):∀ u∈x.cells,u.oneCell'=true:=by
 intro u hu
 have hu':u∈([.string x.name,.int .i64 x.arity]:List Value):=hu
 simp at hu'
 rcases hu' with rfl|rfl <;> rfl
end
end
section
open Go Go.ChangeShapes Go.WideShapes Go.ChangeAt Go.RowKit
theorem Qt:Tryz.prog.underlying CX=some (.int .u8):=by kernel_rfl
theorem MP {H:Type} {enc:TypeId × Value->H} {W:World} {sp:Nat->Bool} {held:Bool} {fuel:Nat} {cs:List Value} {x:DataW H × List MemPlace} (h:DataW.trod enc Tryz.prog W 0 sp held fuel CX cs=some x) :
  ∃ n,jd cs n:=by
 cases fuel with
 | zero=>simp [DataW.trod] at h
 | succ n=>
  unfold DataW.trod at h
  rw [Qt] at h
  split at h <;> simp_all
  rename_i k1 k2 m he
  subst he
  obtain ⟨⟨_,h⟩,_⟩:=h
  simp only [Lit.wf,Bool.and_eq_true,decide_eq_true_eq] at h
  have h1:0<=m/\m<=255:=h
  exact ⟨m.toNat,by rw [jd,Int.toNat_of_nonneg (by omega)]; exact ⟨rfl,by omega⟩⟩
theorem za {H:Type} {enc:TypeId × Value->H} {W:World} {sp:Nat->Bool} {held:Bool} {fuel:Nat} {v:Value} {x:DataW H × List MemPlace} (h:DataW.trod enc Tryz.prog W 0 sp held fuel Fu [v]=some x) :
  ∃ ys,RdSl (Eu W) 1 jd v ys:=N8 di (by omega) h fun _ _ _ _ hy=>MP hy
section
variable {w0 w:World} {X:List Nat} {L:List Item} {S:ae} {K:Value->World->Prop}
attribute [local irreducible] Run CondV ar aI
theorem y8 {P:Program} {T:TypeId} {cx cy:Bool} {a b:Bool} (hu:P.underlying T=some .bool) (hk:K (.bool (a == b)) w):Run P (cq .eql T cx cy (.bool a) (.bool b)) w K:=
 Run.of (by
  have he:(Op.equal T (.bool a) (.bool b)).run P w=.ok (a == b) w:=by
   rw [Op.equal,Op.maxDepth,Op.equalIn.eq_def]
   simp [run_underlying hu]
  simp only [cq,binOp,Sem.run_bind,rS,Result.andThen_ok,he,Sem.run_pure]) hk
end
end
end Go.Proofs.YtbocelianhcfmaaGreatDoor
