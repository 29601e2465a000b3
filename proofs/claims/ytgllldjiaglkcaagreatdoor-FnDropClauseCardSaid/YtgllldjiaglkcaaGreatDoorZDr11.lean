/- spec.l4Clause. -/
import Derived.Test.YtgllldjiaglkcaaGreatDoorZDr10
import Derived.Test.YtgllldjiaglkcaaGreatDoorZDr3
import Derived.Test.YtgllldjiaglkcaaGreatDoorZDr2
import Derived.Test.YtgllldjiaglkcaaGreatDoorZDr4
import Derived.Test.YtgllldjiaglkcaaGreatDoorZDr9
import Derived.Test.YtgllldjiaglkcaaGreatDoorZDr5
namespace Go.Proofs.YtgllldjiaglkcaaGreatDoor
section
open Go Go.RowKit
section
variable {br:Nat} {sl:Value} {ys:List Nat}
attribute [local irreducible] Run CondV ai az
end
end
section
open Go Go.RowKit
attribute [local irreducible] Run CondV ai az
end
section
open Go Go.RowKit
attribute [local irreducible] Run CondV ai az

def fh (l:List Pd) (ts:List T):List Pd:=ts.foldl (fun l t=>if cG t=true then jr l (bU t) else l) l
def fL (l:List Pd) (p:List C) (x:Pd):List Pd:=p.foldl (fun l c=>if kB (bU c.head) x=true then fh l c.body else l) l
def ge (p:List C) (x:Pd):List Pd:=fL [] p x
def eK (l m:List Pd):List Pd:=m.foldl jr l
def lT:Nat->List C->List Pd->Nat->List Pd
 | 0,_,l,_=>l
 | n+1,p,l,i=>if h:i<l.length then lT n p (eK l (ge p l[i])) (i+1) else l
def gPs (p:List C):List Pd:=p.flatMap fun c=>c.body.map bU
def rc (p:List C) (l:List Pd):List Pd:=lT (l.length+(gPs p).length) p l 0
theorem yC:∀ (ts:List T) (l:List Pd) (y:Pd),y∈fh l ts->y∈l ∨ y∈ts.map bU
 | [],l,y,h=>.inl h
 | t::ts,l,y,h=>by
  have e:fh l (t::ts)=fh (if cG t=true then jr l (bU t) else l) ts:=rfl
  rw [e] at h
  rcases yC ts _ y h with h|h
  ·split at h
   ·unfold jr at h
    split at h
    ·exact .inl h
    ·rcases List.mem_append.1 h with h|h
     ·exact .inl h
     ·simp at h; subst h; exact .inr (by simp)
   ·exact .inl h
  ·exact .inr (by simp at h ⊢; exact .inr h)
theorem qF (x:Pd):∀ (p:List C) (l:List Pd) (y:Pd),y∈fL l p x->y∈l ∨ y∈gPs p
 | [],l,y,h=>.inl h
 | c::p,l,y,h=>by
  have e:fL l (c::p) x=fL (if kB (bU c.head) x=true then fh l c.body else l) p x:=rfl
  have hG:∀ z,z∈gPs (c::p)↔z∈c.body.map bU ∨ z∈gPs p:=fun z=>by simp only [gPs,List.flatMap_cons,List.mem_append]
  rw [e] at h
  rcases qF x p _ y h with h|h
  ·split at h
   ·rcases yC _ _ _ h with h|h
    ·exact .inl h
    ·exact .inr ((hG y).2 (.inl h))
   ·exact .inl h
  ·exact .inr ((hG y).2 (.inr h))
theorem IG {p:List C} {x y:Pd} (h:y∈ge p x):y∈gPs p:=by
 rcases qF x p [] y h with h|h
 ·simp at h
 ·exact h
def pot (G l:List Pd):Nat:=(G.filter fun g=>!yI l g).length
theorem Pc (G l:List Pd):pot G l<=G.length:=List.length_filter_le ..
theorem uh (l:List Pd) (x g:Pd):yI (l++[x]) g=(yI l g || kB g x):=by simp [yI]
theorem vL (l:List Pd) (x:Pd):∀ G:List Pd,pot G (l++[x])<=pot G l
 | []=>Nat.le_refl _
 | g::G=>by
  have:=vL l x G
  unfold pot at *
  rw [List.filter_cons,List.filter_cons,uh]
  cases yI l g <;> cases kB g x <;> simp <;> omega
theorem vC (l:List Pd) (x:Pd) (hx:yI l x=false):∀ G:List Pd,x∈G->pot G (l++[x])+1<=pot G l
 | g::G,h=>by
  by_cases e:x=g
  ·subst e
   have:=vL l x G
   unfold pot at *
   rw [List.filter_cons,List.filter_cons,uh,hx,lj]
   simp
   omega
  ·have h':x∈G:=by
    rcases List.mem_cons.1 h with h|h
    ·exact absurd h e
    ·exact h
   have:=vC l x hx G h'
   unfold pot at *
   rw [List.filter_cons,List.filter_cons,uh]
   have e2:kB g x=false:=by rw [lj]; exact decide_eq_false fun h=>e h.symm
   rw [e2]
   cases yI l g <;> simp <;> omega
theorem K8 {G l:List Pd} {x:Pd} (hx:x∈G):(jr l x).length+pot G (jr l x)<=l.length+pot G l:=by
 unfold jr
 split
 ·exact Nat.le_refl _
 ·rename_i h
  have:=vC l x (Bool.eq_false_iff.2 h) G hx
  rw [List.length_append,List.length_singleton]
  omega

section
variable {P:Program} {w w0:World} {X:List Nat} {L:List Item} {S:ad} {K:Value->World->Prop}
end
end
section
open Go Go.RowKit
attribute [local irreducible] Run CondV ai az
end
section
open Go Go.RowKit
attribute [local irreducible] Run CondV ai az
end
section
open Go Go.RowKit
attribute [local irreducible] Run CondV ai az
end
section
open Go Go.RowKit
attribute [local irreducible] Run CondV ai az

def eA (l:List Pd) (p:List C):List Pd:=p.foldl (fun l c=>jr l (bU c.head)) l
def xS (p:List C):List Pd:=if co p=true then eA [] p else []
end
section
open Go Go.ChangeShapes Go.WideShapes Go.ChangeAt Go.RowKit
section
attribute [local irreducible] Run CondV ai az
end
theorem two {cs:List Value} (h:cs.length=2):∃ a b,cs=[a,b]:=by
 match cs,h with
 | [a,b],_=>exact ⟨a,b,rfl⟩
end
section
open Go Go.RowKit
section
variable {br:Nat} {sl:Value} {ys:List Nat}
attribute [local irreducible] Run CondV ai az
theorem Pd.one (x:Pd):∀ u∈x.cells,u.oneCell'=true:=by
 intro u hu
 have hu':u∈([.string x.name,.int .i64 x.arity]:List Value):=hu
 simp at hu'
 rcases hu' with rfl|rfl <;> rfl
end
end
section
open Go Go.ChangeShapes Go.WideShapes Go.ChangeAt Go.RowKit
theorem Ro:Tryz.prog.underlying C7=some (.int .u8):=by kernel_rfl
theorem Nw {H:Type} {enc:TypeId × Value->H} {W:World} {sp:Nat->Bool} {held:Bool} {fuel:Nat} {cs:List Value} {x:DataW H × List MemPlace} (h:DataW.trod enc Tryz.prog W 0 sp held fuel C7 cs=some x) :
  ∃ n,jy cs n:=by
 cases fuel with
 | zero=>simp [DataW.trod] at h
 | succ n=>
  unfold DataW.trod at h
  rw [Ro] at h
  split at h <;> simp_all
  rename_i k1 k2 m he
  subst he
  obtain ⟨⟨_,h⟩,_⟩:=h
  simp only [Lit.wf,Bool.and_eq_true,decide_eq_true_eq] at h
  have h1:0<=m/\m<=255:=h
  exact ⟨m.toNat,by rw [jy,Int.toNat_of_nonneg (by omega)]; exact ⟨rfl,by omega⟩⟩
theorem Ar {H:Type} {enc:TypeId × Value->H} {W:World} {sp:Nat->Bool} {held:Bool} {fuel:Nat} {v:Value} {x:DataW H × List MemPlace} (h:DataW.trod enc Tryz.prog W 0 sp held fuel EP [v]=some x) :
  ∃ ys,RdSl (Ju W) 1 jy v ys:=NE cM (by omega) h fun _ _ _ _ hy=>Nw hy
section
variable {w0 w:World} {X:List Nat} {L:List Item} {S:ad} {K:Value->World->Prop}
attribute [local irreducible] Run CondV ai az
theorem PN {P:Program} {T:TypeId} {cx cy:Bool} {a b:Bool} (hu:P.underlying T=some .bool) (hk:K (.bool (a == b)) w):Run P (bN .eql T cx cy (.bool a) (.bool b)) w K:=
 Run.of (by
  have he:(Op.equal T (.bool a) (.bool b)).run P w=.ok (a == b) w:=by
   rw [Op.equal,Op.maxDepth,Op.equalIn.eq_def]
   simp [run_underlying hu]
  simp only [bN,binOp,Sem.run_bind,sw,Result.andThen_ok,he,Sem.run_pure]) hk
theorem Lu (t:T):eqT t t=true:=(Jr t t).2 rfl
theorem rz {c0 d0:C} {cs ds:List Value} (h:RdC S cs c0) (g:RdC S ds d0):Pure Tryz.prog nI [.agg cs.toArray,.agg ds.toArray] S (.bool (eqT c0.head d0.head && eqL c0.body d0.body)):=by
 intro w hI
 obtain ⟨hd,kb,rfl,h1,h2⟩:=h
 obtain ⟨hd',kb',rfl,g1,g2⟩:=g
 have h1':=h1
 have g1':=g1
 obtain ⟨kv,rfl,_⟩:=RdT.iff.1 h1
 obtain ⟨kv',rfl,_⟩:=RdT.iff.1 g1
 refine ni.2 ?_
 dsimp only[ni,aX]
 refine bt hI fun b1 w' hI=>?_
 refine bt hI fun b2 w' hI=>?_
 have hI:Inv w [] [.blk b1 (.cells #[.int .i64 c0.head.kind,.int .i64 c0.head.n,.string c0.head.name,kv,kb] af),.blk b2 (.cells #[.int .i64 d0.head.kind,.int .i64 d0.head.n,.string d0.head.name,kv',kb'] af)] S w':=hI
 refine aB bM ?_
 refine dQ hI 0 [.int .i64 c0.head.kind,.int .i64 c0.head.n,.string c0.head.name,kv] ac rfl rfl HQ ?_
 refine aB bM ?_
 refine dQ hI 1 [.int .i64 d0.head.kind,.int .i64 d0.head.n,.string d0.head.name,kv'] ac rfl rfl HQ ?_
 refine Run.callPure kI kF hI (gL _ _ S _ _ h1' g1') fun w' hI=>?_
 cases he:eqT c0.head d0.head
 ·refine rpG ?_
  exact done hI (by rw [Bool.false_and])
 ·refine rpG ?_
  refine ae hI 0 rfl bb aj rfl ?_
  refine ae hI 1 rfl bb aj rfl ?_
  refine Run.callPure iy iF hI (tw (fun t _=>gL t) h2 g2) fun w' hI=>?_
  refine rpG ?_
  exact done hI (by rw [Bool.true_and])
theorem xb {c0:C} {cs ds:List Value} (h:RdC S cs c0) (g:RdC S ds c0):Pure Tryz.prog nI [.agg cs.toArray,.agg ds.toArray] S (.bool true):=by
 have:=rz h g
 rwa [Lu,(xT _ _).2 rfl] at this
theorem mK {p:List C} {u v:Value} (h:RdSl S 5 (RdC S) u p) (g:RdSl S 5 (RdC S) v p):Pure Tryz.prog A4 [u,v] S (.bool true):=by
 intro w hI
 have hlen:=h.le
 simp only [maxLen] at hlen
 refine om.2 ?_
 dsimp only[om,aX]
 refine aG h aP ?_
 refine aG g aP ?_
 refine fP ?_
 refine aw (fun hb=>by simp at hb) (fun _=>?_)
 refine ⟨fun i w'=>∃ k:Nat,k<=p.length/\i=.int .i64 k/\Inv w [] [] S w',fun i _=>p.length - (intOf i).toNat,⟨0,Nat.zero_le _,rfl,hI⟩,?_⟩
 intro t5 _ _ _ t26 t25 t24 t23 t22 t21 t20 t19 t18 t17 _ _ _ _ w'
 rintro ⟨k,hk,rfl,hI⟩
 refine aG h aP ?_
 refine bI ?_
 refine aI (fun hki=>?_) (fun hki=>done hI rfl)
 have hk':k<p.length:=by omega
 obtain ⟨b,o,cap,c,E,fz,rfl,hS,hR⟩:=h.at_ hk'
 obtain ⟨b2,o2,cap2,c2,E2,fz2,rfl,hS2,hR2⟩:=g.at_ hk'
 refine ⟨fun D nf eV lO wo wi rD md sn EX rl w_=>Fx D 0 [rl=.slice (some ⟨b,o,none⟩) p.length cap,EX=.int .i64 k,sn=.pointer (some ⟨b,o+k * 5,none⟩),md=.agg (aJ c (o+k * 5) 5).toArray,rD=.slice (some ⟨b2,o2,none⟩) p.length cap2,wi=.int .i64 k,wo=.pointer (some ⟨b2,o2+k * 5,none⟩),lO=.agg (aJ c2 (o2+k * 5) 5).toArray,eV=.bool true,nf=.bool false]/\Inv w [] [] S w_,⟨Fx.nil _ _,hI.draw⟩,⟨?_,?_,?_,?_,?_,?_,?_,?_,?_,?_,trivial⟩,?_⟩
 all_goals (intro D bx; intros; rename_i nf eV lO wo wi rD md sn EX rl w_ hA_; have hF_:=hA_.1; obtain ⟨⟨cr,cq,ct,cu,cz,cB,bP,cT,dw,fc,_⟩,hI⟩:=hA_)
 ·exact ⟨hF_.set 0 rfl,hI⟩
 ·exact ⟨hF_.set 1 rfl,hI⟩
 ·obtain rfl:=cr ‹_›
  obtain rfl:=cq ‹_›
  refine aH aP hk' ?_
  exact ⟨hF_.set 2 rfl,hI⟩
 ·obtain rfl:=ct ‹_›
  refine b0 aY hR.length (fun j v hj=>by rw [hI.cellS hS]; exact aO rfl j v hj) ?_
  exact ⟨hF_.set 3 rfl,hI⟩
 ·exact ⟨hF_.set 4 rfl,hI⟩
 ·exact ⟨hF_.set 5 rfl,hI⟩
 ·obtain rfl:=cz ‹_›
  obtain rfl:=cB ‹_›
  refine aH aP hk' ?_
  exact ⟨hF_.set 6 rfl,hI⟩
 ·obtain rfl:=bP ‹_›
  refine b0 aY hR2.length (fun j v hj=>by rw [hI.cellS hS2]; exact aO rfl j v hj) ?_
  exact ⟨hF_.set 7 rfl,hI⟩
 ·obtain rfl:=cu ‹_›
  obtain rfl:=cT ‹_›
  refine Run.callPure wS xo hI (xb hR hR2) fun w_ hI=>?_
  exact ⟨hF_.set 8 rfl,hI⟩
 ·obtain rfl:=dw ‹_›
  refine bK ?_
  exact ⟨hF_.set 9 rfl,hI⟩
 obtain ⟨rfl,rfl,rfl,rfl,rfl,rfl,rfl,rfl,rfl,rfl,_⟩:=hF_.all
 clear hF_ cr cq ct cu cz cB bP cT dw fc
 refine aw (fun hb=>by cases hb) (fun _=>?_)
 refine bq (by omega) ?_
 exact ⟨⟨k+1,hk',rfl,hI⟩,by simp [intOf]; omega⟩
end
end
section
open Go Go.RowKit
section
variable {S:ad} {ys:List Nat} {v:Value}
attribute [local irreducible] Run CondV ai az
end
end
section
open Go Go.RowKit
def RdO (S:ad) (cs:List Value):Option T->Prop
 | none=>cs=my
 | some t=>RdT S cs t
theorem RdO.length {S:ad} {cs:List Value}:∀ {x:Option T},RdO S cs x->cs.length=4
 | none,h=>by rw [h]; rfl
 | some _,h=>RdT.length h
theorem RdO.one {S:ad} {cs:List Value}:∀ {x:Option T},RdO S cs x->∀ u∈cs,u.oneCell'=true
 | none,h=>by rw [h]; simp [my,Value.oneCell']
 | some _,h=>RdT.one h
theorem RdO.mono {S S':ad} {cs:List Value} (hs:Sle S S'):∀ {x:Option T},RdO S cs x->RdO S' cs x
 | none,h=>h
 | some _,h=>RdT.mono hs h
theorem KnU.rdO {S:ad} {c:Array Value} {st:ag} (h:KnU S c st) (i:Nat) (hi:i<st.length):RdO S (aJ c (i * 4) 4) st[i]:=by
 cases hs:st[i] with
 | none=>exact (h.2 i hi).1 hs
 | some t=>exact (h.2 i hi).2 t hs
theorem KnU.of {S:ad} {c:Array Value} {st:ag} (hs:st.length * 4<=c.size) (h:∀ i (hi:i<st.length),RdO S (aJ c (i * 4) 4) st[i]):KnU S c st:=
 ⟨hs,fun i hi=>⟨fun e=>by have:=h i hi; rw [e] at this; exact this,fun t e=>by have:=h i hi; rw [e] at this; exact this⟩⟩
theorem KnU.rd {S S':ad} {c:Array Value} {st:ag} {b cap:Nat} {E:TypeId} {fz:Nat × Nat} (h:KnU S c st) (hS:S' b=some (.cells c E fz)) (h1:st.length<=cap) (h2:cap<=maxLen):RdSl S' 4 (RdO S) (.slice (some ⟨b,0,none⟩) st.length cap) st:=
 ⟨_,cap,rfl,h1,h2,.inr ⟨b,0,c,E,fz,rfl,hS,fun i hi=>by rw [Nat.zero_add]; exact h.rdO i hi⟩⟩
theorem Rows.knu {S:ad} {css:List (List Value)} {st:ag} {c:Array Value} (h:Rows 4 (RdO S) css st) (hs:st.length * 4<=c.size) (hc:c.toList.take (css.length * 4)=css.flatten):KnU S c st:=by
 refine KnU.of hs fun i hi=>?_
 have hcy:=h.hc
 have:=gF 4 css i h.hk (by omega)
 rw [<- hc,List.drop_take,List.take_take,Nat.min_eq_left (by omega)] at this
 rw [aJ,this]
 exact h.hR i hi (by omega)
section
variable {w w0:World} {X:List Nat} {A:List Item} {S:ad}
theorem Inv.tab {v:Value} {e:TypeId} {css:List (List Value)} {S1:ad} {st:ag} (h:Inv w0 X (A++[aC v e 4 css]) S w) (hR:Rows 4 (RdO S1) css st) (h0:0<st.length) :
  ∃ g cap cur,v=kvU g st.length cap/\st.length<=cap/\cap<=maxLen/\KnU S1 cur st/\Inv w0 X (A++[.blk g (.cells cur e)]) S w:=by
 have hcy:=hR.hc
 obtain ⟨hl,ho⟩:=Inv.openRow h
 rcases ho with ⟨rfl,h1⟩|⟨g,cap,cur,rfl,hnc,hcm,hcs,ht,hI⟩
 ·omega
 ·rw [hcy] at hnc
  exact ⟨g,cap,cur,by rw [hcy],hnc,hcm,hR.knu (by rw [hcs]; exact Nat.mul_le_mul_right 4 hnc) ht,hI⟩
end
end
section
open Go Go.RowKit
def qL:List Int->Int->Int
 | [],m=>m
 | x::xs,m=>qL xs (if m<=x then x+1 else m)
def oC (c:C):Int:=qL (kK (c.head::c.body) []) 0
theorem BD:∀ (l:List Int) (m:Int),m<=qL l m/\∀ x∈l,x<qL l m
 | [],m=>⟨Int.le_refl _,fun _ h=>by cases h⟩
 | y::l,m=>by
  have hm:m<=(if m<=y then y+1 else m)/\y<(if m<=y then y+1 else m):=by split <;> omega
  rw [qL]
  generalize (if m<=y then y+1 else m)=m' at hm ⊢
  obtain ⟨h1,h2⟩:=BD l m'
  refine ⟨by omega,fun x hx=>?_⟩
  rcases List.mem_cons.1 hx with rfl|hx
  ·omega
  ·exact h2 x hx
theorem CO (N:Int):∀ (l:List Int) (m:Int),m<=N->(∀ x∈l,x<N)->qL l m<=N
 | [],m,h,_=>h
 | y::l,m,h,hx=>by
  rw [qL]
  refine CO N l _ ?_ fun x h=>hx x (List.mem_cons_of_mem _ h)
  have:=hx y (List.mem_cons_self ..)
  split <;> omega
section
attribute [local irreducible] Run CondV ai az
end
end
section
open Go Go.RowKit
def RdG (S:ad) (cs:List Value) (g:T × Int):Prop:=∃ hd,cs=hd++[.int .i64 g.2]/\RdT S hd g.1
theorem RdG.length {S:ad} {cs:List Value} {g:T × Int} (h:RdG S cs g):cs.length=5:=by
 obtain ⟨hd,rfl,h⟩:=h; simp [h.length]
theorem RdG.one {S:ad} {cs:List Value} {g:T × Int} (h:RdG S cs g):∀ u∈cs,u.oneCell'=true:=by
 obtain ⟨hd,rfl,h⟩:=h
 intro u hu
 rcases List.mem_append.1 hu with hu|hu
 ·exact h.one u hu
 ·rw [List.mem_singleton] at hu; subst hu; rfl
theorem RdG.mono {S S':ad} {cs:List Value} {g:T × Int} (hs:Sle S S') (h:RdG S cs g):RdG S' cs g:=by
 obtain ⟨hd,rfl,h⟩:=h; exact ⟨hd,rfl,h.mono hs⟩
theorem RdSl.monoG {S S':ad} {v:Value} {gs:List (T × Int)} (hs:Sle S S') (h:RdSl S 5 (RdG S) v gs):RdSl S' 5 (RdG S') v gs:=h.mono hs fun _ _=>RdG.mono hs
section
variable {w:World} {K:Value->World->Prop}
attribute [local irreducible] Run
end
section
attribute [local irreducible] Run CondV ai az
end
end
section
open Go Go.RowKit
section
variable {P:Program} {w:World} {K:Value->World->Prop}
attribute [local irreducible] Run
end
section
attribute [local irreducible] Run CondV ai az
theorem jx (n:Int) (S:ad):Pure Tryz.prog D3 [.int .i64 n] S (.agg #[.int .i64 1,.int .i64 n,.string ⟨#[]⟩,.slice none 0 0]):=by
 intro w hI
 refine qx.2 ?_
 dsimp only[qx,aD]
 refine aM hI aU fun b1 w' hI=>?_
 have hb:∀ {K:Value->World->Prop} {w':World},K (.agg #[.int .i64 1,.int .i64 n,.string ⟨#[]⟩,.slice none 0 0]) w'->Run Tryz.prog (bJ ab [(0,.int .i64 1),(1,.int .i64 n)]) w' K:=by
  intro K w' hk
  refine Run.of (v:=.agg #[.int .i64 1,.int .i64 n,.string ⟨#[]⟩,.slice none 0 0]) (w':=w') ?_ hk
  unfold bJ
  rw [Sem.run_bind,run_build w' ab _ #[.int .i64 1,.int .i64 n,.string ⟨#[]⟩,.slice none 0 0] (by kernel_rfl),Result.andThen_ok]
  rfl
 refine hb ?_
 refine av hI 0 rfl ac rfl rfl (by simp [Value.oneCell']) fun w' hI=>?_
 refine bl hI 0 ac rfl rfl ?_
 exact done hI rfl
theorem re {vs:List Int} {S:ad} {g:Nat} {vv:Value} {E:TypeId} (n:Int) (hS:S g=some (.cells #[vv] E)) (hv:RdSl S 1 lb vv vs) :
  Pure Tryz.prog fb [.int .i64 n,.pointer (some ⟨g,0,none⟩)] S (.agg #[.int .i64 1,.int .i64 (MQ vs n),.string ⟨#[]⟩,.slice none 0 0]):=by
 intro w hI
 refine jI.2 ?_
 dsimp only[jI,aX]
 refine aM hI aU fun b1 w' hI=>?_
 refine bX fR (by rw [hI.cellS hS]; rfl) ?_
 refine Run.callPure oh o5 hI (mR n hv) fun w' hI=>?_
 refine Run.callPure kL kw hI (jx _ S) fun w' hI=>?_
 refine av hI 0 rfl ac rfl rfl (by simp [Value.oneCell']) fun w' hI=>?_
 refine bl hI 0 ac rfl rfl ?_
 exact done hI rfl
theorem A0 (vs:List Int) (hvl:vs.length<=1000000000):∀ (t:T) (S:ad) (cs:List Value) (g:Nat) (vv:Value) (E:TypeId),RdT S cs t->S g=some (.cells #[vv] E)->RdSl S 1 lb vv vs->wT t<=1048576->
  Tri Tryz.prog oM [.agg cs.toArray,fv fb [.pointer (some ⟨g,0,none⟩)]] [] S (Ck S (qu vs t)):=by
 refine T.ind fun k n s ks ih0 S cs g vv E h hS hv hw=>?_
 have ih:∀ t∈ks,∀ (S:ad) (cs:List Value),RdT S cs t->S g=some (.cells #[vv] E)->RdSl S 1 lb vv vs->wT t<=1048576->
  Tri Tryz.prog oM [.agg cs.toArray,fv fb [.pointer (some ⟨g,0,none⟩)]] [] S (Ck S (qu vs t)):=fun t ht S cs h1 h2 h3 h4=>ih0 t ht S cs g vv E h1 h2 h3 h4
 clear ih0
 intro w hI
 obtain ⟨kv,rfl,h1,h2,hs,hks⟩:=RdT.iff.1 h
 simp only [T.name,T.kids,T.kind,T.n] at h1 h2 hs hks ⊢
 simp only [wT] at hw
 have hir:=Mf vs n
 refine iQ.2 ?_
 dsimp only[iQ,aX]
 refine bt hI fun b2 w' hI=>?_
 refine aM hI aU fun b4 w' hI=>?_
 refine ae hI 0 rfl aQ aE rfl ?_
 refine aZ ?_
 rw [qu]
 refine aI (fun hk1=>?_) (fun hk1=>?_)
 ·rw [if_pos hk1]
  refine ae hI 0 rfl ba aE rfl ?_
  refine Run.callVPure sq s0 hI (re n hS hv) fun w' hI=>?_
  refine av hI 1 rfl ac rfl rfl (by simp [Value.oneCell']) fun w' hI=>?_
  refine bl hI 1 ac rfl rfl ?_
  exact ⟨_,_,_,rfl,hI.pick [false,false],Ext.refl _ _ _,rfl,[_,_,_,_],[],rfl,rfl,TrT.iff.2 ⟨_,rfl,by simp [inI,T.kind],by simp only [inI,T.n]; omega,by rw [T.name]; decide +kernel,TrSl.nil (by simp [maxLen])⟩⟩
 rw [if_neg hk1]
 refine ae hI 0 rfl au aj rfl ?_
 refine cn hI 0 rfl au aj rfl rfl rfl fun w' hI=>?_
 refine aG hks ah ?_
 have hI:Inv w [] [.blk b4 (.cells #[.int .i64 0,.int .i64 0,.string ⟨#[]⟩,.slice none 0 0] ab),.blk b2 (.cells #[.int .i64 k,.int .i64 n,.string s,.slice none 0 0] ab)] S w':=hI.perm (List.Perm.swap _ _ _)
 have hI:=hI.rowNil ab 4
 refine ⟨fun i w'=>∃ (j:Nat) (kvc:Value) (Ls:List aN) (css:List (List Value)),j<=ks.length/\i=.int .i64 j/\Grown 4 TrT Ls css (g9 vs (ks.take j))/\
   Inv w [] (.blk b4 (.cells #[.int .i64 0,.int .i64 0,.string ⟨#[]⟩,.slice none 0 0] ab)::.blk b2 (.cells #[.int .i64 k,.int .i64 n,.string s,kvc] ab)::aC kvc ab 4 css::aV Ls.flatten) S w',
  fun i _=>ks.length - (intOf i).toNat,⟨0,_,[],[],Nat.zero_le _,rfl,Grown.nil _ _,hI⟩,?_⟩
 intro t20 _ _ _ _ _ _ _ _ _ _ _ _ _ w'
 rintro ⟨j,kvc,Ls,css,hj,rfl,hg,hI⟩
 refine bI ?_
 refine aI (fun hji=>?_) (fun hji=>?_)
 ·have hj':j<ks.length:=by omega
  have hjl:(ks.take j).length=j:=by simp; omega
  have hcl:=hg.hc
  rw [lD] at hcl
  have hm:=List.getElem_mem hj'
  have hwm:=iv hm
  refine ci hI hks ah ac hj' (fun _ _=>RdT.length) fun cs0 hcs0=>?_
  refine aM hI aU fun b7 w' hI=>?_
  have hI:=hI.perm (M:=.blk b7 _::(.blk b4 (.cells #[.int .i64 0,.int .i64 0,.string ⟨#[]⟩,.slice none 0 0] ab)::.blk b2 (.cells #[.int .i64 k,.int .i64 n,.string s,kvc] ab)::aC kvc ab 4 css::aV Ls.flatten)) (List.perm_append_comm (l₁:=[_]))
  refine av hI 0 rfl ac (by simpa using hcs0.length) rfl (by simpa using hcs0.one) fun w' hI=>?_
  refine ⟨fun D zx g6 np jo ww nf eV lO w_=>Fx D 0 [lO=.pointer (some ⟨b2,3,none⟩),eV=kvc,nf=.agg cs0.toArray,ww=fv fb [.pointer (some ⟨g,0,none⟩)],True,True,True,zx=.pointer (some ⟨b2,3,none⟩),True]/\∃ M cs7 b8,(D 4=true->jo=.agg cs7.toArray/\TrT M cs7 (qu vs ks[j]))/\(D 5=true->np=.slice (some ⟨b8,0,none⟩) 1 1)/\(D 5=true->D 4=true)/\(D 6=true->D 5=true)/\(D 8=true->D 6=true)/\(D 8=true->D 1=true)/\Inv w [] (aT (.blk b7 (.cells cs0.toArray ab)) (.blk b4 (.cells #[.int .i64 0,.int .i64 0,.string ⟨#[]⟩,.slice none 0 0] ab)) (.blk b2 (.cells #[.int .i64 k,.int .i64 n,.string s,kvc] ab)) (.blk b2 (.cells #[.int .i64 k,.int .i64 n,.string s,g6] ab)) (aC kvc ab 4 css) (aC g6 ab 4 (css++[cs7])) (aV Ls.flatten) M (.blk b8 (.cells cs7.toArray ab)) (D 4) (D 5) (D 6) (D 8)) S w_,⟨Fx.nil _ _,⟨[],[],0,aK,aK,aK,aK,aK,aK,by simpa [aT,aV] using hI.draw⟩⟩,⟨?_,?_,?_,?_,?_,?_,?_,?_,?_,trivial⟩,?_⟩
  all_goals (intro D bx; intros; rename_i zx g6 np jo ww nf eV lO w_ hA_; have hF_:=hA_.1; obtain ⟨⟨cr,cq,ct,cu,cz,cB,bP,cT,dw,_⟩,⟨M,cs7,b8,e7,e8,k8,k9,k11,k1,hI⟩⟩:=hA_)
  ·refine aB au ?_
   exact ⟨hF_.set 0 rfl,⟨M,cs7,b8,e7,e8,k8,k9,k11,k1,hI⟩⟩
  ·obtain rfl:=cr ‹_›
   have f11:D 8=false:=Bool.eq_false_iff.2 fun h=>by rw [k1 h] at bx; cases bx
   refine aS (b:=b2) hI 2 (c:=(#[.int .i64 k,.int .i64 n,.string s,kvc])) aj (by rw [f11]; rfl) rfl ?_
   have k1:=fun (_:ar D 1 8=true)=>(rfl:ar D 1 1=true)
   exact ⟨hF_.set 1 rfl,⟨M,cs7,b8,e7,e8,k8,k9,k11,k1,hI⟩⟩
  ·refine aA hI 0 ac rfl (by simpa using hcs0.length) ?_
   exact ⟨hF_.set 2 rfl,⟨M,cs7,b8,e7,e8,k8,k9,k11,k1,hI⟩⟩
  ·exact ⟨hF_.set 3 rfl,⟨M,cs7,b8,e7,e8,k8,k9,k11,k1,hI⟩⟩
  ·obtain rfl:=ct ‹_›
   obtain rfl:=cu ‹_›
   have f8:D 5=false:=Bool.eq_false_iff.2 fun h=>by rw [k8 h] at bx; cases bx
   have f9:D 6=false:=Bool.eq_false_iff.2 fun h=>by rw [k9 h] at f8; cases f8
   have f11:D 8=false:=Bool.eq_false_iff.2 fun h=>by rw [k11 h] at f9; cases f9
   rw [bx,f8,f9,f11] at hI
   refine Run.call0 gn fZ hI (ih _ (List.getElem_mem hj') S cs0 hcs0 hS hv (by omega)) fun v' I' S w_=>?_
   rintro ⟨rfl,cs7,M,rfl,rfl,hT⟩ _ hI
   have e7:ar D 4 4=true->Value.agg cs7.toArray=Value.agg cs7.toArray/\TrT M cs7 (qu vs ks[j]):=fun _=>⟨rfl,hT⟩
   have k8:=fun (_:ar D 4 5=true)=>(rfl:ar D 4 4=true)
   have hI:Inv w [] (aT (.blk b7 (.cells cs0.toArray ab)) (.blk b4 (.cells #[.int .i64 0,.int .i64 0,.string ⟨#[]⟩,.slice none 0 0] ab)) (.blk b2 (.cells #[.int .i64 k,.int .i64 n,.string s,kvc] ab)) (.blk b2 (.cells #[.int .i64 k,.int .i64 n,.string s,g6] ab)) (aC kvc ab 4 css) (aC g6 ab 4 (css++[cs7])) (aV Ls.flatten) M (.blk b8 (.cells cs7.toArray ab)) true (D 5) (D 6) (D 8)) S w_:=by
    rw [f8,f9,f11]
    simpa [aT] using hI
   exact ⟨hF_.set 4 (by first|assumption|trivial),⟨M,cs7,b8,e7,e8,k8,k9,k11,k1,hI⟩⟩
  ·have FF:=cz ‹_›
   have f9:D 6=false:=Bool.eq_false_iff.2 fun h=>by rw [k9 h] at bx; cases bx
   have f11:D 8=false:=Bool.eq_false_iff.2 fun h=>by rw [k11 h] at f9; cases f9
   obtain ⟨q7,hT⟩:=e7 ‹D 4=true›
   subst q7
   rw [‹D 4=true›,bx,f9,f11] at hI
   refine dD hI bu (by simp [Value.cells,hT.length]) (by omega) (by omega) fun b8 w_ hI=>?_
   have e7:ar D 5 4=true->Value.agg cs7.toArray=Value.agg cs7.toArray/\TrT M cs7 (qu vs ks[j]):=fun _=>⟨rfl,hT⟩
   have e8:=fun (_:ar D 5 5=true)=>(rfl:Value.slice (some ⟨b8,0,none⟩) 1 1=_)
   have k8:=fun (_:ar D 5 5=true)=>‹D 4=true›
   have k9:=fun (_:ar D 5 6=true)=>(rfl:ar D 5 5=true)
   have hI:Inv w [] (aT (.blk b7 (.cells cs0.toArray ab)) (.blk b4 (.cells #[.int .i64 0,.int .i64 0,.string ⟨#[]⟩,.slice none 0 0] ab)) (.blk b2 (.cells #[.int .i64 k,.int .i64 n,.string s,kvc] ab)) (.blk b2 (.cells #[.int .i64 k,.int .i64 n,.string s,g6] ab)) (aC kvc ab 4 css) (aC g6 ab 4 (css++[cs7])) (aV Ls.flatten) M (.blk b8 (.cells cs7.toArray ab)) (D 4) true (D 6) (D 8)) S w_:=by
    rw [‹D 4=true›,f9,f11]
    simpa [aT,Value.cells] using hI
   exact ⟨hF_.set 5 (by first|assumption|trivial),⟨M,cs7,b8,e7,e8,k8,k9,k11,k1,hI⟩⟩
  ·obtain rfl:=cq ‹_›
   have I7:=cB ‹_›
   have f11:D 8=false:=Bool.eq_false_iff.2 fun h=>by rw [k11 h] at bx; cases bx
   have q8:=e8 ‹D 5=true›
   subst q8
   obtain ⟨_,hT⟩:=e7 ‹D 4=true›
   rw [‹D 4=true›,‹D 5=true›,bx,f11] at hI
   have hblk:((aT (.blk b7 (.cells cs0.toArray ab)) (.blk b4 (.cells #[.int .i64 0,.int .i64 0,.string ⟨#[]⟩,.slice none 0 0] ab)) (.blk b2 (.cells #[.int .i64 k,.int .i64 n,.string s,eV] ab)) (.blk b2 (.cells #[.int .i64 k,.int .i64 n,.string s,g6] ab)) (aC eV ab 4 css) (aC g6 ab 4 (css++[cs7])) (aV Ls.flatten) M (.blk b8 (.cells cs7.toArray ab)) true true false false))[4+(aV Ls.flatten).length+(aV M).length]?=some (.blk b8 (.cells cs7.toArray ab)):=by
    have e4:4+(aV Ls.flatten).length+(aV M).length=((aV Ls.flatten).length+(aV M).length)+1+1+1+1:=by omega
    rw [e4]
    simp only [aT,List.getElem?_cons_succ]
    rw [List.getElem?_append_right (by omega),Nat.add_sub_cancel_left,List.getElem?_append_right (Nat.le_refl _),Nat.sub_self]; rfl
   refine dn hI 3 cs7 bu (by omega) rfl (by rw [hT.length]) (m:=1) (o:=0) ?_ hT.one (by omega) (by omega) fun v' w_ hI=>?_
   ·intro i u hi
    rw [hI.cellL hblk,Nat.zero_add]
    simpa using hi
   rw [dP] at hI
   have k9:=fun (_:ar D 6 6=true)=>‹D 5=true›
   have k11:=fun (_:ar D 6 8=true)=>(rfl:ar D 6 6=true)
   have hI:Inv w [] (aT (.blk b7 (.cells cs0.toArray ab)) (.blk b4 (.cells #[.int .i64 0,.int .i64 0,.string ⟨#[]⟩,.slice none 0 0] ab)) (.blk b2 (.cells #[.int .i64 k,.int .i64 n,.string s,eV] ab)) (.blk b2 (.cells #[.int .i64 k,.int .i64 n,.string s,v'] ab)) (aC eV ab 4 css) (aC v' ab 4 (css++[cs7])) (aV Ls.flatten) M (.blk b8 (.cells cs7.toArray ab)) (D 4) (D 5) true (D 8)) S w_:=by
    rw [‹D 4=true›,‹D 5=true›,f11]
    exact hI
   exact ⟨hF_.set 6 (by first|assumption|trivial),⟨M,cs7,b8,e7,e8,k8,k9,k11,k1,hI⟩⟩
  ·refine aB au ?_
   exact ⟨hF_.set 7 rfl,⟨M,cs7,b8,e7,e8,k8,k9,k11,k1,hI⟩⟩
  ·obtain rfl:=cT ‹_›
   have IU:=bP ‹_›
   rw [‹D 4=true›,‹D 5=true›,‹D 6=true›,bx] at hI
   obtain ⟨va,vn,vc,hv9⟩:=Inv.rowSlice hI 3 rfl
   refine cw hI 2 (n:=1) (by rw [hv9]; rfl) (by decide +kernel) rfl (by simp) (by rw [hv9]; simp [Value.cells,Value.oneCell']) fun w_ hI=>?_
   have hcl9:Value.cells g6=#[g6]:=by rw [hv9]; rfl
   rw [hcl9] at hI
   have k1:=fun (_:ar D 8 8=true)=>‹D 1=true›
   have k11:=fun (_:ar D 8 8=true)=>‹D 6=true›
   have hI:Inv w [] (aT (.blk b7 (.cells cs0.toArray ab)) (.blk b4 (.cells #[.int .i64 0,.int .i64 0,.string ⟨#[]⟩,.slice none 0 0] ab)) (.blk b2 (.cells #[.int .i64 k,.int .i64 n,.string s,kvc] ab)) (.blk b2 (.cells #[.int .i64 k,.int .i64 n,.string s,g6] ab)) (aC kvc ab 4 css) (aC g6 ab 4 (css++[cs7])) (aV Ls.flatten) M (.blk b8 (.cells cs7.toArray ab)) (D 4) (D 5) (D 6) true) S w_:=by
    rw [‹D 4=true›,‹D 5=true›,‹D 6=true›]
    exact hI
   exact ⟨hF_.set 8 trivial,⟨M,cs7,b8,e7,e8,k8,k9,k11,k1,hI⟩⟩
  obtain ⟨rfl,rfl,rfl,rfl,FF,I7,IU,rfl,_,_⟩:=hF_.all
  have RE:D 4=true:=by assumption
  have Ou:D 5=true:=by assumption
  have KW:D 6=true:=by assumption
  have LZ:D 8=true:=by assumption
  clear hF_ cr cq ct cu cz cB bP cT dw
  obtain ⟨_,hT⟩:=e7 RE
  rw [RE,Ou,KW,LZ] at hI
  refine bq (by omega) ?_
  refine ⟨⟨j+1,g6,Ls++[M],css++[cs7],hj',rfl,?_,?_⟩,by simp [intOf]; omega⟩
  ·rw [Aj vs ks j hj']
   exact hg.snoc hT hT.length
  ·simp only [List.flatten_append,List.flatten_cons,List.flatten_nil,List.append_nil,cO]
   refine hI.sub ?_
   simp only [aT]
   rw [<- List.append_assoc]
   exact ((((List.sublist_append_left _ _).cons_cons _).cons_cons _).cons_cons _).cons _
 ·have:j=ks.length:=by omega
  subst this
  rw [List.take_length] at hg
  obtain ⟨va,vn,vc,hvk⟩:=hI.rowSlice 2 rfl
  have hv1:kvc.oneCell'=true:=by rw [hvk]; rfl
  refine aA hI 1 ac rfl rfl ?_
  refine av hI 0 rfl ac rfl rfl ?_ fun w' hI=>?_
  ·intro u hu
   have hu':u∈([.int .i64 k,.int .i64 n,.string s,kvc]:List Value):=hu
   simp at hu'
   rcases hu' with rfl|rfl|rfl|rfl <;> first|rfl|exact hv1
  refine bl hI 0 ac rfl rfl ?_
  have hI:Inv w [] ([]++(aC kvc ab 4 css::aV Ls.flatten)) S w':=hI.sub (List.sublist_append_right [_,_] _)
  obtain ⟨L,hT,hI⟩:=Inv.rowTree hI hg
  exact ⟨_,_,_,rfl,hI,Ext.refl _ _ _,rfl,_,L,rfl,rfl,TrT.iff.2 ⟨kvc,rfl,h1,h2,hs,hT⟩⟩
theorem uD {ts:List T} {S:ad} {v:Value} (h:RdSl S 4 (RdT S) v ts) (hw:ts.length+wL ts<=1048577):Tri Tryz.prog Ai [v] [] S (Gw 4 TrT S (g9 (dt ts []) ts)):=by
 intro w hI
 have hlen:=h.le
 simp only [maxLen] at hlen
 have hcl:=DG ts
 have hvl:=tk ts []
 simp only [List.length_nil] at hvl
 refine m0.2 ?_
 dsimp only[m0,aD]
 refine Run.call0 ox oQ hI (lS h (by omega)) fun v1 I' S w'=>?_
 rintro ⟨rfl,rfl⟩ _ hI
 have hl':(dt ts []).length<=1000000000:=by omega
 generalize dt ts []=vs at hI hl' ⊢
 refine aM hI N7 fun b3 w' hI=>?_
 have hv1:v1.cells=#[v1]/\v1.oneCell'=true:=by
  have:=hI.its (dq v1 vs) (by simp)
  rcases this.2 with ⟨rfl,_⟩|⟨g,cap,cur,rfl,_⟩ <;> exact ⟨rfl,rfl⟩
 refine cw hI 1 (n:=1) (by rw [hv1.1]; rfl) (by rw [fR]; rfl) rfl (Nat.le_of_ble_eq_true rfl) (by rw [hv1.1]; simpa using hv1.2) fun w' hI=>?_
 have hst:bf (Value.slice none 0 0).cells 0 v1.cells.toList=#[v1]:=by
  rw [hv1.1]; rfl
 have hI:Inv w [] [dq v1 vs,.blk b3 (.cells #[v1] oV)] S w':=by
  have:=hI
  simp only [List.cons_append,List.nil_append] at this
  rw [hst] at this
  exact this
 have hI:=hI.perm (M:=[.blk b3 (.cells #[v1] oV)]++[dq v1 vs]) (List.Perm.swap _ _ _)
 obtain ⟨S1,hle1,hrd1,hI,_⟩:=Inv.lend (A:=[_]) hI
 obtain ⟨hI,hle2⟩:=Inv.publishLast (L:=[]) hI
 have hb:lh S1 b3 (.cells #[v1] oV) b3=some (.cells #[v1] oV):=by simp [lh]
 generalize lh S1 b3 (.cells #[v1] oV)=S2 at hI hle2 hb
 have hr1:=hrd1.ints.mono hle2 fun _ _ h=>h
 have hle:=hle1.trans hle2
 have h:=h.mono hle fun _ _ h=>h.mono hle
 refine aG h ah ?_
 refine ⟨fun i t w'=>∃ (k:Nat) (Ls:List aN) (css:List (List Value)),k<=ts.length/\i=.int .i64 k/\Grown 4 TrT Ls css (g9 vs (ts.take k))/\Inv w [] (aC t ab 4 css::aV Ls.flatten) S2 w',
  fun i _ _=>ts.length - (intOf i).toNat,⟨0,[],[],Nat.zero_le _,rfl,Grown.nil _ _,hI.rowNil ab 4⟩,?_⟩
 intro t11 _ t4 _ _ _ _ _ _ _ _ _ _ w'
 rintro ⟨k,Ls,css,hk,rfl,hg,hI⟩
 refine bI ?_
 refine aI (fun hki=>?_) (fun hki=>?_)
 ·have hk':k<ts.length:=by omega
  have htl:(ts.take k).length=k:=by simp; omega
  have hcl:=hg.hc
  rw [lD] at hcl
  have hm:=List.getElem_mem hk'
  have hwm:=iv hm
  refine ci hI h ah ac hk' (fun _ _=>RdT.length) fun cs hcs=>?_
  have hlc:=hcs.length
  refine aM hI aU fun b6 w' hI=>?_
  have hI:=hI.perm (M:=.blk b6 _::(aC t4 ab 4 css::aV Ls.flatten)) (List.perm_append_comm (l₁:=[_]))
  refine av hI 0 rfl ac (by simpa using hlc) rfl (by simpa using hcs.one) fun w' hI=>?_
  refine aA hI 0 ac rfl (by simpa using hlc) ?_
  have hI:Inv w [] (aC t4 ab 4 css::aV Ls.flatten) S2 w':=hI.sub (List.sublist_cons_self _ _)
  refine jC ?_
  refine Run.call0 gn fZ hI (A0 vs hl' _ S2 cs b3 v1 oV hcs hb hr1 (by omega)) fun v' I' S' w'=>?_
  rintro ⟨rfl,cs',L,rfl,rfl,hT⟩ _ hI
  refine cR hI 0 cs' bu (by omega) (by omega) rfl hT.length hT.one (by omega) (by omega) fun v' w' hI=>?_
  refine bq (by omega) ?_
  refine ⟨⟨k+1,Ls++[L],css++[cs'],hk',rfl,?_,?_⟩,by simp [intOf]; omega⟩
  ·rw [Aj vs ts k hk']
   exact hg.snoc hT hT.length
  ·simp only [List.flatten_append,List.flatten_cons,List.flatten_nil,List.append_nil,cO]
   exact hI
 ·have:k=ts.length:=by omega
  subst this
  rw [List.take_length] at hg
  obtain ⟨L,hT,hI⟩:=Inv.rowTree (A:=[]) hI hg
  exact ⟨_,_,_,rfl,hI.less hle,Ext.refl _ _ _,rfl,_,rfl,hT⟩
end
end
section
open Go Go.RowKit
mutual
theorem Ec (vs:List Int):∀ t:T,wT (FD vs t)=wT t
 | .mk k n s ks=>by rw [FD,wT,wT,uP,DY vs ks]
theorem DY (vs:List Int):∀ ts:List T,wL (Am vs ts)=wL ts
 | []=>rfl
 | t::ts=>by rw [Am,wL,wL,Ec vs t,DY vs ts]
end
theorem Pi (vs:List Int) (c:C):wC (N3 vs c)=wC c:=by
 simp only [wC,N3,Ec,DY,uP]
section
attribute [local irreducible] Run CondV ai az
theorem TrC.zero:TrC [] [.int .i64 0,.int .i64 0,.string ⟨#[]⟩,.slice none 0 0,.slice none 0 0] ⟨⟨0,0,⟨#[]⟩,[]⟩,[]⟩:=
 ⟨[.int .i64 0,.int .i64 0,.string ⟨#[]⟩,.slice none 0 0],.slice none 0 0,[],[],rfl,rfl,TrT.iff.2 ⟨_,rfl,by simp [inI,T.kind],by simp [inI,T.n],by rw [T.name]; decide +kernel,TrSl.nil (by simp [maxLen])⟩,TrSl.nil (by simp [maxLen])⟩
end
end
section
open Go Go.RowKit
def PP:Option (Option C)->Bool
 | some (some r)=>bh r
 | _=>false
def JX:C:=⟨⟨0,0,⟨#[]⟩,[]⟩,[]⟩
def clO:Option (Option C)->C
 | some (some r)=>r
 | _=>JX
section
variable {P:Program} {w:World} {K:Value->World->Prop}
attribute [local irreducible] Run
end
section
attribute [local irreducible] Run CondV ai az
end
end
section
open Go Go.RowKit
def MD (a b:Int):Int:=if a.tmod b≠0/\(decide (a.tmod b<0) != decide (b<0))=true then a.tmod b+b else a.tmod b
def kD (n:Int):Int × Int:=if n < -999 ∨ 999<n then (0,5) else (n,0)
def opA (s:ByteArray) (a b:Int):Int × Int:=
 if s=⟨#[43]⟩ then kD (a+b)
 else if s=⟨#[45]⟩ then kD (a - b)
 else if s=⟨#[42]⟩ then kD (a * b)
 else if b=0 then (0,4)
 else if s=⟨#[109,111,100]⟩ then (MD a b,0)
 else (a.tdiv b,0)
def lU (s:ByteArray):List (Int × Int)->Int × Int
 | [a,b]=>if bD s=1 ∨ bD s=2 then (if a.2≠0 then (0,a.2) else if b.2≠0 then (0,b.2) else opA s a.1 b.1) else (0,3)
 | _=>(0,3)
mutual
def cF:T->Int × Int
 | .mk k n s ks=>if k=1 then (0,2) else if k=2 then (n,0) else lU s (eD ks)
def eD:List T->List (Int × Int)
 | []=>[]
 | t::ts=>cF t::eD ts
end
theorem yA:∀ ts:List T,eD ts=ts.map cF
 | []=>rfl
 | t::ts=>by rw [eD,yA ts,List.map_cons]
mutual
def okN:T->Prop
 | .mk k n _ ks=>(k=2->-999<=n/\n<=999)/\Dt ks
def Dt:List T->Prop
 | []=>True
 | t::ts=>okN t/\Dt ts
end
theorem im:∀ {ts:List T},Dt ts->∀ t∈ts,okN t
 | t::ts,h,x,hx=>by
  rw [Dt] at h
  rcases List.mem_cons.1 hx with rfl|hx
  ·exact h.1
  ·exact im h.2 x hx
theorem okN.kids {t:T} (h:okN t):Dt t.kids:=by cases t; rw [okN] at h; exact h.2
def Sm (n:Int):Prop:=-999<=n/\n<=999
theorem u7 (n:Int):Sm (kD n).1:=by
 unfold kD Sm
 split
 ·simp
 ·simp only []; omega
theorem JA {a b:Int} (ha:Sm a):Sm (a.tdiv b):=by
 unfold Sm at *
 have h1:(a.tdiv b).natAbs<=a.natAbs:=by
  rw [Int.natAbs_tdiv]
  exact Nat.div_le_self _ _
 omega
theorem Jl {a b:Int} (_:Sm b) (h0:b≠0):(a.tmod b).natAbs<b.natAbs:=by
 rw [Int.natAbs_tmod]
 exact Nat.mod_lt _ (by omega)
theorem Jd {a b:Int} (hb:Sm b) (h0:b≠0):Sm (MD a b):=by
 have h:=Jl (a:=a) hb h0
 unfold MD
 split
 ·rename_i h1
  obtain ⟨h1,h2⟩:=h1
  unfold Sm at *
  by_cases h3:a.tmod b<0
  ·by_cases h4:b<0
   ·simp [h3,h4] at h2
   ·omega
  ·by_cases h4:b<0
   ·omega
   ·simp [h3,h4] at h2
 ·unfold Sm at *; omega
theorem Pj {s:ByteArray} {a b:Int} (ha:Sm a) (hb:Sm b):Sm (opA s a b).1:=by
 unfold opA
 split
 ·exact u7 _
 split
 ·exact u7 _
 split
 ·exact u7 _
 split
 ·simp [Sm]
 split
 ·rename_i h0 _; exact Jd hb h0
 ·exact JA ha
theorem sQ:∀ t:T,okN t->Sm (cF t).1:=by
 refine T.ind fun k n s ks ih h=>?_
 rw [okN] at h
 rw [cF]
 split
 ·simp [Sm]
 split
 ·rename_i hk; exact h.1 hk
 rw [yA]
 match ks,ih,h.2 with
 | [],_,_=>simp [lU,Sm]
 | [x],_,_=>simp [lU,Sm]
 | [x,y],ih,h2=>
  have hx:=ih x (by simp) (im h2 x (by simp))
  have hy:=ih y (by simp) (im h2 y (by simp))
  simp only [List.map_cons,List.map_nil,lU]
  split
  ·split
   ·simp [Sm]
   ·split
    ·simp [Sm]
    ·exact Pj hx hy
  ·simp [Sm]
 | _::_::_::_,_,_=>simp [lU,Sm]
theorem yg {x b:Int} (h:x.natAbs<b.natAbs):x.tmod b=x:=by
 have h1:=Int.tmod_add_mul_tdiv x b
 have h2:(x.tdiv b).natAbs=0:=by rw [Int.natAbs_tdiv]; exact Nat.div_eq_of_lt h
 have h3:x.tdiv b=0:=by omega
 rw [h3] at h1
 simpa using h1
theorem GQ {m b:Int} (h0:0<=m) (h:m<b):(m+b).tmod b=m:=by
 rw [Int.tmod_eq_emod_of_nonneg (by omega),Int.add_emod_right,Int.emod_eq_of_lt h0 h]
theorem Kt {m b:Int} (h0:m<=0) (h:b<m):(m+b).tmod b=m:=by
 have h1:=GQ (m:=-m) (b:=-b) (by omega) (by omega)
 rw [Int.tmod_neg,show -m+-b=-(m+b) by omega,Int.neg_tmod] at h1
 omega
theorem M5 {a b:Int} (h0:b≠0):(a.tmod b+b).tmod b=MD a b:=by
 have hlt:(a.tmod b).natAbs<b.natAbs:=by
  rw [Int.natAbs_tmod]
  exact Nat.mod_lt _ (by omega)
 obtain ⟨m,hm⟩:∃ m,m=a.tmod b:=⟨_,rfl⟩
 unfold MD
 rw [<- hm] at hlt ⊢
 by_cases h3:m<0
 ·by_cases h4:b<0
  ·rw [if_neg (by simp [h3,h4]),Kt (by omega) (by omega)]
  ·rw [if_pos (by simp [h3,h4]; omega),yg (by omega)]
 ·by_cases h4:b<0
  ·by_cases h5:m=0
   ·subst h5; simp
   ·rw [if_pos (by simp [h3,h4,h5]),yg (by omega)]
  ·rw [if_neg (by simp [h3,h4]),GQ (by omega) (by omega)]
def nZ (s:ByteArray) (a b:Int):Bool:=
 if s=⟨#[60]⟩ then decide (a<b)
 else if s=⟨#[62]⟩ then decide (b<a)
 else if s=⟨#[61,60]⟩ then decide (a<=b)
 else if s=⟨#[62,61]⟩ then decide (b<=a)
 else decide (a=b)
def fN (b:Bool):Int:=if b=true then 0 else 1
def Of (s:ByteArray):List (Int × Int)->Int
 | [a,b]=>if a.2≠0 then a.2 else if b.2≠0 then b.2 else fN (nZ s a.1 b.1)
 | _=>0
def eM:List ByteArray:=[⟨#[60]⟩,⟨#[62]⟩,⟨#[61,60]⟩,⟨#[62,61]⟩,⟨#[61,58,61]⟩]
abbrev RP (p:Int × Int):Value:=.tuple #[.int .i64 p.1,.int .i64 p.2]
theorem Gj (s:ByteArray) (l:List ByteArray):(l.any fun x=>decide (x=s))=bO s l:=by
 rw [bO]
 congr 1
 funext x
 rw [decide_eq_decide]
 exact eq_comm
theorem uW {l:List T} (h:l.length=2):∃ x y,l=[x,y]:=by
 match l,h with
 | [x,y],_=>exact ⟨x,y,rfl⟩
theorem Kj (n:Int):kD n=if (decide (-999<=n) && decide (n<=999))=true then (n,0) else (0,5):=by
 unfold kD
 by_cases h:n < -999 ∨ 999<n
 ·rw [if_pos h,if_neg (by simp; omega)]
 ·rw [if_neg h,if_pos (by simp; omega)]
theorem Mc {n:Int} (h:Sm n):kD n=(n,0):=by
 unfold kD Sm at *
 rw [if_neg (by omega)]
section
attribute [local irreducible] Run CondV ai az
theorem O8 {a b:Int} (ha:Sm a) (hb:Sm b):-998001<=a * b/\a * b<=998001:=by
 unfold Sm at *
 have h1:(a * b).natAbs=a.natAbs * b.natAbs:=Int.natAbs_mul a b
 have h2:a.natAbs * b.natAbs<=999 * 999:=Nat.mul_le_mul (by omega) (by omega)
 omega
theorem cI (b:Bool) (S:ad):Pure Tryz.prog n_i_holds [.bool b] S (.int .i64 (fN b)):=by
 intro w hI
 refine sh_i_holds.2 ?_
 dsimp only[sh_i_holds,aD]
 refine aw (fun h=>done hI ?_) (fun h=>done hI ?_) <;> rw [h] <;> rfl
theorem kE:∀ (t:T) (S:ad) (cs:List Value),RdT S cs t->okN t->Pure Tryz.prog KU [.agg cs.toArray] S (RP (cF t)):=by
 refine T.ind fun k n s ks ih S0 cs h hn=>?_
 intro w hI
 obtain ⟨kv,rfl,_,_,_,hks⟩:=RdT.iff.1 h
 rw [okN] at hn
 simp only [T.name,T.kids,T.kind,T.n] at hks ⊢
 refine yo.2 ?_
 dsimp only[yo,aD]
 refine bt hI fun b1 w' hI=>?_
 refine ae hI 0 rfl aQ aE rfl ?_
 refine aZ ?_
 refine aI (fun h2=>?_) (fun h2=>?_)
 ·refine ae (u:=.int .i64 n) hI 0 rfl ba aE rfl ?_
  exact done hI (by rw [cF,if_neg (by omega),if_pos h2])
 refine ae hI 0 rfl aQ aE rfl ?_
 refine aZ ?_
 refine aI (fun h1=>done hI (by rw [cF,if_pos h1])) (fun h1=>?_)
 have e0:cF (.mk k n s ks)=lU s (eD ks):=by rw [cF,if_neg h1,if_neg h2]
 rw [e0]
 refine ⟨fun t w'=>t=.bool (!(decide (ks.length=2) && bO s (sI++jH)))/\∃ S,Sle S0 S/\Inv w [] [.blk b1 (.cells #[.int .i64 k,.int .i64 n,.string s,kv] ab)] S w',?_,?_⟩
 ·refine ae hI 0 rfl au aj rfl ?_
  refine aG hks ah ?_
  refine fP ?_
  have el:decide ((ks.length:Int)=2)=decide (ks.length=2):=by rw [decide_eq_decide]; omega
  rw [el]
  cases hl:decide (ks.length=2)
  ·refine rpG ?_
   exact ⟨rfl,S0,Sle.refl _,hI⟩
  refine rpG ?_
  refine kG hI (by kernel_rfl) rfl (by omega) fun v S1 w' hE1 hv hI=>?_
  refine ae hI 0 rfl aR aL rfl ?_
  refine Run.callPure dC dz hI (dp s hv) fun w' hI=>?_
  refine bK ?_
  refine rpG ?_
  refine ⟨?_,S1,hE1.1,hI⟩
  rw [Gj]
  rfl
 intro q _ _ _ _ _ _ _ _ _ _ _ w'
 rintro ⟨rfl,S,hle,hI⟩
 have hks:=hks.monoT hle
 have hlev:bO s (sI++jH)=true↔bD s=1 ∨ bD s=2:=by
  have e1:bO s (sI++jH)=(bO s sI || bO s jH):=by rw [bO,List.any_append]; rfl
  rw [e1]
  unfold bD
  have hex:bO s nD=true->bO s sI=false/\bO s jH=false:=by
   intro hc
   rw [bO,List.any_eq_true] at hc
   obtain ⟨x,hx,hd⟩:=hc
   have hd:=of_decide_eq_true hd
   subst hd
   simp only [nD,List.mem_cons,List.not_mem_nil,or_false] at hx
   rcases hx with rfl|rfl|rfl|rfl|rfl|rfl|rfl|rfl|rfl <;> exact ⟨by decide +kernel,by decide +kernel⟩
  cases hc:bO s nD
  ·cases hs:bO s sI <;> cases hp:bO s jH <;> simp
  ·simp [hex hc]
 refine aw (fun hc=>gh hI hle ?_) (fun hc=>?_)
 ·match ks,hc with
  | [],_|[_],_|_::_::_::_,_=>rfl
  | [x,y],hc=>
   have hc:bO s (sI++jH)=false:=by simpa using hc
   rw [eD,eD,eD,lU,if_neg (by rw [<- hlev,hc]; decide)]
 simp only [Bool.not_eq_false',Bool.and_eq_true,decide_eq_true_eq] at hc
 obtain ⟨hl,hv⟩:=hc
 rw [hlev] at hv
 obtain ⟨x,y,rfl⟩:=uW hl
 have e1:lU s (eD [x,y])=if (cF x).2≠0 then (0,(cF x).2) else if (cF y).2≠0 then (0,(cF y).2) else opA s (cF x).1 (cF y).1:=by
  rw [eD,eD,eD,lU,if_pos hv]
 rw [e1]
 have nx:=im hn.2 x (by simp)
 have ny:=im hn.2 y (by simp)
 refine ae hI 0 rfl au aj rfl ?_
 refine ci (i:=0) hI hks ah ac (by simp) (fun _ _=>RdT.length) fun cs' hcs'=>?_
 refine Run.callPure jm jj hI (ih x (by simp) S cs' hcs' nx) fun w' hI=>?_
 refine al (v:=.int .i64 _) rfl ?_
 refine al (v:=.int .i64 _) rfl ?_
 refine fP ?_
 refine aw (fun h5=>gh hI hle ?_) (fun h5=>?_)
 ·simp at h5
  rw [if_pos h5]
 simp at h5
 rw [if_neg (by simp [h5])]
 refine ae hI 0 rfl au aj rfl ?_
 refine ci (i:=1) hI hks ah ac (by simp) (fun _ _=>RdT.length) fun cs' hcs'=>?_
 refine Run.callPure jm jj hI (ih y (by simp) S cs' hcs' ny) fun w' hI=>?_
 refine al (v:=.int .i64 _) rfl ?_
 refine al (v:=.int .i64 _) rfl ?_
 refine fP ?_
 refine aw (fun h6=>gh hI hle ?_) (fun h6=>?_)
 ·simp at h6
  rw [if_pos h6]
 simp at h6
 rw [if_neg (by simp [h6])]
 have ax:=sQ x nx
 have ay:=sQ y ny
 obtain ⟨a,ha⟩:∃ a,a=(cF x).1:=⟨_,rfl⟩
 obtain ⟨b,hb⟩:∃ b,b=(cF y).1:=⟨_,rfl⟩
 rw [<- ha] at ax ⊢
 rw [<- hb] at ay ⊢
 have hmul:=O8 ax ay
 have ax':=ax
 have ay':=ay
 unfold Sm at ax ay
 refine ⟨fun q w'=>∃ m:Int,q=.int .i64 m/\opA s a b=kD m/\Inv w [] [.blk b1 (.cells #[.int .i64 k,.int .i64 n,.string s,kv] ab)] S w',?_,?_⟩
 ·refine ae hI 0 rfl aR aL rfl ?_
  refine bg ?_
  refine aI (fun h=>?_) (fun h1=>?_)
  ·exact bq (by omega) ⟨_,rfl,by rw [opA,if_pos h],hI⟩
  refine bg ?_
  refine aI (fun h=>?_) (fun h2=>?_)
  ·exact iw (by omega) ⟨_,rfl,by rw [opA,if_neg h1,if_pos h],hI⟩
  refine bg ?_
  refine aI (fun h=>?_) (fun h3=>?_)
  ·exact Aq (by omega) ⟨_,rfl,by rw [opA,if_neg h1,if_neg h2,if_pos h],hI⟩
  refine aZ ?_
  refine aI (fun h=>?_) (fun h4=>?_)
  ·exact gh hI hle (by rw [opA,if_neg h1,if_neg h2,if_neg h3,if_pos h])
  have hd:=JA (b:=b) ax'
  have hd':=hd
  unfold Sm at hd
  refine RA h4 (by omega) ?_
  refine ae hI 0 rfl aR aL rfl ?_
  refine bg ?_
  refine aI (fun h=>?_) (fun h5=>?_)
  ·have hm:=Jl (a:=a) ay' h4
   refine ML h4 ?_
   refine bq (by omega) ?_
   refine ML h4 ?_
   refine ⟨_,rfl,?_,hI⟩
   rw [opA,if_neg h1,if_neg h2,if_neg h3,if_neg h4,if_pos h,M5 h4,Mc (Jd ay' h4)]
  ·refine ⟨_,rfl,?_,hI⟩
   rw [opA,if_neg h1,if_neg h2,if_neg h3,if_neg h4,if_neg h5,Mc hd']
 intro _ _ _ _ _ _ _ _ _ _ _ _ _ _ _ _ _ _ _ _ _ _ _ _ _ _ _ q _ _ _ _ _ _ _ w'
 rintro ⟨m,rfl,hop,hI⟩
 refine Run.callPure dT dX hI (dF _ _ _ S) fun w' hI=>?_
 refine bK ?_
 rw [hop,Kj]
 refine aw (fun hc=>gh hI hle ?_) (fun hc=>gh hI hle ?_)
 ·rw [Bool.not_eq_true'] at hc
  rw [hc]; rfl
 ·rw [Bool.not_eq_false'] at hc
  rw [hc]; rfl
def Oi (t:T):Bool:=decide (t.kind=3) && (decide (t.kids.length=2) && bO t.name eM)
theorem vh {t:T} {S0:ad} {cs:List Value} (h:RdT S0 cs t):Pure Tryz.prog D9 [.agg cs.toArray] S0 (.bool (Oi t)):=by
 intro w hI
 obtain ⟨kv,rfl,_,_,_,hks⟩:=RdT.iff.1 h
 refine qt.2 ?_
 dsimp only[qt,aD]
 unfold Oi
 refine bt hI fun b1 w' hI=>?_
 refine ae hI 0 rfl aQ aE rfl ?_
 refine aZ ?_
 have el:decide ((t.kids.length:Int)=2)=decide (t.kids.length=2):=by rw [decide_eq_decide]; omega
 cases hk:decide (t.kind=3)
 ·refine rpG ?_
  exact done hI rfl
 refine rpG ?_
 refine ae hI 0 rfl au aj rfl ?_
 refine aG hks ah ?_
 refine aZ ?_
 rw [el]
 refine rpG ?_
 cases hl:decide (t.kids.length=2)
 ·refine rpG ?_
  exact done hI rfl
 refine rpG ?_
 refine kG hI (by kernel_rfl) rfl (by omega) fun v S1 w' hE1 hv hI=>?_
 refine ae hI 0 rfl aR aL rfl ?_
 refine Run.callPure dC dz hI (dp t.name hv) fun w' hI=>?_
 refine rpG ?_
 refine gh hI hE1.1 ?_
 rw [Gj]
 rfl
theorem uU {s:ByteArray} {k n:Int} {ks:List T} {S:ad} {cs:List Value} (h:RdT S cs (.mk k n s ks)) (hl:ks.length=2) (hn:Dt ks):Pure Tryz.prog DI [.agg cs.toArray] S (.int .i64 (Of s (eD ks))):=by
 intro w hI
 obtain ⟨kv,rfl,_,_,_,hks⟩:=RdT.iff.1 h
 simp only [T.name,T.kids,T.kind,T.n] at hks ⊢
 obtain ⟨x,y,rfl⟩:=uW hl
 have nx:=im hn x (by simp)
 have ny:=im hn y (by simp)
 rw [eD,eD,eD,Of]
 refine qB.2 ?_
 dsimp only[qB,aD]
 refine bt hI fun b1 w' hI=>?_
 refine ae hI 0 rfl au aj rfl ?_
 refine ci (i:=0) hI hks ah ac (by simp) (fun _ _=>RdT.length) fun cs' hcs'=>?_
 refine Run.callPure jm jj hI (kE x S cs' hcs' nx) fun w' hI=>?_
 refine al (v:=.int .i64 _) rfl ?_
 refine al (v:=.int .i64 _) rfl ?_
 refine fP ?_
 refine aw (fun h5=>done hI ?_) (fun h5=>?_)
 ·simp at h5
  rw [if_pos h5]
 simp at h5
 rw [if_neg (by simp [h5])]
 refine ae hI 0 rfl au aj rfl ?_
 refine ci (i:=1) hI hks ah ac (by simp) (fun _ _=>RdT.length) fun cs' hcs'=>?_
 refine Run.callPure jm jj hI (kE y S cs' hcs' ny) fun w' hI=>?_
 refine al (v:=.int .i64 _) rfl ?_
 refine al (v:=.int .i64 _) rfl ?_
 refine fP ?_
 refine aw (fun h6=>done hI ?_) (fun h6=>?_)
 ·simp at h6
  rw [if_pos h6]
 simp at h6
 rw [if_neg (by simp [h6])]
 refine ae hI 0 rfl aR aL rfl ?_
 have hcode:∀ (b:Bool) {w':World} {L:List Item},Inv w [] L S w'->nZ s (cF x).1 (cF y).1=b->Run Tryz.prog (dy (.func (.func n_i_holds) #[] #[]) [.bool b]) w' fun v w''=>Ending.returned v=.returned (.int .i64 (fN (nZ s (cF x).1 (cF y).1)))/\Inv w [] [] S w'':=fun b w' L hI e=>
  Run.callPure fn_i_holds nm_i_holds hI (cI b S) fun w' hI=>done hI (by rw [e])
 refine bg ?_
 refine aI (fun h=>bI (hcode _ hI (by rw [nZ,if_pos h]))) (fun h1=>?_)
 refine bg ?_
 refine aI (fun h=>dB (hcode _ hI (by rw [nZ,if_neg h1,if_pos h]))) (fun h2=>?_)
 refine bg ?_
 refine aI (fun h=>dO (hcode _ hI (by rw [nZ,if_neg h1,if_neg h2,if_pos h]))) (fun h3=>?_)
 refine bg ?_
 refine aI (fun h=>j0 (hcode _ hI (by rw [nZ,if_neg h1,if_neg h2,if_neg h3,if_pos h]))) (fun h4=>?_)
 exact aZ (hcode _ hI (by rw [nZ,if_neg h1,if_neg h2,if_neg h3,if_neg h4]))
end
end
section
open Go Go.RowKit
def zT:T:=.mk 0 0 ⟨#[]⟩ []
def kd (g:T) (i:Nat):T:=g.kids.getD i zT
inductive BJ where
 | done (c:Int)
 | uni (a b:T)
 | not (a b:T)
def Dp (n t u:T):BJ:=if n.kind=1 ∨ t.kind=1 then .done 2 else if n.kind≠2 ∨ t.kind≠3 ∨ t.kids.length=0 then .done 3
 else if n.n<1 ∨ (t.kids.length:Int)<n.n then .done 1 else .uni u (kd t (n.n.toNat - 1))
def tu (s:ByteArray) (t:T):Bool:=if s=⟨#[118,97,114]⟩ then decide (t.kind=1) else if s=⟨#[110,111,110,118,97,114]⟩ then !decide (t.kind=1)
 else if s=⟨#[105,110,116]⟩ then decide (t.kind=2) else decide (t.kind=3) && decide (t.kids.length=0)
abbrev gB:ByteArray:=⟨#[116,114,117,101]⟩
abbrev jv:ByteArray:=⟨#[102,97,105,108]⟩
abbrev nEq:ByteArray:=⟨#[61]⟩
abbrev nNe:ByteArray:=⟨#[92,61]⟩
abbrev qG:ByteArray:=⟨#[61,61]⟩
abbrev nIs:ByteArray:=⟨#[105,115]⟩
abbrev AC:ByteArray:=⟨#[97,114,103]⟩
def GA (n:Int):T:=.mk 2 n emptyB []
def eG (g:T):BJ:=
 if g.name=gB then .done 0
 else if g.name=jv then .done 1
 else if g.name=nEq then .uni (kd g 0) (kd g 1)
 else if g.name=nNe then .not (kd g 0) (kd g 1)
 else if g.name=qG then .done (fN (eqT (kd g 0) (kd g 1)))
 else if g.name=nIs then (if (cF (kd g 1)).2≠0 then .done (cF (kd g 1)).2 else .uni (kd g 0) (GA (cF (kd g 1)).1))
 else if g.name=AC then Dp (kd g 0) (kd g 1) (kd g 2)
 else if bO g.name eM=true then .done (Of g.name (eD g.kids))
 else .done (fN (tu g.name (kd g 0)))
def BltJ (st:ag) (j:BJ) (code:Int) (st':ag):Prop:=match j with
 | .done c=>code=c/\st'=st
 | .uni a b=>∃ r,Uni st (.one a b) r st'/\code=fN r
 | .not a b=>st'=st/\∃ r st1,Uni st (.one a b) r st1/\code=fN (!r)
def Blt (st:ag) (g:T) (code:Int) (st':ag):Prop:=BltJ st (eG g) code st'
theorem iS {s:ByteArray} {n:Int} (hs:bO s nD=true) (h:dl s n=true):n=2:=by
 rw [dl,if_pos hs] at h
 exact of_decide_eq_true h
theorem N2 {n:Int} (h:dl AC n=true):n=3:=by
 rw [dl,if_neg (by decide +kernel),if_neg (by decide +kernel),if_neg (by decide +kernel),if_pos rfl] at h
 exact of_decide_eq_true h
theorem yw {s:ByteArray} {l:List ByteArray}:bO s l=false↔∀ x∈l,s≠x:=by
 rw [bO,List.any_eq_false]
 simp
theorem M7 {s:ByteArray} (h:bO s eM=true):bO s nD=true:=by
 rw [bO,List.any_eq_true] at h ⊢
 obtain ⟨x,hx,hd⟩:=h
 refine ⟨x,?_,hd⟩
 simp only [eM,List.mem_cons,List.not_mem_nil,or_false] at hx
 rcases hx with rfl|rfl|rfl|rfl|rfl <;> simp [nD]
theorem oP {s:ByteArray} {n:Int} (h:dl s n=true) (h1:s≠gB) (h2:s≠jv) (h3:s≠nEq) (h4:s≠nNe) (h5:s≠qG) (h6:s≠nIs) (hc:bO s eM=false) :
  (bO s qn=true/\n=1) ∨ (s=AC/\n=3):=by
 have hk:bO s nD=false:=by
  rw [yw] at hc ⊢
  intro x hx
  simp only [nD,List.mem_cons,List.not_mem_nil,or_false] at hx
  rcases hx with rfl|rfl|rfl|rfl|rfl|rfl|rfl|rfl|rfl <;> first|assumption|exact hc _ (by simp [eM])
 have hk2:bO s l8=false:=by
  rw [yw]
  intro x hx
  simp only [l8,List.mem_cons,List.not_mem_nil,or_false] at hx
  rcases hx with rfl|rfl <;> assumption
 rw [dl,hk,hk2,if_neg (by decide),if_neg (by decide)] at h
 cases ht:bO s qn
 ·rw [ht,if_neg (by decide)] at h
  split at h
  ·rename_i e; exact .inr ⟨e,of_decide_eq_true h⟩
  ·cases h
 ·rw [ht,if_pos rfl] at h
  exact .inl ⟨rfl,of_decide_eq_true h⟩
theorem C6 {l:List T} (h:l.length=1):∃ x,l=[x]:=by
 match l,h with
 | [x],_=>exact ⟨x,rfl⟩
theorem Ml {l:List T} (h:l.length=3):∃ x y z,l=[x,y,z]:=by
 match l,h with
 | [x,y,z],_=>exact ⟨x,y,z,rfl⟩
def Qv (N:Nat):BJ->Prop
 | .done _=>True
 | .uni a b=>okJ N (.one a b)
 | .not a b=>okJ N (.one a b)
theorem BltJ.ex {N:Nat} {st:ag} {j:BJ} (hg:Good N st) (hj:Qv N j):∃ c st',BltJ st j c st':=by
 match j,hj with
 | .done c,_=>exact ⟨c,st,rfl,rfl⟩
 | .uni a b,hj=>
  have hj:okJ N (.one a b):=hj
  obtain ⟨r,st',hu⟩:=yY (unb st) st hg (Nat.le_refl _) _ hj
  exact ⟨_,st',r,hu,rfl⟩
 | .not a b,hj=>
  have hj:okJ N (.one a b):=hj
  obtain ⟨r,st',hu⟩:=yY (unb st) st hg (Nat.le_refl _) _ hj
  exact ⟨_,st,rfl,r,st',hu,rfl⟩
theorem NB (N:Nat) (n:Int):okU N (GA n):=by
 rw [GA,okU,bH]
 exact ⟨by decide,(fun h=>by cases h),trivial,by decide +kernel⟩
theorem PE {g:T} {i:Nat} (h:i<g.kids.length):kd g i∈g.kids:=by
 rw [kd,List.getD_eq_getElem?_getD,List.getElem?_eq_getElem h]
 exact List.getElem_mem h
theorem ql {N:Nat} {g:T} {i:Nat} (ho:okU N g/\wT g<=1048576) (h:i<g.kids.length):okU N (kd g i)/\wT (kd g i)<=1048576:=gX ho _ (PE h)
theorem Dy {N:Nat} {g:T} (hb:bB g=true) (ho:okU N g/\wT g<=1048576):Qv N (eG g):=by
 rw [bB,Bool.and_eq_true] at hb
 have hb:=hb.2
 have hlen:∀ m:Nat,((g.kids.length:Nat):Int)=m->g.kids.length=m:=fun m h=>by omega
 unfold eG
 split
 ·trivial
 split
 ·trivial
 split
 ·rename_i h; rw [h] at hb
  have:=iS (by decide +kernel) hb
  exact ⟨ql ho (by omega),ql ho (by omega)⟩
 split
 ·rename_i h; rw [h] at hb
  have:=iS (by decide +kernel) hb
  exact ⟨ql ho (by omega),ql ho (by omega)⟩
 split
 ·trivial
 split
 ·rename_i h; rw [h] at hb
  have:=iS (by decide +kernel) hb
  split
  ·trivial
  ·exact ⟨ql ho (by omega),NB N _,by have e:emptyB.size=0:=rfl; simp only [GA,wT,wL,List.length_nil]; omega⟩
 split
 ·rename_i h; rw [h] at hb
  have:=N2 hb
  unfold Dp
  split
  ·trivial
  split
  ·trivial
  split
  ·trivial
  ·rename_i h1 h2 h3
   have k1:=ql (i:=1) ho (by omega)
   exact ⟨ql ho (by omega),ql k1 (by omega)⟩
 split
 ·trivial
 ·trivial
theorem Blt.ex {N:Nat} {st:ag} {g:T} (hg:Good N st) (hb:bB g=true) (ho:okU N g/\wT g<=1048576):∃ c st',Blt st g c st':=BltJ.ex hg (Dy hb ho)
theorem Blt.good {N:Nat} {st st':ag} {g:T} {c:Int} (hg:Good N st) (hb:bB g=true) (ho:okU N g/\wT g<=1048576) (h:Blt st g c st'):Good N st':=by
 have hj:=Dy hb ho
 unfold Blt at h
 match hb:eG g,h,hj with
 | .done c,h,_=>exact h.2 ▸ hg
 | .uni a b,⟨r,hu,_⟩,hj=>exact (hu.good hg hj).1
 | .not a b,h,_=>exact h.1 ▸ hg
theorem RdSl.ptr {α:Type} {S:ad} {k:Nat} {R:List Value->α->Prop} {v:Value} {xs:List α} (h:RdSl S k R v xs) (hi:0<xs.length) :
  ∃ b o cap c E fz,v=.slice (some ⟨b,o,none⟩) xs.length cap/\S b=some (.cells c E fz)/\∀ i (h:i<xs.length),R (aJ c (o+i * k) k) xs[i]:=by
 obtain ⟨a,cap,rfl,hl,hc,h⟩:=h
 rcases h with h|⟨b,o,c,E,fz,rfl,hS,h⟩
 ·subst h; simp at hi
 ·exact ⟨b,o,cap,c,E,fz,rfl,hS,h⟩
section
attribute [local irreducible] Run CondV ai az
end
end
section
open Go Go.RowKit
section
attribute [local irreducible] Run CondV ai az
def neSt (w0:World) (X:List Nat) (A:List Item) (S:ad) (N:Nat) (st:ag) (r:Bool) (wV Hu EG:Value) (w':World):Nat->Prop
 | 0=>Inv w0 X A S w'
 | 1=>Inv w0 X (A++[.row wV ab 4 0 []]) S w'
 | 2=>∃ g cap cur,Hu=kvU g N cap/\KnU S cur st/\Inv w0 X (A++[.blk g (.cells cur ab)]) S w'
 | _=>EG=.bool r/\∃ R,Inv w0 X (A++R) S w'
theorem neSt.inv {w0 w':World} {X:List Nat} {A:List Item} {S:ad} {N:Nat} {st:ag} {r:Bool} {wV Hu EG:Value}:∀ {n:Nat},neSt w0 X A S N st r wV Hu EG w' n->∃ R,Inv w0 X (A++R) S w'
 | 0,h=>⟨[],by rw [List.append_nil]; exact h⟩
 | 1,h=>⟨_,h⟩
 | 2,⟨_,_,_,_,_,h⟩=>⟨_,h⟩
 | _+3,h=>h.2
end
end
end Go.Proofs.YtgllldjiaglkcaaGreatDoor
