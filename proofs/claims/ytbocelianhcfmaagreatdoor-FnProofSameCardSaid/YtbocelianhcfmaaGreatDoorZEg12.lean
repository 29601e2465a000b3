/- spec: walks, occurrence, unification. -/
import Derived.Test.YtbocelianhcfmaaGreatDoorZEg10
import Derived.Test.YtbocelianhcfmaaGreatDoorZEg2
import Derived.Test.YtbocelianhcfmaaGreatDoorZEg4
namespace Go.Proofs.YtbocelianhcfmaaGreatDoor
section
open Go Go.RowKit
def KnU (S:ae) (c:Array Value) (st:aG):Prop:=st.length * 4<=c.size/\∀ i (h:i<st.length),(st[i]=none->aL c (i * 4) 4=j3)/\(∀ t,st[i]=some t->RdT S (aL c (i * 4) 4) t)
abbrev kvU (kb N kp:Nat):Value:=.slice (some ⟨kb,0,none⟩) N kp
theorem KnU.set {S:ae} {c:Array Value} {st:aG} (h:KnU S c st) {n:Nat} (hn:n<st.length) {cs:List Value} {u:T} (hu:RdT S cs u):KnU S (bk c (n * 4) cs) (st.set n (some u)):=by
 have hlc:=hu.length
 have h1:=h.1
 have hs:st.length * 4<=(bk c (n * 4) cs).size:=by rw [ic _ _ _ (by omega)]; exact h1
 refine ⟨by rw [List.length_set]; exact hs,fun i hi=>?_⟩
 rw [List.length_set] at hi
 by_cases e:n=i
 ·subst e
  rw [List.getElem_set_self]
  refine ⟨fun h=>(by cases h),fun t ht=>?_⟩
  simp only [Option.some.injEq] at ht
  subst ht
  have:=ft (c:=c) (o:=n * 4) (vs:=cs) (by omega)
  rw [hlc] at this
  rw [this]
  exact hu
 ·rw [List.getElem_set_ne e,gq (by omega) (by omega)]
  exact h.2 i hi
theorem KnU.mono {S S':ae} {c:Array Value} {st:aG} (h:KnU S c st) (hs:Sle S S'):KnU S' c st:=⟨h.1,fun i hi=>⟨(h.2 i hi).1,fun t ht=>((h.2 i hi).2 t ht).mono hs⟩⟩
def xh (b:Nat) (r:Nat->Nat) (st:aG) (w:World):Nat:=
 match w.heap[b]? with
 | some (Obj.cells c _ _)=>(match c[0]?,c[1]? with
  | some (Value.int _ k),some (Value.int _ n)=>if (look st (.mk k n emptyB [])).isSome=true then r n.toNat+1 else 0
  | _,_=>0)
 | _=>0
theorem um {w0 w:World} {X:List Nat} {L:List Item} {S S0:ae} {cs:List Value} {t:T} {E:TypeId} {b i:Nat} (hI:Inv w0 X L S w) (hi:L[i]?=some (.blk b (.cells cs.toArray E))) (h:RdT S0 cs t) (r:Nat->Nat) (st:aG) :
  xh b r st w=if (look st t).isSome=true then r t.n.toNat+1 else 0:=by
 obtain ⟨kv,rfl,_⟩:=RdT.iff.1 h
 have hb:w.heap[b]?=_:=hI.its _ (List.mem_of_getElem? hi)
 unfold xh
 rw [hb]
 obtain ⟨k,n,s,ks⟩:=t
 rfl
section
attribute [local irreducible] Run CondV ar aI
theorem rT {N:Nat} {st:aG} (hg:Good N st) {t v:T} (hw:dk st t v) (ht:okU N t) {S:ae} {cs:List Value} {kb kp:Nat} {kc:Array Value} (h:RdT S cs t) (hk:KnU S kc st) :
  Tri Tryz.prog yv [.agg cs.toArray,kvU kb N kp] [.blk kb (.cells kc ab)] S fun r I' S'=>S'=S/\I'=[.blk kb (.cells kc ab)]/\∃ cs',r=.agg cs'.toArray/\RdT S cs' v:=by
 intro w hI
 obtain ⟨X,hX⟩:∃ X,X=bz [Item.blk kb (.cells kc ab)]:=⟨_,rfl⟩
 rw [<- hX] at hI ⊢
 have hlN:=hg.len
 obtain ⟨r,hr⟩:=hg.rk
 refine j0.2 ?_
 dsimp only[j0,aY]
 refine be hI fun b2 w' hI=>?_
 refine aA hI aU fun b4 w' hI=>?_
 have hI:Inv w X [.blk kb (.cells kc ab),.blk b2 (.cells cs.toArray ab),.blk b4 (.cells #[.int .i64 0,.int .i64 0,.string ⟨#[]⟩,.slice none 0 0] ab)] S w':=hI
 refine ⟨fun w'=>∃ (t':T) (cs':List Value),dk st t' v/\okU N t'/\RdT S cs' t'/\Inv w X [.blk kb (.cells kc ab),.blk b2 (.cells cs'.toArray ab),.blk b4 (.cells #[.int .i64 0,.int .i64 0,.string ⟨#[]⟩,.slice none 0 0] ab)] S w',
  fun w'=>xh b2 r st w',⟨t,cs,hw,ht,h,hI⟩,?_⟩
 intro _ _ _ _ _ _ _ _ _ _ _ _ _ _ _ _ _ _ _ _ _ _ _ _ w'
 rintro ⟨t',cs',hw',ht',hcs',hI⟩
 have hrank:=um hI (i:=1) rfl hcs' r st
 have hcs0:=hcs'
 obtain ⟨kv,rfl,_⟩:=RdT.iff.1 hcs'
 refine ⟨fun q w'=>q=.bool (look st t').isSome/\Inv w X [.blk kb (.cells kc ab),.blk b2 (.cells #[.int .i64 t'.kind,.int .i64 t'.n,.string t'.name,kv] ab),.blk b4 (.cells #[.int .i64 0,.int .i64 0,.string ⟨#[]⟩,.slice none 0 0] ab)] S w',?_,?_⟩
 ·refine ad hI 1 rfl aM aw rfl ?_
  refine bh ?_
  by_cases hk1:t'.kind=1
  ·rw [decide_eq_true hk1]
   obtain ⟨hn0,hnN,_⟩:=ht'.var hk1
   obtain ⟨j,hj⟩:∃ j:Nat,t'.n=j:=⟨t'.n.toNat,by omega⟩
   have hjN:j<N:=by omega
   have hjs:j<st.length:=by omega
   refine rpG ?_
   refine ad hI 1 rfl aR aw rfl ?_
   refine dL ah ?_
   refine bD ?_
   rw [decide_eq_true hnN]
   refine rpG ?_
   refine ad hI 1 rfl aR aw rfl ?_
   rw [hj]
   refine ay ah hjN ?_
   refine ao aM ?_
   rw [Nat.zero_add,Nat.add_zero]
   obtain ⟨hno,hso⟩:=hk.2 j hjs
   rw [hj] at hI
   have hlk:look st t'=st[j]:=by
    rw [look,if_pos hk1,hj,Int.toNat_natCast,List.getElem?_eq_getElem hjs]; rfl
   rw [hlk]
   cases hst2:st[j] with
   | none=>
    have hcell:=hno hst2
    refine ax hI 0 aw rfl (by have:=aD hcell 0 _ rfl; exact this) ?_
    refine dt ?_
    refine rpG ?_
    refine ⟨by simp,hI⟩
   | some t0=>
    have hR:=hso t0 hst2
    have hk0:t0.kind≠0:=(hg.ok t0 (by rw [<- hst2]; exact List.getElem_mem hjs)).kind
    obtain ⟨kv0',hcell,_,_,_,_⟩:=RdT.iff.1 hR
    refine ax hI 0 aw rfl (by have:=aD hcell 0 _ rfl; exact this) ?_
    refine dt ?_
    rw [decide_eq_false hk0]
    refine rpG ?_
    refine ⟨rfl,hI⟩
  ·rw [decide_eq_false hk1]
   refine rpG ?_
   refine ⟨?_,hI⟩
   rw [look,if_neg hk1]; rfl
 intro q _ _ _ _ _ _ _ _ _ _ _ _ _ _ _ _ _ _ w'
 rintro ⟨rfl,hI⟩
 refine av (fun hb=>?_) (fun hb=>?_)
 ·obtain ⟨u,hl⟩:=Option.isSome_iff_exists.1 hb
  obtain ⟨hk1,hs⟩:=eT.1 hl
  obtain ⟨hn0,hnN,_⟩:=ht'.var hk1
  obtain ⟨j,hj⟩:∃ j:Nat,t'.n=j:=⟨t'.n.toNat,by omega⟩
  have hjN:j<N:=by omega
  have hjs:j<st.length:=by omega
  rw [hj,Int.toNat_natCast] at hs
  have hst2:st[j]=some u:=by rw [List.getElem?_eq_getElem hjs,Option.some.injEq] at hs; exact hs
  have hR:=(hk.2 j hjs).2 u hst2
  have hwu:dk st u v:=by
   cases hw' with
   | stop h0=>rw [hl] at h0; cases h0
   | step h1 h2=>rw [hl,Option.some.injEq] at h1; rw [h1]; exact h2
  have hu:=(hg.look_ok hl).1
  refine ad hI 1 rfl aR aw rfl ?_
  rw [hj]
  refine ay ah hjN ?_
  rw [Nat.zero_add]
  refine b0 hI 0 (aL kc (j * 4) 4) ac rfl hR.length (fun i v hi=>aD rfl i v hi) ?_
  refine aj hI 1 rfl ac (by simpa using hR.length) rfl (by simpa using hR.one) fun w' hI=>?_
  have hI:Inv w X [.blk kb (.cells kc ab),.blk b2 (.cells (aL kc (j * 4) 4).toArray ab),.blk b4 (.cells #[.int .i64 0,.int .i64 0,.string ⟨#[]⟩,.slice none 0 0] ab)] S w':=hI
  refine ⟨⟨u,_,hwu,hu,hR,hI⟩,?_⟩
  have hrank2:=um hI (i:=1) rfl hR r st
  show xh b2 r st w'<xh b2 r st _
  rw [hrank,hrank2,if_pos hb,hj,Int.toNat_natCast]
  split
  ·rename_i hl2
   obtain ⟨u2,hl2⟩:=Option.isSome_iff_exists.1 hl2
   have:=hr j u hs u.n.toNat (by rw [yk (eT.1 hl2).1]; exact List.mem_singleton.2 rfl)
   omega
  ·omega
 ·have hv:v=t':=by
   cases hw' with
   | stop _=>rfl
   | step h1 _=>rw [h1] at hb; cases hb
  subst hv
  refine ag hI 1 ac rfl rfl ?_
  refine aj hI 2 rfl ac rfl rfl (by simpa using hcs0.one) fun w' hI=>?_
  refine aS hI 2 ac rfl rfl ?_
  exact ⟨_,_,_,rfl,hI.pick [true,false,false],Ext.refl _ _ _,rfl,rfl,_,rfl,hcs0⟩
end
theorem KB (l:List Int) (n x:Int):x∈xt l n↔x∈l ∨ x=n:=by
 unfold xt
 split
 ·rename_i h
  rw [EU] at h
  constructor
  ·exact .inl
  ·rintro (h1|rfl)
   ·exact h1
   ·exact h
 ·simp
mutual
theorem jP {N:Nat}:∀ (t:T) (l:List Int),okU N t->∀ x,x∈dZ t l↔x∈l ∨ ∃ m∈vT t,x=(m:Int)
 | .mk k n s ks,l,h,x=>by
  rw [okU] at h
  rw [dZ,vT]
  by_cases hk:k=1
  ·rw [if_pos hk,if_pos hk,KB]
   have:=(h.2.1 hk).1
   constructor
   ·rintro (h1|h1)
    ·exact .inl h1
    ·exact .inr ⟨n.toNat,List.mem_singleton.2 rfl,by omega⟩
   ·rintro (h1|⟨m,hm,e⟩)
    ·exact .inl h1
    ·rw [List.mem_singleton] at hm
     exact .inr (by omega)
  ·rw [if_neg hk,if_neg hk]
   exact qJ ks l h.2.2.1 x
theorem qJ {N:Nat}:∀ (ts:List T) (l:List Int),df N ts->∀ x,x∈cB ts l↔x∈l ∨ ∃ m∈vTL ts,x=(m:Int)
 | [],l,_,x=>by simp [cB,vTL]
 | t::ts,l,h,x=>by
  rw [df] at h
  rw [cB,vTL,qJ ts _ h.2,jP t l h.1]
  simp only [List.mem_append]
  constructor
  ·rintro ((h|⟨m,h,e⟩)|⟨m,h,e⟩)
   ·exact .inl h
   ·exact .inr ⟨m,.inl h,e⟩
   ·exact .inr ⟨m,.inr h,e⟩
  ·rintro (h|⟨m,h|h,e⟩)
   ·exact .inl (.inl h)
   ·exact .inl (.inr ⟨m,h,e⟩)
   ·exact .inr ⟨m,h,e⟩
end
mutual
theorem uR:∀ (t:T) (l:List Int),l.Nodup->(dZ t l).Nodup
 | .mk k n s ks,l,h=>by
  rw [dZ]
  split
  ·exact Hp n h
  ·exact BN ks l h
theorem BN:∀ (ts:List T) (l:List Int),l.Nodup->(cB ts l).Nodup
 | [],l,h=>by rw [cB]; exact h
 | t::ts,l,h=>by rw [cB]; exact BN ts _ (uR t l h)
end
theorem Mr (l:List Int) (n:Int):l <+: xt l n:=by
 unfold xt
 split
 ·exact List.prefix_refl _
 ·exact List.prefix_append _ _
mutual
theorem zw:∀ (t:T) (l:List Int),l <+: dZ t l
 | .mk k n s ks,l=>by
  rw [dZ]
  split
  ·exact Mr l n
  ·exact zX ks l
theorem zX:∀ (ts:List T) (l:List Int),l <+: cB ts l
 | [],l=>by rw [cB]; exact List.prefix_refl _
 | t::ts,l=>by
  rw [cB]
  exact (zw t l).trans (zX ts _)
end
theorem Gp (t:T):dl t<=1+(wT t:Int):=by
 have:=DA [t]
 simp only [cL,wL,List.length_cons,List.length_nil] at this
 omega
theorem Oa:∀ (N:Nat) (l:List Int),l.Nodup->(∀ x∈l,0<=x/\x<N)->l.length<=N:=by
 intro N l hd h
 have hsub:∀ x∈l,x∈(List.range N).map (fun i:Nat=>(i:Int)):=fun x hx=>by
  obtain ⟨h1,h2⟩:=h x hx
  exact List.mem_map.2 ⟨x.toNat,List.mem_range.2 (by omega),by omega⟩
 have:=List.Nodup.length_le_of_subset hd hsub
 simpa using this
section
attribute [local irreducible] Run CondV ar aI
open Classical in
theorem yD {N:Nat} (hN:N<=1000000) {st:aG} (hg:Good N st) {t:T} (ht:okU N t) (hwt:wT t<=1048576) (n:Int) (hn0:0<=n) {S:ae} {cs:List Value} {kb kp:Nat} {kc:Array Value} (h:RdT S cs t) (hk:KnU S kc st) :
  Tri Tryz.prog CA [.int .i64 n,.agg cs.toArray,kvU kb N kp] [.blk kb (.cells kc ab)] S fun r I' S'=>S'=S/\I'=[.blk kb (.cells kc ab)]/\r=.bool (decide (ld st n.toNat t)):=by
 intro w hI
 obtain ⟨X,hX⟩:∃ X,X=bz [Item.blk kb (.cells kc ab)]:=⟨_,rfl⟩
 rw [<- hX] at hI ⊢
 have hlN:=hg.len
 have hlc:=h.length
 have hct:=Gp t
 refine pz.2 ?_
 dsimp only[pz,cM]
 refine be hI fun b4 w' hI=>?_
 have hI:Inv w X [.blk kb (.cells kc ab),.blk b4 (.cells cs.toArray ab)] S w':=hI
 refine ag hI 1 ac rfl (by simpa using hlc) ?_
 have hI:Inv w X [.blk kb (.cells kc ab)] S w':=hI.pick [true,false]
 have hI:=hI.rowNil eN 1
 refine Run.call (A:=[_]) iy ir hI (ja t S cs (.slice none 0 0) [] h (by simp only [List.length_nil]; omega)) fun v' I' S' w'=>?_
 rintro ⟨rfl,eS⟩ _ hI
 rw [eS] at hI
 clear eS
 refine ⟨fun i t7 w'=>∃ (j:Nat) (ws:List Int),i=.int .i64 j/\j<=ws.length/\ws.Nodup/\(∀ x∈ws,0<=x/\x<N)/\(∀ x∈ws,∃ m∈vT t,Rch st m x.toNat)/\(∀ m∈vT t,(m:Int)∈ws)/\
   (∀ k (hk:k<ws.length),k<j->ws[k]≠n/\∀ u,st[ws[k].toNat]?=some (some u)->∀ m∈vT u,(m:Int)∈ws)/\Inv w X [.blk kb (.cells kc ab),fY t7 ws] S w',
  fun i _ _=>N - (intOf i).toNat,⟨0,_,rfl,Nat.zero_le _,uR t [] List.nodup_nil,fun x hx=>?_,fun x hx=>?_,fun m hm=>?_,fun k _ hk0=>absurd hk0 (by omega),hI⟩,?_⟩
 ·rcases (jP t [] ht x).1 hx with hx|⟨m,hm,rfl⟩
  ·cases hx
  ·have:=Mi t ht m hm
   omega
 ·rcases (jP t [] ht x).1 hx with hx|⟨m,hm,rfl⟩
  ·cases hx
  ·exact ⟨m,hm,by rw [Int.toNat_natCast]; exact .refl m⟩
 ·exact (jP t [] ht _).2 (.inr ⟨m,hm,rfl⟩)
 intro t8 _ _ t7 _ _ _ _ _ _ _ _ _ _ _ _ _ _ _ _ _ _ _ _ _ _ _ _ _ _ _ _ _ _ _ _ _ _ _ _ _ _ w'
 rintro ⟨j,ws,rfl,hj,hnd,hrng,hreach,hroot,hdone,hI⟩
 have hwl:=Oa N ws hnd hrng
 obtain ⟨S1,hle,hrd,hI1,hback⟩:=Inv.lend (A:=[_]) hI
 have hrd:=hrd.ints
 refine aK hrd cW ?_
 refine bD ?_
 refine aN (fun hji=>?_) (fun hji=>?_)
 ·have hj':j<ws.length:=by omega
  obtain ⟨hx0,hxN⟩:=hrng _ (List.getElem_mem hj')
  obtain ⟨x,hx⟩:∃ x:Nat,ws[j]=x:=⟨ws[j].toNat,by omega⟩
  have hxs:x<st.length:=by omega
  refine ⟨fun t7' w'=>∃ ws':List Int,ws'.Nodup/\(∀ x∈ws',0<=x/\x<N)/\(∀ x∈ws',∃ m∈vT t,Rch st m x.toNat)/\(∀ y∈ws,y∈ws')/\ws <+: ws'/\
   ws[j]≠n/\(∀ u,st[x]?=some (some u)->∀ m∈vT u,(m:Int)∈ws')/\Inv w X [.blk kb (.cells kc ab),fY t7' ws'] S w',?_,?_⟩
  ·refine eX hI1 hrd cW aw hj' (fun cs hcs=>hcs) ?_
   refine bh ?_
   refine aN (fun he=>?_) (fun he=>?_)
   ·have hocc:ld st n.toNat t:=by
     obtain ⟨m,hm,hr⟩:=hreach _ (List.getElem_mem hj')
     rw [he] at hr
     exact ⟨m,hm,hr⟩
    have hI:=hback _ _ hI1
    refine ⟨_,_,_,rfl,hI.pick [true,false],Ext.refl _ _ _,rfl,rfl,?_⟩
    rw [decide_eq_true hocc]
   ·refine ⟨fun q w'=>q=.bool (decide (∃ u,st[x]?=some (some u)))/\Inv w X [.blk kb (.cells kc ab)] S1 w',?_,?_⟩
    ·refine eX hI1 hrd cW aw hj' (fun cs hcs=>hcs) ?_
     refine dL ah ?_
     refine bD ?_
     rw [decide_eq_true hxN]
     refine rpG ?_
     refine eX hI1 hrd cW aw hj' (fun cs hcs=>hcs) ?_
     rw [hx]
     refine ay ah (by omega) ?_
     refine ao aM ?_
     rw [Nat.zero_add,Nat.add_zero]
     obtain ⟨hno,hso⟩:=hk.2 x hxs
     cases hst2:st[x] with
     | none=>
      have hcell:=hno hst2
      refine ax hI1 0 aw rfl (by have:=aD hcell 0 _ rfl; exact this) ?_
      refine dt ?_
      refine rpG ?_
      refine ⟨?_,hI1⟩
      rw [decide_eq_false (show ¬ ∃ u,st[x]?=some (some u) from fun ⟨u,hu⟩=>by rw [List.getElem?_eq_getElem hxs,hst2] at hu; cases hu)]
      simp
     | some t0=>
      have hR:=hso t0 hst2
      have hk0:t0.kind≠0:=(hg.ok t0 (by rw [<- hst2]; exact List.getElem_mem hxs)).kind
      obtain ⟨kv0',hcell,_,_,_,_⟩:=RdT.iff.1 hR
      refine ax hI1 0 aw rfl (by have:=aD hcell 0 _ rfl; exact this) ?_
      refine dt ?_
      rw [decide_eq_false hk0]
      refine rpG ?_
      refine ⟨?_,hI1⟩
      rw [decide_eq_true (show ∃ u,st[x]?=some (some u) from ⟨t0,by rw [List.getElem?_eq_getElem hxs,hst2]⟩)]
      rfl
    intro q _ _ _ _ _ _ _ _ _ _ _ _ _ _ _ _ _ w'
    rintro ⟨rfl,hI1⟩
    refine aN (fun hq=>?_) (fun hq=>?_)
    ·obtain ⟨u,hu⟩:=hq
     have hst2:st[x]=some u:=by rw [List.getElem?_eq_getElem hxs,Option.some.injEq] at hu; exact hu
     have hR:=(hk.2 x hxs).2 u hst2
     have hum:=List.mem_of_getElem? hu
     have hou:=hg.ok u hum
     have hwu:=hg.w u hum
     have hcu:=Gp u
     refine eX hI1 hrd cW aw hj' (fun cs hcs=>hcs) ?_
     rw [hx]
     refine ay ah (by omega) ?_
     rw [Nat.zero_add]
     refine b0 hI1 0 (aL kc (x * 4) 4) ac rfl hR.length (fun i v hi=>aD rfl i v hi) ?_
     have hI:=hback _ _ hI1
     refine Run.call (A:=[_]) iy ir hI (ja u S _ t7 ws hR (by omega)) fun v' I' S' w'=>?_
     rintro ⟨rfl,eS⟩ _ hI
     rw [eS] at hI
     clear eS
     have hmem:=jP u ws hou
     refine ⟨_,uR u ws hnd,fun y hy=>?_,fun y hy=>?_,fun y hy=>(hmem y).2 (.inl hy),zw u ws,by rw [<- hx]; exact he,fun u' hu' m hm=>?_,hI⟩
     ·rcases (hmem y).1 hy with hy|⟨m,hm,rfl⟩
      ·exact hrng y hy
      ·have:=Mi u hou m hm
       omega
     ·rcases (hmem y).1 hy with hy|⟨m,hm,rfl⟩
      ·exact hreach y hy
      ·obtain ⟨m0,hm0,hr0⟩:=hreach _ (List.getElem_mem hj')
       rw [hx,Int.toNat_natCast] at hr0
       exact ⟨m0,hm0,hr0.trans (.step hu hm (by rw [Int.toNat_natCast]; exact .refl m))⟩
     ·rw [hu,Option.some.injEq,Option.some.injEq] at hu'
      subst hu'
      exact (hmem _).2 (.inr ⟨m,hm,rfl⟩)
    ·have hI:=hback _ _ hI1
     exact ⟨ws,hnd,hrng,hreach,fun y hy=>hy,List.prefix_refl _,he,fun u hu=>absurd ⟨u,hu⟩ hq,hI⟩
  intro t7' _ _ _ _ _ _ _ _ _ _ _ _ _ _ _ _ _ _ _ _ _ _ _ _ _ _ _ _ _ _ _ _ _ _ w'
  rintro ⟨ws',hnd',hrng',hreach',hsub,hpf,hne,hcl,hI⟩
  have hl':=hpf.length_le
  have hpre:∀ k (hk:k<ws.length),ws'[k]'(by omega)=ws[k]:=fun k hk=>(hpf.getElem hk).symm
  refine bm (by omega) ?_
  refine ⟨⟨j+1,ws',rfl,by omega,hnd',hrng',hreach',fun m hm=>hsub _ (hroot m hm),fun k hk' hkj=>?_,hI⟩,by simp [intOf]; omega⟩
  by_cases e:k=j
  ·subst e
   have e1:=hpre k hj'
   rw [e1]
   refine ⟨hne,fun u hu=>?_⟩
   rw [hx,Int.toNat_natCast] at hu
   exact hcl u hu
  ·have hkl:k<ws.length:=by omega
   rw [hpre k hkl]
   obtain ⟨h1,h2⟩:=hdone k hkl (by omega)
   exact ⟨h1,fun u hu m hm=>hsub _ (h2 u hu m hm)⟩
 ·have hj2:j=ws.length:=by omega
  have hno:¬ ld st n.toNat t:=by
   rintro ⟨m,hm,hr⟩
   have key:∀ a c,Rch st a c->(a:Int)∈ws->(c:Int)∈ws:=by
    intro a c hac
    induction hac with
    | refl=>exact id
    | step h1 h2 _ ih=>
     intro ha
     obtain ⟨k,hk,e⟩:=List.mem_iff_getElem.1 ha
     refine ih ((hdone k hk (by omega)).2 _ ?_ _ h2)
     rw [e,Int.toNat_natCast]
     exact h1
   have h1:=key m _ hr (hroot m hm)
   obtain ⟨k,hk,e⟩:=List.mem_iff_getElem.1 h1
   exact (hdone k hk (by omega)).1 (by rw [e]; omega)
  have hI:=hback _ _ hI1
  refine ⟨_,_,_,rfl,hI.pick [true,false],Ext.refl _ _ _,rfl,rfl,?_⟩
  rw [decide_eq_false hno]
end
end
section
open Go Go.RowKit
inductive Chain (Call:aG->T->T->Bool->aG->Prop):aG->List T->List T->Bool->aG->Prop
 | nil {st:aG}:Chain Call st [] [] true st
 | stop {st st':aG} {a b:T} {xs ys:List T}:Call st a b false st'->Chain Call st (a::xs) (b::ys) false st'
 | go {st st1 st':aG} {a b:T} {xs ys:List T} {r:Bool}:Call st a b true st1->Chain Call st1 xs ys r st'->Chain Call st (a::xs) (b::ys) r st'
theorem Chain.head {Call:aG->T->T->Bool->aG->Prop} {st st':aG} {a b:T} {xs ys:List T} {r:Bool} (h:Chain Call st (a::xs) (b::ys) r st') :
  ∃ r1 st1,Call st a b r1 st1/\(r1=false->r=false/\st'=st1)/\(r1=true->Chain Call st1 xs ys r st'):=by
 cases h with
 | stop h=>exact ⟨false,_,h,fun _=>⟨rfl,rfl⟩,fun e=>(by cases e)⟩
 | go h h'=>exact ⟨true,_,h,fun e=>(by cases e),fun _=>h'⟩
theorem Chain.done {Call:aG->T->T->Bool->aG->Prop} {st st':aG} {r:Bool} (h:Chain Call st [] [] r st'):r=true/\st'=st:=by
 cases h
 exact ⟨rfl,rfl⟩
def PA (Call:aG->T->T->Bool->aG->Prop) (st:aG) (a' b':T) (r:Bool) (st':aG):Prop:=
 (a'.kind=1/\b'.kind=1/\a'.n=b'.n/\r=true/\st'=st) ∨
 (a'.kind=1/\¬ (b'.kind=1/\a'.n=b'.n)/\((¬ ld st a'.n.toNat b'/\r=true/\st'=st.set a'.n.toNat (some b')) ∨ (ld st a'.n.toNat b'/\r=false/\st'=st))) ∨
 (a'.kind≠1/\b'.kind=1/\((¬ ld st b'.n.toNat a'/\r=true/\st'=st.set b'.n.toNat (some a')) ∨ (ld st b'.n.toNat a'/\r=false/\st'=st))) ∨
 (a'.kind≠1/\b'.kind≠1/\((pe a' b'=false/\r=false/\st'=st) ∨ (pe a' b'=true/\Chain Call st a'.kids b'.kids r st')))
theorem Uni.calls {N:Nat} {Call:aG->T->T->Bool->aG->Prop} (hcall:∀ st a b a' b' r st',Good N st->okJ N (.one a b)->dk st a a'->dk st b b'->PA Call st a' b' r st'->Call st a b r st') {st st':aG} {j:Job} {r:Bool} (hu:Uni st j r st') :
  Good N st->okJ N j->match j with
   | .one a b=>Call st a b r st'
   | .list xs ys=>Chain Call st xs ys r st':=by
 induction hu with
 | same h1 h2 h3 h4 h5=>exact fun hg hj=>hcall _ _ _ _ _ _ _ hg hj h1 h2 (.inl ⟨h3,h4,h5,rfl,rfl⟩)
 | bindA h1 h2 h3 h4 h5=>exact fun hg hj=>hcall _ _ _ _ _ _ _ hg hj h1 h2 (.inr (.inl ⟨h3,h4,.inl ⟨h5,rfl,rfl⟩⟩))
 | occA h1 h2 h3 h4 h5=>exact fun hg hj=>hcall _ _ _ _ _ _ _ hg hj h1 h2 (.inr (.inl ⟨h3,h4,.inr ⟨h5,rfl,rfl⟩⟩))
 | bindB h1 h2 h3 h4 h5=>exact fun hg hj=>hcall _ _ _ _ _ _ _ hg hj h1 h2 (.inr (.inr (.inl ⟨h3,h4,.inl ⟨h5,rfl,rfl⟩⟩)))
 | occB h1 h2 h3 h4 h5=>exact fun hg hj=>hcall _ _ _ _ _ _ _ hg hj h1 h2 (.inr (.inr (.inl ⟨h3,h4,.inr ⟨h5,rfl,rfl⟩⟩)))
 | clash h1 h2 h3 h4 h5=>exact fun hg hj=>hcall _ _ _ _ _ _ _ hg hj h1 h2 (.inr (.inr (.inr ⟨h3,h4,.inl ⟨h5,rfl,rfl⟩⟩)))
 | kids h1 h2 h3 h4 h5 _ ih=>
  exact fun hg hj=>hcall _ _ _ _ _ _ _ hg hj h1 h2 (.inr (.inr (.inr ⟨h3,h4,.inr ⟨h5,ih hg ⟨j8 (eJ hg h1 hj.1),j8 (eJ hg h2 hj.2),tz h5⟩⟩⟩)))
 | nil=>exact fun _ _=>.nil
 | stop _ ih=>exact fun hg hj=>.stop (ih hg ⟨hj.1 _ (List.mem_cons_self ..),hj.2.1 _ (List.mem_cons_self ..)⟩)
 | go h1 _ ih1 ih2=>
  intro hg hj
  have hj1:okJ N (.one _ _):=⟨hj.1 _ (List.mem_cons_self ..),hj.2.1 _ (List.mem_cons_self ..)⟩
  exact .go (ih1 hg hj1) (ih2 (h1.good hg hj1).1 ⟨fun a ha=>hj.1 a (List.mem_cons_of_mem _ ha),fun b hb=>hj.2.1 b (List.mem_cons_of_mem _ hb),by have:=hj.2.2; simpa using this⟩)
def UC (N kp:Nat) (st:aG) (a b:T) (r:Bool) (st':aG):Prop:=∀ (S:ae) (cs ds:List Value) (kb:Nat) (kc:Array Value),RdT S cs a->RdT S ds b->KnU S kc st->
 Tri Tryz.prog Gn [.agg cs.toArray,.agg ds.toArray,kvU kb N kp] [.blk kb (.cells kc ab)] S fun q I' S'=>S'=S/\q=.bool r/\∃ kc',I'=[.blk kb (.cells kc' ab)]/\KnU S kc' st'
section
attribute [local irreducible] Run CondV ar aI
set_option maxHeartbeats 1000000 in
theorem tA {N kp:Nat} (hN:N<=1000000) {st st':aG} {a b a' b':T} {r:Bool} (hg:Good N st) (hj:okJ N (.one a b)) (hwa:dk st a a') (hwb:dk st b b')
  (hsw:a'.kind≠1->b'.kind=1->UC N kp st b' a' r st') (he:PA (UC N kp) st a' b' r st'):UC N kp st a b r st':=by
 intro S cs ds kb kc h h' hkc w hI
 have hlc:=h.length
 have hld:=h'.length
 have hoa:=eJ hg hwa hj.1
 have hob:=eJ hg hwb hj.2
 have hlN:=hg.len
 obtain ⟨X,hX⟩:∃ X,X=bz [Item.blk kb (.cells kc ab)]:=⟨_,rfl⟩
 rw [<- hX] at hI ⊢
 refine r6.2 ?_
 dsimp only[r6,cM]
 refine be hI fun b1 w' hI=>?_
 refine be hI fun b2 w' hI=>?_
 have hI:Inv w X ([.blk b1 (.cells cs.toArray ab),.blk b2 (.cells ds.toArray ab)]++[.blk kb (.cells kc ab)]) S w':=hI.perm (List.perm_append_comm (l₁:=[_,_]) (l₂:=[_]))
 refine ag hI 0 ac rfl (by simpa using hlc) ?_
 refine Run.call nn ov hI (rT hg hwa hj.1.1 h hkc) fun v' I' S' w'=>?_
 rintro ⟨eS,rfl,cs',rfl,hcs'⟩ _ hI
 rw [eS] at hI
 clear eS
 refine aj hI 0 rfl ac (by simpa using hcs'.length) (by simpa using hlc) (by simpa using hcs'.one) fun w' hI=>?_
 have hI:Inv w X ([.blk b1 (.cells cs'.toArray ab),.blk b2 (.cells ds.toArray ab)]++[.blk kb (.cells kc ab)]) S w':=hI
 refine ag hI 1 ac rfl (by simpa using hld) ?_
 refine Run.call nn ov hI (rT hg hwb hj.2.1 h' hkc) fun v' I' S' w'=>?_
 rintro ⟨eS,rfl,ds',rfl,hds'⟩ _ hI
 rw [eS] at hI
 clear eS
 refine aj hI 1 rfl ac (by simpa using hds'.length) (by simpa using hld) (by simpa using hds'.one) fun w' hI=>?_
 have hI:Inv w X [.blk b1 (.cells cs'.toArray ab),.blk b2 (.cells ds'.toArray ab),.blk kb (.cells kc ab)] S w':=hI
 have hcs:=hcs'
 have hds:=hds'
 obtain ⟨kv,rfl,_,_,_,hks⟩:=RdT.iff.1 hcs'
 obtain ⟨kv',rfl,_,_,_,hks'⟩:=RdT.iff.1 hds'
 obtain ⟨k,n,s,ks⟩:=a'
 obtain ⟨k',n',s',ks'⟩:=b'
 unfold PA at he
 simp only [T.name,T.kids,T.kind,T.n] at hks hks' hI he hsw ⊢
 have hlen:=hks.le
 simp only [maxLen] at hlen
 refine ⟨fun q w'=>q=.bool (decide (k=1/\k'=1/\n=n'))/\Inv w X [.blk b1 (.cells #[.int .i64 k,.int .i64 n,.string s,kv] ab),.blk b2 (.cells #[.int .i64 k',.int .i64 n',.string s',kv'] ab),.blk kb (.cells kc ab)] S w',?_,?_⟩
 ·refine ad hI 0 rfl aM aw rfl ?_
  refine bh ?_
  by_cases e1:k=1
  ·rw [decide_eq_true e1]
   refine rpG ?_
   refine ad hI 1 rfl aM aw rfl ?_
   refine bh ?_
   by_cases e2:k'=1
   ·rw [decide_eq_true e2]
    refine rpG ?_
    refine ad hI 0 rfl aR aw rfl ?_
    refine ad hI 1 rfl aR aw rfl ?_
    refine bh ?_
    refine rpG ?_
    exact ⟨by simp [e1,e2],hI⟩
   ·rw [decide_eq_false e2]
    refine rpG ?_
    exact ⟨by simp [e2],hI⟩
  ·rw [decide_eq_false e1]
   refine rpG ?_
   exact ⟨by simp [e1],hI⟩
 intro q _ _ _ _ _ _ _ _ _ _ _ _ _ _ w'
 rintro ⟨rfl,hI⟩
 refine aN (fun hsame=>?_) (fun hsame=>?_)
 ·have:r=true/\st'=st:=by
   rcases he with ⟨_,_,_,h1,h2⟩|⟨_,h1,_⟩|⟨h1,_,_⟩|⟨h1,_,_⟩
   ·exact ⟨h1,h2⟩
   ·exact absurd hsame.2 h1
   ·exact absurd hsame.1 h1
   ·exact absurd hsame.1 h1
  obtain ⟨rfl,rfl⟩:=this
  exact ⟨_,_,_,rfl,hI.pick [false,false,true],Ext.refl _ _ _,rfl,rfl,_,rfl,hkc⟩
 refine ad hI 0 rfl aM aw rfl ?_
 refine bh ?_
 refine aN (fun hk1=>?_) (fun hk1=>?_)
 ·have hend:(¬ ld st n.toNat (.mk k' n' s' ks')/\r=true/\st'=st.set n.toNat (some (.mk k' n' s' ks'))) ∨ (ld st n.toNat (.mk k' n' s' ks')/\r=false/\st'=st):=by
   rcases he with ⟨h1,h2,h3,_⟩|⟨_,_,h1⟩|⟨h1,_,_⟩|⟨h1,_,_⟩
   ·exact absurd ⟨h1,h2,h3⟩ hsame
   ·exact h1
   ·exact absurd hk1 h1
   ·exact absurd hk1 h1
  obtain ⟨hn0,hnN,_⟩:=hoa.1.var hk1
  simp only [T.n] at hn0 hnN
  obtain ⟨j,rfl⟩:∃ j:Nat,n=j:=⟨n.toNat,by omega⟩
  refine ad hI 0 rfl aR aw rfl ?_
  refine ag hI 1 ac rfl rfl ?_
  refine Run.call (A:=[_,_]) Aa Bk hI (yD hN hg hob.1 hob.2 j (by omega) hds hkc) fun v' I' S' w'=>?_
  rintro ⟨eS,rfl,rfl⟩ _ hI
  rw [eS] at hI
  clear eS
  have hI:Inv w X [.blk b1 (.cells #[.int .i64 k,.int .i64 j,.string s,kv] ab),.blk b2 (.cells #[.int .i64 k',.int .i64 n',.string s',kv'] ab),.blk kb (.cells kc ab)] S w':=hI
  refine av (fun hb=>?_) (fun hb=>?_)
  ·have hocc:ld st (Int.toNat j) (.mk k' n' s' ks'):=@of_decide_eq_true _ (Classical.propDecidable _) hb
   have:r=false/\st'=st:=by
    rcases hend with ⟨h1,_⟩|⟨_,h1⟩
    ·exact absurd hocc h1
    ·exact h1
   obtain ⟨rfl,rfl⟩:=this
   exact ⟨_,_,_,rfl,hI.pick [false,false,true],Ext.refl _ _ _,rfl,rfl,_,rfl,hkc⟩
  ·have hocc:¬ ld st (Int.toNat j) (.mk k' n' s' ks'):=@of_decide_eq_false _ (Classical.propDecidable _) hb
   have:r=true/\st'=st.set (Int.toNat j) (some (.mk k' n' s' ks')):=by
    rcases hend with ⟨_,h1⟩|⟨h1,_⟩
    ·exact h1
    ·exact absurd h1 hocc
   obtain ⟨rfl,rfl⟩:=this
   rw [Int.toNat_natCast]
   refine ad hI 0 rfl aR aw rfl ?_
   refine ag hI 1 ac rfl rfl ?_
   refine ay ah (by omega) ?_
   rw [Nat.zero_add]
   refine s7 hI 2 rfl ac rfl (by have:=hkc.1; exact Nat.ble_eq_true_of_le (by omega)) hds.one fun w' hI=>?_
   exact ⟨_,_,_,rfl,hI.pick [false,false,true],Ext.refl _ _ _,rfl,rfl,_,rfl,hkc.set (by omega) hds⟩
 refine ad hI 1 rfl aM aw rfl ?_
 refine bh ?_
 refine aN (fun hk2=>?_) (fun hk2=>?_)
 ·refine ag hI 1 ac rfl rfl ?_
  refine ag hI 0 ac rfl rfl ?_
  refine Run.call (A:=[_,_]) eK eI hI (hsw hk1 hk2 S _ _ kb kc hds hcs hkc) fun v' I' S' w'=>?_
  rintro ⟨eS,rfl,kc',rfl,hkc'⟩ _ hI
  rw [eS] at hI
  clear eS
  exact ⟨_,_,_,rfl,hI.pick [false,false,true],Ext.refl _ _ _,rfl,rfl,_,rfl,hkc'⟩
 have hend:(pe (.mk k n s ks) (.mk k' n' s' ks')=false/\r=false/\st'=st) ∨ (pe (.mk k n s ks) (.mk k' n' s' ks')=true/\Chain (UC N kp) st ks ks' r st'):=by
  rcases he with ⟨h1,_⟩|⟨h1,_,_⟩|⟨_,h1,_⟩|⟨_,_,h1⟩
  ·exact absurd h1 hk1
  ·exact absurd h1 hk1
  ·exact absurd h1 hk2
  ·exact h1
 refine ⟨fun q w'=>q=.bool (!pe (.mk k n s ks) (.mk k' n' s' ks'))/\Inv w X [.blk b1 (.cells #[.int .i64 k,.int .i64 n,.string s,kv] ab),.blk b2 (.cells #[.int .i64 k',.int .i64 n',.string s',kv'] ab),.blk kb (.cells kc ab)] S w',?_,?_⟩
 ·refine ad hI 0 rfl aM aw rfl ?_
  refine ad hI 1 rfl aM aw rfl ?_
  refine dt ?_
  by_cases e1:k=k'
  ·rw [decide_eq_true e1]
   refine rpG ?_
   refine ad hI 0 rfl aR aw rfl ?_
   refine ad hI 1 rfl aR aw rfl ?_
   refine dt ?_
   by_cases e2:n=n'
   ·rw [decide_eq_true e2]
    refine rpG ?_
    refine ad hI 0 rfl aH aC rfl ?_
    refine ad hI 1 rfl aH aC rfl ?_
    refine IX ?_
    by_cases e3:s=s'
    ·rw [decide_eq_true e3]
     refine rpG ?_
     refine ad hI 0 rfl ak al rfl ?_
     refine aK hks ah ?_
     refine ad hI 1 rfl ak al rfl ?_
     refine aK hks' ah ?_
     refine dt ?_
     refine rpG ?_
     exact ⟨by rw [ig,decide_eq_true e1,decide_eq_true e2,decide_eq_true e3,OE]; rfl,hI⟩
    ·rw [decide_eq_false e3]
     refine rpG ?_
     exact ⟨by rw [ig,decide_eq_true e1,decide_eq_true e2,decide_eq_false e3]; rfl,hI⟩
   ·rw [decide_eq_false e2]
    refine rpG ?_
    exact ⟨by rw [ig,decide_eq_true e1,decide_eq_false e2]; rfl,hI⟩
  ·rw [decide_eq_false e1]
   refine rpG ?_
   exact ⟨by rw [ig,decide_eq_false e1]; rfl,hI⟩
 intro q _ _ _ _ _ _ _ _ _ _ _ _ _ _ _ _ _ _ _ _ _ _ _ _ _ _ _ w'
 rintro ⟨rfl,hI⟩
 cases hd:pe (.mk k n s ks) (.mk k' n' s' ks')
 ·refine av (fun _=>?_) (fun hb=>by cases hb)
  have:r=false/\st'=st:=by
   rcases hend with ⟨_,h1⟩|⟨h1,_⟩
   ·exact h1
   ·rw [hd] at h1; cases h1
  obtain ⟨rfl,rfl⟩:=this
  exact ⟨_,_,_,rfl,hI.pick [false,false,true],Ext.refl _ _ _,rfl,rfl,_,rfl,hkc⟩
 refine av (fun hb=>by cases hb) (fun _=>?_)
 have hle:ks.length=ks'.length:=tz hd
 have hch:Chain (UC N kp) st ks ks' r st':=by
  rcases hend with ⟨h1,_⟩|⟨_,h1⟩
  ·rw [hd] at h1; cases h1
  ·exact h1
 refine ⟨fun i w'=>∃ (j:Nat) (st1:aG) (kc1:Array Value),j<=ks.length/\i=.int .i64 j/\Chain (UC N kp) st1 (ks.drop j) (ks'.drop j) r st'/\KnU S kc1 st1/\Inv w X [.blk b1 (.cells #[.int .i64 k,.int .i64 n,.string s,kv] ab),.blk b2 (.cells #[.int .i64 k',.int .i64 n',.string s',kv'] ab),.blk kb (.cells kc1 ab)] S w',fun i _=>ks.length - (intOf i).toNat,⟨0,st,kc,Nat.zero_le _,rfl,hch,hkc,hI⟩,?_⟩
 intro t7 _ _ _ t96 t95 t94 t93 t92 t91 t90 t89 t88 t87 t86 t85 t84 _ _ _ _ _ w'
 rintro ⟨j,st1,kc1,hj,rfl,hrel,hkc1,hI⟩
 refine ad hI 0 rfl ak al rfl ?_
 refine aK hks ah ?_
 refine bD ?_
 refine aN (fun hji=>?_) (fun hji=>?_)
 ·have hj1:j<ks.length:=by omega
  have hj2:j<ks'.length:=by omega
  obtain ⟨c1,o1,cap1,a1,E1,fz1,rfl,hS1,hR1⟩:=hks.at_ hj1
  obtain ⟨c2,o2,cap2,a2,E2,fz2,rfl,hS2,hR2⟩:=hks'.at_ hj2
  rw [List.drop_eq_getElem_cons hj1,List.drop_eq_getElem_cons hj2] at hrel
  obtain ⟨r1,st2,hcall,hno,hyes⟩:=hrel.head
  have hcall:=hcall S _ _ kb kc1 hR1 hR2 hkc1
  refine ⟨fun D QW Qv OA Oe M1 JH Jr Ja EE Io GQ Jf K1 w_=>Fx D 0 [K1=.pointer (some ⟨b1,3,none⟩),Jf=.slice (some ⟨c1,o1,none⟩) ks.length cap1,GQ=.int .i64 j,Io=.pointer (some ⟨c1,o1+j * 4,none⟩),EE=.agg (aL a1 (o1+j * 4) 4).toArray,Ja=.pointer (some ⟨b2,3,none⟩),Jr=.slice (some ⟨c2,o2,none⟩) ks'.length cap2,JH=.int .i64 j,M1=.pointer (some ⟨c2,o2+j * 4,none⟩),Oe=.agg (aL a2 (o2+j * 4) 4).toArray,OA=kvU kb N kp,Qv=.bool r1,QW=.bool (!r1)]/\(D 11=false->Inv w X [.blk b1 (.cells #[.int .i64 k,.int .i64 n,.string s,.slice (some ⟨c1,o1,none⟩) ks.length cap1] ab),.blk b2 (.cells #[.int .i64 k',.int .i64 n',.string s',.slice (some ⟨c2,o2,none⟩) ks'.length cap2] ab),.blk kb (.cells kc1 ab)] S w_)/\(D 11=true->∃ kc2,KnU S kc2 st2/\Inv w X [.blk b1 (.cells #[.int .i64 k,.int .i64 n,.string s,.slice (some ⟨c1,o1,none⟩) ks.length cap1] ab),.blk b2 (.cells #[.int .i64 k',.int .i64 n',.string s',.slice (some ⟨c2,o2,none⟩) ks'.length cap2] ab),.blk kb (.cells kc2 ab)] S w_)/\∃ kc3,Inv w X [.blk b1 (.cells #[.int .i64 k,.int .i64 n,.string s,.slice (some ⟨c1,o1,none⟩) ks.length cap1] ab),.blk b2 (.cells #[.int .i64 k',.int .i64 n',.string s',.slice (some ⟨c2,o2,none⟩) ks'.length cap2] ab),.blk kb (.cells kc3 ab)] S w_,⟨Fx.nil _ _,⟨fun _=>hI.draw,aT,kc1,hI.draw⟩⟩,⟨?_,?_,?_,?_,?_,?_,?_,?_,?_,?_,?_,?_,?_,trivial⟩,?_⟩
  all_goals (intro D bw; intros; rename_i QW Qv OA Oe M1 JH Jr Ja EE Io GQ Jf K1 w_ hA_; have hF_:=hA_.1; obtain ⟨⟨bQ,bS,bU,bR,bY,bZ,bO,cG,cS,cT,bL,co,cO,_⟩,⟨hI0,hI1,kc3,hI⟩⟩:=hA_)
  ·refine ao ak ?_
   exact ⟨hF_.set 0 rfl,⟨hI0,hI1,kc3,hI⟩⟩
  ·obtain rfl:=bQ ‹_›
   refine ax hI 0 al rfl rfl ?_
   exact ⟨hF_.set 1 rfl,⟨hI0,hI1,kc3,hI⟩⟩
  ·exact ⟨hF_.set 2 rfl,⟨hI0,hI1,kc3,hI⟩⟩
  ·obtain rfl:=bS ‹_›
   obtain rfl:=bU ‹_›
   refine ay ah hj1 ?_
   exact ⟨hF_.set 3 rfl,⟨hI0,hI1,kc3,hI⟩⟩
  ·obtain rfl:=bR ‹_›
   refine ci ac hR1.length (fun j v hj=>by rw [hI.cellS hS1]; exact aD rfl j v hj) ?_
   exact ⟨hF_.set 4 rfl,⟨hI0,hI1,kc3,hI⟩⟩
  ·refine ao ak ?_
   exact ⟨hF_.set 5 rfl,⟨hI0,hI1,kc3,hI⟩⟩
  ·obtain rfl:=bZ ‹_›
   refine ax hI 1 al rfl rfl ?_
   exact ⟨hF_.set 6 rfl,⟨hI0,hI1,kc3,hI⟩⟩
  ·exact ⟨hF_.set 7 rfl,⟨hI0,hI1,kc3,hI⟩⟩
  ·obtain rfl:=bO ‹_›
   obtain rfl:=cG ‹_›
   refine ay ah hj2 ?_
   exact ⟨hF_.set 8 rfl,⟨hI0,hI1,kc3,hI⟩⟩
  ·obtain rfl:=cS ‹_›
   refine ci ac hR2.length (fun j v hj=>by rw [hI.cellS hS2]; exact aD rfl j v hj) ?_
   exact ⟨hF_.set 9 rfl,⟨hI0,hI1,kc3,hI⟩⟩
  ·exact ⟨hF_.set 10 rfl,⟨hI0,hI1,kc3,hI⟩⟩
  ·obtain rfl:=bY ‹_›
   obtain rfl:=cT ‹_›
   obtain rfl:=bL ‹_›
   refine Run.call (A:=[_,_]) eK eI (hI0 bw) hcall fun v' I' S' w_=>?_
   rintro ⟨eS,rfl,kc2,rfl,hk2⟩ _ hI
   rw [eS] at hI
   have hI0:=fun (h:aB D 11 11=false)=>(Bool.noConfusion h:Inv w X [.blk b1 (.cells #[.int .i64 k,.int .i64 n,.string s,.slice (some ⟨c1,o1,none⟩) ks.length cap1] ab),.blk b2 (.cells #[.int .i64 k',.int .i64 n',.string s',.slice (some ⟨c2,o2,none⟩) ks'.length cap2] ab),.blk kb (.cells kc1 ab)] S w_)
   have hI1:=fun (_:aB D 11 11=true)=>(⟨kc2,hk2,hI⟩:∃ kc2,KnU S kc2 st2/\Inv w X [.blk b1 (.cells #[.int .i64 k,.int .i64 n,.string s,.slice (some ⟨c1,o1,none⟩) ks.length cap1] ab),.blk b2 (.cells #[.int .i64 k',.int .i64 n',.string s',.slice (some ⟨c2,o2,none⟩) ks'.length cap2] ab),.blk kb (.cells kc2 ab)] S w_)
   obtain ⟨kc3,hI⟩:∃ kc3,Inv w X [.blk b1 (.cells #[.int .i64 k,.int .i64 n,.string s,.slice (some ⟨c1,o1,none⟩) ks.length cap1] ab),.blk b2 (.cells #[.int .i64 k',.int .i64 n',.string s',.slice (some ⟨c2,o2,none⟩) ks'.length cap2] ab),.blk kb (.cells kc3 ab)] S w_:=⟨kc2,hI⟩
   exact ⟨hF_.set 11 rfl,⟨hI0,hI1,kc3,hI⟩⟩
  ·obtain rfl:=co ‹_›
   refine bW ?_
   exact ⟨hF_.set 12 rfl,⟨hI0,hI1,kc3,hI⟩⟩
  obtain ⟨rfl,rfl,rfl,rfl,rfl,rfl,rfl,rfl,rfl,rfl,rfl,rfl,rfl,_⟩:=hF_.all
  have uL:D 11=true:=by assumption
  clear hF_ bQ bS bU bR bY bZ bO cG cS cT bL co cO
  obtain ⟨kc2,hk2,hI⟩:=hI1 uL
  clear hI0 hI1
  refine av (fun hne=>?_) (fun he'=>?_)
  ·simp only [Bool.not_eq_true'] at hne
   obtain ⟨rfl,rfl⟩:=hno hne
   exact ⟨_,_,_,rfl,hI.pick [false,false,true],Ext.refl _ _ _,rfl,rfl,_,rfl,hk2⟩
  ·simp only [Bool.not_eq_false'] at he'
   refine bm (by omega) ?_
   exact ⟨⟨j+1,st2,kc2,hj1,rfl,hyes he',hk2,hI⟩,by simp [intOf]; omega⟩
 ·have:j=ks.length:=by omega
  subst this
  rw [List.drop_length,hle,List.drop_length] at hrel
  obtain ⟨rfl,rfl⟩:=hrel.done
  exact ⟨_,_,_,rfl,hI.pick [false,false,true],Ext.refl _ _ _,rfl,rfl,_,rfl,hkc1⟩
theorem fF {N kp:Nat} (hN:N<=1000000) {st st':aG} {a b:T} {r:Bool} (hg:Good N st) (hj:okJ N (.one a b)) (hu:Uni st (.one a b) r st'):UC N kp st a b r st':=by
 refine Uni.calls (N:=N) (Call:=UC N kp) (fun st a b a' b' r st' hg hj hwa hwb he=>?_) hu hg hj
 refine tA hN hg hj hwa hwb (fun h1 h2=>?_) he
 have hoa:=eJ hg hwa hj.1
 have hob:=eJ hg hwb hj.2
 have hend:(¬ ld st b'.n.toNat a'/\r=true/\st'=st.set b'.n.toNat (some a')) ∨ (ld st b'.n.toNat a'/\r=false/\st'=st):=by
  rcases he with ⟨h3,_⟩|⟨h3,_,_⟩|⟨_,_,h3⟩|⟨_,h3,_⟩
  ·exact absurd h3 h1
  ·exact absurd h3 h1
  ·exact h3
  ·exact absurd h2 h3
 refine tA hN hg ⟨hob,hoa⟩ (.stop (o3 hwb)) (.stop (o3 hwa)) (fun h3 _=>absurd h2 h3) (.inr (.inl ⟨h2,fun h3=>h1 h3.1,hend⟩))
end
end
section
open Go Go.RowKit
section
variable {P:Program} {w w0:World} {X:List Nat} {L:List Item} {S:ae} {K:Value->World->Prop}
attribute [local irreducible] Run CondV ar aI
end
end
section
open Go Go.RowKit
attribute [local irreducible] Run CondV ar aI
end
section
open Go Go.RowKit
attribute [local irreducible] Run CondV ar aI
end
end Go.Proofs.YtbocelianhcfmaaGreatDoor
