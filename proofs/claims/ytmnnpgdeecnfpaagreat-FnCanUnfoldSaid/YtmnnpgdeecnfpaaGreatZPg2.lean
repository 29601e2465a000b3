/- The clauses for a goal; which clauses can be unfolded: both sides. -/
import Derived.Test.YtmnnpgdeecnfpaaGreatZPg1
namespace Go.Proofs.YtmnnpgdeecnfpaaGreat
open Go Go.RowKit
attribute [local irreducible] Run CondV GuardV LoadV

theorem sK (f:C->Bool) (p:List C) (k:Nat) (h:k<p.length) (l:List Int):(if f p[k]=true then l++[(k:Int)] else l)++cH f (p.drop (k+1)) (k+1)=l++cH f (p.drop k) k:=by
 rw [List.drop_eq_getElem_cons h,cH]
 split
 ·rw [List.append_assoc]; rfl
 ·rfl

theorem dr {p:List C} {S:Store} {v:Value} (x:Pd) (h:RdSl S 5 (RdC S) v p) (hp:p.length<=2000000):Tri Tryz.prog tX [v,.agg x.cells.toArray] [] S (yL S (cH (fun c=>kY (bA c.head) x) p 0)):=by
 intro w hI
 obtain ⟨xs,xn⟩:=x
 refine mC ?_
 unfold hH
 refine r_box hI fun b3 w' hI=>?_
 refine r_lenSl h aB ?_
 refine ⟨fun i t w'=>∃ (k:Nat) (l:List Int),k<=p.length/\i=.int .i64 k/\l++cH (fun c=>kY (bA c.head) ⟨xs,xn⟩) (p.drop k) k=cH (fun c=>kY (bA c.head) ⟨xs,xn⟩) p 0/\l.length<=k/\
   Inv w [] [.blk b3 (.cells #[.string xs,.int .i64 xn] aY),bv t l] S w',fun i _ _=>p.length - (intOf i).toNat,⟨0,[],Nat.zero_le _,rfl,rfl,Nat.le_refl _,hI.rowNil aV 1⟩,?_⟩
 intro t10 _ t5 _ _ _ _ t19 t18 t17 t16 t15 _ _ _ _ _ _ w'
 rintro ⟨k,l,hk,rfl,hrel,hl,hI⟩
 refine r_lss ?_
 refine condP (fun hki=>?_) (fun hki=>?_)
 ·have hk':k<p.length:=by omega
  refine ⟨fun t w'=>Inv w [] [.blk b3 (.cells #[.string xs,.int .i64 xn] aY),bv t (if kY (bA p[k].head) ⟨xs,xn⟩=true then l++[(k:Int)] else l)] S w',?_,?_⟩
  ·refine r_elem hI h aB av hk' (fun _ _=>RdC.length) fun cs hcs=>?_
   obtain ⟨hd,ks,rfl,h1,h2⟩:=hcs
   have h1':=h1
   obtain ⟨kv,rfl,_,_,hs,hks⟩:=RdT.iff.1 h1
   have hkv:kv.oneCell'=true/\ks.oneCell'=true:=by
    obtain ⟨a,cap,rfl,_⟩:=hks
    obtain ⟨a,cap,rfl,_⟩:=h2
    exact ⟨rfl,rfl⟩
   refine r_alloc hI bd fun b7 w' hI=>?_
   refine ao hI 2 rfl av rfl rfl (by
    intro u hu
    have hu':u∈([.int .i64 p[k].head.kind,.int .i64 p[k].head.n,.string p[k].head.name,kv,ks]:List Value):=hu
    simp at hu'
    rcases hu' with rfl|rfl|rfl|rfl|rfl <;> first|rfl|exact hkv.1|exact hkv.2) fun w' hI=>?_
   have hI:Inv w [] [.blk b3 (.cells #[.string xs,.int .i64 xn] aY),bv t5 l,.blk b7 (.cells #[.int .i64 p[k].head.kind,.int .i64 p[k].head.n,.string p[k].head.name,kv,ks] af)] S w':=hI
   refine ⟨fun D x19 x18 x17 x16 x15 w_=>(D 0=true->x15=.pointer (some ⟨b7,0,none⟩))/\(D 1=true->x16=.agg #[.int .i64 p[k].head.kind,.int .i64 p[k].head.n,.string p[k].head.name,kv])/\(D 2=true->x17=.agg #[.string p[k].head.name,.int .i64 p[k].head.kids.length])/\(D 3=true->x18=.agg #[.string xs,.int .i64 xn])/\(D 4=true->x19=.bool (kY (bA p[k].head) ⟨xs,xn⟩))/\Inv w [] [.blk b3 (.cells #[.string xs,.int .i64 xn] aY),bv t5 l,.blk b7 (.cells #[.int .i64 p[k].head.kind,.int .i64 p[k].head.n,.string p[k].head.name,kv,ks] af)] S w_,⟨fun h=>Bool.noConfusion h,fun h=>Bool.noConfusion h,fun h=>Bool.noConfusion h,fun h=>Bool.noConfusion h,fun h=>Bool.noConfusion h,hI.draw⟩,⟨?_,?_,?_,?_,?_,trivial⟩,?_⟩
   ·intro D hD_  x19 x18 x17 x16 x15 w_
    rintro ⟨h0_,h1_,h2_,h3_,h4_,hI⟩
    refine r_field aP ?_
    exact ⟨fun _=>rfl,h1_,h2_,h3_,h4_,hI⟩
   ·intro D hD_ d0_0 x19 x18 x17 x16 x15 w_
    rintro ⟨h0_,h1_,h2_,h3_,h4_,hI⟩
    obtain rfl:=h0_ d0_0
    refine r_loadLA hI 2 [.int .i64 p[k].head.kind,.int .i64 p[k].head.n,.string p[k].head.name,kv] ag rfl rfl yR ?_
    exact ⟨h0_,fun _=>rfl,h2_,h3_,h4_,hI⟩
   ·intro D hD_ d1_0 x19 x18 x17 x16 x15 w_
    rintro ⟨h0_,h1_,h2_,h3_,h4_,hI⟩
    obtain rfl:=h1_ d1_0
    refine Run.callPure kI kD hI (ei h1') fun w_ hI=>?_
    exact ⟨h0_,h1_,fun _=>rfl,h3_,h4_,hI⟩
   ·intro D hD_  x19 x18 x17 x16 x15 w_
    rintro ⟨h0_,h1_,h2_,h3_,h4_,hI⟩
    refine r_loadW hI 0 tN rfl rfl ?_
    exact ⟨h0_,h1_,h2_,fun _=>rfl,h4_,hI⟩
   ·intro D hD_ d2_0 d3_1 x19 x18 x17 x16 x15 w_
    rintro ⟨h0_,h1_,h2_,h3_,h4_,hI⟩
    obtain rfl:=h2_ d2_0
    obtain rfl:=h3_ d3_1
    refine Fk ?_
    exact ⟨h0_,h1_,h2_,h3_,fun _=>rfl,hI⟩
   intro D d4_ d3_ d2_ d1_ d0_ x19 x18 x17 x16 x15 w_
   rintro ⟨h0_,h1_,h2_,h3_,h4_,hI⟩
   obtain rfl:=h4_ d4_
   obtain rfl:=h3_ d3_
   obtain rfl:=h2_ d2_
   obtain rfl:=h1_ d1_
   obtain rfl:=h0_ d0_
   clear h0_ h1_ h2_ h3_ h4_
   refine condV (fun hb=>?_) (fun hb=>?_)
   ·refine r_slice1 hI el rfl (by omega) (by omega) fun b w' hI=>?_
    refine r_append hI 1 (k:=1) [.int .i64 k] el (by omega) rfl rfl ?_ ?_ (by omega) (by omega) fun v' w' hI=>?_
    ·intro j u hj
     rw [hI.cellL (i:=3) rfl]
     match j with
     | 0=>simpa [Value.cells] using hj
     | j+1=>simp at hj
    ·simp [Value.oneCell']
    ·rw [kC] at hI
     have hI:=hI.pick [true,true,false,false]
     rw [if_pos hb]
     have e:Item.row v' aV 1 (l.length+1) (ints (l++[(k:Int)]))=bv v' (l++[(k:Int)]):=by simp [bv]
     rw [show List.length l+1=l.length+1 from rfl,e] at hI
     exact hI
   ·rw [if_neg (by rw [hb]; decide)]
    exact hI.pick [true,true,false]
  intro t5 _ _ _ _ _ _ _ _ _ _ _ _ _ _ w' hI
  refine r_add (by omega) ?_
  refine ⟨⟨k+1,_,hk',rfl,?_,?_,hI⟩,by simp [intOf]; omega⟩
  ·rw [sK (fun c=>kY (bA c.head) ⟨xs,xn⟩) p k hk' l,hrel]
  ·split
   ·simp; omega
   ·omega
 ·have:k=p.length:=by omega
  subst this
  rw [List.drop_length,cH,List.append_nil] at hrel
  subst hrel
  exact ⟨_,_,_,rfl,hI.pick [false,true],Ext.refl _ _ _,rfl,rfl⟩

theorem zd {p:List C} {g:T} {S:Store} {v:Value} {cs:List Value} (h:RdSl S 5 (RdC S) v p) (hg:RdT S cs g) (hp:p.length<=2000000) :
  Tri Tryz.prog BZ [v,.agg cs.toArray] [] S (yL S (cH (fun c=>kY (bA c.head) (bA g)) p 0)):=by
 intro w hI
 obtain ⟨gv,rfl,_,_,hgs,hgk⟩:=RdT.iff.1 hg
 obtain ⟨gk,gn,gs,gks⟩:=g
 simp only [T.name,T.kids,T.kind,T.n] at hgs hgk ⊢
 refine uM ?_
 unfold sd
 refine r_box hI fun b3 w' hI=>?_
 refine r_slice0 hI el fun v0 w' hI=>?_
 refine ⟨fun i t w'=>∃ (k:Nat) (l:List Int),k<=p.length/\i=.int .i64 k/\l++cH (fun c=>kY (bA c.head) (bA (.mk gk gn gs gks))) (p.drop k) k=cH (fun c=>kY (bA c.head) (bA (.mk gk gn gs gks))) p 0/\l.length<=k/\
   Inv w [] [.blk b3 (.cells #[.int .i64 gk,.int .i64 gn,.string gs,gv] ab),bv t l] S w',fun i _ _=>p.length - (intOf i).toNat,⟨0,[],Nat.zero_le _,rfl,rfl,Nat.le_refl _,hI⟩,?_⟩
 intro t6 _ _ t5 _ _ _ _ t35 t34 t33 t32 t31 t30 t29 t28 t27 t26 t25 t24 t23 t22 t21 t20 t19 t18 t17 t16 t15 t14 _ _ _ _ w'
 rintro ⟨k,l,hk,rfl,hrel,hl,hI⟩
 refine r_lenSl h aB ?_
 refine r_lss ?_
 refine condP (fun hki=>?_) (fun hki=>?_)
 ·have hk':k<p.length:=by omega
  refine ⟨fun t w'=>Inv w [] [.blk b3 (.cells #[.int .i64 gk,.int .i64 gn,.string gs,gv] ab),bv t (if kY (bA p[k].head) (bA (.mk gk gn gs gks))=true then l++[(k:Int)] else l)] S w',?_,?_⟩
  ·obtain ⟨b,o,cap,c,E,fz,rfl,hS,hR⟩:=h.at_ hk'
   obtain ⟨hd,ks2,hcs,h1,h2⟩:=hR
   obtain ⟨kv,rfl,_,_,hs1,hk1⟩:=RdT.iff.1 h1
   have hf0:kY (bA p[k].head) (bA (.mk gk gn gs gks))=(decide (p[k].head.name=gs) && decide ((p[k].head.kids.length:Int)=gks.length)):=rfl
   cases hq:decide (p[k].head.name=gs)
   ·have hf:kY (bA p[k].head) (bA (.mk gk gn gs gks))=false:=by rw [hf0,hq]; rfl
    refine ⟨fun D x35 x34 x33 x32 x31 x30 x29 x28 x27 x26 x25 x24 x23 x22 x21 x20 x19 x18 x17 x16 x15 x14 w_=>(D 0=true->x14=.slice (some ⟨b,o,none⟩) p.length cap)/\(D 1=true->x15=.int .i64 k)/\(D 2=true->x16=.pointer (some ⟨b,o+k * 5,none⟩))/\(D 3=true->x17=.pointer (some ⟨b,o+k * 5,none⟩))/\(D 4=true->x18=.pointer (some ⟨b,o+k * 5+2,none⟩))/\(D 5=true->x19=.string p[k].head.name)/\(D 6=true->x20=.pointer (some ⟨b3,2,none⟩))/\(D 7=true->x21=.string gs)/\(D 8=true->x22=.bool false)/\(D 9=true->x23=.bool false)/\(D 10=true->x24=undef)/\(D 11=true->x25=undef)/\(D 12=true->x26=undef)/\(D 13=true->x27=undef)/\(D 14=true->x28=undef)/\(D 15=true->x29=undef)/\(D 16=true->x30=undef)/\(D 17=true->x31=undef)/\(D 18=true->x32=undef)/\(D 19=true->x33=undef)/\(D 20=true->x34=undef)/\(D 21=true->x35=.bool false)/\Inv w [] [.blk b3 (.cells #[.int .i64 gk,.int .i64 gn,.string gs,gv] ab),bv t5 l] S w_,⟨fun h=>Bool.noConfusion h,fun h=>Bool.noConfusion h,fun h=>Bool.noConfusion h,fun h=>Bool.noConfusion h,fun h=>Bool.noConfusion h,fun h=>Bool.noConfusion h,fun h=>Bool.noConfusion h,fun h=>Bool.noConfusion h,fun h=>Bool.noConfusion h,fun h=>Bool.noConfusion h,fun h=>Bool.noConfusion h,fun h=>Bool.noConfusion h,fun h=>Bool.noConfusion h,fun h=>Bool.noConfusion h,fun h=>Bool.noConfusion h,fun h=>Bool.noConfusion h,fun h=>Bool.noConfusion h,fun h=>Bool.noConfusion h,fun h=>Bool.noConfusion h,fun h=>Bool.noConfusion h,fun h=>Bool.noConfusion h,fun h=>Bool.noConfusion h,hI.draw⟩,⟨?_,?_,?_,?_,?_,?_,?_,?_,?_,?_,?_,?_,?_,?_,?_,?_,?_,?_,?_,?_,?_,?_,trivial⟩,?_⟩
    ·intro D hD_  x35 x34 x33 x32 x31 x30 x29 x28 x27 x26 x25 x24 x23 x22 x21 x20 x19 x18 x17 x16 x15 x14 w_
     rintro ⟨h0_,h1_,h2_,h3_,h4_,h5_,h6_,h7_,h8_,h9_,h10_,h11_,h12_,h13_,h14_,h15_,h16_,h17_,h18_,h19_,h20_,h21_,hI⟩
     exact ⟨fun _=>rfl,h1_,h2_,h3_,h4_,h5_,h6_,h7_,h8_,h9_,h10_,h11_,h12_,h13_,h14_,h15_,h16_,h17_,h18_,h19_,h20_,h21_,hI⟩
    ·intro D hD_  x35 x34 x33 x32 x31 x30 x29 x28 x27 x26 x25 x24 x23 x22 x21 x20 x19 x18 x17 x16 x15 x14 w_
     rintro ⟨h0_,h1_,h2_,h3_,h4_,h5_,h6_,h7_,h8_,h9_,h10_,h11_,h12_,h13_,h14_,h15_,h16_,h17_,h18_,h19_,h20_,h21_,hI⟩
     exact ⟨h0_,fun _=>rfl,h2_,h3_,h4_,h5_,h6_,h7_,h8_,h9_,h10_,h11_,h12_,h13_,h14_,h15_,h16_,h17_,h18_,h19_,h20_,h21_,hI⟩
    ·intro D hD_ d0_0 d1_1 x35 x34 x33 x32 x31 x30 x29 x28 x27 x26 x25 x24 x23 x22 x21 x20 x19 x18 x17 x16 x15 x14 w_
     rintro ⟨h0_,h1_,h2_,h3_,h4_,h5_,h6_,h7_,h8_,h9_,h10_,h11_,h12_,h13_,h14_,h15_,h16_,h17_,h18_,h19_,h20_,h21_,hI⟩
     obtain rfl:=h0_ d0_0
     obtain rfl:=h1_ d1_1
     refine r_indexAddr aB hk' ?_
     exact ⟨h0_,h1_,fun _=>rfl,h3_,h4_,h5_,h6_,h7_,h8_,h9_,h10_,h11_,h12_,h13_,h14_,h15_,h16_,h17_,h18_,h19_,h20_,h21_,hI⟩
    ·intro D hD_ d2_0 x35 x34 x33 x32 x31 x30 x29 x28 x27 x26 x25 x24 x23 x22 x21 x20 x19 x18 x17 x16 x15 x14 w_
     rintro ⟨h0_,h1_,h2_,h3_,h4_,h5_,h6_,h7_,h8_,h9_,h10_,h11_,h12_,h13_,h14_,h15_,h16_,h17_,h18_,h19_,h20_,h21_,hI⟩
     obtain rfl:=h2_ d2_0
     refine r_field aP ?_
     exact ⟨h0_,h1_,h2_,fun _=>rfl,h4_,h5_,h6_,h7_,h8_,h9_,h10_,h11_,h12_,h13_,h14_,h15_,h16_,h17_,h18_,h19_,h20_,h21_,hI⟩
    ·intro D hD_ d3_0 x35 x34 x33 x32 x31 x30 x29 x28 x27 x26 x25 x24 x23 x22 x21 x20 x19 x18 x17 x16 x15 x14 w_
     rintro ⟨h0_,h1_,h2_,h3_,h4_,h5_,h6_,h7_,h8_,h9_,h10_,h11_,h12_,h13_,h14_,h15_,h16_,h17_,h18_,h19_,h20_,h21_,hI⟩
     obtain rfl:=h3_ d3_0
     refine r_field aF ?_
     exact ⟨h0_,h1_,h2_,h3_,fun _=>rfl,h5_,h6_,h7_,h8_,h9_,h10_,h11_,h12_,h13_,h14_,h15_,h16_,h17_,h18_,h19_,h20_,h21_,hI⟩
    ·intro D hD_ d4_0 x35 x34 x33 x32 x31 x30 x29 x28 x27 x26 x25 x24 x23 x22 x21 x20 x19 x18 x17 x16 x15 x14 w_
     rintro ⟨h0_,h1_,h2_,h3_,h4_,h5_,h6_,h7_,h8_,h9_,h10_,h11_,h12_,h13_,h14_,h15_,h16_,h17_,h18_,h19_,h20_,h21_,hI⟩
     obtain rfl:=h4_ d4_0
     refine r_load ay (by rw [hI.cellS hS]; exact cellsAt_get hcs 2 _ rfl) ?_
     exact ⟨h0_,h1_,h2_,h3_,h4_,fun _=>rfl,h6_,h7_,h8_,h9_,h10_,h11_,h12_,h13_,h14_,h15_,h16_,h17_,h18_,h19_,h20_,h21_,hI⟩
    ·intro D hD_  x35 x34 x33 x32 x31 x30 x29 x28 x27 x26 x25 x24 x23 x22 x21 x20 x19 x18 x17 x16 x15 x14 w_
     rintro ⟨h0_,h1_,h2_,h3_,h4_,h5_,h6_,h7_,h8_,h9_,h10_,h11_,h12_,h13_,h14_,h15_,h16_,h17_,h18_,h19_,h20_,h21_,hI⟩
     refine r_field aF ?_
     exact ⟨h0_,h1_,h2_,h3_,h4_,h5_,fun _=>rfl,h7_,h8_,h9_,h10_,h11_,h12_,h13_,h14_,h15_,h16_,h17_,h18_,h19_,h20_,h21_,hI⟩
    ·intro D hD_ d6_0 x35 x34 x33 x32 x31 x30 x29 x28 x27 x26 x25 x24 x23 x22 x21 x20 x19 x18 x17 x16 x15 x14 w_
     rintro ⟨h0_,h1_,h2_,h3_,h4_,h5_,h6_,h7_,h8_,h9_,h10_,h11_,h12_,h13_,h14_,h15_,h16_,h17_,h18_,h19_,h20_,h21_,hI⟩
     obtain rfl:=h6_ d6_0
     refine r_loadL hI 0 ay rfl rfl ?_
     exact ⟨h0_,h1_,h2_,h3_,h4_,h5_,h6_,fun _=>rfl,h8_,h9_,h10_,h11_,h12_,h13_,h14_,h15_,h16_,h17_,h18_,h19_,h20_,h21_,hI⟩
    ·intro D hD_ d5_0 d7_1 x35 x34 x33 x32 x31 x30 x29 x28 x27 x26 x25 x24 x23 x22 x21 x20 x19 x18 x17 x16 x15 x14 w_
     rintro ⟨h0_,h1_,h2_,h3_,h4_,h5_,h6_,h7_,h8_,h9_,h10_,h11_,h12_,h13_,h14_,h15_,h16_,h17_,h18_,h19_,h20_,h21_,hI⟩
     obtain rfl:=h5_ d5_0
     obtain rfl:=h7_ d7_1
     refine r_seql ?_; rw [hq]
     exact ⟨h0_,h1_,h2_,h3_,h4_,h5_,h6_,h7_,fun _=>rfl,h9_,h10_,h11_,h12_,h13_,h14_,h15_,h16_,h17_,h18_,h19_,h20_,h21_,hI⟩
    ·intro D hD_ d8_0 x35 x34 x33 x32 x31 x30 x29 x28 x27 x26 x25 x24 x23 x22 x21 x20 x19 x18 x17 x16 x15 x14 w_
     rintro ⟨h0_,h1_,h2_,h3_,h4_,h5_,h6_,h7_,h8_,h9_,h10_,h11_,h12_,h13_,h14_,h15_,h16_,h17_,h18_,h19_,h20_,h21_,hI⟩
     obtain rfl:=h8_ d8_0
     exact ⟨h0_,h1_,h2_,h3_,h4_,h5_,h6_,h7_,h8_,fun _=>rfl,h10_,h11_,h12_,h13_,h14_,h15_,h16_,h17_,h18_,h19_,h20_,h21_,hI⟩
    ·intro D hD_ d9_0 x35 x34 x33 x32 x31 x30 x29 x28 x27 x26 x25 x24 x23 x22 x21 x20 x19 x18 x17 x16 x15 x14 w_
     rintro ⟨h0_,h1_,h2_,h3_,h4_,h5_,h6_,h7_,h8_,h9_,h10_,h11_,h12_,h13_,h14_,h15_,h16_,h17_,h18_,h19_,h20_,h21_,hI⟩
     obtain rfl:=h9_ d9_0
     refine ae (c:=false) (b:=true) (by decide) ?_
     exact ⟨h0_,h1_,h2_,h3_,h4_,h5_,h6_,h7_,h8_,h9_,fun _=>rfl,h11_,h12_,h13_,h14_,h15_,h16_,h17_,h18_,h19_,h20_,h21_,hI⟩
    ·intro D hD_ d9_0 x35 x34 x33 x32 x31 x30 x29 x28 x27 x26 x25 x24 x23 x22 x21 x20 x19 x18 x17 x16 x15 x14 w_
     rintro ⟨h0_,h1_,h2_,h3_,h4_,h5_,h6_,h7_,h8_,h9_,h10_,h11_,h12_,h13_,h14_,h15_,h16_,h17_,h18_,h19_,h20_,h21_,hI⟩
     obtain rfl:=h9_ d9_0
     refine ae (c:=false) (b:=true) (by decide) ?_
     exact ⟨h0_,h1_,h2_,h3_,h4_,h5_,h6_,h7_,h8_,h9_,h10_,fun _=>rfl,h12_,h13_,h14_,h15_,h16_,h17_,h18_,h19_,h20_,h21_,hI⟩
    ·intro D hD_ d10_0 d11_1 d9_2 x35 x34 x33 x32 x31 x30 x29 x28 x27 x26 x25 x24 x23 x22 x21 x20 x19 x18 x17 x16 x15 x14 w_
     rintro ⟨h0_,h1_,h2_,h3_,h4_,h5_,h6_,h7_,h8_,h9_,h10_,h11_,h12_,h13_,h14_,h15_,h16_,h17_,h18_,h19_,h20_,h21_,hI⟩
     obtain rfl:=h10_ d10_0
     obtain rfl:=h11_ d11_1
     obtain rfl:=h9_ d9_2
     refine ae (c:=false) (b:=true) (by decide) ?_
     exact ⟨h0_,h1_,h2_,h3_,h4_,h5_,h6_,h7_,h8_,h9_,h10_,h11_,fun _=>rfl,h13_,h14_,h15_,h16_,h17_,h18_,h19_,h20_,h21_,hI⟩
    ·intro D hD_ d12_0 d9_1 x35 x34 x33 x32 x31 x30 x29 x28 x27 x26 x25 x24 x23 x22 x21 x20 x19 x18 x17 x16 x15 x14 w_
     rintro ⟨h0_,h1_,h2_,h3_,h4_,h5_,h6_,h7_,h8_,h9_,h10_,h11_,h12_,h13_,h14_,h15_,h16_,h17_,h18_,h19_,h20_,h21_,hI⟩
     obtain rfl:=h12_ d12_0
     obtain rfl:=h9_ d9_1
     refine ae (c:=false) (b:=true) (by decide) ?_
     exact ⟨h0_,h1_,h2_,h3_,h4_,h5_,h6_,h7_,h8_,h9_,h10_,h11_,h12_,fun _=>rfl,h14_,h15_,h16_,h17_,h18_,h19_,h20_,h21_,hI⟩
    ·intro D hD_ d13_0 d9_1 x35 x34 x33 x32 x31 x30 x29 x28 x27 x26 x25 x24 x23 x22 x21 x20 x19 x18 x17 x16 x15 x14 w_
     rintro ⟨h0_,h1_,h2_,h3_,h4_,h5_,h6_,h7_,h8_,h9_,h10_,h11_,h12_,h13_,h14_,h15_,h16_,h17_,h18_,h19_,h20_,h21_,hI⟩
     obtain rfl:=h13_ d13_0
     obtain rfl:=h9_ d9_1
     refine ae (c:=false) (b:=true) (by decide) ?_
     exact ⟨h0_,h1_,h2_,h3_,h4_,h5_,h6_,h7_,h8_,h9_,h10_,h11_,h12_,h13_,fun _=>rfl,h15_,h16_,h17_,h18_,h19_,h20_,h21_,hI⟩
    ·intro D hD_ d14_0 d9_1 x35 x34 x33 x32 x31 x30 x29 x28 x27 x26 x25 x24 x23 x22 x21 x20 x19 x18 x17 x16 x15 x14 w_
     rintro ⟨h0_,h1_,h2_,h3_,h4_,h5_,h6_,h7_,h8_,h9_,h10_,h11_,h12_,h13_,h14_,h15_,h16_,h17_,h18_,h19_,h20_,h21_,hI⟩
     obtain rfl:=h14_ d14_0
     obtain rfl:=h9_ d9_1
     refine ae (c:=false) (b:=true) (by decide) ?_
     exact ⟨h0_,h1_,h2_,h3_,h4_,h5_,h6_,h7_,h8_,h9_,h10_,h11_,h12_,h13_,h14_,fun _=>rfl,h16_,h17_,h18_,h19_,h20_,h21_,hI⟩
    ·intro D hD_ d15_0 d9_1 x35 x34 x33 x32 x31 x30 x29 x28 x27 x26 x25 x24 x23 x22 x21 x20 x19 x18 x17 x16 x15 x14 w_
     rintro ⟨h0_,h1_,h2_,h3_,h4_,h5_,h6_,h7_,h8_,h9_,h10_,h11_,h12_,h13_,h14_,h15_,h16_,h17_,h18_,h19_,h20_,h21_,hI⟩
     obtain rfl:=h15_ d15_0
     obtain rfl:=h9_ d9_1
     refine ae (c:=false) (b:=true) (by decide) ?_
     exact ⟨h0_,h1_,h2_,h3_,h4_,h5_,h6_,h7_,h8_,h9_,h10_,h11_,h12_,h13_,h14_,h15_,fun _=>rfl,h17_,h18_,h19_,h20_,h21_,hI⟩
    ·intro D hD_ d9_0 x35 x34 x33 x32 x31 x30 x29 x28 x27 x26 x25 x24 x23 x22 x21 x20 x19 x18 x17 x16 x15 x14 w_
     rintro ⟨h0_,h1_,h2_,h3_,h4_,h5_,h6_,h7_,h8_,h9_,h10_,h11_,h12_,h13_,h14_,h15_,h16_,h17_,h18_,h19_,h20_,h21_,hI⟩
     obtain rfl:=h9_ d9_0
     refine ae (c:=false) (b:=true) (by decide) ?_
     exact ⟨h0_,h1_,h2_,h3_,h4_,h5_,h6_,h7_,h8_,h9_,h10_,h11_,h12_,h13_,h14_,h15_,h16_,fun _=>rfl,h18_,h19_,h20_,h21_,hI⟩
    ·intro D hD_ d17_0 d9_1 x35 x34 x33 x32 x31 x30 x29 x28 x27 x26 x25 x24 x23 x22 x21 x20 x19 x18 x17 x16 x15 x14 w_
     rintro ⟨h0_,h1_,h2_,h3_,h4_,h5_,h6_,h7_,h8_,h9_,h10_,h11_,h12_,h13_,h14_,h15_,h16_,h17_,h18_,h19_,h20_,h21_,hI⟩
     obtain rfl:=h17_ d17_0
     obtain rfl:=h9_ d9_1
     refine ae (c:=false) (b:=true) (by decide) ?_
     exact ⟨h0_,h1_,h2_,h3_,h4_,h5_,h6_,h7_,h8_,h9_,h10_,h11_,h12_,h13_,h14_,h15_,h16_,h17_,fun _=>rfl,h19_,h20_,h21_,hI⟩
    ·intro D hD_ d18_0 d9_1 x35 x34 x33 x32 x31 x30 x29 x28 x27 x26 x25 x24 x23 x22 x21 x20 x19 x18 x17 x16 x15 x14 w_
     rintro ⟨h0_,h1_,h2_,h3_,h4_,h5_,h6_,h7_,h8_,h9_,h10_,h11_,h12_,h13_,h14_,h15_,h16_,h17_,h18_,h19_,h20_,h21_,hI⟩
     obtain rfl:=h18_ d18_0
     obtain rfl:=h9_ d9_1
     refine ae (c:=false) (b:=true) (by decide) ?_
     exact ⟨h0_,h1_,h2_,h3_,h4_,h5_,h6_,h7_,h8_,h9_,h10_,h11_,h12_,h13_,h14_,h15_,h16_,h17_,h18_,fun _=>rfl,h20_,h21_,hI⟩
    ·intro D hD_ d16_0 d19_1 d9_2 x35 x34 x33 x32 x31 x30 x29 x28 x27 x26 x25 x24 x23 x22 x21 x20 x19 x18 x17 x16 x15 x14 w_
     rintro ⟨h0_,h1_,h2_,h3_,h4_,h5_,h6_,h7_,h8_,h9_,h10_,h11_,h12_,h13_,h14_,h15_,h16_,h17_,h18_,h19_,h20_,h21_,hI⟩
     obtain rfl:=h16_ d16_0
     obtain rfl:=h19_ d19_1
     obtain rfl:=h9_ d9_2
     refine ae (c:=false) (b:=true) (by decide) ?_
     exact ⟨h0_,h1_,h2_,h3_,h4_,h5_,h6_,h7_,h8_,h9_,h10_,h11_,h12_,h13_,h14_,h15_,h16_,h17_,h18_,h19_,fun _=>rfl,h21_,hI⟩
    ·intro D hD_ d9_0 d20_1 x35 x34 x33 x32 x31 x30 x29 x28 x27 x26 x25 x24 x23 x22 x21 x20 x19 x18 x17 x16 x15 x14 w_
     rintro ⟨h0_,h1_,h2_,h3_,h4_,h5_,h6_,h7_,h8_,h9_,h10_,h11_,h12_,h13_,h14_,h15_,h16_,h17_,h18_,h19_,h20_,h21_,hI⟩
     obtain rfl:=h9_ d9_0
     obtain rfl:=h20_ d20_1
     refine ah ?_
     exact ⟨h0_,h1_,h2_,h3_,h4_,h5_,h6_,h7_,h8_,h9_,h10_,h11_,h12_,h13_,h14_,h15_,h16_,h17_,h18_,h19_,h20_,fun _=>rfl,hI⟩
    intro D d21_ d20_ d19_ d18_ d17_ d16_ d15_ d14_ d13_ d12_ d11_ d10_ d9_ d8_ d7_ d6_ d5_ d4_ d3_ d2_ d1_ d0_ x35 x34 x33 x32 x31 x30 x29 x28 x27 x26 x25 x24 x23 x22 x21 x20 x19 x18 x17 x16 x15 x14 w_
    rintro ⟨h0_,h1_,h2_,h3_,h4_,h5_,h6_,h7_,h8_,h9_,h10_,h11_,h12_,h13_,h14_,h15_,h16_,h17_,h18_,h19_,h20_,h21_,hI⟩
    obtain rfl:=h21_ d21_
    obtain rfl:=h20_ d20_
    obtain rfl:=h19_ d19_
    obtain rfl:=h18_ d18_
    obtain rfl:=h17_ d17_
    obtain rfl:=h16_ d16_
    obtain rfl:=h15_ d15_
    obtain rfl:=h14_ d14_
    obtain rfl:=h13_ d13_
    obtain rfl:=h12_ d12_
    obtain rfl:=h11_ d11_
    obtain rfl:=h10_ d10_
    obtain rfl:=h9_ d9_
    obtain rfl:=h8_ d8_
    obtain rfl:=h7_ d7_
    obtain rfl:=h6_ d6_
    obtain rfl:=h5_ d5_
    obtain rfl:=h4_ d4_
    obtain rfl:=h3_ d3_
    obtain rfl:=h2_ d2_
    obtain rfl:=h1_ d1_
    obtain rfl:=h0_ d0_
    clear h0_ h1_ h2_ h3_ h4_ h5_ h6_ h7_ h8_ h9_ h10_ h11_ h12_ h13_ h14_ h15_ h16_ h17_ h18_ h19_ h20_ h21_
    refine condV (fun hb=>by cases hb) (fun hb=>?_)
    rw [hf,if_neg (by decide)]
    exact hI
   ·have hf:kY (bA p[k].head) (bA (.mk gk gn gs gks))=decide ((p[k].head.kids.length:Int)=gks.length):=by rw [hf0,hq]; rfl
    refine ⟨fun D x35 x34 x33 x32 x31 x30 x29 x28 x27 x26 x25 x24 x23 x22 x21 x20 x19 x18 x17 x16 x15 x14 w_=>(D 0=true->x14=.slice (some ⟨b,o,none⟩) p.length cap)/\(D 1=true->x15=.int .i64 k)/\(D 2=true->x16=.pointer (some ⟨b,o+k * 5,none⟩))/\(D 3=true->x17=.pointer (some ⟨b,o+k * 5,none⟩))/\(D 4=true->x18=.pointer (some ⟨b,o+k * 5+2,none⟩))/\(D 5=true->x19=.string p[k].head.name)/\(D 6=true->x20=.pointer (some ⟨b3,2,none⟩))/\(D 7=true->x21=.string gs)/\(D 8=true->x22=.bool true)/\(D 9=true->x23=.bool true)/\(D 10=true->x24=.slice (some ⟨b,o,none⟩) p.length cap)/\(D 11=true->x25=.int .i64 k)/\(D 12=true->x26=.pointer (some ⟨b,o+k * 5,none⟩))/\(D 13=true->x27=.pointer (some ⟨b,o+k * 5,none⟩))/\(D 14=true->x28=.pointer (some ⟨b,o+k * 5+3,none⟩))/\(D 15=true->x29=kv)/\(D 16=true->x30=.int .i64 p[k].head.kids.length)/\(D 17=true->x31=.pointer (some ⟨b3,3,none⟩))/\(D 18=true->x32=gv)/\(D 19=true->x33=.int .i64 gks.length)/\(D 20=true->x34=.bool (decide ((p[k].head.kids.length:Int)=gks.length)))/\(D 21=true->x35=.bool (decide ((p[k].head.kids.length:Int)=gks.length)))/\Inv w [] [.blk b3 (.cells #[.int .i64 gk,.int .i64 gn,.string gs,gv] ab),bv t5 l] S w_,⟨fun h=>Bool.noConfusion h,fun h=>Bool.noConfusion h,fun h=>Bool.noConfusion h,fun h=>Bool.noConfusion h,fun h=>Bool.noConfusion h,fun h=>Bool.noConfusion h,fun h=>Bool.noConfusion h,fun h=>Bool.noConfusion h,fun h=>Bool.noConfusion h,fun h=>Bool.noConfusion h,fun h=>Bool.noConfusion h,fun h=>Bool.noConfusion h,fun h=>Bool.noConfusion h,fun h=>Bool.noConfusion h,fun h=>Bool.noConfusion h,fun h=>Bool.noConfusion h,fun h=>Bool.noConfusion h,fun h=>Bool.noConfusion h,fun h=>Bool.noConfusion h,fun h=>Bool.noConfusion h,fun h=>Bool.noConfusion h,fun h=>Bool.noConfusion h,hI.draw⟩,⟨?_,?_,?_,?_,?_,?_,?_,?_,?_,?_,?_,?_,?_,?_,?_,?_,?_,?_,?_,?_,?_,?_,trivial⟩,?_⟩
    ·intro D hD_  x35 x34 x33 x32 x31 x30 x29 x28 x27 x26 x25 x24 x23 x22 x21 x20 x19 x18 x17 x16 x15 x14 w_
     rintro ⟨h0_,h1_,h2_,h3_,h4_,h5_,h6_,h7_,h8_,h9_,h10_,h11_,h12_,h13_,h14_,h15_,h16_,h17_,h18_,h19_,h20_,h21_,hI⟩
     exact ⟨fun _=>rfl,h1_,h2_,h3_,h4_,h5_,h6_,h7_,h8_,h9_,h10_,h11_,h12_,h13_,h14_,h15_,h16_,h17_,h18_,h19_,h20_,h21_,hI⟩
    ·intro D hD_  x35 x34 x33 x32 x31 x30 x29 x28 x27 x26 x25 x24 x23 x22 x21 x20 x19 x18 x17 x16 x15 x14 w_
     rintro ⟨h0_,h1_,h2_,h3_,h4_,h5_,h6_,h7_,h8_,h9_,h10_,h11_,h12_,h13_,h14_,h15_,h16_,h17_,h18_,h19_,h20_,h21_,hI⟩
     exact ⟨h0_,fun _=>rfl,h2_,h3_,h4_,h5_,h6_,h7_,h8_,h9_,h10_,h11_,h12_,h13_,h14_,h15_,h16_,h17_,h18_,h19_,h20_,h21_,hI⟩
    ·intro D hD_ d0_0 d1_1 x35 x34 x33 x32 x31 x30 x29 x28 x27 x26 x25 x24 x23 x22 x21 x20 x19 x18 x17 x16 x15 x14 w_
     rintro ⟨h0_,h1_,h2_,h3_,h4_,h5_,h6_,h7_,h8_,h9_,h10_,h11_,h12_,h13_,h14_,h15_,h16_,h17_,h18_,h19_,h20_,h21_,hI⟩
     obtain rfl:=h0_ d0_0
     obtain rfl:=h1_ d1_1
     refine r_indexAddr aB hk' ?_
     exact ⟨h0_,h1_,fun _=>rfl,h3_,h4_,h5_,h6_,h7_,h8_,h9_,h10_,h11_,h12_,h13_,h14_,h15_,h16_,h17_,h18_,h19_,h20_,h21_,hI⟩
    ·intro D hD_ d2_0 x35 x34 x33 x32 x31 x30 x29 x28 x27 x26 x25 x24 x23 x22 x21 x20 x19 x18 x17 x16 x15 x14 w_
     rintro ⟨h0_,h1_,h2_,h3_,h4_,h5_,h6_,h7_,h8_,h9_,h10_,h11_,h12_,h13_,h14_,h15_,h16_,h17_,h18_,h19_,h20_,h21_,hI⟩
     obtain rfl:=h2_ d2_0
     refine r_field aP ?_
     exact ⟨h0_,h1_,h2_,fun _=>rfl,h4_,h5_,h6_,h7_,h8_,h9_,h10_,h11_,h12_,h13_,h14_,h15_,h16_,h17_,h18_,h19_,h20_,h21_,hI⟩
    ·intro D hD_ d3_0 x35 x34 x33 x32 x31 x30 x29 x28 x27 x26 x25 x24 x23 x22 x21 x20 x19 x18 x17 x16 x15 x14 w_
     rintro ⟨h0_,h1_,h2_,h3_,h4_,h5_,h6_,h7_,h8_,h9_,h10_,h11_,h12_,h13_,h14_,h15_,h16_,h17_,h18_,h19_,h20_,h21_,hI⟩
     obtain rfl:=h3_ d3_0
     refine r_field aF ?_
     exact ⟨h0_,h1_,h2_,h3_,fun _=>rfl,h5_,h6_,h7_,h8_,h9_,h10_,h11_,h12_,h13_,h14_,h15_,h16_,h17_,h18_,h19_,h20_,h21_,hI⟩
    ·intro D hD_ d4_0 x35 x34 x33 x32 x31 x30 x29 x28 x27 x26 x25 x24 x23 x22 x21 x20 x19 x18 x17 x16 x15 x14 w_
     rintro ⟨h0_,h1_,h2_,h3_,h4_,h5_,h6_,h7_,h8_,h9_,h10_,h11_,h12_,h13_,h14_,h15_,h16_,h17_,h18_,h19_,h20_,h21_,hI⟩
     obtain rfl:=h4_ d4_0
     refine r_load ay (by rw [hI.cellS hS]; exact cellsAt_get hcs 2 _ rfl) ?_
     exact ⟨h0_,h1_,h2_,h3_,h4_,fun _=>rfl,h6_,h7_,h8_,h9_,h10_,h11_,h12_,h13_,h14_,h15_,h16_,h17_,h18_,h19_,h20_,h21_,hI⟩
    ·intro D hD_  x35 x34 x33 x32 x31 x30 x29 x28 x27 x26 x25 x24 x23 x22 x21 x20 x19 x18 x17 x16 x15 x14 w_
     rintro ⟨h0_,h1_,h2_,h3_,h4_,h5_,h6_,h7_,h8_,h9_,h10_,h11_,h12_,h13_,h14_,h15_,h16_,h17_,h18_,h19_,h20_,h21_,hI⟩
     refine r_field aF ?_
     exact ⟨h0_,h1_,h2_,h3_,h4_,h5_,fun _=>rfl,h7_,h8_,h9_,h10_,h11_,h12_,h13_,h14_,h15_,h16_,h17_,h18_,h19_,h20_,h21_,hI⟩
    ·intro D hD_ d6_0 x35 x34 x33 x32 x31 x30 x29 x28 x27 x26 x25 x24 x23 x22 x21 x20 x19 x18 x17 x16 x15 x14 w_
     rintro ⟨h0_,h1_,h2_,h3_,h4_,h5_,h6_,h7_,h8_,h9_,h10_,h11_,h12_,h13_,h14_,h15_,h16_,h17_,h18_,h19_,h20_,h21_,hI⟩
     obtain rfl:=h6_ d6_0
     refine r_loadL hI 0 ay rfl rfl ?_
     exact ⟨h0_,h1_,h2_,h3_,h4_,h5_,h6_,fun _=>rfl,h8_,h9_,h10_,h11_,h12_,h13_,h14_,h15_,h16_,h17_,h18_,h19_,h20_,h21_,hI⟩
    ·intro D hD_ d5_0 d7_1 x35 x34 x33 x32 x31 x30 x29 x28 x27 x26 x25 x24 x23 x22 x21 x20 x19 x18 x17 x16 x15 x14 w_
     rintro ⟨h0_,h1_,h2_,h3_,h4_,h5_,h6_,h7_,h8_,h9_,h10_,h11_,h12_,h13_,h14_,h15_,h16_,h17_,h18_,h19_,h20_,h21_,hI⟩
     obtain rfl:=h5_ d5_0
     obtain rfl:=h7_ d7_1
     refine r_seql ?_; rw [hq]
     exact ⟨h0_,h1_,h2_,h3_,h4_,h5_,h6_,h7_,fun _=>rfl,h9_,h10_,h11_,h12_,h13_,h14_,h15_,h16_,h17_,h18_,h19_,h20_,h21_,hI⟩
    ·intro D hD_ d8_0 x35 x34 x33 x32 x31 x30 x29 x28 x27 x26 x25 x24 x23 x22 x21 x20 x19 x18 x17 x16 x15 x14 w_
     rintro ⟨h0_,h1_,h2_,h3_,h4_,h5_,h6_,h7_,h8_,h9_,h10_,h11_,h12_,h13_,h14_,h15_,h16_,h17_,h18_,h19_,h20_,h21_,hI⟩
     obtain rfl:=h8_ d8_0
     exact ⟨h0_,h1_,h2_,h3_,h4_,h5_,h6_,h7_,h8_,fun _=>rfl,h10_,h11_,h12_,h13_,h14_,h15_,h16_,h17_,h18_,h19_,h20_,h21_,hI⟩
    ·intro D hD_ d9_0 x35 x34 x33 x32 x31 x30 x29 x28 x27 x26 x25 x24 x23 x22 x21 x20 x19 x18 x17 x16 x15 x14 w_
     rintro ⟨h0_,h1_,h2_,h3_,h4_,h5_,h6_,h7_,h8_,h9_,h10_,h11_,h12_,h13_,h14_,h15_,h16_,h17_,h18_,h19_,h20_,h21_,hI⟩
     obtain rfl:=h9_ d9_0
     refine ac ?_
     exact ⟨h0_,h1_,h2_,h3_,h4_,h5_,h6_,h7_,h8_,h9_,fun _=>rfl,h11_,h12_,h13_,h14_,h15_,h16_,h17_,h18_,h19_,h20_,h21_,hI⟩
    ·intro D hD_ d9_0 x35 x34 x33 x32 x31 x30 x29 x28 x27 x26 x25 x24 x23 x22 x21 x20 x19 x18 x17 x16 x15 x14 w_
     rintro ⟨h0_,h1_,h2_,h3_,h4_,h5_,h6_,h7_,h8_,h9_,h10_,h11_,h12_,h13_,h14_,h15_,h16_,h17_,h18_,h19_,h20_,h21_,hI⟩
     obtain rfl:=h9_ d9_0
     refine ac ?_
     exact ⟨h0_,h1_,h2_,h3_,h4_,h5_,h6_,h7_,h8_,h9_,h10_,fun _=>rfl,h12_,h13_,h14_,h15_,h16_,h17_,h18_,h19_,h20_,h21_,hI⟩
    ·intro D hD_ d10_0 d11_1 d9_2 x35 x34 x33 x32 x31 x30 x29 x28 x27 x26 x25 x24 x23 x22 x21 x20 x19 x18 x17 x16 x15 x14 w_
     rintro ⟨h0_,h1_,h2_,h3_,h4_,h5_,h6_,h7_,h8_,h9_,h10_,h11_,h12_,h13_,h14_,h15_,h16_,h17_,h18_,h19_,h20_,h21_,hI⟩
     obtain rfl:=h10_ d10_0
     obtain rfl:=h11_ d11_1
     obtain rfl:=h9_ d9_2
     refine ac ?_; refine r_indexAddr aB hk' ?_
     exact ⟨h0_,h1_,h2_,h3_,h4_,h5_,h6_,h7_,h8_,h9_,h10_,h11_,fun _=>rfl,h13_,h14_,h15_,h16_,h17_,h18_,h19_,h20_,h21_,hI⟩
    ·intro D hD_ d12_0 d9_1 x35 x34 x33 x32 x31 x30 x29 x28 x27 x26 x25 x24 x23 x22 x21 x20 x19 x18 x17 x16 x15 x14 w_
     rintro ⟨h0_,h1_,h2_,h3_,h4_,h5_,h6_,h7_,h8_,h9_,h10_,h11_,h12_,h13_,h14_,h15_,h16_,h17_,h18_,h19_,h20_,h21_,hI⟩
     obtain rfl:=h12_ d12_0
     obtain rfl:=h9_ d9_1
     refine ac ?_; refine r_field aP ?_
     exact ⟨h0_,h1_,h2_,h3_,h4_,h5_,h6_,h7_,h8_,h9_,h10_,h11_,h12_,fun _=>rfl,h14_,h15_,h16_,h17_,h18_,h19_,h20_,h21_,hI⟩
    ·intro D hD_ d13_0 d9_1 x35 x34 x33 x32 x31 x30 x29 x28 x27 x26 x25 x24 x23 x22 x21 x20 x19 x18 x17 x16 x15 x14 w_
     rintro ⟨h0_,h1_,h2_,h3_,h4_,h5_,h6_,h7_,h8_,h9_,h10_,h11_,h12_,h13_,h14_,h15_,h16_,h17_,h18_,h19_,h20_,h21_,hI⟩
     obtain rfl:=h13_ d13_0
     obtain rfl:=h9_ d9_1
     refine ac ?_; refine r_field aq ?_
     exact ⟨h0_,h1_,h2_,h3_,h4_,h5_,h6_,h7_,h8_,h9_,h10_,h11_,h12_,h13_,fun _=>rfl,h15_,h16_,h17_,h18_,h19_,h20_,h21_,hI⟩
    ·intro D hD_ d14_0 d9_1 x35 x34 x33 x32 x31 x30 x29 x28 x27 x26 x25 x24 x23 x22 x21 x20 x19 x18 x17 x16 x15 x14 w_
     rintro ⟨h0_,h1_,h2_,h3_,h4_,h5_,h6_,h7_,h8_,h9_,h10_,h11_,h12_,h13_,h14_,h15_,h16_,h17_,h18_,h19_,h20_,h21_,hI⟩
     obtain rfl:=h14_ d14_0
     obtain rfl:=h9_ d9_1
     refine ac ?_; refine r_load al (by rw [hI.cellS hS]; exact cellsAt_get hcs 3 _ rfl) ?_
     exact ⟨h0_,h1_,h2_,h3_,h4_,h5_,h6_,h7_,h8_,h9_,h10_,h11_,h12_,h13_,h14_,fun _=>rfl,h16_,h17_,h18_,h19_,h20_,h21_,hI⟩
    ·intro D hD_ d15_0 d9_1 x35 x34 x33 x32 x31 x30 x29 x28 x27 x26 x25 x24 x23 x22 x21 x20 x19 x18 x17 x16 x15 x14 w_
     rintro ⟨h0_,h1_,h2_,h3_,h4_,h5_,h6_,h7_,h8_,h9_,h10_,h11_,h12_,h13_,h14_,h15_,h16_,h17_,h18_,h19_,h20_,h21_,hI⟩
     obtain rfl:=h15_ d15_0
     obtain rfl:=h9_ d9_1
     refine ac ?_; refine r_lenSl hk1 aj ?_
     exact ⟨h0_,h1_,h2_,h3_,h4_,h5_,h6_,h7_,h8_,h9_,h10_,h11_,h12_,h13_,h14_,h15_,fun _=>rfl,h17_,h18_,h19_,h20_,h21_,hI⟩
    ·intro D hD_ d9_0 x35 x34 x33 x32 x31 x30 x29 x28 x27 x26 x25 x24 x23 x22 x21 x20 x19 x18 x17 x16 x15 x14 w_
     rintro ⟨h0_,h1_,h2_,h3_,h4_,h5_,h6_,h7_,h8_,h9_,h10_,h11_,h12_,h13_,h14_,h15_,h16_,h17_,h18_,h19_,h20_,h21_,hI⟩
     obtain rfl:=h9_ d9_0
     refine ac ?_; refine r_field aq ?_
     exact ⟨h0_,h1_,h2_,h3_,h4_,h5_,h6_,h7_,h8_,h9_,h10_,h11_,h12_,h13_,h14_,h15_,h16_,fun _=>rfl,h18_,h19_,h20_,h21_,hI⟩
    ·intro D hD_ d17_0 d9_1 x35 x34 x33 x32 x31 x30 x29 x28 x27 x26 x25 x24 x23 x22 x21 x20 x19 x18 x17 x16 x15 x14 w_
     rintro ⟨h0_,h1_,h2_,h3_,h4_,h5_,h6_,h7_,h8_,h9_,h10_,h11_,h12_,h13_,h14_,h15_,h16_,h17_,h18_,h19_,h20_,h21_,hI⟩
     obtain rfl:=h17_ d17_0
     obtain rfl:=h9_ d9_1
     refine ac ?_; refine r_loadL hI 0 al rfl rfl ?_
     exact ⟨h0_,h1_,h2_,h3_,h4_,h5_,h6_,h7_,h8_,h9_,h10_,h11_,h12_,h13_,h14_,h15_,h16_,h17_,fun _=>rfl,h19_,h20_,h21_,hI⟩
    ·intro D hD_ d18_0 d9_1 x35 x34 x33 x32 x31 x30 x29 x28 x27 x26 x25 x24 x23 x22 x21 x20 x19 x18 x17 x16 x15 x14 w_
     rintro ⟨h0_,h1_,h2_,h3_,h4_,h5_,h6_,h7_,h8_,h9_,h10_,h11_,h12_,h13_,h14_,h15_,h16_,h17_,h18_,h19_,h20_,h21_,hI⟩
     obtain rfl:=h18_ d18_0
     obtain rfl:=h9_ d9_1
     refine ac ?_; refine r_lenSl hgk aj ?_
     exact ⟨h0_,h1_,h2_,h3_,h4_,h5_,h6_,h7_,h8_,h9_,h10_,h11_,h12_,h13_,h14_,h15_,h16_,h17_,h18_,fun _=>rfl,h20_,h21_,hI⟩
    ·intro D hD_ d16_0 d19_1 d9_2 x35 x34 x33 x32 x31 x30 x29 x28 x27 x26 x25 x24 x23 x22 x21 x20 x19 x18 x17 x16 x15 x14 w_
     rintro ⟨h0_,h1_,h2_,h3_,h4_,h5_,h6_,h7_,h8_,h9_,h10_,h11_,h12_,h13_,h14_,h15_,h16_,h17_,h18_,h19_,h20_,h21_,hI⟩
     obtain rfl:=h16_ d16_0
     obtain rfl:=h19_ d19_1
     obtain rfl:=h9_ d9_2
     refine ac ?_; refine r_eql ?_
     exact ⟨h0_,h1_,h2_,h3_,h4_,h5_,h6_,h7_,h8_,h9_,h10_,h11_,h12_,h13_,h14_,h15_,h16_,h17_,h18_,h19_,fun _=>rfl,h21_,hI⟩
    ·intro D hD_ d9_0 d20_1 x35 x34 x33 x32 x31 x30 x29 x28 x27 x26 x25 x24 x23 x22 x21 x20 x19 x18 x17 x16 x15 x14 w_
     rintro ⟨h0_,h1_,h2_,h3_,h4_,h5_,h6_,h7_,h8_,h9_,h10_,h11_,h12_,h13_,h14_,h15_,h16_,h17_,h18_,h19_,h20_,h21_,hI⟩
     obtain rfl:=h9_ d9_0
     obtain rfl:=h20_ d20_1
     refine ai ?_
     exact ⟨h0_,h1_,h2_,h3_,h4_,h5_,h6_,h7_,h8_,h9_,h10_,h11_,h12_,h13_,h14_,h15_,h16_,h17_,h18_,h19_,h20_,fun _=>rfl,hI⟩
    intro D d21_ d20_ d19_ d18_ d17_ d16_ d15_ d14_ d13_ d12_ d11_ d10_ d9_ d8_ d7_ d6_ d5_ d4_ d3_ d2_ d1_ d0_ x35 x34 x33 x32 x31 x30 x29 x28 x27 x26 x25 x24 x23 x22 x21 x20 x19 x18 x17 x16 x15 x14 w_
    rintro ⟨h0_,h1_,h2_,h3_,h4_,h5_,h6_,h7_,h8_,h9_,h10_,h11_,h12_,h13_,h14_,h15_,h16_,h17_,h18_,h19_,h20_,h21_,hI⟩
    obtain rfl:=h21_ d21_
    obtain rfl:=h20_ d20_
    obtain rfl:=h19_ d19_
    obtain rfl:=h18_ d18_
    obtain rfl:=h17_ d17_
    obtain rfl:=h16_ d16_
    obtain rfl:=h15_ d15_
    obtain rfl:=h14_ d14_
    obtain rfl:=h13_ d13_
    obtain rfl:=h12_ d12_
    obtain rfl:=h11_ d11_
    obtain rfl:=h10_ d10_
    obtain rfl:=h9_ d9_
    obtain rfl:=h8_ d8_
    obtain rfl:=h7_ d7_
    obtain rfl:=h6_ d6_
    obtain rfl:=h5_ d5_
    obtain rfl:=h4_ d4_
    obtain rfl:=h3_ d3_
    obtain rfl:=h2_ d2_
    obtain rfl:=h1_ d1_
    obtain rfl:=h0_ d0_
    clear h0_ h1_ h2_ h3_ h4_ h5_ h6_ h7_ h8_ h9_ h10_ h11_ h12_ h13_ h14_ h15_ h16_ h17_ h18_ h19_ h20_ h21_
    refine condV (fun hb=>?_) (fun hb=>?_)
    ·refine r_slice1 hI el rfl (by omega) (by omega) fun b w' hI=>?_
     refine r_append hI 1 (k:=1) [.int .i64 k] el (by omega) rfl rfl ?_ ?_ (by omega) (by omega) fun v' w' hI=>?_
     ·intro j u hj
      rw [hI.cellL (i:=2) rfl]
      match j with
      | 0=>simpa [Value.cells] using hj
      | j+1=>simp at hj
     ·simp [Value.oneCell']
     ·rw [kC] at hI
      have hI:=hI.pick [true,true,false]
      rw [hf,if_pos hb]
      have e:Item.row v' aV 1 (l.length+1) (ints (l++[(k:Int)]))=bv v' (l++[(k:Int)]):=by simp [bv]
      rw [show List.length l+1=l.length+1 from rfl,e] at hI
      exact hI
    ·rw [hf,if_neg (by rw [hb]; decide)]
     exact hI
  intro t5 _ _ _ _ _ _ _ _ _ _ _ _ _ _ _ _ _ _ _ _ _ _ _ _ _ _ w' hI
  refine r_add (by omega) ?_
  refine ⟨⟨k+1,_,hk',rfl,?_,?_,hI⟩,by simp [intOf]; omega⟩
  ·rw [sK (fun c=>kY (bA c.head) (bA (.mk gk gn gs gks))) p k hk' l,hrel]
  ·split
   ·simp; omega
   ·omega
 ·have:k=p.length:=by omega
  subst this
  rw [List.drop_length,cH,List.append_nil] at hrel
  subst hrel
  exact ⟨_,_,_,rfl,hI.pick [false,true],Ext.refl _ _ _,rfl,rfl⟩

end Go.Proofs.YtmnnpgdeecnfpaaGreat

/- Lists of predicates: asked and grown, on both sides. -/
namespace Go.Proofs.YtmnnpgdeecnfpaaGreat
open Go Go.RowKit
attribute [local irreducible] Run CondV GuardV LoadV

end Go.Proofs.YtmnnpgdeecnfpaaGreat

/- Marks in rows of predicates; trees lent and taken back. -/
namespace Go.Proofs.YtmnnpgdeecnfpaaGreat
open Go Go.RowKit

/- a tree of the function's own, handed to readers, and taken back -/
theorem Inv.lendAll {w0 w:World} {X:List Nat} {A:List Item} (M:aD) {S:Store} (h:Inv w0 X (A++az M) S w) :
  ∃ S',Sle S S'/\Ins S' M/\Inv w0 X A S' w/\∀ B w',Inv w0 X B S' w'->Inv w0 X (B++az M) S w':=by
 obtain ⟨S',h1,h2,h3,h4⟩:=Inv.publishAll M h
 have hnd:=h.nd
 rw [feet_append,List.nodup_append] at hnd
 refine ⟨S',h2,h3,h1,fun B w' hB=>⟨hB.size,hB.os,hB.tape,hB.output,hB.old,fun it hit=>?_,?_,fun b hb=>?_,fun b o hb=>⟨(hB.pub b o (h2 b o hb)).1,fun hb'=>?_⟩⟩⟩
 ·rcases List.mem_append.1 hit with hit|hit
  ·exact hB.its it hit
  ·obtain ⟨p,hp,rfl⟩:=List.mem_map.1 hit
   exact (hB.pub _ _ (h3 p hp)).1
 ·rw [feet_append,List.nodup_append]
  refine ⟨hB.nd,hnd.2.1,fun a ha b hb e=>?_⟩
  subst e
  obtain ⟨p,hp,rfl⟩:=dC.1 hb
  exact (hB.pub _ _ (h3 p hp)).2 ha
 ·rw [feet_append] at hb
  rcases List.mem_append.1 hb with hb|hb
  ·exact hB.new b hb
  ·exact h.new b (by rw [feet_append]; exact List.mem_append_right _ hb)
 ·rw [feet_append] at hb'
  rcases List.mem_append.1 hb' with hb'|hb'
  ·exact (hB.pub b o (h2 b o hb)).2 hb'
  ·exact (h.pub b o hb).2 (by rw [feet_append]; exact List.mem_append_right _ hb')
/- a row seen as its block -/
theorem Inv.openRow {w0 w:World} {X:List Nat} {A:List Item} {S:Store} {v:Value} {e:TypeId} {k n:Nat} {xs:List Value} (h:Inv w0 X (A++[.row v e k n xs]) S w) :
  xs.length=n * k/\((v=.slice none 0 0/\n=0) ∨ ∃ g cap cur,v=.slice (some ⟨g,0,none⟩) n cap/\n<=cap/\cap<=maxLen/\cur.size=cap * k/\cur.toList.take (n * k)=xs/\Inv w0 X (A++[.blk g (.cells cur e)]) S w):=by
 have hm:w.ownsRow 0 e k v n xs:=h.its (.row v e k n xs) (by simp)
 obtain ⟨hl,hm⟩:=hm
 refine ⟨hl,?_⟩
 rcases hm with hn|⟨g,cap,cur,rfl,_,hg,hnc,hcm,hcs,ht⟩
 ·exact .inl hn
 ·have hf:feet (A++[Item.blk g (.cells cur e)])=feet (A++[Item.row (.slice (some ⟨g,0,none⟩) n cap) e k n xs]):=by
   simp [feet,Item.foot,Value.ownBlock]
  refine .inr ⟨g,cap,cur,rfl,hnc,hcm,hcs,ht,h.size,h.os,h.tape,h.output,h.old,fun it hit=>?_,by rw [hf]; exact h.nd,by rw [hf]; exact h.new,by rw [hf]; exact h.pub⟩
  rcases List.mem_append.1 hit with hit|hit
  ·exact h.its it (List.mem_append_left _ hit)
  ·simp at hit
   subst hit
   exact hg
theorem Inv.closeRow {w0 w:World} {X:List Nat} {A:List Item} {S:Store} {g cap k n:Nat} {cur:Array Value} {e:TypeId} (h:Inv w0 X (A++[.blk g (.cells cur e)]) S w) (hn:n<=cap) (hc:cap<=maxLen) (hs:cur.size=cap * k) :
  Inv w0 X (A++[.row (.slice (some ⟨g,0,none⟩) n cap) e k n (cur.toList.take (n * k))]) S w:=by
 have hg:w.heap[g]?=some (.cells cur e):=h.its (.blk g (.cells cur e)) (by simp)
 have hf:feet (A++[Item.row (.slice (some ⟨g,0,none⟩) n cap) e k n (cur.toList.take (n * k))])=feet (A++[Item.blk g (.cells cur e)]):=by
  simp [feet,Item.foot,Value.ownBlock]
 refine ⟨h.size,h.os,h.tape,h.output,h.old,fun it hit=>?_,by rw [hf]; exact h.nd,by rw [hf]; exact h.new,by rw [hf]; exact h.pub⟩
 rcases List.mem_append.1 hit with hit|hit
 ·exact h.its it (List.mem_append_left _ hit)
 ·simp at hit
  subst hit
  refine ⟨?_,.inr ⟨g,cap,cur,rfl,Nat.zero_le _,hg,hn,hc,hs,rfl⟩⟩
  rw [List.length_take,Array.length_toList,hs]
  exact Nat.min_eq_left (Nat.mul_le_mul_right k hn)

section
attribute [local irreducible] Run CondV GuardV LoadV
end

end Go.Proofs.YtmnnpgdeecnfpaaGreat

/- Trees grown by append; impl.own and its kin. -/
namespace Go.Proofs.YtmnnpgdeecnfpaaGreat
open Go Go.RowKit

structure Grown {α:Type} (k:Nat) (R:aD->List Value->α->Prop) (Ls:List aD) (css:List (List Value)) (ys:List α):Prop where
 hL:Ls.length=ys.length
 hc:css.length=ys.length
 hk:∀ cs∈css,cs.length=k
 hR:∀ i (h:i<ys.length) (h1:i<Ls.length) (h2:i<css.length),R Ls[i] css[i] ys[i]
theorem Grown.nil {α:Type} (k:Nat) (R:aD->List Value->α->Prop):Grown k R [] [] ([]:List α):=⟨rfl,rfl,by simp,fun i h=>by simp at h⟩
theorem Grown.snoc {α:Type} {k:Nat} {R:aD->List Value->α->Prop} {Ls:List aD} {css:List (List Value)} {ys:List α} (h:Grown k R Ls css ys) {L:aD} {cs:List Value} {y:α} (hR:R L cs y) (hl:cs.length=k) :
  Grown k R (Ls++[L]) (css++[cs]) (ys++[y]):=by
 refine ⟨by simp [h.hL],by simp [h.hc],fun c hc=>?_,fun i h0 h1 h2=>?_⟩
 ·rcases List.mem_append.1 hc with hc|hc
  ·exact h.hk c hc
  ·simp at hc; subst hc; exact hl
 ·have e1:=h.hL
  have e2:=h.hc
  by_cases hi:i<ys.length
  ·rw [List.getElem_append_left (by omega),List.getElem_append_left (by omega),List.getElem_append_left hi]
   exact h.hR i hi (by omega) (by omega)
  ·have:i=ys.length:=by simp at h0; omega
   subst this
   rw [List.getElem_append_right (by omega),List.getElem_append_right (by omega),List.getElem_append_right (by omega)]
   simp only [e1,e2,Nat.sub_self,List.getElem_cons_zero]
   exact hR
theorem ez (k:Nat):∀ (css:List (List Value)) (i:Nat) (_:∀ cs∈css,cs.length=k) (h:i<css.length),(css.flatten.drop (i * k)).take k=css[i]
 | [],i,_,h=>by simp at h
 | c::css,0,hk,_=>by
  have:=hk c (List.mem_cons_self ..)
  rw [List.flatten_cons,Nat.zero_mul,List.drop_zero,List.take_append_of_le_length (by omega),List.take_of_length_le (by omega)]
  rfl
 | c::css,i+1,hk,h=>by
  have:=hk c (List.mem_cons_self ..)
  rw [List.flatten_cons,Nat.succ_mul,Nat.add_comm,<- List.drop_drop,List.drop_left' this]
  exact ez k css i (fun cs hc=>hk cs (List.mem_cons_of_mem _ hc)) (by simpa using h)
abbrev au (v:Value) (e:TypeId) (k:Nat) (css:List (List Value)):Item:=.row v e k css.length css.flatten
theorem Inv.rowTree {α:Type} {w0 w:World} {X:List Nat} {A:List Item} {S:Store} {v:Value} {e:TypeId} {k:Nat} {R:aD->List Value->α->Prop} {Ls:List aD} {css:List (List Value)} {ys:List α}
  (h:Inv w0 X (A++(au v e k css::az Ls.flatten)) S w) (hg:Grown k R Ls css ys):∃ L,TrSl k R L v ys/\Inv w0 X (A++az L) S w:=by
 have hp:List.Perm ((A++az Ls.flatten)++[au v e k css]) (A++(au v e k css::az Ls.flatten)):=by
  rw [List.append_assoc]
  exact List.Perm.append_left _ List.perm_append_comm
 obtain ⟨hl,ho⟩:=(h.perm hp).openRow
 have hcy:=hg.hc
 have hLy:=hg.hL
 rcases ho with ⟨rfl,h0⟩|⟨g,cap,cur,rfl,hnc,hcm,hcs,ht,hI⟩
 ·have:ys=[]:=List.eq_nil_of_length_eq_zero (by omega)
  subst this
  refine ⟨[],TrSl.nil (by simp [maxLen]),?_⟩
  simpa [az] using h.sub (List.sublist_append_left _ _)
 ·by_cases hy:ys=[]
  ·subst hy
   have:css=[]:=List.eq_nil_of_length_eq_zero (by simpa using hcy)
   subst this
   refine ⟨[],TrSl.nil hcm,?_⟩
   simpa [az] using h.sub (List.sublist_append_left _ _)
  ·refine ⟨(g,.cells cur e)::Ls.flatten,⟨_,cap,by rw [hcy],by omega,hcm,.inr ⟨g,cur,e,Ls,rfl,rfl,hLy,by omega,fun i h1 h2=>?_⟩⟩,?_⟩
   ·have hik:i * k+k<=css.length * k:=by rw [<- Nat.succ_mul]; exact Nat.mul_le_mul_right k (by omega)
    have:=ez k css i hg.hk (by omega)
    rw [<- ht,List.drop_take,List.take_take,Nat.min_eq_left (by omega)] at this
    rw [cellsAt,this]
    exact hg.hR i h1 h2 (by omega)
   ·refine hI.perm ?_
    rw [List.append_assoc]
    exact List.Perm.append_left _ (List.perm_append_comm (l₁:=[Item.blk g (.cells cur e)]))
theorem ct (v:Value) (e:TypeId) (k:Nat) (css:List (List Value)) (cs:List Value):Item.row v e k (css.length+1) (css.flatten++cs)=au v e k (css++[cs]):=by
 simp [au]
section
variable {P:Program} {w w0:World} {X:List Nat} {L:List Item} {S:Store} {K:Value->World->Prop}
attribute [local irreducible] Run CondV GuardV LoadV
/- append(row, x): x is put into a block of its own first -/
theorem bx (h:Inv w0 X L S w) {T ty e:TypeId} {k by_:Nat} {z v:Value} {cs:List Bool} {css:List (List Value)} (i:Nat) (xs:List Value)
  (hT:mkOf P T=some (e,k,by_,z)) (hk0:0<k) (hk24:k<=65536) (hi:L[i]?=some (au v e k css)) (hl:xs.length=k) (h1:∀ u∈xs,u.oneCell'=true) (hfit:css.length+1<=4294967296) (hby:by_<=32768)
  (hk:∀ v' w',Inv w0 X (L.set i (au v' e k (css++[xs]))) S w'->K v' w') :
  Run P (sBuildSlice T 1 [(0,.agg xs.toArray)]) w fun u w'=>Run P (sBuiltin .append #[T,T] ty cs [v,u]) w' K:=by
 refine r_slice1 h hT (by simp [Value.cells,hl]) hk24 hk0 fun b w' hI=>?_
 have hil:i<L.length:=(List.getElem?_eq_some_iff.1 hi).1
 refine r_append hI i xs hT hk0 (by rw [List.getElem?_append_left hil]; exact hi) (by omega) (m:=1) (o:=0) ?_ h1 hfit hby fun v' w' hI=>?_
 ·intro j u hj
  rw [hI.cellL (i:=L.length) (by rw [List.getElem?_append_right (Nat.le_refl _),Nat.sub_self]; rfl)]
  rw [Nat.zero_add]
  simpa [Value.cells] using hj
 ·refine hk _ _ ?_
  rw [<- ct]
  rw [List.set_append_left _ _ hil] at hI
  exact hI.sub (List.sublist_append_left _ _)
end

section
attribute [local irreducible] Run CondV GuardV LoadV
theorem sv {ts:List T} (ih:∀ t∈ts,∀ (S:Store) (cs:List Value),RdT S cs t->wT t<=1048576->Tri Tryz.prog Bw [.agg cs.toArray] [] S (vR S t))
  {S:Store} {v:Value} (h:RdSl S 4 (RdT S) v ts) (hw:ts.length+wL ts<=1048576):Tri Tryz.prog qo [v] [] S (CG 4 TrT S ts):=by
 intro w hI
 refine ri ?_
 unfold nl
 refine r_lenSl h aj ?_
 refine ⟨fun i t w'=>∃ (k:Nat) (Ls:List aD) (css:List (List Value)),k<=ts.length/\i=.int .i64 k/\Grown 4 TrT Ls css (ts.take k)/\Inv w [] (au t ab 4 css::az Ls.flatten) S w',
  fun i _ _=>ts.length - (intOf i).toNat,⟨0,[],[],Nat.zero_le _,rfl,Grown.nil _ _,hI.rowNil ab 4⟩,?_⟩
 intro t8 _ t3 _ _ _ _ _ _ _ _ _ w'
 rintro ⟨k,Ls,css,hk,rfl,hg,hI⟩
 refine r_lss ?_
 refine condP (fun hki=>?_) (fun hki=>?_)
 ·have hk':k<ts.length:=by omega
  have htl:(ts.take k).length=k:=by simp; omega
  have hcl:=hg.hc
  refine r_elem hI h aj ag hk' (fun _ _=>RdT.length) fun cs hcs=>?_
  have hm:=List.getElem_mem hk'
  have hwm:=dP hm
  have hlc:=hcs.length
  refine r_alloc hI aE fun b6 w' hI=>?_
  have hI:=hI.perm (M:=.blk b6 _::(au t3 ab 4 css::az Ls.flatten)) (List.perm_append_comm (l₁:=[_]))
  refine ao hI 0 rfl ag (by simpa using hlc) rfl (by simpa using hcs.one) fun w' hI=>?_
  refine r_loadW hI 0 ag rfl (by simpa using hlc) ?_
  have hI:Inv w [] (au t3 ab 4 css::az Ls.flatten) S w':=hI.sub (List.sublist_cons_self _ _)
  refine Run.call0 yf yO hI (ih _ hm S cs hcs (by omega)) fun v' I' S' w'=>?_
  rintro ⟨rfl,cs',L,rfl,rfl,hT⟩ _ hI
  refine bx hI 0 cs' aJ (by omega) (by omega) rfl hT.length hT.one (by omega) (by omega) fun v' w' hI=>?_
  refine r_add (by omega) ?_
  refine ⟨⟨k+1,Ls++[L],css++[cs'],hk',rfl,?_,?_⟩,by simp [intOf]; omega⟩
  ·rw [List.take_succ_eq_append_getElem hk']
   exact hg.snoc hT hT.length
  ·simp only [List.flatten_append,List.flatten_cons,List.flatten_nil,List.append_nil,be]
   exact hI
 ·have:k=ts.length:=by omega
  subst this
  rw [List.take_length] at hg
  obtain ⟨L,hT,hI⟩:=Inv.rowTree (A:=[]) hI hg
  exact ⟨_,_,_,rfl,hI,Ext.refl _ _ _,rfl,_,rfl,hT⟩
theorem wk:∀ (t:T) (S:Store) (cs:List Value),RdT S cs t->wT t<=1048576->Tri Tryz.prog Bw [.agg cs.toArray] [] S (vR S t):=by
 refine T.ind fun k n s ks ih S cs h hw=>?_
 intro w hI
 obtain ⟨kv,rfl,h1,h2,hs,hks⟩:=RdT.iff.1 h
 simp only [T.name,T.kids,T.kind,T.n] at h1 h2 hs hks ⊢
 simp only [wT] at hw
 refine zK ?_
 unfold yE
 refine r_box hI fun b1 w' hI=>?_
 refine r_alloc hI aE fun b2 w' hI=>?_
 refine r_fieldL hI 0 rfl aq al rfl ?_
 refine Run.call0 mV nS hI (sv ih hks (by omega)) fun v' I' S' w'=>?_
 rintro ⟨rfl,L,rfl,hT⟩ _ hI
 have hv:v'.cells=#[v']/\v'.oneCell'=true:=by obtain ⟨a,cap,rfl,_⟩:=hT; exact ⟨rfl,rfl⟩
 refine cv hI 0 rfl aq al rfl hv.1 hv.2 fun w' hI=>?_
 refine r_loadW hI 0 ag rfl rfl ?_
 refine ao hI 1 rfl ag rfl rfl ?_ fun w' hI=>?_
 ·intro u hu
  have hu':u∈([.int .i64 k,.int .i64 n,.string s,v']:List Value):=hu
  simp at hu'
  rcases hu' with rfl|rfl|rfl|rfl <;> first|rfl|exact hv.2
 refine loadV_W hI 1 ag rfl rfl ?_
 refine ⟨_,_,_,rfl,hI.sub (List.sublist_append_right [_,_] (az L)),Ext.refl _ _ _,rfl,[.int .i64 k,.int .i64 n,.string s,v'],L,rfl,rfl,TrT.iff.2 ⟨v',rfl,h1,h2,hs,hT⟩⟩
theorem vp {ts:List T} {S:Store} {v:Value} (h:RdSl S 4 (RdT S) v ts) (hw:ts.length+wL ts<=1048576):Tri Tryz.prog qo [v] [] S (CG 4 TrT S ts):=
 sv (fun t _=>wk t) h hw
end

end Go.Proofs.YtmnnpgdeecnfpaaGreat

/- impl.ownClause, impl.ownProgram. -/
namespace Go.Proofs.YtmnnpgdeecnfpaaGreat
open Go Go.RowKit
section
variable {w:World} {K:Value->World->Prop}
attribute [local irreducible] Run
theorem fA {a b:Int} {s:ByteArray} {k v:Value} (hv:∃ p n m,v=.slice p n m) (hk:K (.agg #[.int .i64 a,.int .i64 b,.string s,k,v]) w):Run Tryz.prog (sBuild af [(0,.agg #[.int .i64 a,.int .i64 b,.string s,k]),(1,v)]) w K:=by
 obtain ⟨p,n,m,rfl⟩:=hv
 refine Run.of (v:=.agg #[.int .i64 a,.int .i64 b,.string s,k,.slice p n m]) (w':=w) ?_ hk
 unfold sBuild
 rw [Sem.run_bind,run_build w af _ #[.int .i64 a,.int .i64 b,.string s,k,.slice p n m] (by kernel_rfl),Result.andThen_ok]
 rfl
theorem fh {a b:Int} {s:ByteArray} {k:Value} (hk:K (.agg #[.int .i64 a,.int .i64 b,.string s,k,.slice none 0 0]) w):Run Tryz.prog (sBuild af [(0,.agg #[.int .i64 a,.int .i64 b,.string s,k])]) w K:=by
 refine Run.of (v:=.agg #[.int .i64 a,.int .i64 b,.string s,k,.slice none 0 0]) (w':=w) ?_ hk
 unfold sBuild
 rw [Sem.run_bind,run_build w af _ #[.int .i64 a,.int .i64 b,.string s,k,.slice none 0 0] (by kernel_rfl),Result.andThen_ok]
 rfl
theorem iZ {a b:Int} {s:ByteArray} (hk:K (.agg #[.int .i64 a,.int .i64 b,.string s,.slice none 0 0]) w):Run Tryz.prog (sBuild ab [(0,.int .i64 a),(1,.int .i64 b),(2,.string s)]) w K:=by
 refine Run.of (v:=.agg #[.int .i64 a,.int .i64 b,.string s,.slice none 0 0]) (w':=w) ?_ hk
 unfold sBuild
 rw [Sem.run_bind,run_build w ab _ #[.int .i64 a,.int .i64 b,.string s,.slice none 0 0] (by kernel_rfl),Result.andThen_ok]
 rfl
end
section
attribute [local irreducible] Run CondV GuardV LoadV
def gf (B B2 B2':Item) (M1 M2:aD) (d2 d5 d7:Bool):List Item:=B::(match d7 with|true=>B2'|false=>B2)::((match d2 with|true=>az M1|false=>[])++(match d5 with|true=>az M2|false=>[]))
theorem ii {c:C} {S:Store} {cs:List Value} (h:RdC S cs c) (hw:wC c<=1048576):Tri Tryz.prog vm [.agg cs.toArray] [] S (EQ S c):=by
 intro w hI
 obtain ⟨hd,ks,rfl,h1,h2⟩:=h
 have h1':=h1
 obtain ⟨kv,rfl,g1,g2,g3,g4⟩:=RdT.iff.1 h1
 unfold wC at hw
 refine oe ?_
 unfold jK
 refine r_box hI fun b1 w' hI=>?_
 refine r_alloc hI bd fun b2 w' hI=>?_
 have hI:Inv w [] [.blk b1 (.cells #[.int .i64 c.head.kind,.int .i64 c.head.n,.string c.head.name,kv,ks] af),.blk b2 (.cells #[.int .i64 0,.int .i64 0,.string ⟨#[]⟩,.slice none 0 0,.slice none 0 0] af)] S w':=hI
 refine ⟨fun D x9 x8 x7 x6 x5 x4 x3 w_=>(D 0=true->x3=.pointer (some ⟨b1,0,none⟩))/\(D 1=true->x4=.agg #[.int .i64 c.head.kind,.int .i64 c.head.n,.string c.head.name,kv])/\(D 2=true->True)/\(D 3=true->x6=.pointer (some ⟨b1,4,none⟩))/\(D 4=true->x7=ks)/\(D 5=true->True)/\(D 6=true->True)/\(D 7=true->True)/\∃ M1 M2 k1,(D 2=true->x5=.agg #[.int .i64 c.head.kind,.int .i64 c.head.n,.string c.head.name,k1]/\TrT M1 [.int .i64 c.head.kind,.int .i64 c.head.n,.string c.head.name,k1] c.head)/\(D 5=true->TrSl 4 TrT M2 x8 c.body)/\(D 6=true->x9=.agg #[.int .i64 c.head.kind,.int .i64 c.head.n,.string c.head.name,k1,x8])/\(D 5=true->D 2=true)/\(D 6=true->D 5=true)/\(D 7=true->D 6=true)/\Inv w [] (gf (.blk b1 (.cells #[.int .i64 c.head.kind,.int .i64 c.head.n,.string c.head.name,kv,ks] af)) (.blk b2 (.cells #[.int .i64 0,.int .i64 0,.string ⟨#[]⟩,.slice none 0 0,.slice none 0 0] af)) (.blk b2 (.cells #[.int .i64 c.head.kind,.int .i64 c.head.n,.string c.head.name,k1,x8] af)) M1 M2 (D 2) (D 5) (D 7)) S w_,⟨fun h=>Bool.noConfusion h,fun h=>Bool.noConfusion h,fun h=>Bool.noConfusion h,fun h=>Bool.noConfusion h,fun h=>Bool.noConfusion h,fun h=>Bool.noConfusion h,fun h=>Bool.noConfusion h,fun h=>Bool.noConfusion h,⟨[],[],undef,fun h=>Bool.noConfusion h,fun h=>Bool.noConfusion h,fun h=>Bool.noConfusion h,fun h=>Bool.noConfusion h,fun h=>Bool.noConfusion h,fun h=>Bool.noConfusion h,hI.draw⟩⟩,⟨?_,?_,?_,?_,?_,?_,?_,?_,trivial⟩,?_⟩
 ·intro D hD_  x9 x8 x7 x6 x5 x4 x3 w_
  rintro ⟨h0_,h1_,h2_,h3_,h4_,h5_,h6_,h7_,⟨M1,M2,k1,e2,e5,e6,k5,k6,k7,hI⟩⟩
  refine r_field aP ?_
  exact ⟨fun _=>rfl,h1_,h2_,h3_,h4_,h5_,h6_,h7_,⟨M1,M2,k1,e2,e5,e6,k5,k6,k7,hI⟩⟩
 ·intro D hD_ d0_0 x9 x8 x7 x6 x5 x4 x3 w_
  rintro ⟨h0_,h1_,h2_,h3_,h4_,h5_,h6_,h7_,⟨M1,M2,k1,e2,e5,e6,k5,k6,k7,hI⟩⟩
  obtain rfl:=h0_ d0_0
  refine r_loadLA hI 0 [.int .i64 c.head.kind,.int .i64 c.head.n,.string c.head.name,kv] ag rfl rfl yR ?_
  exact ⟨h0_,fun _=>rfl,h2_,h3_,h4_,h5_,h6_,h7_,⟨M1,M2,k1,e2,e5,e6,k5,k6,k7,hI⟩⟩
 ·intro D hD_ d1_0 x9 x8 x7 x6 x5 x4 x3 w_
  rintro ⟨h0_,h1_,h2_,h3_,h4_,h5_,h6_,h7_,⟨M1,M2,k1,e2,e5,e6,k5,k6,k7,hI⟩⟩
  obtain rfl:=h1_ d1_0
  have f5:D 5=false:=Bool.eq_false_iff.2 fun h=>by rw [k5 h] at hD_; cases hD_
  have f6:D 6=false:=Bool.eq_false_iff.2 fun h=>by rw [k6 h] at f5; cases f5
  have f7:D 7=false:=Bool.eq_false_iff.2 fun h=>by rw [k7 h] at f6; cases f6
  rw [hD_,f5,f7] at hI
  refine Run.call0 yf yO hI (wk c.head S _ h1' (by omega)) fun v' I' S w_=>?_
  rintro ⟨rfl,cs1,M1,rfl,rfl,hT1⟩ _ hI
  obtain ⟨k1,rfl,_⟩:=TrT.iff.1 hT1
  have e2:setD D 2 2=true->Value.agg #[.int .i64 c.head.kind,.int .i64 c.head.n,.string c.head.name,k1]=Value.agg #[.int .i64 c.head.kind,.int .i64 c.head.n,.string c.head.name,k1]/\TrT M1 [.int .i64 c.head.kind,.int .i64 c.head.n,.string c.head.name,k1] c.head:=fun _=>⟨rfl,hT1⟩
  have e6:=fun (h:D 6=true)=>(absurd h (by rw [f6]; decide):x9=.agg #[.int .i64 c.head.kind,.int .i64 c.head.n,.string c.head.name,k1,x8])
  have k5:=fun (_:setD D 2 5=true)=>(rfl:setD D 2 2=true)
  have hI:Inv w [] (gf (.blk b1 (.cells #[.int .i64 c.head.kind,.int .i64 c.head.n,.string c.head.name,kv,ks] af)) (.blk b2 (.cells #[.int .i64 0,.int .i64 0,.string ⟨#[]⟩,.slice none 0 0,.slice none 0 0] af)) (.blk b2 (.cells #[.int .i64 c.head.kind,.int .i64 c.head.n,.string c.head.name,k1,x8] af)) M1 M2 true (D 5) (D 7)) S w_:=by
   rw [f5,f7]
   simpa [gf] using hI
  exact ⟨h0_,h1_,fun _=>by first|assumption|trivial,h3_,h4_,h5_,h6_,h7_,⟨M1,M2,k1,e2,e5,e6,k5,k6,k7,hI⟩⟩
 ·intro D hD_  x9 x8 x7 x6 x5 x4 x3 w_
  rintro ⟨h0_,h1_,h2_,h3_,h4_,h5_,h6_,h7_,⟨M1,M2,k1,e2,e5,e6,k5,k6,k7,hI⟩⟩
  refine r_field ax ?_
  exact ⟨h0_,h1_,h2_,fun _=>rfl,h4_,h5_,h6_,h7_,⟨M1,M2,k1,e2,e5,e6,k5,k6,k7,hI⟩⟩
 ·intro D hD_ d3_0 x9 x8 x7 x6 x5 x4 x3 w_
  rintro ⟨h0_,h1_,h2_,h3_,h4_,h5_,h6_,h7_,⟨M1,M2,k1,e2,e5,e6,k5,k6,k7,hI⟩⟩
  obtain rfl:=h3_ d3_0
  refine r_loadL hI 0 al rfl rfl ?_
  exact ⟨h0_,h1_,h2_,h3_,fun _=>by first|assumption|trivial,h5_,h6_,h7_,⟨M1,M2,k1,e2,e5,e6,k5,k6,k7,hI⟩⟩
 ·intro D hD_ d4_0 d2_1 x9 x8 x7 x6 x5 x4 x3 w_
  rintro ⟨h0_,h1_,h2_,h3_,h4_,h5_,h6_,h7_,⟨M1,M2,k1,e2,e5,e6,k5,k6,k7,hI⟩⟩
  have g4_:=h4_ d4_0
  have f6:D 6=false:=Bool.eq_false_iff.2 fun h=>by rw [k6 h] at hD_; cases hD_
  have f7:D 7=false:=Bool.eq_false_iff.2 fun h=>by rw [k7 h] at f6; cases f6
  rw [hD_,d2_1,f7] at hI
  refine Run.call0 mV nS hI (by rw [g4_]; exact vp h2 (by omega)) fun v' I' S w_=>?_
  rintro ⟨rfl,M2,rfl,hT2⟩ _ hI
  have e5:=fun (_:setD D 5 5=true)=>hT2
  have e6:=fun (h:D 6=true)=>(absurd h (by rw [f6]; decide):x9=.agg #[.int .i64 c.head.kind,.int .i64 c.head.n,.string c.head.name,k1,v'])
  have k6:=fun (_:setD D 5 6=true)=>(rfl:setD D 5 5=true)
  have k5:=fun (_:setD D 5 5=true)=>d2_1
  have hI:Inv w [] (gf (.blk b1 (.cells #[.int .i64 c.head.kind,.int .i64 c.head.n,.string c.head.name,kv,ks] af)) (.blk b2 (.cells #[.int .i64 0,.int .i64 0,.string ⟨#[]⟩,.slice none 0 0,.slice none 0 0] af)) (.blk b2 (.cells #[.int .i64 c.head.kind,.int .i64 c.head.n,.string c.head.name,k1,v'] af)) M1 M2 (D 2) true (D 7)) S w_:=by
   rw [d2_1,f7]
   simpa [gf] using hI
  exact ⟨h0_,h1_,h2_,h3_,h4_,fun _=>by first|assumption|trivial,h6_,h7_,⟨M1,M2,k1,e2,e5,e6,k5,k6,k7,hI⟩⟩
 ·intro D hD_ d2_0 d5_1 x9 x8 x7 x6 x5 x4 x3 w_
  rintro ⟨h0_,h1_,h2_,h3_,h4_,h5_,h6_,h7_,⟨M1,M2,k1,e2,e5,e6,k5,k6,k7,hI⟩⟩
  have g2_:=h2_ d2_0
  have g5_:=h5_ d5_1
  have q2:=(e2 d2_0).1
  subst q2
  refine fA (by obtain ⟨a8,cap8,hx8,_⟩:=e5 d5_1; exact ⟨_,_,_,hx8⟩) ?_
  have e6:setD D 6 6=true->Value.agg #[.int .i64 c.head.kind,.int .i64 c.head.n,.string c.head.name,k1,x8]=Value.agg #[.int .i64 c.head.kind,.int .i64 c.head.n,.string c.head.name,k1,x8]:=fun _=>rfl
  have k7:=fun (_:setD D 6 7=true)=>(rfl:setD D 6 6=true)
  have k6:=fun (_:setD D 6 6=true)=>d5_1
  exact ⟨h0_,h1_,h2_,h3_,h4_,h5_,fun _=>by first|assumption|trivial,h7_,⟨M1,M2,k1,e2,e5,e6,k5,k6,k7,hI⟩⟩
 ·intro D hD_ d6_0 d5_1 d0_2 d1_3 d2_4 d3_5 d4_6 d5_7 d6_8 x9 x8 x7 x6 x5 x4 x3 w_
  rintro ⟨h0_,h1_,h2_,h3_,h4_,h5_,h6_,h7_,⟨M1,M2,k1,e2,e5,e6,k5,k6,k7,hI⟩⟩
  have g6_:=h6_ d6_0
  have q6:=e6 d6_0
  subst q6
  have q2:=(e2 d2_4).2
  have q5:=e5 d5_1
  rw [hD_,d2_4,d5_1] at hI
  refine ao hI 1 rfl av rfl rfl ?_ fun w_ hI=>?_
  ·intro u hu
   have hu':u∈([.int .i64 c.head.kind,.int .i64 c.head.n,.string c.head.name,k1,x8]:List Value):=hu
   simp at hu'
   have o1:k1.oneCell'=true:=q2.one k1 (by simp)
   have o2:x8.oneCell'=true:=by obtain ⟨a,cap,rfl,_⟩:=q5; rfl
   rcases hu' with rfl|rfl|rfl|rfl|rfl <;> first|rfl|exact o1|exact o2
  have k7:=fun (_:setD D 7 7=true)=>d6_0
  have hI:Inv w [] (gf (.blk b1 (.cells #[.int .i64 c.head.kind,.int .i64 c.head.n,.string c.head.name,kv,ks] af)) (.blk b2 (.cells #[.int .i64 0,.int .i64 0,.string ⟨#[]⟩,.slice none 0 0,.slice none 0 0] af)) (.blk b2 (.cells #[.int .i64 c.head.kind,.int .i64 c.head.n,.string c.head.name,k1,x8] af)) M1 M2 (D 2) (D 5) true) S w_:=by
   rw [d2_4,d5_1]
   exact hI
  exact ⟨h0_,h1_,h2_,h3_,h4_,h5_,h6_,fun _=>trivial,⟨M1,M2,k1,e2,e5,e6,k5,k6,k7,hI⟩⟩
 intro D d7_ d6_ d5_ d4_ d3_ d2_ d1_ d0_ x9 x8 x7 x6 x5 x4 x3 w_
 rintro ⟨h0_,h1_,h2_,h3_,h4_,h5_,h6_,h7_,⟨M1,M2,k1,e2,e5,e6,k5,k6,k7,hI⟩⟩
 have g6_:=h6_ d6_
 have g5_:=h5_ d5_
 have g4_:=h4_ d4_
 obtain rfl:=h3_ d3_
 have g2_:=h2_ d2_
 obtain rfl:=h1_ d1_
 obtain rfl:=h0_ d0_
 clear h0_ h1_ h2_ h3_ h4_ h5_ h6_ h7_
 have q2:=(e2 d2_).2
 have q5:=e5 d5_
 rw [d2_,d5_,d7_] at hI
 refine loadV_W hI 1 av rfl rfl ?_
 refine ⟨_,_,_,rfl,hI.sub (List.sublist_append_right [_,_] (az M1++az M2)),Ext.refl _ _ _,rfl,_,M1++M2,rfl,by rw [be],_,x8,M1,M2,rfl,rfl,q2,q5⟩
end

end Go.Proofs.YtmnnpgdeecnfpaaGreat

/- impl.ownProgram; spec's copies. -/
namespace Go.Proofs.YtmnnpgdeecnfpaaGreat
open Go Go.RowKit
theorem RdC.one {S:Store} {cs:List Value} {c:C} (h:RdC S cs c):∀ u∈cs,u.oneCell'=true:=by
 obtain ⟨hd,ks,rfl,h1,a,cap,rfl,_⟩:=h
 intro u hu
 rcases List.mem_append.1 hu with hu|hu
 ·exact h1.one u hu
 ·simp at hu; subst hu; rfl
section
attribute [local irreducible] Run CondV GuardV LoadV
/- a row's value is a slice -/
theorem Inv.rowSlice {w0 w:World} {X:List Nat} {L:List Item} {S:Store} {v:Value} {e:TypeId} {k n:Nat} {xs:List Value} (h:Inv w0 X L S w) (i:Nat) (hi:L[i]?=some (.row v e k n xs)):∃ a m c,v=.slice a m c:=by
 have hm:w.ownsRow 0 e k v n xs:=h.its (.row v e k n xs) (List.mem_of_getElem? hi)
 rcases hm.2 with ⟨rfl,_⟩|⟨g,cap,cur,rfl,_⟩
 ·exact ⟨_,_,_,rfl⟩
 ·exact ⟨_,_,_,rfl⟩
def aA (B1 B2 B3 B3' r r':Item) (rest:List Item) (M:aD) (B27:Item) (d7 d8 d9 d11:Bool):List Item:=
 B1::B2::(match d11 with|true=>B3'|false=>B3)::(match d9 with|true=>r'|false=>r)::(rest++((match d7 with|true=>az M|false=>[])++(match d8 with|true=>[B27]|false=>[])))

theorem cq:∀ (t:T) (S:Store) (cs:List Value),RdT S cs t->wT t<=1048576->Tri Tryz.prog mn [.agg cs.toArray] [] S (vR S t):=by
 refine T.ind fun k n s ks ih S cs h hw=>?_
 intro w hI
 obtain ⟨kv,rfl,h1,h2,hs,hks⟩:=RdT.iff.1 h
 simp only [T.name,T.kids,T.kind,T.n] at h1 h2 hs hks ⊢
 simp only [wT] at hw
 refine js ?_
 unfold jO
 refine r_box hI fun b1 w' hI=>?_
 refine r_alloc hI aE fun b2 w' hI=>?_
 refine r_fieldL hI 0 rfl aI aC rfl ?_
 refine r_fieldL hI 0 rfl aK aC rfl ?_
 refine r_fieldL hI 0 rfl aF ay rfl ?_
 refine iZ ?_
 refine r_alloc hI aE fun b3 w' hI=>?_
 refine ao hI 2 rfl ag rfl rfl (by simp [Value.oneCell']) fun w' hI=>?_
 have hI:=hI.rowNil ab 4
 refine ⟨fun i w'=>∃ (j:Nat) (kvc:Value) (Ls:List aD) (css:List (List Value)),j<=ks.length/\i=.int .i64 j/\Grown 4 TrT Ls css (ks.take j)/\
   Inv w [] (.blk b1 (.cells #[.int .i64 k,.int .i64 n,.string s,kv] ab)::.blk b2 (.cells #[.int .i64 0,.int .i64 0,.string ⟨#[]⟩,.slice none 0 0] ab)::.blk b3 (.cells #[.int .i64 k,.int .i64 n,.string s,kvc] ab)::au kvc ab 4 css::az Ls.flatten) S w',
  fun i _=>ks.length - (intOf i).toNat,⟨0,_,[],[],Nat.zero_le _,rfl,Grown.nil _ _,hI⟩,?_⟩
 intro t4 _ _ _ _ _ _ _ _ _ _ _ _ _ _ _ _ _ _ w'
 rintro ⟨j,kvc,Ls,css,hj,rfl,hg,hI⟩
 refine r_fieldL hI 0 rfl aq al rfl ?_
 refine r_lenSl hks aj ?_
 refine r_lss ?_
 refine condP (fun hji=>?_) (fun hji=>?_)
 ·have hj':j<ks.length:=by omega
  have hjl:(ks.take j).length=j:=by simp; omega
  have hcl:=hg.hc
  have hm:=List.getElem_mem hj'
  have hwm:=dP hm
  obtain ⟨b,o,cap,c,E,fz,rfl,hS,hR⟩:=hks.at_ hj'
  refine ⟨fun D x29 x28 x27 x26 x25 x24 x23 x22 x21 x20 x19 w_=>(D 0=true->x19=.pointer (some ⟨b3,3,none⟩))/\(D 1=true->x20=kvc)/\(D 2=true->x21=.pointer (some ⟨b1,3,none⟩))/\(D 3=true->x22=.slice (some ⟨b,o,none⟩) (ks).length cap)/\(D 4=true->x23=.int .i64 j)/\(D 5=true->x24=.pointer (some ⟨b,o+j * 4,none⟩))/\(D 6=true->x25=.agg (cellsAt c (o+j * 4) 4).toArray)/\(D 7=true->True)/\(D 8=true->True)/\(D 9=true->True)/\(D 10=true->x29=.pointer (some ⟨b3,3,none⟩))/\(D 11=true->True)/\∃ M cs7 b8,(D 7=true->x26=.agg cs7.toArray/\TrT M cs7 (ks)[j])/\(D 8=true->x27=.slice (some ⟨b8,0,none⟩) 1 1)/\(D 8=true->D 7=true)/\(D 9=true->D 8=true)/\(D 11=true->D 9=true)/\(D 11=true->D 1=true)/\Inv w [] (aA (.blk b1 (.cells #[.int .i64 k,.int .i64 n,.string s,.slice (some ⟨b,o,none⟩) ks.length cap] ab)) (.blk b2 (.cells #[.int .i64 0,.int .i64 0,.string ⟨#[]⟩,.slice none 0 0] ab)) (.blk b3 (.cells #[.int .i64 k,.int .i64 n,.string s,kvc] ab)) (.blk b3 (.cells #[.int .i64 k,.int .i64 n,.string s,x28] ab)) (au kvc ab 4 css) (au x28 ab 4 (css++[cs7])) (az Ls.flatten) M (.blk b8 (.cells cs7.toArray ab)) (D 7) (D 8) (D 9) (D 11)) S w_,⟨fun h=>Bool.noConfusion h,fun h=>Bool.noConfusion h,fun h=>Bool.noConfusion h,fun h=>Bool.noConfusion h,fun h=>Bool.noConfusion h,fun h=>Bool.noConfusion h,fun h=>Bool.noConfusion h,fun h=>Bool.noConfusion h,fun h=>Bool.noConfusion h,fun h=>Bool.noConfusion h,fun h=>Bool.noConfusion h,fun h=>Bool.noConfusion h,⟨[],[],0,fun h=>Bool.noConfusion h,fun h=>Bool.noConfusion h,fun h=>Bool.noConfusion h,fun h=>Bool.noConfusion h,fun h=>Bool.noConfusion h,fun h=>Bool.noConfusion h,by simpa [aA,az] using hI.draw⟩⟩,⟨?_,?_,?_,?_,?_,?_,?_,?_,?_,?_,?_,?_,trivial⟩,?_⟩
  ·intro D hD_  x29 x28 x27 x26 x25 x24 x23 x22 x21 x20 x19 w_
   rintro ⟨h0_,h1_,h2_,h3_,h4_,h5_,h6_,h7_,h8_,h9_,h10_,h11_,⟨M,cs7,b8,e7,e8,k8,k9,k11,k1,hI⟩⟩
   refine r_field aq ?_
   exact ⟨fun _=>rfl,h1_,h2_,h3_,h4_,h5_,h6_,h7_,h8_,h9_,h10_,h11_,⟨M,cs7,b8,e7,e8,k8,k9,k11,k1,hI⟩⟩
  ·intro D hD_ d0_0 x29 x28 x27 x26 x25 x24 x23 x22 x21 x20 x19 w_
   rintro ⟨h0_,h1_,h2_,h3_,h4_,h5_,h6_,h7_,h8_,h9_,h10_,h11_,⟨M,cs7,b8,e7,e8,k8,k9,k11,k1,hI⟩⟩
   obtain rfl:=h0_ d0_0
   have f11:D 11=false:=Bool.eq_false_iff.2 fun h=>by rw [k1 h] at hD_; cases hD_
   refine r_loadL (b:=b3) hI 2 (c:=(#[.int .i64 k,.int .i64 n,.string s,kvc])) al (by rw [f11]; rfl) rfl ?_
   have k1:=fun (_:setD D 1 11=true)=>(rfl:setD D 1 1=true)
   exact ⟨h0_,fun _=>rfl,h2_,h3_,h4_,h5_,h6_,h7_,h8_,h9_,h10_,h11_,⟨M,cs7,b8,e7,e8,k8,k9,k11,k1,hI⟩⟩
  ·intro D hD_  x29 x28 x27 x26 x25 x24 x23 x22 x21 x20 x19 w_
   rintro ⟨h0_,h1_,h2_,h3_,h4_,h5_,h6_,h7_,h8_,h9_,h10_,h11_,⟨M,cs7,b8,e7,e8,k8,k9,k11,k1,hI⟩⟩
   refine r_field aq ?_
   exact ⟨h0_,h1_,fun _=>rfl,h3_,h4_,h5_,h6_,h7_,h8_,h9_,h10_,h11_,⟨M,cs7,b8,e7,e8,k8,k9,k11,k1,hI⟩⟩
  ·intro D hD_ d2_0 x29 x28 x27 x26 x25 x24 x23 x22 x21 x20 x19 w_
   rintro ⟨h0_,h1_,h2_,h3_,h4_,h5_,h6_,h7_,h8_,h9_,h10_,h11_,⟨M,cs7,b8,e7,e8,k8,k9,k11,k1,hI⟩⟩
   obtain rfl:=h2_ d2_0
   refine r_loadL hI 0 al rfl rfl ?_
   exact ⟨h0_,h1_,h2_,fun _=>rfl,h4_,h5_,h6_,h7_,h8_,h9_,h10_,h11_,⟨M,cs7,b8,e7,e8,k8,k9,k11,k1,hI⟩⟩
  ·intro D hD_  x29 x28 x27 x26 x25 x24 x23 x22 x21 x20 x19 w_
   rintro ⟨h0_,h1_,h2_,h3_,h4_,h5_,h6_,h7_,h8_,h9_,h10_,h11_,⟨M,cs7,b8,e7,e8,k8,k9,k11,k1,hI⟩⟩
   exact ⟨h0_,h1_,h2_,h3_,fun _=>rfl,h5_,h6_,h7_,h8_,h9_,h10_,h11_,⟨M,cs7,b8,e7,e8,k8,k9,k11,k1,hI⟩⟩
  ·intro D hD_ d3_0 d4_1 x29 x28 x27 x26 x25 x24 x23 x22 x21 x20 x19 w_
   rintro ⟨h0_,h1_,h2_,h3_,h4_,h5_,h6_,h7_,h8_,h9_,h10_,h11_,⟨M,cs7,b8,e7,e8,k8,k9,k11,k1,hI⟩⟩
   obtain rfl:=h3_ d3_0
   obtain rfl:=h4_ d4_1
   refine r_indexAddr aj hj' ?_
   exact ⟨h0_,h1_,h2_,h3_,h4_,fun _=>rfl,h6_,h7_,h8_,h9_,h10_,h11_,⟨M,cs7,b8,e7,e8,k8,k9,k11,k1,hI⟩⟩
  ·intro D hD_ d5_0 x29 x28 x27 x26 x25 x24 x23 x22 x21 x20 x19 w_
   rintro ⟨h0_,h1_,h2_,h3_,h4_,h5_,h6_,h7_,h8_,h9_,h10_,h11_,⟨M,cs7,b8,e7,e8,k8,k9,k11,k1,hI⟩⟩
   obtain rfl:=h5_ d5_0
   refine r_loadA ag hR.length (fun j v hj=>by rw [hI.cellS hS]; exact cellsAt_get rfl j v hj) ?_
   exact ⟨h0_,h1_,h2_,h3_,h4_,h5_,fun _=>rfl,h7_,h8_,h9_,h10_,h11_,⟨M,cs7,b8,e7,e8,k8,k9,k11,k1,hI⟩⟩
  ·intro D hD_ d6_0 x29 x28 x27 x26 x25 x24 x23 x22 x21 x20 x19 w_
   rintro ⟨h0_,h1_,h2_,h3_,h4_,h5_,h6_,h7_,h8_,h9_,h10_,h11_,⟨M,cs7,b8,e7,e8,k8,k9,k11,k1,hI⟩⟩
   obtain rfl:=h6_ d6_0
   have f8:D 8=false:=Bool.eq_false_iff.2 fun h=>by rw [k8 h] at hD_; cases hD_
   have f9:D 9=false:=Bool.eq_false_iff.2 fun h=>by rw [k9 h] at f8; cases f8
   have f11:D 11=false:=Bool.eq_false_iff.2 fun h=>by rw [k11 h] at f9; cases f9
   rw [hD_,f8,f9,f11] at hI
   refine Run.call0 bM bN hI (ih _ (List.getElem_mem hj') S _ hR (by omega)) fun v' I' S w_=>?_
   rintro ⟨rfl,cs7,M,rfl,rfl,hT⟩ _ hI
   have e7:setD D 7 7=true->Value.agg cs7.toArray=Value.agg cs7.toArray/\TrT M cs7 (ks)[j]:=fun _=>⟨rfl,hT⟩
   have k8:=fun (_:setD D 7 8=true)=>(rfl:setD D 7 7=true)
   have hI:Inv w [] (aA (.blk b1 (.cells #[.int .i64 k,.int .i64 n,.string s,.slice (some ⟨b,o,none⟩) ks.length cap] ab)) (.blk b2 (.cells #[.int .i64 0,.int .i64 0,.string ⟨#[]⟩,.slice none 0 0] ab)) (.blk b3 (.cells #[.int .i64 k,.int .i64 n,.string s,kvc] ab)) (.blk b3 (.cells #[.int .i64 k,.int .i64 n,.string s,x28] ab)) (au kvc ab 4 css) (au x28 ab 4 (css++[cs7])) (az Ls.flatten) M (.blk b8 (.cells cs7.toArray ab)) true (D 8) (D 9) (D 11)) S w_:=by
    rw [f8,f9,f11]
    simpa [aA] using hI
   exact ⟨h0_,h1_,h2_,h3_,h4_,h5_,h6_,fun _=>by first|assumption|trivial,h8_,h9_,h10_,h11_,⟨M,cs7,b8,e7,e8,k8,k9,k11,k1,hI⟩⟩
  ·intro D hD_ d7_0 x29 x28 x27 x26 x25 x24 x23 x22 x21 x20 x19 w_
   rintro ⟨h0_,h1_,h2_,h3_,h4_,h5_,h6_,h7_,h8_,h9_,h10_,h11_,⟨M,cs7,b8,e7,e8,k8,k9,k11,k1,hI⟩⟩
   have g7_:=h7_ d7_0
   have f9:D 9=false:=Bool.eq_false_iff.2 fun h=>by rw [k9 h] at hD_; cases hD_
   have f11:D 11=false:=Bool.eq_false_iff.2 fun h=>by rw [k11 h] at f9; cases f9
   obtain ⟨q7,hT⟩:=e7 d7_0
   subst q7
   rw [d7_0,hD_,f9,f11] at hI
   refine r_slice1 hI aJ (by simp [Value.cells,hT.length]) (by omega) (by omega) fun b8 w_ hI=>?_
   have e7:setD D 8 7=true->Value.agg cs7.toArray=Value.agg cs7.toArray/\TrT M cs7 (ks)[j]:=fun _=>⟨rfl,hT⟩
   have e8:=fun (_:setD D 8 8=true)=>(rfl:Value.slice (some ⟨b8,0,none⟩) 1 1=_)
   have k8:=fun (_:setD D 8 8=true)=>d7_0
   have k9:=fun (_:setD D 8 9=true)=>(rfl:setD D 8 8=true)
   have hI:Inv w [] (aA (.blk b1 (.cells #[.int .i64 k,.int .i64 n,.string s,.slice (some ⟨b,o,none⟩) ks.length cap] ab)) (.blk b2 (.cells #[.int .i64 0,.int .i64 0,.string ⟨#[]⟩,.slice none 0 0] ab)) (.blk b3 (.cells #[.int .i64 k,.int .i64 n,.string s,kvc] ab)) (.blk b3 (.cells #[.int .i64 k,.int .i64 n,.string s,x28] ab)) (au kvc ab 4 css) (au x28 ab 4 (css++[cs7])) (az Ls.flatten) M (.blk b8 (.cells cs7.toArray ab)) (D 7) true (D 9) (D 11)) S w_:=by
    rw [d7_0,f9,f11]
    simpa [aA,Value.cells] using hI
   exact ⟨h0_,h1_,h2_,h3_,h4_,h5_,h6_,h7_,fun _=>by first|assumption|trivial,h9_,h10_,h11_,⟨M,cs7,b8,e7,e8,k8,k9,k11,k1,hI⟩⟩
  ·intro D hD_ d1_0 d8_1 d7_2 x29 x28 x27 x26 x25 x24 x23 x22 x21 x20 x19 w_
   rintro ⟨h0_,h1_,h2_,h3_,h4_,h5_,h6_,h7_,h8_,h9_,h10_,h11_,⟨M,cs7,b8,e7,e8,k8,k9,k11,k1,hI⟩⟩
   obtain rfl:=h1_ d1_0
   have g8_:=h8_ d8_1
   have f11:D 11=false:=Bool.eq_false_iff.2 fun h=>by rw [k11 h] at hD_; cases hD_
   have q8:=e8 d8_1
   subst q8
   obtain ⟨_,hT⟩:=e7 d7_2
   rw [d7_2,d8_1,hD_,f11] at hI
   have hblk:((aA (.blk b1 (.cells #[.int .i64 k,.int .i64 n,.string s,.slice (some ⟨b,o,none⟩) ks.length cap] ab)) (.blk b2 (.cells #[.int .i64 0,.int .i64 0,.string ⟨#[]⟩,.slice none 0 0] ab)) (.blk b3 (.cells #[.int .i64 k,.int .i64 n,.string s,x20] ab)) (.blk b3 (.cells #[.int .i64 k,.int .i64 n,.string s,x28] ab)) (au x20 ab 4 css) (au x28 ab 4 (css++[cs7])) (az Ls.flatten) M (.blk b8 (.cells cs7.toArray ab)) true true false false))[4+(az Ls.flatten).length+(az M).length]?=some (.blk b8 (.cells cs7.toArray ab)):=by
    have e4:4+(az Ls.flatten).length+(az M).length=((az Ls.flatten).length+(az M).length)+1+1+1+1:=by omega
    rw [e4]
    simp only [aA,List.getElem?_cons_succ]
    rw [List.getElem?_append_right (by omega),Nat.add_sub_cancel_left,List.getElem?_append_right (Nat.le_refl _),Nat.sub_self]; rfl
   refine r_append hI 3 cs7 aJ (by omega) rfl (by rw [hT.length]) (m:=1) (o:=0) ?_ hT.one (by omega) (by omega) fun v' w_ hI=>?_
   ·intro i u hi
    rw [hI.cellL hblk,Nat.zero_add]
    simpa using hi
   rw [ct] at hI
   have k9:=fun (_:setD D 9 9=true)=>d8_1
   have k11:=fun (_:setD D 9 11=true)=>(rfl:setD D 9 9=true)
   have hI:Inv w [] (aA (.blk b1 (.cells #[.int .i64 k,.int .i64 n,.string s,.slice (some ⟨b,o,none⟩) ks.length cap] ab)) (.blk b2 (.cells #[.int .i64 0,.int .i64 0,.string ⟨#[]⟩,.slice none 0 0] ab)) (.blk b3 (.cells #[.int .i64 k,.int .i64 n,.string s,x20] ab)) (.blk b3 (.cells #[.int .i64 k,.int .i64 n,.string s,v'] ab)) (au x20 ab 4 css) (au v' ab 4 (css++[cs7])) (az Ls.flatten) M (.blk b8 (.cells cs7.toArray ab)) (D 7) (D 8) true (D 11)) S w_:=by
    rw [d7_2,d8_1,f11]
    exact hI
   exact ⟨h0_,h1_,h2_,h3_,h4_,h5_,h6_,h7_,h8_,fun _=>by first|assumption|trivial,h10_,h11_,⟨M,cs7,b8,e7,e8,k8,k9,k11,k1,hI⟩⟩
  ·intro D hD_ d0_0 d1_1 d2_2 d3_3 d4_4 d5_5 d6_6 d7_7 d8_8 d9_9 x29 x28 x27 x26 x25 x24 x23 x22 x21 x20 x19 w_
   rintro ⟨h0_,h1_,h2_,h3_,h4_,h5_,h6_,h7_,h8_,h9_,h10_,h11_,⟨M,cs7,b8,e7,e8,k8,k9,k11,k1,hI⟩⟩
   refine r_field aq ?_
   exact ⟨h0_,h1_,h2_,h3_,h4_,h5_,h6_,h7_,h8_,h9_,fun _=>rfl,h11_,⟨M,cs7,b8,e7,e8,k8,k9,k11,k1,hI⟩⟩
  ·intro D hD_ d10_0 d9_1 d9_2 d0_3 d1_4 d2_5 d3_6 d4_7 d5_8 d6_9 d7_10 d8_11 d9_12 x29 x28 x27 x26 x25 x24 x23 x22 x21 x20 x19 w_
   rintro ⟨h0_,h1_,h2_,h3_,h4_,h5_,h6_,h7_,h8_,h9_,h10_,h11_,⟨M,cs7,b8,e7,e8,k8,k9,k11,k1,hI⟩⟩
   obtain rfl:=h10_ d10_0
   have g9_:=h9_ d9_1
   rw [d7_10,d8_11,d9_1,hD_] at hI
   obtain ⟨va,vn,vc,hv9⟩:=Inv.rowSlice hI 3 rfl
   refine r_store hI 2 (n:=1) (by rw [hv9]; rfl) (by decide +kernel) rfl (by simp) (by rw [hv9]; simp [Value.cells,Value.oneCell']) fun w_ hI=>?_
   have hcl9:Value.cells x28=#[x28]:=by rw [hv9]; rfl
   rw [hcl9] at hI
   have k1:=fun (_:setD D 11 11=true)=>d1_4
   have k11:=fun (_:setD D 11 11=true)=>d9_1
   have hI:Inv w [] (aA (.blk b1 (.cells #[.int .i64 k,.int .i64 n,.string s,.slice (some ⟨b,o,none⟩) ks.length cap] ab)) (.blk b2 (.cells #[.int .i64 0,.int .i64 0,.string ⟨#[]⟩,.slice none 0 0] ab)) (.blk b3 (.cells #[.int .i64 k,.int .i64 n,.string s,kvc] ab)) (.blk b3 (.cells #[.int .i64 k,.int .i64 n,.string s,x28] ab)) (au kvc ab 4 css) (au x28 ab 4 (css++[cs7])) (az Ls.flatten) M (.blk b8 (.cells cs7.toArray ab)) (D 7) (D 8) (D 9) true) S w_:=by
    rw [d7_10,d8_11,d9_1]
    exact hI
   exact ⟨h0_,h1_,h2_,h3_,h4_,h5_,h6_,h7_,h8_,h9_,h10_,fun _=>trivial,⟨M,cs7,b8,e7,e8,k8,k9,k11,k1,hI⟩⟩
  intro D d11_ d10_ d9_ d8_ d7_ d6_ d5_ d4_ d3_ d2_ d1_ d0_ x29 x28 x27 x26 x25 x24 x23 x22 x21 x20 x19 w_
  rintro ⟨h0_,h1_,h2_,h3_,h4_,h5_,h6_,h7_,h8_,h9_,h10_,h11_,⟨M,cs7,b8,e7,e8,k8,k9,k11,k1,hI⟩⟩
  obtain rfl:=h10_ d10_
  have g9_:=h9_ d9_
  have g8_:=h8_ d8_
  have g7_:=h7_ d7_
  obtain rfl:=h6_ d6_
  obtain rfl:=h5_ d5_
  obtain rfl:=h4_ d4_
  obtain rfl:=h3_ d3_
  obtain rfl:=h2_ d2_
  obtain rfl:=h1_ d1_
  obtain rfl:=h0_ d0_
  clear h0_ h1_ h2_ h3_ h4_ h5_ h6_ h7_ h8_ h9_ h10_ h11_
  obtain ⟨_,hT⟩:=e7 d7_
  rw [d7_,d8_,d9_,d11_] at hI
  refine r_add (by omega) ?_
  refine ⟨⟨j+1,x28,Ls++[M],css++[cs7],hj',rfl,?_,?_⟩,by simp [intOf]; omega⟩
  ·rw [List.take_succ_eq_append_getElem hj']
   exact hg.snoc hT hT.length
  ·simp only [List.flatten_append,List.flatten_cons,List.flatten_nil,List.append_nil,be]
   refine hI.sub ?_
   simp only [aA]
   rw [<- List.append_assoc]
   exact (((List.sublist_append_left _ _).cons_cons _).cons_cons _).cons_cons _ |>.cons_cons _
 ·have:j=ks.length:=by omega
  subst this
  rw [List.take_length] at hg
  obtain ⟨va,vn,vc,hvk⟩:=hI.rowSlice 3 rfl
  have hv1:kvc.oneCell'=true:=by rw [hvk]; rfl
  refine r_loadW hI 2 ag rfl rfl ?_
  refine ao hI 1 rfl ag rfl rfl ?_ fun w' hI=>?_
  ·intro u hu
   have hu':u∈([.int .i64 k,.int .i64 n,.string s,kvc]:List Value):=hu
   simp at hu'
   rcases hu' with rfl|rfl|rfl|rfl <;> first|rfl|exact hv1
  refine loadV_W hI 1 ag rfl rfl ?_
  have hI:Inv w [] ([]++(au kvc ab 4 css::az Ls.flatten)) S w':=hI.sub (List.sublist_append_right [_,_,_] _)
  obtain ⟨L,hT,hI⟩:=Inv.rowTree hI hg
  exact ⟨_,_,_,rfl,hI,Ext.refl _ _ _,rfl,_,L,rfl,rfl,TrT.iff.2 ⟨kvc,rfl,h1,h2,hs,hT⟩⟩
end

end Go.Proofs.YtmnnpgdeecnfpaaGreat

/- spec.l4Copy, spec.l14Copy: clauses and programs copied. -/
namespace Go.Proofs.YtmnnpgdeecnfpaaGreat
open Go Go.RowKit
section
attribute [local irreducible] Run CondV GuardV LoadV
theorem xi {c0:C} {S:Store} {cs:List Value} (h:RdC S cs c0) (hw:wC c0<=1048576):Tri Tryz.prog sR [.agg cs.toArray] [] S (EQ S c0):=by
 intro w hI
 obtain ⟨hd,ks,rfl,h1,h2⟩:=h
 have h1':=h1
 obtain ⟨kv,rfl,g1,g2,g3,g4⟩:=RdT.iff.1 h1
 unfold wC at hw
 refine jF ?_
 unfold jE
 refine r_box hI fun b1 w' hI=>?_
 refine r_alloc hI bd fun b2 w' hI=>?_
 refine r_field aP ?_
 refine r_loadLA hI 0 [.int .i64 c0.head.kind,.int .i64 c0.head.n,.string c0.head.name,kv] ag rfl rfl yR ?_
 refine Run.call0 bM bN hI (cq _ S _ h1' (by omega)) fun v' I' S w'=>?_
 rintro ⟨rfl,cs1,N,rfl,rfl,hT1⟩ _ hI
 obtain ⟨kh,rfl,_⟩:=TrT.iff.1 hT1
 refine fh ?_
 refine r_alloc hI bd fun b3 w' hI=>?_
 have hI:=hI.perm (M:=.blk b1 _::.blk b2 _::.blk b3 _::az N) (((List.perm_append_comm (l₁:=[_])).cons _).cons _)
 refine ao hI 2 rfl av rfl rfl ?_ fun w' hI=>?_
 ·intro u hu
  have hu':u∈([.int .i64 c0.head.kind,.int .i64 c0.head.n,.string c0.head.name,kh,.slice none 0 0]:List Value):=hu
  simp at hu'
  have o1:kh.oneCell'=true:=hT1.one kh (by simp)
  rcases hu' with rfl|rfl|rfl|rfl|rfl <;> first|rfl|exact o1
 have hI:=hI.rowNil ab 4
 have hI:=hI.perm (M:=.blk b1 (.cells #[.int .i64 c0.head.kind,.int .i64 c0.head.n,.string c0.head.name,kv,ks] af)::.blk b2 (.cells #[.int .i64 0,.int .i64 0,.string ⟨#[]⟩,.slice none 0 0,.slice none 0 0] af)::.blk b3 (.cells #[.int .i64 c0.head.kind,.int .i64 c0.head.n,.string c0.head.name,kh,.slice none 0 0] af)::au (.slice none 0 0) ab 4 []::az N) ((((List.perm_append_comm (l₁:=[_])).cons _).cons _).cons _)
 refine ⟨fun i w'=>∃ (j:Nat) (kvc:Value) (Ls:List aD) (css:List (List Value)),j<=c0.body.length/\i=.int .i64 j/\Grown 4 TrT Ls css (c0.body.take j)/\
   Inv w [] (.blk b1 (.cells #[.int .i64 c0.head.kind,.int .i64 c0.head.n,.string c0.head.name,kv,ks] af)::.blk b2 (.cells #[.int .i64 0,.int .i64 0,.string ⟨#[]⟩,.slice none 0 0,.slice none 0 0] af)::.blk b3 (.cells #[.int .i64 c0.head.kind,.int .i64 c0.head.n,.string c0.head.name,kh,kvc] af)::au kvc ab 4 css::az (N::Ls).flatten) S w',
  fun i _=>c0.body.length - (intOf i).toNat,⟨0,_,[],[],Nat.zero_le _,rfl,Grown.nil _ _,by simp only [List.flatten_cons,List.flatten_nil,List.append_nil]; exact hI⟩,?_⟩
 intro t4 _ _ _ _ _ _ _ _ _ _ _ _ _ _ _ _ _ _ w'
 rintro ⟨j,kvc,Ls,css,hj,rfl,hg,hI⟩
 refine r_fieldL hI 0 rfl ax al rfl ?_
 refine r_lenSl h2 aj ?_
 refine r_lss ?_
 refine condP (fun hji=>?_) (fun hji=>?_)
 ·have hj':j<c0.body.length:=by omega
  have hjl:(c0.body.take j).length=j:=by simp; omega
  have hcl:=hg.hc
  have hm:=List.getElem_mem hj'
  have hwm:=dP hm
  obtain ⟨b,o,cap,c,E,fz,rfl,hS,hR⟩:=h2.at_ hj'
  refine ⟨fun D x26 x25 x24 x23 x22 x21 x20 x19 x18 x17 x16 w_=>(D 0=true->x16=.pointer (some ⟨b3,4,none⟩))/\(D 1=true->x17=kvc)/\(D 2=true->x18=.pointer (some ⟨b1,4,none⟩))/\(D 3=true->x19=.slice (some ⟨b,o,none⟩) (c0.body).length cap)/\(D 4=true->x20=.int .i64 j)/\(D 5=true->x21=.pointer (some ⟨b,o+j * 4,none⟩))/\(D 6=true->x22=.agg (cellsAt c (o+j * 4) 4).toArray)/\(D 7=true->True)/\(D 8=true->True)/\(D 9=true->True)/\(D 10=true->x26=.pointer (some ⟨b3,4,none⟩))/\(D 11=true->True)/\∃ M cs7 b8,(D 7=true->x23=.agg cs7.toArray/\TrT M cs7 (c0.body)[j])/\(D 8=true->x24=.slice (some ⟨b8,0,none⟩) 1 1)/\(D 8=true->D 7=true)/\(D 9=true->D 8=true)/\(D 11=true->D 9=true)/\(D 11=true->D 1=true)/\Inv w [] (aA (.blk b1 (.cells #[.int .i64 c0.head.kind,.int .i64 c0.head.n,.string c0.head.name,kv,.slice (some ⟨b,o,none⟩) c0.body.length cap] af)) (.blk b2 (.cells #[.int .i64 0,.int .i64 0,.string ⟨#[]⟩,.slice none 0 0,.slice none 0 0] af)) (.blk b3 (.cells #[.int .i64 c0.head.kind,.int .i64 c0.head.n,.string c0.head.name,kh,kvc] af)) (.blk b3 (.cells #[.int .i64 c0.head.kind,.int .i64 c0.head.n,.string c0.head.name,kh,x25] af)) (au kvc ab 4 css) (au x25 ab 4 (css++[cs7])) (az (N::Ls).flatten) M (.blk b8 (.cells cs7.toArray ab)) (D 7) (D 8) (D 9) (D 11)) S w_,⟨fun h=>Bool.noConfusion h,fun h=>Bool.noConfusion h,fun h=>Bool.noConfusion h,fun h=>Bool.noConfusion h,fun h=>Bool.noConfusion h,fun h=>Bool.noConfusion h,fun h=>Bool.noConfusion h,fun h=>Bool.noConfusion h,fun h=>Bool.noConfusion h,fun h=>Bool.noConfusion h,fun h=>Bool.noConfusion h,fun h=>Bool.noConfusion h,⟨[],[],0,fun h=>Bool.noConfusion h,fun h=>Bool.noConfusion h,fun h=>Bool.noConfusion h,fun h=>Bool.noConfusion h,fun h=>Bool.noConfusion h,fun h=>Bool.noConfusion h,by simpa [aA,az] using hI.draw⟩⟩,⟨?_,?_,?_,?_,?_,?_,?_,?_,?_,?_,?_,?_,trivial⟩,?_⟩
  ·intro D hD_  x26 x25 x24 x23 x22 x21 x20 x19 x18 x17 x16 w_
   rintro ⟨h0_,h1_,h2_,h3_,h4_,h5_,h6_,h7_,h8_,h9_,h10_,h11_,⟨M,cs7,b8,e7,e8,k8,k9,k11,k1,hI⟩⟩
   refine r_field ax ?_
   exact ⟨fun _=>rfl,h1_,h2_,h3_,h4_,h5_,h6_,h7_,h8_,h9_,h10_,h11_,⟨M,cs7,b8,e7,e8,k8,k9,k11,k1,hI⟩⟩
  ·intro D hD_ d0_0 x26 x25 x24 x23 x22 x21 x20 x19 x18 x17 x16 w_
   rintro ⟨h0_,h1_,h2_,h3_,h4_,h5_,h6_,h7_,h8_,h9_,h10_,h11_,⟨M,cs7,b8,e7,e8,k8,k9,k11,k1,hI⟩⟩
   obtain rfl:=h0_ d0_0
   have f11:D 11=false:=Bool.eq_false_iff.2 fun h=>by rw [k1 h] at hD_; cases hD_
   refine r_loadL (b:=b3) hI 2 (c:=(#[.int .i64 c0.head.kind,.int .i64 c0.head.n,.string c0.head.name,kh,kvc])) al (by rw [f11]; rfl) rfl ?_
   have k1:=fun (_:setD D 1 11=true)=>(rfl:setD D 1 1=true)
   exact ⟨h0_,fun _=>rfl,h2_,h3_,h4_,h5_,h6_,h7_,h8_,h9_,h10_,h11_,⟨M,cs7,b8,e7,e8,k8,k9,k11,k1,hI⟩⟩
  ·intro D hD_  x26 x25 x24 x23 x22 x21 x20 x19 x18 x17 x16 w_
   rintro ⟨h0_,h1_,h2_,h3_,h4_,h5_,h6_,h7_,h8_,h9_,h10_,h11_,⟨M,cs7,b8,e7,e8,k8,k9,k11,k1,hI⟩⟩
   refine r_field ax ?_
   exact ⟨h0_,h1_,fun _=>rfl,h3_,h4_,h5_,h6_,h7_,h8_,h9_,h10_,h11_,⟨M,cs7,b8,e7,e8,k8,k9,k11,k1,hI⟩⟩
  ·intro D hD_ d2_0 x26 x25 x24 x23 x22 x21 x20 x19 x18 x17 x16 w_
   rintro ⟨h0_,h1_,h2_,h3_,h4_,h5_,h6_,h7_,h8_,h9_,h10_,h11_,⟨M,cs7,b8,e7,e8,k8,k9,k11,k1,hI⟩⟩
   obtain rfl:=h2_ d2_0
   refine r_loadL hI 0 al rfl rfl ?_
   exact ⟨h0_,h1_,h2_,fun _=>rfl,h4_,h5_,h6_,h7_,h8_,h9_,h10_,h11_,⟨M,cs7,b8,e7,e8,k8,k9,k11,k1,hI⟩⟩
  ·intro D hD_  x26 x25 x24 x23 x22 x21 x20 x19 x18 x17 x16 w_
   rintro ⟨h0_,h1_,h2_,h3_,h4_,h5_,h6_,h7_,h8_,h9_,h10_,h11_,⟨M,cs7,b8,e7,e8,k8,k9,k11,k1,hI⟩⟩
   exact ⟨h0_,h1_,h2_,h3_,fun _=>rfl,h5_,h6_,h7_,h8_,h9_,h10_,h11_,⟨M,cs7,b8,e7,e8,k8,k9,k11,k1,hI⟩⟩
  ·intro D hD_ d3_0 d4_1 x26 x25 x24 x23 x22 x21 x20 x19 x18 x17 x16 w_
   rintro ⟨h0_,h1_,h2_,h3_,h4_,h5_,h6_,h7_,h8_,h9_,h10_,h11_,⟨M,cs7,b8,e7,e8,k8,k9,k11,k1,hI⟩⟩
   obtain rfl:=h3_ d3_0
   obtain rfl:=h4_ d4_1
   refine r_indexAddr aj hj' ?_
   exact ⟨h0_,h1_,h2_,h3_,h4_,fun _=>rfl,h6_,h7_,h8_,h9_,h10_,h11_,⟨M,cs7,b8,e7,e8,k8,k9,k11,k1,hI⟩⟩
  ·intro D hD_ d5_0 x26 x25 x24 x23 x22 x21 x20 x19 x18 x17 x16 w_
   rintro ⟨h0_,h1_,h2_,h3_,h4_,h5_,h6_,h7_,h8_,h9_,h10_,h11_,⟨M,cs7,b8,e7,e8,k8,k9,k11,k1,hI⟩⟩
   obtain rfl:=h5_ d5_0
   refine r_loadA ag hR.length (fun j v hj=>by rw [hI.cellS hS]; exact cellsAt_get rfl j v hj) ?_
   exact ⟨h0_,h1_,h2_,h3_,h4_,h5_,fun _=>rfl,h7_,h8_,h9_,h10_,h11_,⟨M,cs7,b8,e7,e8,k8,k9,k11,k1,hI⟩⟩
  ·intro D hD_ d6_0 x26 x25 x24 x23 x22 x21 x20 x19 x18 x17 x16 w_
   rintro ⟨h0_,h1_,h2_,h3_,h4_,h5_,h6_,h7_,h8_,h9_,h10_,h11_,⟨M,cs7,b8,e7,e8,k8,k9,k11,k1,hI⟩⟩
   obtain rfl:=h6_ d6_0
   have f8:D 8=false:=Bool.eq_false_iff.2 fun h=>by rw [k8 h] at hD_; cases hD_
   have f9:D 9=false:=Bool.eq_false_iff.2 fun h=>by rw [k9 h] at f8; cases f8
   have f11:D 11=false:=Bool.eq_false_iff.2 fun h=>by rw [k11 h] at f9; cases f9
   rw [hD_,f8,f9,f11] at hI
   refine Run.call0 bM bN hI (cq _ S _ hR (by omega)) fun v' I' S w_=>?_
   rintro ⟨rfl,cs7,M,rfl,rfl,hT⟩ _ hI
   have e7:setD D 7 7=true->Value.agg cs7.toArray=Value.agg cs7.toArray/\TrT M cs7 (c0.body)[j]:=fun _=>⟨rfl,hT⟩
   have k8:=fun (_:setD D 7 8=true)=>(rfl:setD D 7 7=true)
   have hI:Inv w [] (aA (.blk b1 (.cells #[.int .i64 c0.head.kind,.int .i64 c0.head.n,.string c0.head.name,kv,.slice (some ⟨b,o,none⟩) c0.body.length cap] af)) (.blk b2 (.cells #[.int .i64 0,.int .i64 0,.string ⟨#[]⟩,.slice none 0 0,.slice none 0 0] af)) (.blk b3 (.cells #[.int .i64 c0.head.kind,.int .i64 c0.head.n,.string c0.head.name,kh,kvc] af)) (.blk b3 (.cells #[.int .i64 c0.head.kind,.int .i64 c0.head.n,.string c0.head.name,kh,x25] af)) (au kvc ab 4 css) (au x25 ab 4 (css++[cs7])) (az (N::Ls).flatten) M (.blk b8 (.cells cs7.toArray ab)) true (D 8) (D 9) (D 11)) S w_:=by
    rw [f8,f9,f11]
    simpa [aA] using hI
   exact ⟨h0_,h1_,h2_,h3_,h4_,h5_,h6_,fun _=>by first|assumption|trivial,h8_,h9_,h10_,h11_,⟨M,cs7,b8,e7,e8,k8,k9,k11,k1,hI⟩⟩
  ·intro D hD_ d7_0 x26 x25 x24 x23 x22 x21 x20 x19 x18 x17 x16 w_
   rintro ⟨h0_,h1_,h2_,h3_,h4_,h5_,h6_,h7_,h8_,h9_,h10_,h11_,⟨M,cs7,b8,e7,e8,k8,k9,k11,k1,hI⟩⟩
   have g7_:=h7_ d7_0
   have f9:D 9=false:=Bool.eq_false_iff.2 fun h=>by rw [k9 h] at hD_; cases hD_
   have f11:D 11=false:=Bool.eq_false_iff.2 fun h=>by rw [k11 h] at f9; cases f9
   obtain ⟨q7,hT⟩:=e7 d7_0
   subst q7
   rw [d7_0,hD_,f9,f11] at hI
   refine r_slice1 hI aJ (by simp [Value.cells,hT.length]) (by omega) (by omega) fun b8 w_ hI=>?_
   have e7:setD D 8 7=true->Value.agg cs7.toArray=Value.agg cs7.toArray/\TrT M cs7 (c0.body)[j]:=fun _=>⟨rfl,hT⟩
   have e8:=fun (_:setD D 8 8=true)=>(rfl:Value.slice (some ⟨b8,0,none⟩) 1 1=_)
   have k8:=fun (_:setD D 8 8=true)=>d7_0
   have k9:=fun (_:setD D 8 9=true)=>(rfl:setD D 8 8=true)
   have hI:Inv w [] (aA (.blk b1 (.cells #[.int .i64 c0.head.kind,.int .i64 c0.head.n,.string c0.head.name,kv,.slice (some ⟨b,o,none⟩) c0.body.length cap] af)) (.blk b2 (.cells #[.int .i64 0,.int .i64 0,.string ⟨#[]⟩,.slice none 0 0,.slice none 0 0] af)) (.blk b3 (.cells #[.int .i64 c0.head.kind,.int .i64 c0.head.n,.string c0.head.name,kh,kvc] af)) (.blk b3 (.cells #[.int .i64 c0.head.kind,.int .i64 c0.head.n,.string c0.head.name,kh,x25] af)) (au kvc ab 4 css) (au x25 ab 4 (css++[cs7])) (az (N::Ls).flatten) M (.blk b8 (.cells cs7.toArray ab)) (D 7) true (D 9) (D 11)) S w_:=by
    rw [d7_0,f9,f11]
    simpa [aA,Value.cells] using hI
   exact ⟨h0_,h1_,h2_,h3_,h4_,h5_,h6_,h7_,fun _=>by first|assumption|trivial,h9_,h10_,h11_,⟨M,cs7,b8,e7,e8,k8,k9,k11,k1,hI⟩⟩
  ·intro D hD_ d1_0 d8_1 d7_2 x26 x25 x24 x23 x22 x21 x20 x19 x18 x17 x16 w_
   rintro ⟨h0_,h1_,h2_,h3_,h4_,h5_,h6_,h7_,h8_,h9_,h10_,h11_,⟨M,cs7,b8,e7,e8,k8,k9,k11,k1,hI⟩⟩
   obtain rfl:=h1_ d1_0
   have g8_:=h8_ d8_1
   have f11:D 11=false:=Bool.eq_false_iff.2 fun h=>by rw [k11 h] at hD_; cases hD_
   have q8:=e8 d8_1
   subst q8
   obtain ⟨_,hT⟩:=e7 d7_2
   rw [d7_2,d8_1,hD_,f11] at hI
   have hblk:((aA (.blk b1 (.cells #[.int .i64 c0.head.kind,.int .i64 c0.head.n,.string c0.head.name,kv,.slice (some ⟨b,o,none⟩) c0.body.length cap] af)) (.blk b2 (.cells #[.int .i64 0,.int .i64 0,.string ⟨#[]⟩,.slice none 0 0,.slice none 0 0] af)) (.blk b3 (.cells #[.int .i64 c0.head.kind,.int .i64 c0.head.n,.string c0.head.name,kh,x17] af)) (.blk b3 (.cells #[.int .i64 c0.head.kind,.int .i64 c0.head.n,.string c0.head.name,kh,x25] af)) (au x17 ab 4 css) (au x25 ab 4 (css++[cs7])) (az (N::Ls).flatten) M (.blk b8 (.cells cs7.toArray ab)) true true false false))[4+(az (N::Ls).flatten).length+(az M).length]?=some (.blk b8 (.cells cs7.toArray ab)):=by
    have e4:4+(az (N::Ls).flatten).length+(az M).length=((az (N::Ls).flatten).length+(az M).length)+1+1+1+1:=by omega
    rw [e4]
    simp only [aA,List.getElem?_cons_succ]
    rw [List.getElem?_append_right (by omega),Nat.add_sub_cancel_left,List.getElem?_append_right (Nat.le_refl _),Nat.sub_self]; rfl
   refine r_append hI 3 cs7 aJ (by omega) rfl (by rw [hT.length]) (m:=1) (o:=0) ?_ hT.one (by omega) (by omega) fun v' w_ hI=>?_
   ·intro i u hi
    rw [hI.cellL hblk,Nat.zero_add]
    simpa using hi
   rw [ct] at hI
   have k9:=fun (_:setD D 9 9=true)=>d8_1
   have k11:=fun (_:setD D 9 11=true)=>(rfl:setD D 9 9=true)
   have hI:Inv w [] (aA (.blk b1 (.cells #[.int .i64 c0.head.kind,.int .i64 c0.head.n,.string c0.head.name,kv,.slice (some ⟨b,o,none⟩) c0.body.length cap] af)) (.blk b2 (.cells #[.int .i64 0,.int .i64 0,.string ⟨#[]⟩,.slice none 0 0,.slice none 0 0] af)) (.blk b3 (.cells #[.int .i64 c0.head.kind,.int .i64 c0.head.n,.string c0.head.name,kh,x17] af)) (.blk b3 (.cells #[.int .i64 c0.head.kind,.int .i64 c0.head.n,.string c0.head.name,kh,v'] af)) (au x17 ab 4 css) (au v' ab 4 (css++[cs7])) (az (N::Ls).flatten) M (.blk b8 (.cells cs7.toArray ab)) (D 7) (D 8) true (D 11)) S w_:=by
    rw [d7_2,d8_1,f11]
    exact hI
   exact ⟨h0_,h1_,h2_,h3_,h4_,h5_,h6_,h7_,h8_,fun _=>by first|assumption|trivial,h10_,h11_,⟨M,cs7,b8,e7,e8,k8,k9,k11,k1,hI⟩⟩
  ·intro D hD_ d0_0 d1_1 d2_2 d3_3 d4_4 d5_5 d6_6 d7_7 d8_8 d9_9 x26 x25 x24 x23 x22 x21 x20 x19 x18 x17 x16 w_
   rintro ⟨h0_,h1_,h2_,h3_,h4_,h5_,h6_,h7_,h8_,h9_,h10_,h11_,⟨M,cs7,b8,e7,e8,k8,k9,k11,k1,hI⟩⟩
   refine r_field ax ?_
   exact ⟨h0_,h1_,h2_,h3_,h4_,h5_,h6_,h7_,h8_,h9_,fun _=>rfl,h11_,⟨M,cs7,b8,e7,e8,k8,k9,k11,k1,hI⟩⟩
  ·intro D hD_ d10_0 d9_1 d9_2 d0_3 d1_4 d2_5 d3_6 d4_7 d5_8 d6_9 d7_10 d8_11 d9_12 x26 x25 x24 x23 x22 x21 x20 x19 x18 x17 x16 w_
   rintro ⟨h0_,h1_,h2_,h3_,h4_,h5_,h6_,h7_,h8_,h9_,h10_,h11_,⟨M,cs7,b8,e7,e8,k8,k9,k11,k1,hI⟩⟩
   obtain rfl:=h10_ d10_0
   have g9_:=h9_ d9_1
   rw [d7_10,d8_11,d9_1,hD_] at hI
   obtain ⟨va,vn,vc,hv9⟩:=Inv.rowSlice hI 3 rfl
   refine r_store hI 2 (n:=1) (by rw [hv9]; rfl) (by decide +kernel) rfl (by simp) (by rw [hv9]; simp [Value.cells,Value.oneCell']) fun w_ hI=>?_
   have hcl9:Value.cells x25=#[x25]:=by rw [hv9]; rfl
   rw [hcl9] at hI
   have k1:=fun (_:setD D 11 11=true)=>d1_4
   have k11:=fun (_:setD D 11 11=true)=>d9_1
   have hI:Inv w [] (aA (.blk b1 (.cells #[.int .i64 c0.head.kind,.int .i64 c0.head.n,.string c0.head.name,kv,.slice (some ⟨b,o,none⟩) c0.body.length cap] af)) (.blk b2 (.cells #[.int .i64 0,.int .i64 0,.string ⟨#[]⟩,.slice none 0 0,.slice none 0 0] af)) (.blk b3 (.cells #[.int .i64 c0.head.kind,.int .i64 c0.head.n,.string c0.head.name,kh,kvc] af)) (.blk b3 (.cells #[.int .i64 c0.head.kind,.int .i64 c0.head.n,.string c0.head.name,kh,x25] af)) (au kvc ab 4 css) (au x25 ab 4 (css++[cs7])) (az (N::Ls).flatten) M (.blk b8 (.cells cs7.toArray ab)) (D 7) (D 8) (D 9) true) S w_:=by
    rw [d7_10,d8_11,d9_1]
    exact hI
   exact ⟨h0_,h1_,h2_,h3_,h4_,h5_,h6_,h7_,h8_,h9_,h10_,fun _=>trivial,⟨M,cs7,b8,e7,e8,k8,k9,k11,k1,hI⟩⟩
  intro D d11_ d10_ d9_ d8_ d7_ d6_ d5_ d4_ d3_ d2_ d1_ d0_ x26 x25 x24 x23 x22 x21 x20 x19 x18 x17 x16 w_
  rintro ⟨h0_,h1_,h2_,h3_,h4_,h5_,h6_,h7_,h8_,h9_,h10_,h11_,⟨M,cs7,b8,e7,e8,k8,k9,k11,k1,hI⟩⟩
  obtain rfl:=h10_ d10_
  have g9_:=h9_ d9_
  have g8_:=h8_ d8_
  have g7_:=h7_ d7_
  obtain rfl:=h6_ d6_
  obtain rfl:=h5_ d5_
  obtain rfl:=h4_ d4_
  obtain rfl:=h3_ d3_
  obtain rfl:=h2_ d2_
  obtain rfl:=h1_ d1_
  obtain rfl:=h0_ d0_
  clear h0_ h1_ h2_ h3_ h4_ h5_ h6_ h7_ h8_ h9_ h10_ h11_
  obtain ⟨_,hT⟩:=e7 d7_
  rw [d7_,d8_,d9_,d11_] at hI
  refine r_add (by omega) ?_
  refine ⟨⟨j+1,x25,Ls++[M],css++[cs7],hj',rfl,?_,?_⟩,by simp [intOf]; omega⟩
  ·rw [List.take_succ_eq_append_getElem hj']
   exact hg.snoc hT hT.length
  ·rw [<- List.cons_append,List.flatten_append,be]
   simp only [List.flatten_cons,List.flatten_nil,List.append_nil]
   refine hI.sub ?_
   simp only [aA,List.flatten_cons]
   rw [<- List.append_assoc]
   exact (((List.sublist_append_left _ _).cons_cons _).cons_cons _).cons_cons _ |>.cons_cons _
 ·have:j=c0.body.length:=by omega
  subst this
  rw [List.take_length] at hg
  obtain ⟨va,vn,vc,hvk⟩:=hI.rowSlice 3 rfl
  have hv1:kvc.oneCell'=true:=by rw [hvk]; rfl
  have o1:kh.oneCell'=true:=hT1.one kh (by simp)
  refine r_loadW hI 2 av rfl rfl ?_
  refine ao hI 1 rfl av rfl rfl ?_ fun w' hI=>?_
  ·intro u hu
   have hu':u∈([.int .i64 c0.head.kind,.int .i64 c0.head.n,.string c0.head.name,kh,kvc]:List Value):=hu
   simp at hu'
   rcases hu' with rfl|rfl|rfl|rfl|rfl <;> first|rfl|exact o1|exact hv1
  refine loadV_W hI 1 av rfl rfl ?_
  have hI:Inv w [] (au kvc ab 4 css::az (N::Ls).flatten) S w':=hI.sub (List.sublist_append_right [_,_,_] _)
  rw [List.flatten_cons,be] at hI
  have hI:=hI.perm (M:=az N++(au kvc ab 4 css::az Ls.flatten)) (List.perm_middle)
  obtain ⟨L,hT,hI⟩:=Inv.rowTree hI hg
  exact ⟨_,_,_,rfl,hI,Ext.refl _ _ _,rfl,_,N++L,rfl,by rw [be],_,kvc,N,L,rfl,rfl,hT1,hT⟩
end

end Go.Proofs.YtmnnpgdeecnfpaaGreat

/- append of a whole slice that is only read to a row of the function's own. -/
namespace Go.Proofs.YtmnnpgdeecnfpaaGreat
open Go Go.RowKit
section
variable {P:Program} {w w0:World} {X:List Nat} {L:List Item} {S:Store} {K:Value->World->Prop}
theorem wu (h:Inv w0 X L S w) {T ty e:TypeId} {k by_ n cp:Nat} {z v:Value} {cs:List Bool} {xs:List Value} {a:Option Addr} (i:Nat)
  (hT:mkOf P T=some (e,k,by_,z)) (hi:L[i]?=some (.row v e k n xs)) (hk:K v w) :
  Run P (sBuiltin .append #[T,T] ty cs [v,.slice a 0 cp]) w K:=by
 obtain ⟨hu,inf,hi',hz,hs,hb,hzs⟩:=mkOf_some hT
 have hown:=h.its _ (List.mem_of_getElem? hi)
 simp only [Item.holds] at hown
 refine Run.of (v:=v) (w':=w) ?_ hk
 rcases hown.2 with ⟨rfl,rfl⟩|⟨g,cap,cur,rfl,_,hg,hnc,hcm,hcs,ht⟩
 ·cases a <;> simp [sBuiltin,builtin,Builtin.append_,run_underlying hu,sizeOf,typeInfo,hi',Builtin.lenOf,Builtin.firstCells,loadCells,loadCellsFrom]
 ·cases a <;> simp [sBuiltin,builtin,Builtin.append_,run_underlying hu,sizeOf,typeInfo,hi',storeCells,hnc,Builtin.lenOf,Builtin.firstCells,loadCells,loadCellsFrom]
end

end Go.Proofs.YtmnnpgdeecnfpaaGreat
