/- spec.l4Clause. -/
import Derived.Test.YtmnnpgdeecnfpaaGreatZMh7
import Derived.Test.YtmnnpgdeecnfpaaGreatZMh2
import Derived.Test.YtmnnpgdeecnfpaaGreatZMh1
import Derived.Test.YtmnnpgdeecnfpaaGreatZMh6
import Derived.Test.YtmnnpgdeecnfpaaGreatZMh0
namespace Go.Proofs.YtmnnpgdeecnfpaaGreat
open Go Go.RowKit
section
variable {br:Nat} {sl:Value} {ys:List Nat}
attribute [local irreducible] Run CondV ah ba
abbrev Fl (br:Nat) (sl:Value) (p k m:Nat):Value->List Item->ax->Prop:=fun v I' S'=>∃ p',p'<=p+k/\I'=[rdI br sl p']/\∃ cs c,v=.agg cs.toArray/\RdC S' cs c/\wC c<=m/\okU 26 c.head/\∀ t∈c.body,okU 26 t
theorem pO:dW 2=54:=rfl
theorem tc {p:Nat} {S:ax} (hrd:RdSl S 1 jA sl ys) (hp:p<=50000000):Tri Tryz.prog xf [rdP br] [rdI br sl p] S (Fl br sl p 500 500):=by
 intro w hI
 refine pK ?_
 unfold mK
 refine bm hI bI fun b2 w' hI=>?_
 obtain ⟨B2,hB2⟩:∃ B2,B2=Item.blk b2 (.cells #[.int .i64 0,.int .i64 0,.string ⟨#[]⟩,.slice none 0 0,.slice none 0 0] ai):=⟨_,rfl⟩
 have hI:Inv w [br] [B2,rdI br sl p] S w':=by rw [hB2]; exact hI.last 0 rfl
 refine Run.callL uA tw hI (sq hrd (by omega)) rfl fun v1 I' S1 w'=>?_
 rintro ⟨p1,css1,q,hp1,rfl,hR1,hq1,h1,hv1⟩ hE1 hI
 have hI:Inv w [br] [B2,be v1 ai 5 css1,rdI br sl p1] S1 w':=hI
 have hI:Inv w [br] [be v1 ai 5 css1,rdI br sl p1,B2] S1 w':=hI.last 0 rfl
 obtain ⟨S2,hE2,hI,hr⟩:=D9 hI hR1
 have hI:Inv w [br] [B2,rdI br sl p1] S2 w':=hI.last 0 rfl
 have hE2:=hE1.trans hE2
 refine Run.callL ch ci hI (dz (n:=4) (hrd.monoU hE2.1) (by omega) (by omega)) rfl fun v' I' S2 w'=>?_
 rintro ⟨rfl,rfl,kk,hkk,rfl⟩ _ hI
 have hI:Inv w [br] [B2,rdI br sl (p1+1)] S2 w':=hI
 refine eN ?_
 refine bz (fun _=>?_) (fun _=>?_)
 ·refine bo hr rC ?_
  refine Run.callL ch ci hI (dz (n:=q.length) (hrd.monoU hE2.1) (by omega) (by omega)) rfl fun v' I' S2 w'=>?_
  rintro ⟨rfl,rfl,k,hk,rfl⟩ _ hI
  have hI:Inv w [br] [B2,rdI br sl (p1+2)] S2 w':=hI
  refine ei hI hr rC aW hk (fun _ _=>RdC.length) fun cs hcs=>?_
  subst hB2
  refine aX hI 0 rfl aW (by simpa using hcs.length) rfl (by simpa using hcs.one) fun w' hI=>?_
  refine bA hI 0 aW rfl (by simpa using hcs.length) ?_
  exact ⟨_,_,S2,rfl,hI.pick [false,true],hE2,p1+2,by omega,rfl,cs,_,rfl,hcs,by have:=hq1.2 _ (List.getElem_mem hk); omega,(tW (hv1 _ (List.getElem_mem hk))).1,(tW (hv1 _ (List.getElem_mem hk))).2.1⟩
 ·refine nf hI (by kernel_rfl) rfl (by omega) fun v S3 w' hE3 hv hI=>?_
  refine Run.callL eJ eH hI (jH (p:=p1+1) (hrd.monoU (hE2.trans hE3).1) hv (by decide) (by omega)) rfl fun v' I' S3 w'=>?_
  rintro ⟨rfl,rfl,s,hs,rfl⟩ _ hI
  have hs:=lW (m:=3) hs (by decide)
  have hI:Inv w [br] [B2,rdI br sl (p1+2)] S3 w':=hI
  have hE3:=hE2.trans hE3
  refine Run.callL eU eZ hI (fD 2 (by omega) (p1+2) S3 (hrd.monoU hE3.1) (by rw [pO]; omega)) rfl fun v' I' S4 w'=>?_
  rintro ⟨p2,hp2,rfl,cs1,t1,rfl,hc1,hw1,ho1⟩ hE4 hI
  rw [pO] at hp2 hw1
  refine dg hI bt (by simp [Value.cells,hc1.length]) (by omega) (by omega) fun b8 w' hI=>?_
  have hI:Inv w [br] ([B2,rdI br sl p2]++[_]) S4 w':=hI
  obtain ⟨S5,hI,hE5,hS⟩:=hI.pub1
  refine Run.call0E c9 db hI (dB s (by simp only [maxLen]; omega) (Eh hS (hc1.mono hE5.1)) (by simp)) fun v' I' S6 w'=>?_
  rintro ⟨rfl,hd,rfl,hhd⟩ hE6 hI
  have hE6:=hE3.trans (hE4.trans (hE5.trans hE6))
  have hhd0:=hhd
  obtain ⟨k3,rfl,_,_,_,a3,q3,rfl,_⟩:=RdT.iff.1 hhd
  refine fA ?_
  refine bm hI bI fun b4 w' hI=>?_
  have hI:Inv w [br] [B2,rdI br sl p2,.blk b4 (.cells #[.int .i64 0,.int .i64 0,.string ⟨#[]⟩,.slice none 0 0,.slice none 0 0] ai)] S6 w':=hI
  refine aX hI 2 rfl aW rfl rfl (by simp [Value.oneCell']) fun w' hI=>?_
  have hI:=hI.rowNil ac 4
  have hI:Inv w [br] [.blk b4 (.cells #[.int .i64 3,.int .i64 0,.string s,.slice a3 1 q3,.slice none 0 0] ai),be (.slice none 0 0) ac 4 [],B2,rdI br sl p2] S6 w':=((hI.last 1 rfl).last 0 rfl).perm (by
   exact List.Perm.trans (List.Perm.symm (List.Perm.refl _)) (List.Perm.append_left [_,_] (List.Perm.swap _ _ [])))
  refine Run.callL ch ci hI (dz (n:=3) (hrd.monoU hE6.1) (by omega) (by omega)) rfl fun v' I' S6 w'=>?_
  rintro ⟨rfl,rfl,n,hn,rfl⟩ _ hI
  have ehd:wT (T.mk 3 0 s [t1])=s.size+1+wT t1:=by simp only [wT,wL,List.length_cons,List.length_nil]; omega
  refine ⟨fun a w'=>∃ (j p3:Nat) (S7:ax) (kv:Value) (css:List (List Value)) (ks:List T),fC 26 ks/\a=.int .i64 (j:Int)/\ks.length+j<=2/\p3<=p2+1+120 * ks.length/\wL ks<=120 * ks.length/\Ext w.heap.size [br] S S7/\RdT S7 [.int .i64 3,.int .i64 0,.string s,.slice a3 1 q3] (.mk 3 0 s [t1])/\Rows 4 (RdT S7) css ks/\
   Inv w [br] [.blk b4 (.cells #[.int .i64 3,.int .i64 0,.string s,.slice a3 1 q3,kv] ai),be kv ac 4 css,B2,rdI br sl p3] S7 w',fun a _=>(intOf a).toNat,
   ⟨n,p2+1,S6,_,[],[],by simp only [fC],rfl,by simp; omega,by simp,by simp [wL],hE6,hhd0,Rows.nil _ _,hI⟩,?_⟩
  intro t5 _ _ t45 t44 t43 t42 t41 t40 t39 t38 t37 t36 t35 t34 t33 t32 _ _ w'
  rintro ⟨j,p3,S7,kv,css,ks,hou,rfl,hkj,hp3,hwk,hE7,hhd,hR,hI⟩
  have hcl:=hR.hc
  refine eN ?_
  refine bz (fun hj0=>?_) (fun _=>?_)
  ·obtain ⟨j',rfl⟩:∃ j',j=j'+1:=⟨j - 1,by omega⟩
   refine ⟨fun D dv dt dj du dJ ji fp gg fg dD dS er eY ew w_=>(D 0=true->ew=.pointer (some ⟨b4,4,none⟩))/\(D 1=true->eY=kv)/\(D 2=true->er=rdP br)/\(D 3=true->True)/\(D 4=true->True)/\(D 5=true->fg=rdP br)/\(D 6=true->True)/\(D 7=true->fp=rdP br)/\(D 8=true->True)/\(D 9=true->True)/\(D 10=true->True)/\(D 11=true->True)/\(D 12=true->True)/\(D 13=true->dv=.pointer (some ⟨b4,4,none⟩))/\(D 14=true->True)/\∃ n_:Nat,n_<=9/\D 3=decide (1<=n_)/\D 4=decide (2<=n_)/\D 6=decide (3<=n_)/\D 8=decide (4<=n_)/\D 9=decide (5<=n_)/\D 10=decide (6<=n_)/\D 11=decide (7<=n_)/\D 12=decide (8<=n_)/\D 14=decide (9<=n_)/\(D 14=true->D 1=true)/\(gW (Inv w [br] [.blk b4 (.cells #[.int .i64 3,.int .i64 0,.string s,.slice a3 1 q3,kv] ai),be kv ac 4 css,B2,rdI br sl p3] S7 w_) (gW (∃ S8 l,RdSl S8 1 pH dS l/\0<l.length/\(l.all fun s=>decide (s.size<=3))=true/\Ext w.heap.size [br] S7 S8/\Inv w [br] [.blk b4 (.cells #[.int .i64 3,.int .i64 0,.string s,.slice a3 1 q3,kv] ai),be kv ac 4 css,B2,rdI br sl p3] S8 w_) (gW (∃ S8 s2,dD=.string s2/\s2.size<=3/\Ext w.heap.size [br] S7 S8/\Inv w [br] [.blk b4 (.cells #[.int .i64 3,.int .i64 0,.string s,.slice a3 1 q3,kv] ai),be kv ac 4 css,B2,rdI br sl (p3+1)] S8 w_) (gW (∃ S8 s2 p4 c1 t1,dD=.string s2/\s2.size<=3/\gg=.agg c1.toArray/\RdT S8 c1 t1/\okU 26 t1/\wT t1+3<=54/\p4+2<=p3+1+54/\Ext w.heap.size [br] S7 S8/\Inv w [br] [.blk b4 (.cells #[.int .i64 3,.int .i64 0,.string s,.slice a3 1 q3,kv] ai),be kv ac 4 css,B2,rdI br sl p4] S8 w_) (gW (∃ S8 s2 p4 c1 t1 c2 t2,dD=.string s2/\s2.size<=3/\gg=.agg c1.toArray/\RdT S8 c1 t1/\okU 26 t1/\wT t1+3<=54/\ji=.agg c2.toArray/\RdT S8 c2 t2/\okU 26 t2/\wT t2+3<=54/\p4<=p3+110/\Ext w.heap.size [br] S7 S8/\Inv w [br] [.blk b4 (.cells #[.int .i64 3,.int .i64 0,.string s,.slice a3 1 q3,kv] ai),be kv ac 4 css,B2,rdI br sl p4] S8 w_) (gW (∃ S8 s2 p4 t1 t2,dD=.string s2/\s2.size<=3/\RdSl S8 4 (RdT S8) dJ [t1,t2]/\fC 26 [t1,t2]/\wT t1+3<=54/\wT t2+3<=54/\p4<=p3+110/\Ext w.heap.size [br] S7 S8/\Inv w [br] [.blk b4 (.cells #[.int .i64 3,.int .i64 0,.string s,.slice a3 1 q3,kv] ai),be kv ac 4 css,B2,rdI br sl p4] S8 w_) (pP w [br] b4 #[.int .i64 3,.int .i64 0,.string s,.slice a3 1 q3,kv] 4 ai kv css (fun p=>[B2,rdI br sl p]) (fun cs p' S'=>∃ t,okU 26 t/\RdT S' cs t/\wT t<=110/\p'<=p3+110/\Ext w.heap.size [br] S7 S') du dj dt w_)))))) n_),⟨af,af,af,af,af,af,af,af,af,af,af,af,af,af,af,⟨0,Nat.zero_le _,rfl,rfl,rfl,rfl,rfl,rfl,rfl,rfl,rfl,(af),hI.draw⟩⟩,⟨?_,?_,?_,?_,?_,?_,?_,?_,?_,?_,?_,?_,?_,?_,?_,trivial⟩,?_⟩
   ·intro D a6  dv dt dj du dJ ji fp gg fg dD dS er eY ew w_
    rintro ⟨aF,aC,aB,aE,aD,aG,az,aK,aQ,aU,ao,ar,aw,aI,aJ,⟨n_,ln_,e1_,e2_,e3_,e4_,e5_,e6_,e7_,e8_,e9_,kp_,hS⟩⟩
    refine bh bi ?_
    exact ⟨fun _=>rfl,aC,aB,aE,aD,aG,az,aK,aQ,aU,ao,ar,aw,aI,aJ,⟨n_,ln_,e1_,e2_,e3_,e4_,e5_,e6_,e7_,e8_,e9_,kp_,hS⟩⟩
   ·intro D a6 dc dv dt dj du dJ ji fp gg fg dD dS er eY ew w_
    rintro ⟨aF,aC,aB,aE,aD,aG,az,aK,aQ,aU,ao,ar,aw,aI,aJ,⟨n_,ln_,e1_,e2_,e3_,e4_,e5_,e6_,e7_,e8_,e9_,kp_,hS⟩⟩
    obtain rfl:=aF dc
    have ln2_:=C6 e9_ kp_ a6
    refine d4 aV ((CF (fun h=>h.cellL (i:=0) rfl) (CF (fun ⟨_,_,_,_,_,_,h⟩=>h.cellL (i:=0) rfl) (CF (fun ⟨_,_,_,_,_,h⟩=>h.cellL (i:=0) rfl) (CF (fun ⟨_,_,_,_,_,_,_,_,_,_,_,_,_,h⟩=>h.cellL (i:=0) rfl) (CF (fun ⟨_,_,_,_,_,_,_,_,_,_,_,_,_,_,_,_,_,_,_,h⟩=>h.cellL (i:=0) rfl) (CF (fun ⟨_,_,_,_,_,_,_,_,_,_,_,_,_,h⟩=>h.cellL (i:=0) rfl) (fun n hn h=>tx h hn)))))) n_ ln2_ hS).trans rfl) ?_
    exact ⟨aF,fun _=>rfl,aB,aE,aD,aG,az,aK,aQ,aU,ao,ar,aw,aI,aJ,⟨n_,ln_,e1_,e2_,e3_,e4_,e5_,e6_,e7_,e8_,e9_,(fun _=>rfl),hS⟩⟩
   ·intro D a6  dv dt dj du dJ ji fp gg fg dD dS er eY ew w_
    rintro ⟨aF,aC,aB,aE,aD,aG,az,aK,aQ,aU,ao,ar,aw,aI,aJ,⟨n_,ln_,e1_,e2_,e3_,e4_,e5_,e6_,e7_,e8_,e9_,kp_,hS⟩⟩
    exact ⟨aF,aC,fun _=>rfl,aE,aD,aG,az,aK,aQ,aU,ao,ar,aw,aI,aJ,⟨n_,ln_,e1_,e2_,e3_,e4_,e5_,e6_,e7_,e8_,e9_,kp_,hS⟩⟩
   ·intro D a6  dv dt dj du dJ ji fp gg fg dD dS er eY ew w_
    rintro ⟨aF,aC,aB,aE,aD,aG,az,aK,aQ,aU,ao,ar,aw,aI,aJ,⟨n_,ln_,e1_,e2_,e3_,e4_,e5_,e6_,e7_,e8_,e9_,kp_,hS⟩⟩
    obtain rfl:n_=0:=Dy e1_ a6
    refine nf (L:=[.blk b4 _,be _ ac 4 css,B2,rdI br sl p3]) hS (by kernel_rfl) rfl (by omega) fun v S8 w_ hE8 hv hI=>?_
    exact ⟨aF,aC,aB,fun _=>by first|assumption|trivial,aD,aG,az,aK,aQ,aU,ao,ar,aw,aI,aJ,⟨1,by decide,rfl,(by first|exact e2_|rfl),(by first|exact e3_|rfl),(by first|exact e4_|rfl),(by first|exact e5_|rfl),(by first|exact e6_|rfl),(by first|exact e7_|rfl),(by first|exact e8_|rfl),(by first|exact e9_|rfl),kp_,⟨S8,_,hv,by decide,by decide,hE8,hI⟩⟩⟩
   ·intro D a6 dy vN dv dt dj du dJ ji fp gg fg dD dS er eY ew w_
    rintro ⟨aF,aC,aB,aE,aD,aG,az,aK,aQ,aU,ao,ar,aw,aI,aJ,⟨n_,ln_,e1_,e2_,e3_,e4_,e5_,e6_,e7_,e8_,e9_,kp_,hS⟩⟩
    obtain rfl:=aB dy
    have Hr:=aE vN
    obtain rfl:n_=1:=je e1_ vN e2_ a6
    obtain ⟨S8,l,hv,hl0,hl3,hE8,hI⟩:=dd hS
    refine Run.callL eJ eH (L:=[.blk b4 _,be _ ac 4 css,B2,rdI br sl p3]) hI (jH (p:=p3) (hrd.monoU (hE7.trans hE8).1) hv hl0 (by omega)) rfl fun v' I' S8 w_=>?_
    rintro ⟨rfl,rfl,s2,hs2,rfl⟩ _ hI
    have hs2:=lW hs2 hl3
    exact ⟨aF,aC,aB,aE,fun _=>by first|assumption|trivial,aG,az,aK,aQ,aU,ao,ar,aw,aI,aJ,⟨2,by decide,(by first|exact e1_|rfl),rfl,(by first|exact e3_|rfl),(by first|exact e4_|rfl),(by first|exact e5_|rfl),(by first|exact e6_|rfl),(by first|exact e7_|rfl),(by first|exact e8_|rfl),(by first|exact e9_|rfl),kp_,⟨S8,s2,rfl,hs2,hE8,hI⟩⟩⟩
   ·intro D a6  dv dt dj du dJ ji fp gg fg dD dS er eY ew w_
    rintro ⟨aF,aC,aB,aE,aD,aG,az,aK,aQ,aU,ao,ar,aw,aI,aJ,⟨n_,ln_,e1_,e2_,e3_,e4_,e5_,e6_,e7_,e8_,e9_,kp_,hS⟩⟩
    exact ⟨aF,aC,aB,aE,aD,fun _=>rfl,az,aK,aQ,aU,ao,ar,aw,aI,aJ,⟨n_,ln_,e1_,e2_,e3_,e4_,e5_,e6_,e7_,e8_,e9_,kp_,hS⟩⟩
   ·intro D a6 eq ev dv dt dj du dJ ji fp gg fg dD dS er eY ew w_
    rintro ⟨aF,aC,aB,aE,aD,aG,az,aK,aQ,aU,ao,ar,aw,aI,aJ,⟨n_,ln_,e1_,e2_,e3_,e4_,e5_,e6_,e7_,e8_,e9_,kp_,hS⟩⟩
    obtain rfl:=aG eq
    obtain rfl:n_=2:=je e2_ ev e3_ a6
    obtain ⟨S8,s2,rfl,hs2,hE8,hI⟩:=dd (dd hS)
    refine Run.callL eU eZ (L:=[.blk b4 _,be _ ac 4 css,B2,rdI br sl (p3+1)]) hI (fD 2 (by omega) (p3+1) S8 (hrd.monoU (hE7.trans hE8).1) (by rw [pO]; omega)) rfl fun v' I' S9 w_=>?_
    rintro ⟨p4,hp4,rfl,c1,u1,rfl,hc1,hw1,ho1⟩ hE9 hI
    rw [pO] at hp4 hw1
    exact ⟨aF,aC,aB,aE,aD,aG,fun _=>by first|assumption|trivial,aK,aQ,aU,ao,ar,aw,aI,aJ,⟨3,by decide,(by first|exact e1_|rfl),(by first|exact e2_|rfl),rfl,(by first|exact e4_|rfl),(by first|exact e5_|rfl),(by first|exact e6_|rfl),(by first|exact e7_|rfl),(by first|exact e8_|rfl),(by first|exact e9_|rfl),kp_,⟨S9,s2,p4,c1,u1,rfl,hs2,rfl,hc1,ho1,hw1,hp4,hE8.trans hE9,hI⟩⟩⟩
   ·intro D a6  dv dt dj du dJ ji fp gg fg dD dS er eY ew w_
    rintro ⟨aF,aC,aB,aE,aD,aG,az,aK,aQ,aU,ao,ar,aw,aI,aJ,⟨n_,ln_,e1_,e2_,e3_,e4_,e5_,e6_,e7_,e8_,e9_,kp_,hS⟩⟩
    exact ⟨aF,aC,aB,aE,aD,aG,az,fun _=>rfl,aQ,aU,ao,ar,aw,aI,aJ,⟨n_,ln_,e1_,e2_,e3_,e4_,e5_,e6_,e7_,e8_,e9_,kp_,hS⟩⟩
   ·intro D a6 d6 eO dv dt dj du dJ ji fp gg fg dD dS er eY ew w_
    rintro ⟨aF,aC,aB,aE,aD,aG,az,aK,aQ,aU,ao,ar,aw,aI,aJ,⟨n_,ln_,e1_,e2_,e3_,e4_,e5_,e6_,e7_,e8_,e9_,kp_,hS⟩⟩
    obtain rfl:=aK d6
    obtain rfl:n_=3:=je e3_ eO e4_ a6
    obtain ⟨S8,s2,p4,c1,u1,rfl,hs2,rfl,hc1,ho1,hw1,hp4,hE8,hI⟩:=dd (dd (dd hS))
    refine Run.callL eU eZ (L:=[.blk b4 _,be _ ac 4 css,B2,rdI br sl p4]) hI (fD 2 (by omega) p4 S8 (hrd.monoU (hE7.trans hE8).1) (by rw [pO]; omega)) rfl fun v' I' S9 w_=>?_
    rintro ⟨p5,hp5,rfl,c2,u2,rfl,hc2,hw2,ho2⟩ hE9 hI
    rw [pO] at hp5 hw2
    exact ⟨aF,aC,aB,aE,aD,aG,az,aK,fun _=>by first|assumption|trivial,aU,ao,ar,aw,aI,aJ,⟨4,by decide,(by first|exact e1_|rfl),(by first|exact e2_|rfl),(by first|exact e3_|rfl),rfl,(by first|exact e5_|rfl),(by first|exact e6_|rfl),(by first|exact e7_|rfl),(by first|exact e8_|rfl),(by first|exact e9_|rfl),kp_,⟨S9,s2,p5,c1,u1,c2,u2,rfl,hs2,rfl,hc1.mono hE9.1,ho1,hw1,rfl,hc2,ho2,hw2,by omega,hE8.trans hE9,hI⟩⟩⟩
   ·intro D a6 cw fh dv dt dj du dJ ji fp gg fg dD dS er eY ew w_
    rintro ⟨aF,aC,aB,aE,aD,aG,az,aK,aQ,aU,ao,ar,aw,aI,aJ,⟨n_,ln_,e1_,e2_,e3_,e4_,e5_,e6_,e7_,e8_,e9_,kp_,hS⟩⟩
    have C7:=az cw
    have Ab:=aQ fh
    obtain rfl:n_=4:=je e4_ fh e5_ a6
    obtain ⟨S8,s2,p4,c1,u1,c2,u2,rfl,hs2,rfl,hc1,ho1,hw1,rfl,hc2,ho2,hw2,hp4,hE8,hI⟩:=dd (dd (dd (dd hS)))
    obtain ⟨kv1,rfl,_,_,_,a1,q1,rfl,_⟩:=RdT.iff.1 hc1
    obtain ⟨kv2,rfl,_,_,_,a2,q2,rfl,_⟩:=RdT.iff.1 hc2
    refine k0 (v:=fun b=>.slice (some ⟨b,0,none⟩) 2 2) (o:=.cells #[.int .i64 u1.kind,.int .i64 u1.n,.string u1.name,.slice a1 u1.kids.length q1,.int .i64 u2.kind,.int .i64 u2.n,.string u2.name,.slice a2 u2.kids.length q2] ac) hI (by kernel_rfl) fun b w_ hI=>?_
    obtain ⟨S9,hI,hE9,hS9⟩:=hI.pub1
    exact ⟨aF,aC,aB,aE,aD,aG,az,aK,aQ,fun _=>by first|assumption|trivial,ao,ar,aw,aI,aJ,⟨5,by decide,(by first|exact e1_|rfl),(by first|exact e2_|rfl),(by first|exact e3_|rfl),(by first|exact e4_|rfl),rfl,(by first|exact e6_|rfl),(by first|exact e7_|rfl),(by first|exact e8_|rfl),(by first|exact e9_|rfl),kp_,⟨S9,s2,p4,u1,u2,rfl,hs2,xX hS9 (hc1.mono hE9.1) (hc2.mono hE9.1),(by simp only [fC]; exact ⟨ho1,ho2,trivial⟩),hw1,hw2,hp4,hE8.trans hE9,hI⟩⟩⟩
   ·intro D a6 jj eh p7 dv dt dj du dJ ji fp gg fg dD dS er eY ew w_
    rintro ⟨aF,aC,aB,aE,aD,aG,az,aK,aQ,aU,ao,ar,aw,aI,aJ,⟨n_,ln_,e1_,e2_,e3_,e4_,e5_,e6_,e7_,e8_,e9_,kp_,hS⟩⟩
    have Dn:=aD jj
    have Ac:=aU eh
    obtain rfl:n_=5:=je e5_ eh e6_ a6
    obtain ⟨S8,s2,p4,u1,u2,rfl,hs2,hsl,ho12,hw1,hw2,hp4,hE8,hI⟩:=dd (dd (dd (dd (dd hS))))
    refine Run.call0E c9 db (L:=[.blk b4 _,be _ ac 4 css,B2,rdI br sl p4]) hI (dB s2 (by simp only [maxLen]; omega) hsl (by simp)) fun v' I' S9 w_=>?_
    rintro ⟨rfl,cs,rfl,hcs⟩ hE9 hI
    exact ⟨aF,aC,aB,aE,aD,aG,az,aK,aQ,aU,fun _=>by first|assumption|trivial,ar,aw,aI,aJ,⟨6,by decide,(by first|exact e1_|rfl),(by first|exact e2_|rfl),(by first|exact e3_|rfl),(by first|exact e4_|rfl),(by first|exact e5_|rfl),rfl,(by first|exact e7_|rfl),(by first|exact e8_|rfl),(by first|exact e9_|rfl),kp_,eM (eM (eM (eM (eM (um ⟨_,nu (by omega) ho12,hcs,by have e:wT (T.mk 3 0 s2 [u1,u2])=s2.size+2+(wT u1+(wT u2+0)):=(by simp only [wT,wL,List.length_cons,List.length_nil]); omega,hp4,hE8.trans hE9⟩ hcs hI)))))⟩⟩
   ·intro D a6 iC dv dt dj du dJ ji fp gg fg dD dS er eY ew w_
    rintro ⟨aF,aC,aB,aE,aD,aG,az,aK,aQ,aU,ao,ar,aw,aI,aJ,⟨n_,ln_,e1_,e2_,e3_,e4_,e5_,e6_,e7_,e8_,e9_,kp_,hS⟩⟩
    have z7:=ao iC
    obtain rfl:n_=6:=je e6_ iC e7_ a6
    refine ap1 (dd (dd (dd (dd (dd hS))))) fun u w_ hS=>?_
    exact ⟨aF,aC,aB,aE,aD,aG,az,aK,aQ,aU,ao,fun _=>by first|assumption|trivial,aw,aI,aJ,⟨7,by decide,(by first|exact e1_|rfl),(by first|exact e2_|rfl),(by first|exact e3_|rfl),(by first|exact e4_|rfl),(by first|exact e5_|rfl),(by first|exact e6_|rfl),rfl,(by first|exact e8_|rfl),(by first|exact e9_|rfl),kp_,eM (eM (eM (eM (eM hS))))⟩⟩
   ·intro D a6 eB E3 C8 dv dt dj du dJ ji fp gg fg dD dS er eY ew w_
    rintro ⟨aF,aC,aB,aE,aD,aG,az,aK,aQ,aU,ao,ar,aw,aI,aJ,⟨n_,ln_,e1_,e2_,e3_,e4_,e5_,e6_,e7_,e8_,e9_,kp_,hS⟩⟩
    obtain rfl:=aC eB
    have FS:=ar E3
    obtain rfl:n_=7:=je e7_ E3 e8_ a6
    refine ap2 (dd (dd (dd (dd (dd hS))))) (by omega) fun u w_ hS=>?_
    exact ⟨aF,aC,aB,aE,aD,aG,az,aK,aQ,aU,ao,ar,fun _=>by first|assumption|trivial,aI,aJ,⟨8,by decide,(by first|exact e1_|rfl),(by first|exact e2_|rfl),(by first|exact e3_|rfl),(by first|exact e4_|rfl),(by first|exact e5_|rfl),(by first|exact e6_|rfl),(by first|exact e7_|rfl),rfl,(by first|exact e9_|rfl),kp_,eM (eM (eM (eM (eM hS))))⟩⟩
   ·intro D a6 dc gl mM sC sr uT vy wI AO A4 Bw Ho GH dv dt dj du dJ ji fp gg fg dD dS er eY ew w_
    rintro ⟨aF,aC,aB,aE,aD,aG,az,aK,aQ,aU,ao,ar,aw,aI,aJ,⟨n_,ln_,e1_,e2_,e3_,e4_,e5_,e6_,e7_,e8_,e9_,kp_,hS⟩⟩
    refine bh bi ?_
    exact ⟨aF,aC,aB,aE,aD,aG,az,aK,aQ,aU,ao,ar,aw,fun _=>rfl,aJ,⟨n_,ln_,e1_,e2_,e3_,e4_,e5_,e6_,e7_,e8_,e9_,kp_,hS⟩⟩
   ·intro D a6 i7 E1 Hp rY gF sg r4 pf rW uR gt fm jx AJ GS GT dv dt dj du dJ ji fp gg fg dD dS er eY ew w_
    rintro ⟨aF,aC,aB,aE,aD,aG,az,aK,aQ,aU,ao,ar,aw,aI,aJ,⟨n_,ln_,e1_,e2_,e3_,e4_,e5_,e6_,e7_,e8_,e9_,kp_,hS⟩⟩
    obtain rfl:=aI i7
    have HB:=aw E1
    obtain rfl:n_=8:=je e8_ E1 e9_ a6
    refine ap3 (dd (dd (dd (dd (dd hS))))) (by simp) fun w_ hS=>?_
    exact ⟨aF,aC,aB,aE,aD,aG,az,aK,aQ,aU,ao,ar,aw,aI,fun _=>trivial,⟨9,by decide,(by first|exact e1_|rfl),(by first|exact e2_|rfl),(by first|exact e3_|rfl),(by first|exact e4_|rfl),(by first|exact e5_|rfl),(by first|exact e6_|rfl),(by first|exact e7_|rfl),(by first|exact e8_|rfl),rfl,(fun _=>gF),eM (eM (eM (eM (eM hS))))⟩⟩
   intro D qB si ky gw fK kA iV ii gM gT hO iR im iT iS dv dt dj du dJ ji fp gg fg dD dS er eY ew w_
   rintro ⟨aF,aC,aB,aE,aD,aG,az,aK,aQ,aU,ao,ar,aw,aI,aJ,⟨n_,ln_,e1_,e2_,e3_,e4_,e5_,e6_,e7_,e8_,e9_,kp_,hS⟩⟩
   obtain rfl:n_=9:=DW ln_ e9_ qB
   clear e1_ e2_ e3_ e4_ e5_ e6_ e7_ e8_ e9_
   obtain ⟨p5,S9,cs,⟨t,hot,hcs,hwt,hp5,hE9⟩,hl,hI⟩:=dd (dd (dd (dd (dd (dd hS)))))
   refine s7 (by omega) ?_
   refine ⟨⟨j',p5,S9,_,_,ks++[t],uz hou (by simp only [fC]; exact ⟨hot,trivial⟩),rfl,by rw [List.length_append]; simp only [List.length_cons,List.length_nil]; omega,by rw [List.length_append]; simp only [List.length_cons,List.length_nil]; omega,by rw [g8,List.length_append]; simp only [wL,List.length_cons,List.length_nil]; omega,hE7.trans hE9,hhd.mono hE9.1,(hR.monoR fun _ _ h=>RdT.mono hE9.1 h).snoc hcs hl.1,hI⟩,by simp only [intOf,Int.toNat_natCast]; omega⟩
  ·obtain ⟨S8,hE8,hI,hr,_⟩:=nr hI hR hhd
   refine bb hI 0 aW rfl rfl ?_
   subst hB2
   have hl5:=hr.length
   refine aX hI 1 rfl aW rfl rfl (by simpa using hr.one) fun w' hI=>?_
   refine bA hI 1 aW rfl rfl ?_
   refine ⟨_,_,S8,rfl,hI.pick [false,false,true],hE7.trans hE8,p3,by omega,rfl,_,_,rfl,hr,?_,nu (by omega) (by simp only [fC]; exact ⟨ho1,trivial⟩),oL hou⟩
   show wT (T.mk 3 0 s [t1])+ks.length+wL ks<=500
   omega
end
end Go.Proofs.YtmnnpgdeecnfpaaGreat

/- What calls what, and what can be reached: both sides. -/
namespace Go.Proofs.YtmnnpgdeecnfpaaGreat
open Go Go.RowKit
attribute [local irreducible] Run CondV ah ba

end Go.Proofs.YtmnnpgdeecnfpaaGreat

/- The graph of calls: the plain form. -/
namespace Go.Proofs.YtmnnpgdeecnfpaaGreat
open Go Go.RowKit
attribute [local irreducible] Run CondV ah ba

def Fv (l:List Pd) (ts:List T):List Pd:=ts.foldl (fun l t=>if fw t=true then GO l (EY t) else l) l
def Cx (l:List Pd) (p:List C) (x:Pd):List Pd:=p.foldl (fun l c=>if F9 (EY c.head) x=true then Fv l c.body else l) l
def Fa (p:List C) (x:Pd):List Pd:=Cx [] p x
/- what may still come in -/
/- rows of predicates: their length, an element -/
section
variable {P:Program} {w w0:World} {X:List Nat} {L:List Item} {S:ax} {K:Value->World->Prop}
end

end Go.Proofs.YtmnnpgdeecnfpaaGreat

/- What the clauses for a name call: both sides. -/
namespace Go.Proofs.YtmnnpgdeecnfpaaGreat
open Go Go.RowKit
attribute [local irreducible] Run CondV ah ba

/- the program's side goes over the clauses' numbers -/
end Go.Proofs.YtmnnpgdeecnfpaaGreat

/- What some predicates can lead to: both sides. -/
namespace Go.Proofs.YtmnnpgdeecnfpaaGreat
open Go Go.RowKit
attribute [local irreducible] Run CondV ah ba

end Go.Proofs.YtmnnpgdeecnfpaaGreat

/- Which predicates can lead to themselves: both sides. -/
namespace Go.Proofs.YtmnnpgdeecnfpaaGreat
open Go Go.RowKit
attribute [local irreducible] Run CondV ah ba

end Go.Proofs.YtmnnpgdeecnfpaaGreat

/- PredsOf, CallsOf, ReachOf: both sides. -/
namespace Go.Proofs.YtmnnpgdeecnfpaaGreat
open Go Go.RowKit
attribute [local irreducible] Run CondV ah ba

def Gf (p:List C) (x:Pd):List Pd:=if FH p=true then Fa p x else []
end Go.Proofs.YtmnnpgdeecnfpaaGreat

/- A predicate that comes in: its size, its copy, its reading. -/
namespace Go.Proofs.YtmnnpgdeecnfpaaGreat
open Go Go.ChangeShapes Go.WideShapes Go.ChangeAt Go.RowKit
section
attribute [local irreducible] Run CondV ah ba
end
theorem two {cs:List Value} (h:cs.length=2):∃ a b,cs=[a,b]:=by
 match cs,h with
 | [a,b],_=>exact ⟨a,b,rfl⟩
end Go.Proofs.YtmnnpgdeecnfpaaGreat

/- spec.l14Pred, DrawPredsOf, DrawCallsOf, DrawRecursivePred. -/
namespace Go.Proofs.YtmnnpgdeecnfpaaGreat
open Go Go.RowKit
section
variable {br:Nat} {sl:Value} {ys:List Nat}
attribute [local irreducible] Run CondV ah ba
theorem Pd.one (x:Pd):∀ u∈x.cells,u.oneCell'=true:=by
 intro u hu
 have hu':u∈([.string x.name,.int .i64 x.arity]:List Value):=hu
 simp at hu'
 rcases hu' with rfl|rfl <;> rfl
end
end Go.Proofs.YtmnnpgdeecnfpaaGreat

/- What the laws compare with: pgPreds, pgPred, impl.ClauseSame, pgClauses; bytes that come in. -/
namespace Go.Proofs.YtmnnpgdeecnfpaaGreat
open Go Go.ChangeShapes Go.WideShapes Go.ChangeAt Go.RowKit
theorem FG:Tryz.prog.underlying xn=some (.int .u8):=by kernel_rfl
theorem EF {H:Type} {enc:TypeId × Value->H} {W:World} {sp:Nat->Bool} {held:Bool} {fuel:Nat} {cs:List Value} {x:DataW H × List MemPlace} (h:DataW.trod enc Tryz.prog W 0 sp held fuel xn cs=some x) :
  ∃ n,jA cs n:=by
 cases fuel with
 | zero=>simp [DataW.trod] at h
 | succ n=>
  unfold DataW.trod at h
  rw [FG] at h
  split at h <;> simp_all
  rename_i k1 k2 m he
  subst he
  obtain ⟨⟨_,h⟩,_⟩:=h
  simp only [Lit.wf,Bool.and_eq_true,decide_eq_true_eq] at h
  have h1:0<=m/\m<=255:=h
  exact ⟨m.toNat,by rw [jA,Int.toNat_of_nonneg (by omega)]; exact ⟨rfl,by omega⟩⟩
theorem Az {H:Type} {enc:TypeId × Value->H} {W:World} {sp:Nat->Bool} {held:Bool} {fuel:Nat} {v:Value} {x:DataW H × List MemPlace} (h:DataW.trod enc Tryz.prog W 0 sp held fuel yr [v]=some x) :
  ∃ ys,RdSl (BG W) 1 jA v ys:=Ex dO (by omega) h fun _ _ _ _ hy=>EF hy
section
variable {w0 w:World} {X:List Nat} {L:List Item} {S:ax} {K:Value->World->Prop}
attribute [local irreducible] Run CondV ah ba
theorem Fz {P:Program} {T:TypeId} {cx cy:Bool} {a b:Bool} (hu:P.underlying T=some .bool) (hk:K (.bool (a == b)) w):Run P (au .eql T cx cy (.bool a) (.bool b)) w K:=
 Run.of (by
  have he:(Op.equal T (.bool a) (.bool b)).run P w=.ok (a == b) w:=by
   rw [Op.equal,Op.maxDepth,Op.equalIn.eq_def]
   simp [run_underlying hu]
  simp only [au,binOp,Sem.run_bind,o3,Result.andThen_ok,he,Sem.run_pure]) hk
theorem yl (t:T):eqT t t=true:=(Cc t t).2 rfl
theorem mU {c0 d0:C} {cs ds:List Value} (h:RdC S cs c0) (g:RdC S ds d0):Pure Tryz.prog lD [.agg cs.toArray,.agg ds.toArray] S (.bool (eqT c0.head d0.head && eqL c0.body d0.body)):=by
 intro w hI
 obtain ⟨hd,kb,rfl,h1,h2⟩:=h
 obtain ⟨hd',kb',rfl,g1,g2⟩:=g
 have h1':=h1
 have g1':=g1
 obtain ⟨kv,rfl,_⟩:=RdT.iff.1 h1
 obtain ⟨kv',rfl,_⟩:=RdT.iff.1 g1
 refine m4 ?_
 unfold kj
 refine co hI fun b1 w' hI=>?_
 refine co hI fun b2 w' hI=>?_
 have hI:Inv w [] [.blk b1 (.cells #[.int .i64 c0.head.kind,.int .i64 c0.head.n,.string c0.head.name,kv,kb] ai),.blk b2 (.cells #[.int .i64 d0.head.kind,.int .i64 d0.head.n,.string d0.head.name,kv',kb'] ai)] S w':=hI
 refine bh cm ?_
 refine dI hI 0 [.int .i64 c0.head.kind,.int .i64 c0.head.n,.string c0.head.name,kv] aj rfl rfl tV ?_
 refine bh cm ?_
 refine dI hI 1 [.int .i64 d0.head.kind,.int .i64 d0.head.n,.string d0.head.name,kv'] aj rfl rfl tV ?_
 refine Run.callPure jd jg hI (gb _ _ S _ _ h1' g1') fun w' hI=>?_
 cases he:eqT c0.head d0.head
 ·repeat (first|refine ad ?_|refine ag (by decide) ?_|refine ae ?_|refine aq ?_|refine al ?_)
  exact done hI (by rw [Bool.false_and])
 ·repeat (first|refine ad ?_|refine ag (by decide) ?_|refine ae ?_|refine aq ?_|refine al ?_)
  refine aH hI 0 rfl bi aV rfl ?_
  refine aH hI 1 rfl bi aV rfl ?_
  refine Run.callPure gP gQ hI (pm (fun t _=>gb t) h2 g2) fun w' hI=>?_
  repeat (first|refine ad ?_|refine ag (by decide) ?_|refine ae ?_|refine aq ?_|refine al ?_)
  exact done hI (by rw [Bool.true_and])
theorem gD {c0:C} {cs ds:List Value} (h:RdC S cs c0) (g:RdC S ds c0):Pure Tryz.prog lD [.agg cs.toArray,.agg ds.toArray] S (.bool true):=by
 have:=mU h g
 rwa [yl,(sK _ _).2 rfl] at this
end
end Go.Proofs.YtmnnpgdeecnfpaaGreat

/- spec.DrawSubsumedClause. -/
namespace Go.Proofs.YtmnnpgdeecnfpaaGreat
open Go Go.RowKit
abbrev zCl:Array Value:=#[.int .i64 0,.int .i64 0,.string ⟨#[]⟩,.slice none 0 0,.slice none 0 0]
theorem rx (m:Int):∀ ts:List T,(fu m ts).length=ts.length
 | []=>rfl
 | t::ts=>by rw [fu,List.length_cons,rx m ts,List.length_cons]
theorem z4 (m:Int) (c:C):wC (Ee m c)=wC c:=by
 show wT (ek m c.head)+(fu m c.body).length+wL (fu m c.body)=_
 rw [zD,sT,rx]
 rfl
section
variable {S:ax} {ys:List Nat} {v:Value}
attribute [local irreducible] Run CondV ah ba
end
end Go.Proofs.YtmnnpgdeecnfpaaGreat

/- spec.DrawRenumberClause. -/
namespace Go.Proofs.YtmnnpgdeecnfpaaGreat
open Go Go.RowKit
section
variable {S:ax} {ys:List Nat} {v:Value}
attribute [local irreducible] Run CondV ah ba
theorem jl (h:RdSl S 1 jA v ys):Tri Tryz.prog jR [v] [] S fun v' I' S'=>I'=[]/\∃ cs c,v'=.agg cs.toArray/\RdC S' cs c/\wC c<=2000:=by
 intro w hI
 refine iO ?_
 unfold fx
 refine bm hI bI fun b2 w' hI=>?_
 refine Run.call0E xz xY hI (Ae h) fun v1 I' S1 w'=>?_
 rintro ⟨rfl,br,sl,ys',rfl,rfl,hrd⟩ _ hI
 have hI:Inv w [] [.blk b2 (.cells zCl ai),rdI br sl 0] S1 w':=hI
 refine Run.callL uU vP hI (tc (p:=0) hrd (by omega)) rfl fun v2 I' S w'=>?_
 rintro ⟨p1,hp1,rfl,cs,c0,rfl,hc,hwc,hoh,hob⟩ hE2 hI
 have hrd:=hrd.monoU hE2.1
 obtain ⟨hd0,ks,rfl,h1,h2⟩:=hc
 have h1':=h1
 obtain ⟨kv,rfl,g1,g2,g3,g4⟩:=RdT.iff.1 h1
 obtain ⟨ak,mk,rfl,_⟩:=id g4
 obtain ⟨ab,mb,rfl,_⟩:=id h2
 have hI:Inv w [] [.blk b2 (.cells zCl ai),rdI br sl p1] S w':=hI
 refine bm hI bI fun b4 w' hI=>?_
 refine aX hI 2 rfl aW rfl rfl (by simp [Value.oneCell']) fun w' hI=>?_
 have hI:Inv w [] [.blk b4 (.cells #[.int .i64 c0.head.kind,.int .i64 c0.head.n,.string c0.head.name,.slice ak c0.head.kids.length mk,.slice ab c0.body.length mb] ai),.blk b2 (.cells zCl ai),rdI br sl p1] S w':=(hI.last 0 rfl).last 0 rfl
 refine Run.callL ch ci hI (dz (n:=3) (p:=p1) hrd (by omega) (by omega)) rfl fun v' I' S w'=>?_
 rintro ⟨rfl,rfl,k,hk,rfl⟩ _ hI
 obtain ⟨p2,hp2⟩:∃ p2,p2=p1+1:=⟨_,rfl⟩
 rw [<- hp2] at hI
 obtain ⟨m,hme⟩:∃ m:Int,m=(k:Int):=⟨_,rfl⟩
 rw [<- hme]
 have hm0:0<=m:=by omega
 have hm1:m<=1000000:=by omega
 have hN:26<=1000000:=by omega
 have hw:wT c0.head+c0.body.length+wL c0.body<=500:=hwc
 obtain ⟨kv,hkv⟩:∃ kv,kv=Value.slice ak c0.head.kids.length mk:=⟨_,rfl⟩
 rw [<- hkv] at hI h1'
 obtain ⟨ks,hks⟩:∃ ks,ks=Value.slice ab c0.body.length mb:=⟨_,rfl⟩
 rw [<- hks] at hI h2
 have hI:Inv w [] [.blk b4 (.cells #[.int .i64 c0.head.kind,.int .i64 c0.head.n,.string c0.head.name,kv,ks] ai),.blk b2 (.cells zCl ai),rdI br sl p2] S w':=hI
 refine bh cm ?_
 refine dI hI 0 [.int .i64 c0.head.kind,.int .i64 c0.head.n,.string c0.head.name,kv] aj rfl rfl tV ?_
 refine Run.call0 jS jQ hI (mt hN m hm0 hm1 _ S _ h1' hoh (by omega)) fun v' I' S w'=>?_
 rintro ⟨rfl,cs1,N,rfl,rfl,hT1⟩ _ hI
 obtain ⟨hd,hhd⟩:∃ hd,hd=ek m c0.head:=⟨_,rfl⟩
 rw [<- hhd] at hT1
 obtain ⟨kh,rfl,_⟩:=TrT.iff.1 hT1
 refine fA ?_
 refine bm hI bI fun b6 w' hI=>?_
 have hI:=hI.perm (M:=.blk b4 _::.blk b2 _::.blk b6 _::rdI br sl p2::bk N) (((List.perm_append_comm (l₁:=[_])).cons _).cons _)
 refine aX hI 2 rfl aW rfl rfl ?_ fun w' hI=>?_
 ·intro u hu
  have hu':u∈([.int .i64 hd.kind,.int .i64 hd.n,.string hd.name,kh,.slice none 0 0]:List Value):=hu
  simp at hu'
  have o1:kh.oneCell'=true:=hT1.one kh (by simp)
  rcases hu' with rfl|rfl|rfl|rfl|rfl <;> first|rfl|exact o1
 have hI:=hI.rowNil ac 4
 have hI:=hI.perm (M:=.blk b4 (.cells #[.int .i64 c0.head.kind,.int .i64 c0.head.n,.string c0.head.name,kv,ks] ai)::.blk b2 (.cells #[.int .i64 0,.int .i64 0,.string ⟨#[]⟩,.slice none 0 0,.slice none 0 0] ai)::.blk b6 (.cells #[.int .i64 hd.kind,.int .i64 hd.n,.string hd.name,kh,.slice none 0 0] ai)::be (.slice none 0 0) ac 4 []::rdI br sl p2::bk N) ((((List.perm_append_comm (l₁:=[_])).cons _).cons _).cons _)
 refine ⟨fun i w'=>∃ (j:Nat) (kvc:Value) (Ls:List bn) (css:List (List Value)),j<=c0.body.length/\i=.int .i64 j/\Grown 4 TrT Ls css (fu m (c0.body.take j))/\
   Inv w [] (.blk b4 (.cells #[.int .i64 c0.head.kind,.int .i64 c0.head.n,.string c0.head.name,kv,ks] ai)::.blk b2 (.cells #[.int .i64 0,.int .i64 0,.string ⟨#[]⟩,.slice none 0 0,.slice none 0 0] ai)::.blk b6 (.cells #[.int .i64 hd.kind,.int .i64 hd.n,.string hd.name,kh,kvc] ai)::be kvc ac 4 css::rdI br sl p2::bk (N::Ls).flatten) S w',
  fun i _=>c0.body.length - (intOf i).toNat,⟨0,_,[],[],Nat.zero_le _,rfl,Grown.nil _ _,by simp only [List.flatten_cons,List.flatten_nil,List.append_nil]; exact hI⟩,?_⟩
 intro t4 _ _ _ _ _ _ _ _ _ _ _ _ _ _ _ _ _ _ _ w'
 rintro ⟨j,kvc,Ls,css,hj,rfl,hg,hI⟩
 refine aH hI 0 rfl bi aV rfl ?_
 refine bo h2 aS ?_
 refine dh ?_
 refine bz (fun hji=>?_) (fun hji=>?_)
 ·have hj':j<c0.body.length:=by omega
  have hjl:(c0.body.take j).length=j:=by simp; omega
  have hcl:=hg.hc
  rw [fW,List.length_map] at hcl
  have hm:=List.getElem_mem hj'
  have hwm:=fV hm
  obtain ⟨b,o,cap,c,E,fz,rfl,hS,hR⟩:=h2.at_ hj'
  refine ⟨fun D fg dD dS er eY ew d3 dF dq di dp cX w_=>(D 0=true->cX=.pointer (some ⟨b6,4,none⟩))/\(D 1=true->dp=kvc)/\(D 2=true->di=.pointer (some ⟨b4,4,none⟩))/\(D 3=true->dq=.slice (some ⟨b,o,none⟩) c0.body.length cap)/\(D 4=true->dF=.int .i64 j)/\(D 5=true->d3=.pointer (some ⟨b,o+j * 4,none⟩))/\(D 6=true->ew=.agg (bB c (o+j * 4) 4).toArray)/\(D 7=true->eY=.int .i64 m)/\(D 8=true->True)/\(D 9=true->True)/\(D 10=true->True)/\(D 11=true->fg=.pointer (some ⟨b6,4,none⟩))/\(D 12=true->True)/\∃ M cs7 b8,(D 8=true->er=.agg cs7.toArray/\TrT M cs7 (ek m c0.body[j]))/\(D 9=true->dS=.slice (some ⟨b8,0,none⟩) 1 1)/\(D 9=true->D 8=true)/\(D 10=true->D 9=true)/\(D 12=true->D 10=true)/\(D 12=true->D 1=true)/\Inv w [] (bd (.blk b4 (.cells #[.int .i64 c0.head.kind,.int .i64 c0.head.n,.string c0.head.name,kv,.slice (some ⟨b,o,none⟩) c0.body.length cap] ai)) (.blk b2 (.cells #[.int .i64 0,.int .i64 0,.string ⟨#[]⟩,.slice none 0 0,.slice none 0 0] ai)) (.blk b6 (.cells #[.int .i64 hd.kind,.int .i64 hd.n,.string hd.name,kh,kvc] ai)) (.blk b6 (.cells #[.int .i64 hd.kind,.int .i64 hd.n,.string hd.name,kh,dD] ai)) (be kvc ac 4 css) (be dD ac 4 (css++[cs7])) (rdI br sl p2::bk (N::Ls).flatten) M (.blk b8 (.cells cs7.toArray ac)) (D 8) (D 9) (D 10) (D 12)) S w_,⟨af,af,af,af,af,af,af,af,af,af,af,af,af,⟨[],[],0,af,af,af,af,af,af,by simpa [bd,bk] using hI.draw⟩⟩,⟨?_,?_,?_,?_,?_,?_,?_,?_,?_,?_,?_,?_,?_,trivial⟩,?_⟩
  ·intro D a6  fg dD dS er eY ew d3 dF dq di dp cX w_
   rintro ⟨aF,aC,aB,aE,aD,aG,az,aK,aQ,aU,ao,ar,aw,⟨M,cs7,b8,e7,e8,k8,k9,k11,k1,hI⟩⟩
   refine bh bi ?_
   exact ⟨fun _=>rfl,aC,aB,aE,aD,aG,az,aK,aQ,aU,ao,ar,aw,⟨M,cs7,b8,e7,e8,k8,k9,k11,k1,hI⟩⟩
  ·intro D a6 dc fg dD dS er eY ew d3 dF dq di dp cX w_
   rintro ⟨aF,aC,aB,aE,aD,aG,az,aK,aQ,aU,ao,ar,aw,⟨M,cs7,b8,e7,e8,k8,k9,k11,k1,hI⟩⟩
   obtain rfl:=aF dc
   have f11:D 12=false:=Bool.eq_false_iff.2 fun h=>by rw [k1 h] at a6; cases a6
   refine bG (b:=b6) hI 2 (c:=(#[.int .i64 hd.kind,.int .i64 hd.n,.string hd.name,kh,kvc])) aV (by rw [f11]; rfl) rfl ?_
   have k1:=fun (_:av D 1 12=true)=>(rfl:av D 1 1=true)
   exact ⟨aF,fun _=>rfl,aB,aE,aD,aG,az,aK,aQ,aU,ao,ar,aw,⟨M,cs7,b8,e7,e8,k8,k9,k11,k1,hI⟩⟩
  ·intro D a6  fg dD dS er eY ew d3 dF dq di dp cX w_
   rintro ⟨aF,aC,aB,aE,aD,aG,az,aK,aQ,aU,ao,ar,aw,⟨M,cs7,b8,e7,e8,k8,k9,k11,k1,hI⟩⟩
   refine bh bi ?_
   exact ⟨aF,aC,fun _=>rfl,aE,aD,aG,az,aK,aQ,aU,ao,ar,aw,⟨M,cs7,b8,e7,e8,k8,k9,k11,k1,hI⟩⟩
  ·intro D a6 dy fg dD dS er eY ew d3 dF dq di dp cX w_
   rintro ⟨aF,aC,aB,aE,aD,aG,az,aK,aQ,aU,ao,ar,aw,⟨M,cs7,b8,e7,e8,k8,k9,k11,k1,hI⟩⟩
   obtain rfl:=aB dy
   refine bG hI 0 aV rfl rfl ?_
   exact ⟨aF,aC,aB,fun _=>rfl,aD,aG,az,aK,aQ,aU,ao,ar,aw,⟨M,cs7,b8,e7,e8,k8,k9,k11,k1,hI⟩⟩
  ·intro D a6  fg dD dS er eY ew d3 dF dq di dp cX w_
   rintro ⟨aF,aC,aB,aE,aD,aG,az,aK,aQ,aU,ao,ar,aw,⟨M,cs7,b8,e7,e8,k8,k9,k11,k1,hI⟩⟩
   exact ⟨aF,aC,aB,aE,fun _=>rfl,aG,az,aK,aQ,aU,ao,ar,aw,⟨M,cs7,b8,e7,e8,k8,k9,k11,k1,hI⟩⟩
  ·intro D a6 ef ev fg dD dS er eY ew d3 dF dq di dp cX w_
   rintro ⟨aF,aC,aB,aE,aD,aG,az,aK,aQ,aU,ao,ar,aw,⟨M,cs7,b8,e7,e8,k8,k9,k11,k1,hI⟩⟩
   obtain rfl:=aE ef
   obtain rfl:=aD ev
   refine bv aS hj' ?_
   exact ⟨aF,aC,aB,aE,aD,fun _=>rfl,az,aK,aQ,aU,ao,ar,aw,⟨M,cs7,b8,e7,e8,k8,k9,k11,k1,hI⟩⟩
  ·intro D a6 eq fg dD dS er eY ew d3 dF dq di dp cX w_
   rintro ⟨aF,aC,aB,aE,aD,aG,az,aK,aQ,aU,ao,ar,aw,⟨M,cs7,b8,e7,e8,k8,k9,k11,k1,hI⟩⟩
   obtain rfl:=aG eq
   refine dM aj hR.length (fun j v hj=>by rw [hI.cellS hS]; exact bC rfl j v hj) ?_
   exact ⟨aF,aC,aB,aE,aD,aG,fun _=>rfl,aK,aQ,aU,ao,ar,aw,⟨M,cs7,b8,e7,e8,k8,k9,k11,k1,hI⟩⟩
  ·intro D a6  fg dD dS er eY ew d3 dF dq di dp cX w_
   rintro ⟨aF,aC,aB,aE,aD,aG,az,aK,aQ,aU,ao,ar,aw,⟨M,cs7,b8,e7,e8,k8,k9,k11,k1,hI⟩⟩
   exact ⟨aF,aC,aB,aE,aD,aG,az,fun _=>rfl,aQ,aU,ao,ar,aw,⟨M,cs7,b8,e7,e8,k8,k9,k11,k1,hI⟩⟩
  ·intro D a6 cw s8 fg dD dS er eY ew d3 dF dq di dp cX w_
   rintro ⟨aF,aC,aB,aE,aD,aG,az,aK,aQ,aU,ao,ar,aw,⟨M,cs7,b8,e7,e8,k8,k9,k11,k1,hI⟩⟩
   obtain rfl:=az cw
   obtain rfl:=aK s8
   have f8:D 9=false:=Bool.eq_false_iff.2 fun h=>by rw [k8 h] at a6; cases a6
   have f9:D 10=false:=Bool.eq_false_iff.2 fun h=>by rw [k9 h] at f8; cases f8
   have f11:D 12=false:=Bool.eq_false_iff.2 fun h=>by rw [k11 h] at f9; cases f9
   rw [a6,f8,f9,f11] at hI
   refine Run.call0 jS jQ hI (mt hN m hm0 hm1 _ S _ hR (hob _ (List.getElem_mem hj')) (by omega)) fun v' I' S w_=>?_
   rintro ⟨rfl,cs7,M,rfl,rfl,hT⟩ _ hI
   have e7:av D 8 8=true->Value.agg cs7.toArray=Value.agg cs7.toArray/\TrT M cs7 (ek m c0.body[j]):=fun _=>⟨rfl,hT⟩
   have k8:=fun (_:av D 8 9=true)=>(rfl:av D 8 8=true)
   have hI:Inv w [] (bd (.blk b4 (.cells #[.int .i64 c0.head.kind,.int .i64 c0.head.n,.string c0.head.name,kv,.slice (some ⟨b,o,none⟩) c0.body.length cap] ai)) (.blk b2 (.cells #[.int .i64 0,.int .i64 0,.string ⟨#[]⟩,.slice none 0 0,.slice none 0 0] ai)) (.blk b6 (.cells #[.int .i64 hd.kind,.int .i64 hd.n,.string hd.name,kh,kvc] ai)) (.blk b6 (.cells #[.int .i64 hd.kind,.int .i64 hd.n,.string hd.name,kh,dD] ai)) (be kvc ac 4 css) (be dD ac 4 (css++[cs7])) (rdI br sl p2::bk (N::Ls).flatten) M (.blk b8 (.cells cs7.toArray ac)) true (D 9) (D 10) (D 12)) S w_:=by
    rw [f8,f9,f11]
    simpa [bd] using hI
   exact ⟨aF,aC,aB,aE,aD,aG,az,aK,fun _=>by first|assumption|trivial,aU,ao,ar,aw,⟨M,cs7,b8,e7,e8,k8,k9,k11,k1,hI⟩⟩
  ·intro D a6 gp fg dD dS er eY ew d3 dF dq di dp cX w_
   rintro ⟨aF,aC,aB,aE,aD,aG,az,aK,aQ,aU,ao,ar,aw,⟨M,cs7,b8,e7,e8,k8,k9,k11,k1,hI⟩⟩
   have Ab:=aQ gp
   have f9:D 10=false:=Bool.eq_false_iff.2 fun h=>by rw [k9 h] at a6; cases a6
   have f11:D 12=false:=Bool.eq_false_iff.2 fun h=>by rw [k11 h] at f9; cases f9
   obtain ⟨q7,hT⟩:=e7 gp
   subst q7
   rw [gp,a6,f9,f11] at hI
   refine dg hI bt (by simp [Value.cells,hT.length]) (by omega) (by omega) fun b8 w_ hI=>?_
   have e7:av D 9 8=true->Value.agg cs7.toArray=Value.agg cs7.toArray/\TrT M cs7 (ek m c0.body[j]):=fun _=>⟨rfl,hT⟩
   have e8:=fun (_:av D 9 9=true)=>(rfl:Value.slice (some ⟨b8,0,none⟩) 1 1=_)
   have k8:=fun (_:av D 9 9=true)=>gp
   have k9:=fun (_:av D 9 10=true)=>(rfl:av D 9 9=true)
   have hI:Inv w [] (bd (.blk b4 (.cells #[.int .i64 c0.head.kind,.int .i64 c0.head.n,.string c0.head.name,kv,.slice (some ⟨b,o,none⟩) c0.body.length cap] ai)) (.blk b2 (.cells #[.int .i64 0,.int .i64 0,.string ⟨#[]⟩,.slice none 0 0,.slice none 0 0] ai)) (.blk b6 (.cells #[.int .i64 hd.kind,.int .i64 hd.n,.string hd.name,kh,kvc] ai)) (.blk b6 (.cells #[.int .i64 hd.kind,.int .i64 hd.n,.string hd.name,kh,dD] ai)) (be kvc ac 4 css) (be dD ac 4 (css++[cs7])) (rdI br sl p2::bk (N::Ls).flatten) M (.blk b8 (.cells cs7.toArray ac)) (D 8) true (D 10) (D 12)) S w_:=by
    rw [gp,f9,f11]
    simpa [bd,Value.cells] using hI
   exact ⟨aF,aC,aB,aE,aD,aG,az,aK,aQ,fun _=>by first|assumption|trivial,ao,ar,aw,⟨M,cs7,b8,e7,e8,k8,k9,k11,k1,hI⟩⟩
  ·intro D a6 eB eh p7 fg dD dS er eY ew d3 dF dq di dp cX w_
   rintro ⟨aF,aC,aB,aE,aD,aG,az,aK,aQ,aU,ao,ar,aw,⟨M,cs7,b8,e7,e8,k8,k9,k11,k1,hI⟩⟩
   obtain rfl:=aC eB
   have Ac:=aU eh
   have f11:D 12=false:=Bool.eq_false_iff.2 fun h=>by rw [k11 h] at a6; cases a6
   have q8:=e8 eh
   subst q8
   obtain ⟨_,hT⟩:=e7 p7
   rw [p7,eh,a6,f11] at hI
   have hblk:((bd (.blk b4 (.cells #[.int .i64 c0.head.kind,.int .i64 c0.head.n,.string c0.head.name,kv,.slice (some ⟨b,o,none⟩) c0.body.length cap] ai)) (.blk b2 (.cells #[.int .i64 0,.int .i64 0,.string ⟨#[]⟩,.slice none 0 0,.slice none 0 0] ai)) (.blk b6 (.cells #[.int .i64 hd.kind,.int .i64 hd.n,.string hd.name,kh,dp] ai)) (.blk b6 (.cells #[.int .i64 hd.kind,.int .i64 hd.n,.string hd.name,kh,dD] ai)) (be dp ac 4 css) (be dD ac 4 (css++[cs7])) (rdI br sl p2::bk (N::Ls).flatten) M (.blk b8 (.cells cs7.toArray ac)) true true false false))[4+(rdI br sl p2::bk (N::Ls).flatten).length+(bk M).length]?=some (.blk b8 (.cells cs7.toArray ac)):=by
    have e4:4+(rdI br sl p2::bk (N::Ls).flatten).length+(bk M).length=((rdI br sl p2::bk (N::Ls).flatten).length+(bk M).length)+1+1+1+1:=by omega
    rw [e4]
    simp only [bd,List.getElem?_cons_succ]
    rw [List.getElem?_append_right (by omega),Nat.add_sub_cancel_left,List.getElem?_append_right (Nat.le_refl _),Nat.sub_self]; rfl
   refine dU hI 3 cs7 bt (by omega) rfl (by rw [hT.length]) (m:=1) (o:=0) ?_ hT.one (by omega) (by omega) fun v' w_ hI=>?_
   ·intro i u hi
    rw [hI.cellL hblk,Nat.zero_add]
    simpa using hi
   rw [el] at hI
   have k9:=fun (_:av D 10 10=true)=>eh
   have k11:=fun (_:av D 10 12=true)=>(rfl:av D 10 10=true)
   have hI:Inv w [] (bd (.blk b4 (.cells #[.int .i64 c0.head.kind,.int .i64 c0.head.n,.string c0.head.name,kv,.slice (some ⟨b,o,none⟩) c0.body.length cap] ai)) (.blk b2 (.cells #[.int .i64 0,.int .i64 0,.string ⟨#[]⟩,.slice none 0 0,.slice none 0 0] ai)) (.blk b6 (.cells #[.int .i64 hd.kind,.int .i64 hd.n,.string hd.name,kh,dp] ai)) (.blk b6 (.cells #[.int .i64 hd.kind,.int .i64 hd.n,.string hd.name,kh,v'] ai)) (be dp ac 4 css) (be v' ac 4 (css++[cs7])) (rdI br sl p2::bk (N::Ls).flatten) M (.blk b8 (.cells cs7.toArray ac)) (D 8) (D 9) true (D 12)) S w_:=by
    rw [p7,eh,f11]
    exact hI
   exact ⟨aF,aC,aB,aE,aD,aG,az,aK,aQ,aU,fun _=>by first|assumption|trivial,ar,aw,⟨M,cs7,b8,e7,e8,k8,k9,k11,k1,hI⟩⟩
  ·intro D a6 dc gl mM sC sr uT vy wI AO A4 Bw fg dD dS er eY ew d3 dF dq di dp cX w_
   rintro ⟨aF,aC,aB,aE,aD,aG,az,aK,aQ,aU,ao,ar,aw,⟨M,cs7,b8,e7,e8,k8,k9,k11,k1,hI⟩⟩
   refine bh bi ?_
   exact ⟨aF,aC,aB,aE,aD,aG,az,aK,aQ,aU,ao,fun _=>rfl,aw,⟨M,cs7,b8,e7,e8,k8,k9,k11,k1,hI⟩⟩
  ·intro D a6 kl fi C8 rY gF sg r4 pf rW uR gt fm jx AJ fg dD dS er eY ew d3 dF dq di dp cX w_
   rintro ⟨aF,aC,aB,aE,aD,aG,az,aK,aQ,aU,ao,ar,aw,⟨M,cs7,b8,e7,e8,k8,k9,k11,k1,hI⟩⟩
   obtain rfl:=ar kl
   have z7:=ao fi
   rw [fm,jx,fi,a6] at hI
   obtain ⟨va,vn,vc,hv9⟩:=Inv.rowSlice hI 3 rfl
   refine dY hI 2 (n:=1) (by rw [hv9]; rfl) (by decide +kernel) rfl (by simp) (by rw [hv9]; simp [Value.cells,Value.oneCell']) fun w_ hI=>?_
   have hcl9:Value.cells dD=#[dD]:=by rw [hv9]; rfl
   rw [hcl9] at hI
   have k1:=fun (_:av D 12 12=true)=>gF
   have k11:=fun (_:av D 12 12=true)=>fi
   have hI:Inv w [] (bd (.blk b4 (.cells #[.int .i64 c0.head.kind,.int .i64 c0.head.n,.string c0.head.name,kv,.slice (some ⟨b,o,none⟩) c0.body.length cap] ai)) (.blk b2 (.cells #[.int .i64 0,.int .i64 0,.string ⟨#[]⟩,.slice none 0 0,.slice none 0 0] ai)) (.blk b6 (.cells #[.int .i64 hd.kind,.int .i64 hd.n,.string hd.name,kh,kvc] ai)) (.blk b6 (.cells #[.int .i64 hd.kind,.int .i64 hd.n,.string hd.name,kh,dD] ai)) (be kvc ac 4 css) (be dD ac 4 (css++[cs7])) (rdI br sl p2::bk (N::Ls).flatten) M (.blk b8 (.cells cs7.toArray ac)) (D 8) (D 9) (D 10) true) S w_:=by
    rw [fm,jx,fi]
    exact hI
   exact ⟨aF,aC,aB,aE,aD,aG,az,aK,aQ,aU,ao,ar,fun _=>trivial,⟨M,cs7,b8,e7,e8,k8,k9,k11,k1,hI⟩⟩
  intro D ky gw fK kA iV ii gM gT hO iR im iT iS fg dD dS er eY ew d3 dF dq di dp cX w_
  rintro ⟨aF,aC,aB,aE,aD,aG,az,aK,aQ,aU,ao,ar,aw,⟨M,cs7,b8,e7,e8,k8,k9,k11,k1,hI⟩⟩
  obtain rfl:=ar gw
  have z7:=ao fK
  have Ac:=aU kA
  have Ab:=aQ iV
  obtain rfl:=aK ii
  obtain rfl:=az gM
  obtain rfl:=aG gT
  obtain rfl:=aD hO
  obtain rfl:=aE iR
  obtain rfl:=aB im
  obtain rfl:=aC iT
  obtain rfl:=aF iS
  clear aF aC aB aE aD aG az aK aQ aU ao ar aw
  obtain ⟨_,hT⟩:=e7 iV
  rw [iV,kA,fK,ky] at hI
  refine ct (by omega) ?_
  refine ⟨⟨j+1,dD,Ls++[M],css++[cs7],hj',rfl,?_,?_⟩,by simp [intOf]; omega⟩
  ·rw [qN m c0.body j hj']
   exact hg.snoc hT hT.length
  ·rw [<- List.cons_append,List.flatten_append,cH]
   simp only [List.flatten_cons,List.flatten_nil,List.append_nil]
   refine hI.sub ?_
   simp only [bd,List.flatten_cons]
   rw [List.cons_append,<- List.append_assoc]
   exact ((((List.sublist_append_left _ _).cons_cons _).cons_cons _).cons_cons _).cons_cons _ |>.cons_cons _
 ·have:j=c0.body.length:=by omega
  subst this
  rw [List.take_length] at hg
  obtain ⟨va,vn,vc,hvk⟩:=hI.rowSlice 3 rfl
  have hv1:kvc.oneCell'=true:=by rw [hvk]; rfl
  have o1:kh.oneCell'=true:=hT1.one kh (by simp)
  refine bb hI 2 aW rfl rfl ?_
  have hI:Inv w [] (.blk b2 (.cells zCl ai)::be kvc ac 4 css::rdI br sl p2::bk (N::Ls).flatten) S w':=hI.sub (List.Sublist.cons _ (List.Sublist.cons_cons _ (List.Sublist.cons _ (List.Sublist.refl _))))
  rw [List.flatten_cons,cH] at hI
  have hI:=hI.perm (M:=(.blk b2 (.cells zCl ai)::rdI br sl p2::bk N)++(be kvc ac 4 css::bk Ls.flatten)) ((List.perm_middle (l₁:=rdI br sl p2::bk N)).cons _)
  obtain ⟨L,hT,hI⟩:=Inv.rowTree hI hg
  have hI:Inv w [] ([.blk b2 (.cells zCl ai),rdI br sl p2]++bk (N++L)) S w':=by
   rw [cH]
   exact hI
  rw [hhd] at hT1
  have hTC:TrC (N++L) [.int .i64 hd.kind,.int .i64 hd.n,.string hd.name,kh,kvc] (Ee m c0):=⟨_,kvc,N,L,by rw [hhd]; rfl,rfl,hT1,hT⟩
  obtain ⟨S5,hI,hE5,hins⟩:=hI.pubExt
  have hrc:=hTC.rd hins
  have hrd5:=hrd.monoU hE5.1
  have hE5:=hE2.trans hE5
  refine Run.callL vo vE hI (ub (p:=p2) hrd5 hrc (by rw [z4]; omega) (by omega)) rfl fun v5 I' S6 w'=>?_
  rintro ⟨p3,hp3,rfl,ds,d,rfl,hds,hwd⟩ hE6 hI
  rw [z4] at hwd
  have hI:Inv w [] [.blk b2 (.cells zCl ai),rdI br sl p3] S6 w':=hI
  refine aX hI 0 rfl aW (by simpa using hds.length) rfl (by simpa using hds.one) fun w' hI=>?_
  refine bA hI 0 aW rfl (by simpa using hds.length) ?_
  exact ⟨_,[],S6,rfl,hI.nil,hE5.trans hE6,rfl,_,d,rfl,hds,by omega⟩
end
end Go.Proofs.YtmnnpgdeecnfpaaGreat

/- slices.Clone and slices.DeleteFunc of terms. -/
namespace Go.Proofs.YtmnnpgdeecnfpaaGreat
open Go Go.RowKit

section
variable {P:Program} {w w0:World} {X:List Nat} {L:List Item} {S:ax} {K:Value->World->Prop}
attribute [local irreducible] Run CondV ah ba
theorem Run.callVPure {f:FuncId} {fn:Func} {cap args:List Value} {r:Value} (hf:P.funcs[f]?=some fn) (hn:(fn.name == "runtime.NumGoroutine" || fn.body.isNone)=false) (h:Inv w0 X L S w) (hc:Pure P f (args++cap) S r)
  (hk:∀ w',Inv w0 X L S w'->K r w'):Run P (ay (fv f cap) args) w K:=by
 refine Run.callV (A:=L) (I:=[]) hf hn (by simpa using h) (Post:=fun v I' S'=>v=r/\I'=[]/\S'=S) ?_ fun v' I' S' w'=>?_
 ·intro w1 hI
  exact (hc w1 hI).mono fun e w' ⟨he,hI⟩=>⟨_,_,_,he,hI,Ext.refl _ _ _,rfl,rfl,rfl⟩
 ·rintro ⟨rfl,rfl,rfl⟩ _ hI
  exact hk _ (by simpa using hI)
end
section
attribute [local irreducible] Run CondV ah ba
end

end Go.Proofs.YtmnnpgdeecnfpaaGreat

/- impl.RenumberClause. -/
namespace Go.Proofs.YtmnnpgdeecnfpaaGreat
open Go Go.RowKit
section
variable {P:Program} {w:World} {K:Value->World->Prop}
attribute [local irreducible] Run
theorem Dt {T ty e:TypeId} {k h m len cap:Nat} {a:Option Addr} (hT:dC P T=some (e,k)) (hh:h<=m) (hm:m<=cap) (hk:K (.slice (if m=0 then a else a.map (·.add (0 * k))) h m) w) :
  Run P (sOp (.slice T (.const (.slice a len cap)) none (some (.const (.int .i64 h))) (some (.const (.int .i64 m)))) ty) w K:=by
 obtain ⟨hu,i,hi,hs⟩:=jW hT
 refine Run.of ?_ hk
 simp [sOp,execOp,ev0,evE,Instr.sliceAt,Instr.slice,Instr.sliceBounds,run_underlying hu,iy hh,iy hm,sizeOf,typeInfo,hi]
end
section
attribute [local irreducible] Run CondV ah ba
theorem Ag {α:Type} {R:List Value->α->Prop} {S:ax} {v:Value} {xs:List α} (h:RdSl S 4 R v xs):∃ r,RdSl S 4 R r xs/\Pure Tryz.prog uO [v] S r:=by
 obtain ⟨a,cap,rfl,hl,hc,hx⟩:=id h
 have e1:∀ m:Nat,(if m=0 then a else a.map (·.add (0 * 4)))=a:=by
  intro m
  split
  ·rfl
  ·cases a <;> simp [Addr.add]
 refine ⟨.slice a xs.length xs.length,⟨a,xs.length,rfl,Nat.le_refl _,by omega,hx⟩,fun w hI=>?_⟩
 refine nt ?_
 unfold lj
 refine bo h aS ?_
 refine bo h aS ?_
 refine Dt aS (Nat.le_refl _) hl ?_
 rw [e1]
 exact done hI rfl
theorem s3 (n:Int) (S:ax):Pure Tryz.prog wY [.int .i64 n] S (.agg #[.int .i64 1,.int .i64 n,.string ⟨#[]⟩,.slice none 0 0]):=by
 intro w hI
 refine pY ?_
 unfold mD
 refine bm hI bx fun b1 w' hI=>?_
 have hb:∀ {K:Value->World->Prop} {w':World},K (.agg #[.int .i64 1,.int .i64 n,.string ⟨#[]⟩,.slice none 0 0]) w'->Run Tryz.prog (cg ac [(0,.int .i64 1),(1,.int .i64 n)]) w' K:=by
  intro K w' hk
  refine Run.of (v:=.agg #[.int .i64 1,.int .i64 n,.string ⟨#[]⟩,.slice none 0 0]) (w':=w') ?_ hk
  unfold cg
  rw [Sem.run_bind,run_build w' ac _ #[.int .i64 1,.int .i64 n,.string ⟨#[]⟩,.slice none 0 0] (by kernel_rfl),Result.andThen_ok]
  rfl
 refine hb ?_
 refine aX hI 0 rfl aj rfl rfl (by simp [Value.oneCell']) fun w' hI=>?_
 refine bA hI 0 aj rfl rfl ?_
 exact done hI rfl
theorem nc {vs:List Int} {S:ax} {g:Nat} {vv:Value} {E:TypeId} (n:Int) (hS:S g=some (.cells #[vv] E)) (hv:RdSl S 1 oH vv vs) :
  Pure Tryz.prog fe [.int .i64 n,.pointer (some ⟨g,0,none⟩)] S (.agg #[.int .i64 1,.int .i64 (gv vs n),.string ⟨#[]⟩,.slice none 0 0]):=by
 intro w hI
 refine lx ?_
 unfold i8
 refine bm hI bx fun b1 w' hI=>?_
 refine d4 BZ (by rw [hI.cellS hS]; rfl) ?_
 refine Run.callPure lO lQ hI (kt n hv) fun w' hI=>?_
 refine Run.callPure uZ u3 hI (s3 _ S) fun w' hI=>?_
 refine aX hI 0 rfl aj rfl rfl (by simp [Value.oneCell']) fun w' hI=>?_
 refine bA hI 0 aj rfl rfl ?_
 exact done hI rfl
theorem uS (vs:List Int) (hvl:vs.length<=1000000000):∀ (t:T) (S:ax) (cs:List Value) (g:Nat) (vv:Value) (E:TypeId),RdT S cs t->S g=some (.cells #[vv] E)->RdSl S 1 oH vv vs->wT t<=1048576->
  Tri Tryz.prog rb [.agg cs.toArray,fv fe [.pointer (some ⟨g,0,none⟩)]] [] S (rO S (fT vs t)):=by
 refine T.ind fun k n s ks ih0 S cs g vv E h hS hv hw=>?_
 have ih:∀ t∈ks,∀ (S:ax) (cs:List Value),RdT S cs t->S g=some (.cells #[vv] E)->RdSl S 1 oH vv vs->wT t<=1048576->
  Tri Tryz.prog rb [.agg cs.toArray,fv fe [.pointer (some ⟨g,0,none⟩)]] [] S (rO S (fT vs t)):=fun t ht S cs h1 h2 h3 h4=>ih0 t ht S cs g vv E h1 h2 h3 h4
 clear ih0
 intro w hI
 obtain ⟨kv,rfl,h1,h2,hs,hks⟩:=RdT.iff.1 h
 simp only [T.name,T.kids,T.kind,T.n] at h1 h2 hs hks ⊢
 simp only [wT] at hw
 have hir:=DZ vs n
 refine rT ?_
 unfold nH
 refine co hI fun b2 w' hI=>?_
 refine bm hI bx fun b4 w' hI=>?_
 refine aH hI 0 rfl bF bw rfl ?_
 refine bK ?_
 rw [fT]
 refine bz (fun hk1=>?_) (fun hk1=>?_)
 ·rw [if_pos hk1]
  refine aH hI 0 rfl bE bw rfl ?_
  refine Run.callVPure nN oc hI (nc n hS hv) fun w' hI=>?_
  refine aX hI 1 rfl aj rfl rfl (by simp [Value.oneCell']) fun w' hI=>?_
  refine bA hI 1 aj rfl rfl ?_
  exact ⟨_,_,_,rfl,hI.pick [false,false],Ext.refl _ _ _,rfl,[_,_,_,_],[],rfl,rfl,TrT.iff.2 ⟨_,rfl,by simp [inI,T.kind],by simp only [inI,T.n]; omega,by rw [T.name]; decide +kernel,TrSl.nil (by simp [maxLen])⟩⟩
 rw [if_neg hk1]
 refine aH hI 0 rfl a9 aV rfl ?_
 refine ff hI 0 rfl a9 aV rfl rfl rfl fun w' hI=>?_
 refine bo hks aS ?_
 have hI:Inv w [] [.blk b4 (.cells #[.int .i64 0,.int .i64 0,.string ⟨#[]⟩,.slice none 0 0] ac),.blk b2 (.cells #[.int .i64 k,.int .i64 n,.string s,.slice none 0 0] ac)] S w':=hI.perm (List.Perm.swap _ _ _)
 have hI:=hI.rowNil ac 4
 refine ⟨fun i w'=>∃ (j:Nat) (kvc:Value) (Ls:List bn) (css:List (List Value)),j<=ks.length/\i=.int .i64 j/\Grown 4 TrT Ls css (eG vs (ks.take j))/\
   Inv w [] (.blk b4 (.cells #[.int .i64 0,.int .i64 0,.string ⟨#[]⟩,.slice none 0 0] ac)::.blk b2 (.cells #[.int .i64 k,.int .i64 n,.string s,kvc] ac)::be kvc ac 4 css::bk Ls.flatten) S w',
  fun i _=>ks.length - (intOf i).toNat,⟨0,_,[],[],Nat.zero_le _,rfl,Grown.nil _ _,hI⟩,?_⟩
 intro t20 _ _ _ _ _ _ _ _ _ _ _ _ _ w'
 rintro ⟨j,kvc,Ls,css,hj,rfl,hg,hI⟩
 refine dh ?_
 refine bz (fun hji=>?_) (fun hji=>?_)
 ·have hj':j<ks.length:=by omega
  have hjl:(ks.take j).length=j:=by simp; omega
  have hcl:=hg.hc
  rw [qo] at hcl
  have hm:=List.getElem_mem hj'
  have hwm:=fV hm
  refine ei hI hks aS aj hj' (fun _ _=>RdT.length) fun cs0 hcs0=>?_
  refine bm hI bx fun b7 w' hI=>?_
  have hI:=hI.perm (M:=.blk b7 _::(.blk b4 (.cells #[.int .i64 0,.int .i64 0,.string ⟨#[]⟩,.slice none 0 0] ac)::.blk b2 (.cells #[.int .i64 k,.int .i64 n,.string s,kvc] ac)::be kvc ac 4 css::bk Ls.flatten)) (List.perm_append_comm (l₁:=[_]))
  refine aX hI 0 rfl aj (by simpa using hcs0.length) rfl (by simpa using hcs0.one) fun w' hI=>?_
  refine ⟨fun D d3 dF dq di dp cX cM dn w_=>(D 0=true->dn=.pointer (some ⟨b2,3,none⟩))/\(D 1=true->cM=kvc)/\(D 2=true->cX=.agg cs0.toArray)/\(D 3=true->dp=fv fe [.pointer (some ⟨g,0,none⟩)])/\(D 4=true->True)/\(D 5=true->True)/\(D 6=true->True)/\(D 7=true->d3=.pointer (some ⟨b2,3,none⟩))/\(D 8=true->True)/\∃ M cs7 b8,(D 4=true->di=.agg cs7.toArray/\TrT M cs7 (fT vs ks[j]))/\(D 5=true->dq=.slice (some ⟨b8,0,none⟩) 1 1)/\(D 5=true->D 4=true)/\(D 6=true->D 5=true)/\(D 8=true->D 6=true)/\(D 8=true->D 1=true)/\Inv w [] (bd (.blk b7 (.cells cs0.toArray ac)) (.blk b4 (.cells #[.int .i64 0,.int .i64 0,.string ⟨#[]⟩,.slice none 0 0] ac)) (.blk b2 (.cells #[.int .i64 k,.int .i64 n,.string s,kvc] ac)) (.blk b2 (.cells #[.int .i64 k,.int .i64 n,.string s,dF] ac)) (be kvc ac 4 css) (be dF ac 4 (css++[cs7])) (bk Ls.flatten) M (.blk b8 (.cells cs7.toArray ac)) (D 4) (D 5) (D 6) (D 8)) S w_,⟨af,af,af,af,af,af,af,af,af,⟨[],[],0,af,af,af,af,af,af,by simpa [bd,bk] using hI.draw⟩⟩,⟨?_,?_,?_,?_,?_,?_,?_,?_,?_,trivial⟩,?_⟩
  ·intro D a6  d3 dF dq di dp cX cM dn w_
   rintro ⟨aF,aC,aB,aE,aD,aG,az,aK,aQ,⟨M,cs7,b8,e7,e8,k8,k9,k11,k1,hI⟩⟩
   refine bh a9 ?_
   exact ⟨fun _=>rfl,aC,aB,aE,aD,aG,az,aK,aQ,⟨M,cs7,b8,e7,e8,k8,k9,k11,k1,hI⟩⟩
  ·intro D a6 dc d3 dF dq di dp cX cM dn w_
   rintro ⟨aF,aC,aB,aE,aD,aG,az,aK,aQ,⟨M,cs7,b8,e7,e8,k8,k9,k11,k1,hI⟩⟩
   obtain rfl:=aF dc
   have f11:D 8=false:=Bool.eq_false_iff.2 fun h=>by rw [k1 h] at a6; cases a6
   refine bG (b:=b2) hI 2 (c:=(#[.int .i64 k,.int .i64 n,.string s,kvc])) aV (by rw [f11]; rfl) rfl ?_
   have k1:=fun (_:av D 1 8=true)=>(rfl:av D 1 1=true)
   exact ⟨aF,fun _=>rfl,aB,aE,aD,aG,az,aK,aQ,⟨M,cs7,b8,e7,e8,k8,k9,k11,k1,hI⟩⟩
  ·intro D a6  d3 dF dq di dp cX cM dn w_
   rintro ⟨aF,aC,aB,aE,aD,aG,az,aK,aQ,⟨M,cs7,b8,e7,e8,k8,k9,k11,k1,hI⟩⟩
   refine bb hI 0 aj rfl (by simpa using hcs0.length) ?_
   exact ⟨aF,aC,fun _=>rfl,aE,aD,aG,az,aK,aQ,⟨M,cs7,b8,e7,e8,k8,k9,k11,k1,hI⟩⟩
  ·intro D a6  d3 dF dq di dp cX cM dn w_
   rintro ⟨aF,aC,aB,aE,aD,aG,az,aK,aQ,⟨M,cs7,b8,e7,e8,k8,k9,k11,k1,hI⟩⟩
   exact ⟨aF,aC,aB,fun _=>rfl,aD,aG,az,aK,aQ,⟨M,cs7,b8,e7,e8,k8,k9,k11,k1,hI⟩⟩
  ·intro D a6 dy vN d3 dF dq di dp cX cM dn w_
   rintro ⟨aF,aC,aB,aE,aD,aG,az,aK,aQ,⟨M,cs7,b8,e7,e8,k8,k9,k11,k1,hI⟩⟩
   obtain rfl:=aB dy
   obtain rfl:=aE vN
   have f8:D 5=false:=Bool.eq_false_iff.2 fun h=>by rw [k8 h] at a6; cases a6
   have f9:D 6=false:=Bool.eq_false_iff.2 fun h=>by rw [k9 h] at f8; cases f8
   have f11:D 8=false:=Bool.eq_false_iff.2 fun h=>by rw [k11 h] at f9; cases f9
   rw [a6,f8,f9,f11] at hI
   refine Run.call0 o4 np hI (ih _ (List.getElem_mem hj') S cs0 hcs0 hS hv (by omega)) fun v' I' S w_=>?_
   rintro ⟨rfl,cs7,M,rfl,rfl,hT⟩ _ hI
   have e7:av D 4 4=true->Value.agg cs7.toArray=Value.agg cs7.toArray/\TrT M cs7 (fT vs ks[j]):=fun _=>⟨rfl,hT⟩
   have k8:=fun (_:av D 4 5=true)=>(rfl:av D 4 4=true)
   have hI:Inv w [] (bd (.blk b7 (.cells cs0.toArray ac)) (.blk b4 (.cells #[.int .i64 0,.int .i64 0,.string ⟨#[]⟩,.slice none 0 0] ac)) (.blk b2 (.cells #[.int .i64 k,.int .i64 n,.string s,kvc] ac)) (.blk b2 (.cells #[.int .i64 k,.int .i64 n,.string s,dF] ac)) (be kvc ac 4 css) (be dF ac 4 (css++[cs7])) (bk Ls.flatten) M (.blk b8 (.cells cs7.toArray ac)) true (D 5) (D 6) (D 8)) S w_:=by
    rw [f8,f9,f11]
    simpa [bd] using hI
   exact ⟨aF,aC,aB,aE,fun _=>by first|assumption|trivial,aG,az,aK,aQ,⟨M,cs7,b8,e7,e8,k8,k9,k11,k1,hI⟩⟩
  ·intro D a6 jj d3 dF dq di dp cX cM dn w_
   rintro ⟨aF,aC,aB,aE,aD,aG,az,aK,aQ,⟨M,cs7,b8,e7,e8,k8,k9,k11,k1,hI⟩⟩
   have Dn:=aD jj
   have f9:D 6=false:=Bool.eq_false_iff.2 fun h=>by rw [k9 h] at a6; cases a6
   have f11:D 8=false:=Bool.eq_false_iff.2 fun h=>by rw [k11 h] at f9; cases f9
   obtain ⟨q7,hT⟩:=e7 jj
   subst q7
   rw [jj,a6,f9,f11] at hI
   refine dg hI bt (by simp [Value.cells,hT.length]) (by omega) (by omega) fun b8 w_ hI=>?_
   have e7:av D 5 4=true->Value.agg cs7.toArray=Value.agg cs7.toArray/\TrT M cs7 (fT vs ks[j]):=fun _=>⟨rfl,hT⟩
   have e8:=fun (_:av D 5 5=true)=>(rfl:Value.slice (some ⟨b8,0,none⟩) 1 1=_)
   have k8:=fun (_:av D 5 5=true)=>jj
   have k9:=fun (_:av D 5 6=true)=>(rfl:av D 5 5=true)
   have hI:Inv w [] (bd (.blk b7 (.cells cs0.toArray ac)) (.blk b4 (.cells #[.int .i64 0,.int .i64 0,.string ⟨#[]⟩,.slice none 0 0] ac)) (.blk b2 (.cells #[.int .i64 k,.int .i64 n,.string s,kvc] ac)) (.blk b2 (.cells #[.int .i64 k,.int .i64 n,.string s,dF] ac)) (be kvc ac 4 css) (be dF ac 4 (css++[cs7])) (bk Ls.flatten) M (.blk b8 (.cells cs7.toArray ac)) (D 4) true (D 6) (D 8)) S w_:=by
    rw [jj,f9,f11]
    simpa [bd,Value.cells] using hI
   exact ⟨aF,aC,aB,aE,aD,fun _=>by first|assumption|trivial,az,aK,aQ,⟨M,cs7,b8,e7,e8,k8,k9,k11,k1,hI⟩⟩
  ·intro D a6 eB gd Cz d3 dF dq di dp cX cM dn w_
   rintro ⟨aF,aC,aB,aE,aD,aG,az,aK,aQ,⟨M,cs7,b8,e7,e8,k8,k9,k11,k1,hI⟩⟩
   obtain rfl:=aC eB
   have C3:=aG gd
   have f11:D 8=false:=Bool.eq_false_iff.2 fun h=>by rw [k11 h] at a6; cases a6
   have q8:=e8 gd
   subst q8
   obtain ⟨_,hT⟩:=e7 Cz
   rw [Cz,gd,a6,f11] at hI
   have hblk:((bd (.blk b7 (.cells cs0.toArray ac)) (.blk b4 (.cells #[.int .i64 0,.int .i64 0,.string ⟨#[]⟩,.slice none 0 0] ac)) (.blk b2 (.cells #[.int .i64 k,.int .i64 n,.string s,cM] ac)) (.blk b2 (.cells #[.int .i64 k,.int .i64 n,.string s,dF] ac)) (be cM ac 4 css) (be dF ac 4 (css++[cs7])) (bk Ls.flatten) M (.blk b8 (.cells cs7.toArray ac)) true true false false))[4+(bk Ls.flatten).length+(bk M).length]?=some (.blk b8 (.cells cs7.toArray ac)):=by
    have e4:4+(bk Ls.flatten).length+(bk M).length=((bk Ls.flatten).length+(bk M).length)+1+1+1+1:=by omega
    rw [e4]
    simp only [bd,List.getElem?_cons_succ]
    rw [List.getElem?_append_right (by omega),Nat.add_sub_cancel_left,List.getElem?_append_right (Nat.le_refl _),Nat.sub_self]; rfl
   refine dU hI 3 cs7 bt (by omega) rfl (by rw [hT.length]) (m:=1) (o:=0) ?_ hT.one (by omega) (by omega) fun v' w_ hI=>?_
   ·intro i u hi
    rw [hI.cellL hblk,Nat.zero_add]
    simpa using hi
   rw [el] at hI
   have k9:=fun (_:av D 6 6=true)=>gd
   have k11:=fun (_:av D 6 8=true)=>(rfl:av D 6 6=true)
   have hI:Inv w [] (bd (.blk b7 (.cells cs0.toArray ac)) (.blk b4 (.cells #[.int .i64 0,.int .i64 0,.string ⟨#[]⟩,.slice none 0 0] ac)) (.blk b2 (.cells #[.int .i64 k,.int .i64 n,.string s,cM] ac)) (.blk b2 (.cells #[.int .i64 k,.int .i64 n,.string s,v'] ac)) (be cM ac 4 css) (be v' ac 4 (css++[cs7])) (bk Ls.flatten) M (.blk b8 (.cells cs7.toArray ac)) (D 4) (D 5) true (D 8)) S w_:=by
    rw [Cz,gd,f11]
    exact hI
   exact ⟨aF,aC,aB,aE,aD,aG,fun _=>by first|assumption|trivial,aK,aQ,⟨M,cs7,b8,e7,e8,k8,k9,k11,k1,hI⟩⟩
  ·intro D a6 dc gl mM sC sr uT vy d3 dF dq di dp cX cM dn w_
   rintro ⟨aF,aC,aB,aE,aD,aG,az,aK,aQ,⟨M,cs7,b8,e7,e8,k8,k9,k11,k1,hI⟩⟩
   refine bh a9 ?_
   exact ⟨aF,aC,aB,aE,aD,aG,az,fun _=>rfl,aQ,⟨M,cs7,b8,e7,e8,k8,k9,k11,k1,hI⟩⟩
  ·intro D a6 d6 eO jm rY gF sg r4 pf rW uR d3 dF dq di dp cX cM dn w_
   rintro ⟨aF,aC,aB,aE,aD,aG,az,aK,aQ,⟨M,cs7,b8,e7,e8,k8,k9,k11,k1,hI⟩⟩
   obtain rfl:=aK d6
   have C7:=az eO
   rw [pf,rW,eO,a6] at hI
   obtain ⟨va,vn,vc,hv9⟩:=Inv.rowSlice hI 3 rfl
   refine dY hI 2 (n:=1) (by rw [hv9]; rfl) (by decide +kernel) rfl (by simp) (by rw [hv9]; simp [Value.cells,Value.oneCell']) fun w_ hI=>?_
   have hcl9:Value.cells dF=#[dF]:=by rw [hv9]; rfl
   rw [hcl9] at hI
   have k1:=fun (_:av D 8 8=true)=>gF
   have k11:=fun (_:av D 8 8=true)=>eO
   have hI:Inv w [] (bd (.blk b7 (.cells cs0.toArray ac)) (.blk b4 (.cells #[.int .i64 0,.int .i64 0,.string ⟨#[]⟩,.slice none 0 0] ac)) (.blk b2 (.cells #[.int .i64 k,.int .i64 n,.string s,kvc] ac)) (.blk b2 (.cells #[.int .i64 k,.int .i64 n,.string s,dF] ac)) (be kvc ac 4 css) (be dF ac 4 (css++[cs7])) (bk Ls.flatten) M (.blk b8 (.cells cs7.toArray ac)) (D 4) (D 5) (D 6) true) S w_:=by
    rw [pf,rW,eO]
    exact hI
   exact ⟨aF,aC,aB,aE,aD,aG,az,aK,fun _=>trivial,⟨M,cs7,b8,e7,e8,k8,k9,k11,k1,hI⟩⟩
  intro D iV ii gM gT hO iR im iT iS d3 dF dq di dp cX cM dn w_
  rintro ⟨aF,aC,aB,aE,aD,aG,az,aK,aQ,⟨M,cs7,b8,e7,e8,k8,k9,k11,k1,hI⟩⟩
  obtain rfl:=aK ii
  have C7:=az gM
  have C3:=aG gT
  have Dn:=aD hO
  obtain rfl:=aE iR
  obtain rfl:=aB im
  obtain rfl:=aC iT
  obtain rfl:=aF iS
  clear aF aC aB aE aD aG az aK aQ
  obtain ⟨_,hT⟩:=e7 hO
  rw [hO,gT,gM,iV] at hI
  refine ct (by omega) ?_
  refine ⟨⟨j+1,dF,Ls++[M],css++[cs7],hj',rfl,?_,?_⟩,by simp [intOf]; omega⟩
  ·rw [tN vs ks j hj']
   exact hg.snoc hT hT.length
  ·simp only [List.flatten_append,List.flatten_cons,List.flatten_nil,List.append_nil,cH]
   refine hI.sub ?_
   simp only [bd]
   rw [<- List.append_assoc]
   exact ((((List.sublist_append_left _ _).cons_cons _).cons_cons _).cons_cons _).cons _
 ·have:j=ks.length:=by omega
  subst this
  rw [List.take_length] at hg
  obtain ⟨va,vn,vc,hvk⟩:=hI.rowSlice 2 rfl
  have hv1:kvc.oneCell'=true:=by rw [hvk]; rfl
  refine bb hI 1 aj rfl rfl ?_
  refine aX hI 0 rfl aj rfl rfl ?_ fun w' hI=>?_
  ·intro u hu
   have hu':u∈([.int .i64 k,.int .i64 n,.string s,kvc]:List Value):=hu
   simp at hu'
   rcases hu' with rfl|rfl|rfl|rfl <;> first|rfl|exact hv1
  refine bA hI 0 aj rfl rfl ?_
  have hI:Inv w [] ([]++(be kvc ac 4 css::bk Ls.flatten)) S w':=hI.sub (List.sublist_append_right [_,_] _)
  obtain ⟨L,hT,hI⟩:=Inv.rowTree hI hg
  exact ⟨_,_,_,rfl,hI,Ext.refl _ _ _,rfl,_,L,rfl,rfl,TrT.iff.2 ⟨kvc,rfl,h1,h2,hs,hT⟩⟩
theorem fX {ts:List T} {S:ax} {v:Value} (h:RdSl S 4 (RdT S) v ts) (hw:ts.length+wL ts<=1048577):Tri Tryz.prog sQ [v] [] S (yk 4 TrT S (eG (df ts []) ts)):=by
 intro w hI
 have hlen:=h.le
 simp only [maxLen] at hlen
 have hcl:=xJ ts
 have hvl:=uo ts []
 simp only [List.length_nil] at hvl
 refine mR ?_
 unfold kq
 refine Run.call0 zg zp hI (xo h (by omega)) fun v1 I' S w'=>?_
 rintro ⟨rfl,rfl⟩ _ hI
 have hl':(df ts []).length<=1000000000:=by omega
 generalize df ts []=vs at hI hl' ⊢
 refine bm hI EH fun b3 w' hI=>?_
 have hv1:v1.cells=#[v1]/\v1.oneCell'=true:=by
  have:=hI.its (fB v1 vs) (by simp)
  rcases this.2 with ⟨rfl,_⟩|⟨g,cap,cur,rfl,_⟩ <;> exact ⟨rfl,rfl⟩
 refine dY hI 1 (n:=1) (by rw [hv1.1]; rfl) (by rw [BZ]; rfl) rfl (Nat.le_of_ble_eq_true rfl) (by rw [hv1.1]; simpa using hv1.2) fun w' hI=>?_
 have hst:cu (Value.slice none 0 0).cells 0 v1.cells.toList=#[v1]:=by
  rw [hv1.1]; rfl
 have hI:Inv w [] [fB v1 vs,.blk b3 (.cells #[v1] lu)] S w':=by
  have:=hI
  simp only [List.cons_append,List.nil_append] at this
  rw [hst] at this
  exact this
 have hI:=hI.perm (M:=[.blk b3 (.cells #[v1] lu)]++[fB v1 vs]) (List.Perm.swap _ _ _)
 obtain ⟨S1,hle1,hrd1,hI,_⟩:=Inv.lend (A:=[_]) hI
 obtain ⟨hI,hle2⟩:=Inv.publishLast (L:=[]) hI
 have hb:ju S1 b3 (.cells #[v1] lu) b3=some (.cells #[v1] lu):=by simp [ju]
 generalize ju S1 b3 (.cells #[v1] lu)=S2 at hI hle2 hb
 have hr1:=hrd1.ints.mono hle2 fun _ _ h=>h
 have hle:=hle1.trans hle2
 have h:=h.mono hle fun _ _ h=>h.mono hle
 refine bo h aS ?_
 refine ⟨fun i t w'=>∃ (k:Nat) (Ls:List bn) (css:List (List Value)),k<=ts.length/\i=.int .i64 k/\Grown 4 TrT Ls css (eG vs (ts.take k))/\Inv w [] (be t ac 4 css::bk Ls.flatten) S2 w',
  fun i _ _=>ts.length - (intOf i).toNat,⟨0,[],[],Nat.zero_le _,rfl,Grown.nil _ _,hI.rowNil ac 4⟩,?_⟩
 intro t11 _ t4 _ _ _ _ _ _ _ _ _ _ w'
 rintro ⟨k,Ls,css,hk,rfl,hg,hI⟩
 refine dh ?_
 refine bz (fun hki=>?_) (fun hki=>?_)
 ·have hk':k<ts.length:=by omega
  have htl:(ts.take k).length=k:=by simp; omega
  have hcl:=hg.hc
  rw [qo] at hcl
  have hm:=List.getElem_mem hk'
  have hwm:=fV hm
  refine ei hI h aS aj hk' (fun _ _=>RdT.length) fun cs hcs=>?_
  have hlc:=hcs.length
  refine bm hI bx fun b6 w' hI=>?_
  have hI:=hI.perm (M:=.blk b6 _::(be t4 ac 4 css::bk Ls.flatten)) (List.perm_append_comm (l₁:=[_]))
  refine aX hI 0 rfl aj (by simpa using hlc) rfl (by simpa using hcs.one) fun w' hI=>?_
  refine bb hI 0 aj rfl (by simpa using hlc) ?_
  have hI:Inv w [] (be t4 ac 4 css::bk Ls.flatten) S2 w':=hI.sub (List.sublist_cons_self _ _)
  refine tg ?_
  refine Run.call0 o4 np hI (uS vs hl' _ S2 cs b3 v1 lu hcs hb hr1 (by omega)) fun v' I' S' w'=>?_
  rintro ⟨rfl,cs',L,rfl,rfl,hT⟩ _ hI
  refine gc hI 0 cs' bt (by omega) (by omega) rfl hT.length hT.one (by omega) (by omega) fun v' w' hI=>?_
  refine ct (by omega) ?_
  refine ⟨⟨k+1,Ls++[L],css++[cs'],hk',rfl,?_,?_⟩,by simp [intOf]; omega⟩
  ·rw [tN vs ts k hk']
   exact hg.snoc hT hT.length
  ·simp only [List.flatten_append,List.flatten_cons,List.flatten_nil,List.append_nil,cH]
   exact hI
 ·have:k=ts.length:=by omega
  subst this
  rw [List.take_length] at hg
  obtain ⟨L,hT,hI⟩:=Inv.rowTree (A:=[]) hI hg
  exact ⟨_,_,_,rfl,hI.less hle,Ext.refl _ _ _,rfl,_,rfl,hT⟩
end

end Go.Proofs.YtmnnpgdeecnfpaaGreat

/- impl.RenumberClause: clauses. -/
namespace Go.Proofs.YtmnnpgdeecnfpaaGreat
open Go Go.RowKit
mutual
theorem BL (vs:List Int):∀ t:T,wT (cL vs t)=wT t
 | .mk k n s ks=>by rw [cL,wT,wT,gY,xk vs ks]
theorem xk (vs:List Int):∀ ts:List T,wL (dE vs ts)=wL ts
 | []=>rfl
 | t::ts=>by rw [dE,wL,wL,BL vs t,xk vs ts]
end
theorem DU (vs:List Int) (c:C):wC (jM vs c)=wC c:=by
 simp only [wC,jM,BL,xk,gY]
section
attribute [local irreducible] Run CondV ah ba
theorem zR {c:C} {S:ax} {cs:List Value} (h:RdC S cs c) (hnum:df (c.head::c.body) []=bp c/\fT (bp c) c.head=cL (bp c) c.head/\eG (bp c) c.body=dE (bp c) c.body) (hw:wC c<=1048576) :
  Tri Tryz.prog ob [.agg cs.toArray] [] S (El (jM (bp c) c)):=by
 intro w hI
 obtain ⟨e1,e2,e3⟩:=hnum
 obtain ⟨hd,ks,rfl,h1,h2⟩:=h
 have h1':=h1
 obtain ⟨kv,rfl,g1,g2,g3,g4⟩:=RdT.iff.1 h1
 have hlen:=h2.le
 simp only [maxLen] at hlen
 unfold wC at hw
 refine p8 ?_
 unfold mn
 refine co hI fun b1 w' hI=>?_
 refine bm hI bI fun b2 w' hI=>?_
 refine bh cm ?_
 refine dI hI 0 [.int .i64 c.head.kind,.int .i64 c.head.n,.string c.head.name,kv] aj rfl rfl tV ?_
 refine dg hI bt (by simp [Value.cells]) (by omega) (by omega) fun b7 w' hI=>?_
 refine aH hI 0 rfl bi aV rfl ?_
 have hI:=Inv.closeRow (A:=[_,_]) (cap:=1) (k:=4) (n:=1) hI (by omega) (by simp [maxLen]) (by simp [Value.cells])
 refine ng hI 2 (css:=[[.int .i64 c.head.kind,.int .i64 c.head.n,.string c.head.name,kv]]) bt (by omega) rfl h2 (fun _ _=>RdT.length) (fun _ _=>RdT.one) (by simp; omega) (by omega) fun v' w' css2 hR hI=>?_
 have hR:=(Rows.one h1' h1'.length).append hR
 obtain ⟨S1,hle1,hrd,hI,_⟩:=Inv.lend (A:=[_,_]) hI
 have hts:RdSl S1 4 (RdT S1) v' (c.head::c.body):=(RowRd.rows hR hrd).mono (Sle.refl _) fun _ _ h=>h.mono hle1
 refine Run.call0 gG gA hI (fX hts (by simp only [wL,List.length_cons]; omega)) fun v11 I' S' w'=>?_
 rintro ⟨rfl,M,rfl,hT⟩ _ hI
 obtain ⟨S2,hI,hE,hins⟩:=(hI.less hle1).pubExt
 have hr:=hT.rd hins fun _ _ _ hi h=>h.rd hi
 rw [e1,eG,e2,e3] at hr
 have hdrop:=fun (v:Value) (h:RdSl S2 4 (RdT S2) v ((cL (bp c) c.head::dE (bp c) c.body).drop 1))=>h
 obtain ⟨b,o,cap,cc,E,fz,rfl,hS,hR0⟩:=hr.at_ (i:=0) (by simp)
 rw [List.getElem_cons_zero] at hR0
 obtain ⟨kv',ec,f1,f2,f3,f4⟩:=RdT.iff.1 hR0
 rw [ec] at hR0
 obtain ⟨ka,kn,kc,hk'⟩:∃ a n m,kv'=.slice a n m:=by
  obtain ⟨a,m,e,_⟩:=f4
  exact ⟨_,_,_,e⟩
 refine ⟨fun D dQ dX iz kD kE l4 l0 w_=>(D 0=true->l0=.slice (some ⟨b,o,none⟩) ((dE (bp c) c.body).length+1) cap)/\(D 1=true->l4=.pointer (some ⟨b,o+0 * 4,none⟩))/\(D 2=true->kE=.agg #[.int .i64 (cL (bp c) c.head).kind,.int .i64 (cL (bp c) c.head).n,.string (cL (bp c) c.head).name,kv'])/\(D 3=true->kD=.slice (some ⟨b,o,none⟩) ((dE (bp c) c.body).length+1) cap)/\(D 4=true->RdSl S2 4 (RdT S2) iz (dE (bp c) c.body))/\(D 5=true->RdSl S2 4 (RdT S2) dX (dE (bp c) c.body))/\(D 6=true->∃ kb,dQ=.agg #[.int .i64 (cL (bp c) c.head).kind,.int .i64 (cL (bp c) c.head).n,.string (cL (bp c) c.head).name,kv',kb]/\RdSl S2 4 (RdT S2) kb (dE (bp c) c.body))/\(D 7=true->True)/\∃ B2,B2.size=5/\(D 7=true->∃ kb,B2=#[.int .i64 (cL (bp c) c.head).kind,.int .i64 (cL (bp c) c.head).n,.string (cL (bp c) c.head).name,kv',kb]/\RdSl S2 4 (RdT S2) kb (dE (bp c) c.body))/\Inv w [] [.blk b1 (.cells #[.int .i64 c.head.kind,.int .i64 c.head.n,.string c.head.name,kv,ks] ai),.blk b2 (.cells B2 ai)] S2 w_,⟨af,af,af,af,af,af,af,af,⟨_,rfl,af,hI.draw⟩⟩,⟨?_,?_,?_,?_,?_,?_,?_,?_,trivial⟩,?_⟩
 ·intro D a6  dQ dX iz kD kE l4 l0 w_
  rintro ⟨aF,aC,aB,aE,aD,aG,az,aK,⟨B2,hB,kB,hI⟩⟩
  exact ⟨fun _=>rfl,aC,aB,aE,aD,aG,az,aK,⟨B2,hB,kB,hI⟩⟩
 ·intro D a6 dc dQ dX iz kD kE l4 l0 w_
  rintro ⟨aF,aC,aB,aE,aD,aG,az,aK,⟨B2,hB,kB,hI⟩⟩
  obtain rfl:=aF dc
  refine bv (i:=0) aS (by simp) ?_
  exact ⟨aF,fun _=>rfl,aB,aE,aD,aG,az,aK,⟨B2,hB,kB,hI⟩⟩
 ·intro D a6 eB dQ dX iz kD kE l4 l0 w_
  rintro ⟨aF,aC,aB,aE,aD,aG,az,aK,⟨B2,hB,kB,hI⟩⟩
  obtain rfl:=aC eB
  refine dM (cs:=[.int .i64 (cL (bp c) c.head).kind,.int .i64 (cL (bp c) c.head).n,.string (cL (bp c) c.head).name,kv']) aj rfl (fun j v hj=>by rw [hI.cellS hS]; exact bC ec j v hj) ?_
  exact ⟨aF,aC,fun _=>rfl,aE,aD,aG,az,aK,⟨B2,hB,kB,hI⟩⟩
 ·intro D a6  dQ dX iz kD kE l4 l0 w_
  rintro ⟨aF,aC,aB,aE,aD,aG,az,aK,⟨B2,hB,kB,hI⟩⟩
  exact ⟨aF,aC,aB,fun _=>rfl,aD,aG,az,aK,⟨B2,hB,kB,hI⟩⟩
 ·intro D a6 ef dQ dX iz kD kE l4 l0 w_
  rintro ⟨aF,aC,aB,aE,aD,aG,az,aK,⟨B2,hB,kB,hI⟩⟩
  obtain rfl:=aE ef
  refine qQ (l:=1) aS hr (by simp) fun kb hkb=>?_
  rw [List.drop_succ_cons,List.drop_zero] at hkb
  exact ⟨aF,aC,aB,aE,fun _=>by first|assumption|trivial,aG,az,aK,⟨B2,hB,kB,hI⟩⟩
 ·intro D a6 jj dQ dX iz kD kE l4 l0 w_
  rintro ⟨aF,aC,aB,aE,aD,aG,az,aK,⟨B2,hB,kB,hI⟩⟩
  have Dn:=aD jj
  obtain ⟨r,hr',hp⟩:=Ag Dn
  refine Run.callPure uw uk hI hp fun w_ hI=>?_
  exact ⟨aF,aC,aB,aE,aD,fun _=>by first|assumption|trivial,az,aK,⟨B2,hB,kB,hI⟩⟩
 ·intro D a6 dy gd dQ dX iz kD kE l4 l0 w_
  rintro ⟨aF,aC,aB,aE,aD,aG,az,aK,⟨B2,hB,kB,hI⟩⟩
  obtain rfl:=aB dy
  have C3:=aG gd
  refine mx ?_ ?_
  ·obtain ⟨a,m,e,_⟩:=C3
   exact ⟨_,_,_,e⟩
  have hnew:∃ kb,Value.agg #[.int .i64 (cL (bp c) c.head).kind,.int .i64 (cL (bp c) c.head).n,.string (cL (bp c) c.head).name,kv',dX]=.agg #[.int .i64 (cL (bp c) c.head).kind,.int .i64 (cL (bp c) c.head).n,.string (cL (bp c) c.head).name,kv',kb]/\RdSl S2 4 (RdT S2) kb (dE (bp c) c.body):=⟨_,rfl,C3⟩
  exact ⟨aF,aC,aB,aE,aD,aG,fun _=>by first|assumption|trivial,aK,⟨B2,hB,kB,hI⟩⟩
 ·intro D a6 cw gd CO Cq xx CT CN CC Cw dQ dX iz kD kE l4 l0 w_
  rintro ⟨aF,aC,aB,aE,aD,aG,az,aK,⟨B2,hB,kB,hI⟩⟩
  have C7:=az cw
  obtain ⟨kb,rfl,hkb⟩:=C7
  obtain ⟨a,m,e,_⟩:=id hkb
  subst e
  refine aX hI 1 rfl aW rfl hB (by simp [Value.oneCell',hk']) fun w_ hI=>?_
  obtain ⟨B2,hq⟩:∃ B2,B2=(#[.int .i64 (cL (bp c) c.head).kind,.int .i64 (cL (bp c) c.head).n,.string (cL (bp c) c.head).name,kv',.slice a (dE (bp c) c.body).length m]:Array Value):=⟨_,rfl⟩
  rw [<- hq] at hI
  have hB:B2.size=5:=by rw [hq]; rfl
  have kB:=fun (_:av D 7 7=true)=>(⟨_,hq,hkb⟩:∃ kb,B2=#[.int .i64 (cL (bp c) c.head).kind,.int .i64 (cL (bp c) c.head).n,.string (cL (bp c) c.head).name,kv',kb]/\RdSl S2 4 (RdT S2) kb (dE (bp c) c.body))
  exact ⟨aF,aC,aB,aE,aD,aG,az,fun _=>trivial,⟨B2,hB,kB,hI⟩⟩
 intro D ii gM gT hO iR im iT iS dQ dX iz kD kE l4 l0 w_
 rintro ⟨aF,aC,aB,aE,aD,aG,az,aK,⟨B2,hB,kB,hI⟩⟩
 have C7:=az gM
 have C3:=aG gT
 have Dn:=aD hO
 obtain rfl:=aE iR
 obtain rfl:=aB im
 obtain rfl:=aC iT
 obtain rfl:=aF iS
 clear aF aC aB aE aD aG az aK
 obtain ⟨kb,rfl,hkb⟩:=kB ii
 refine bA hI 1 aW rfl rfl ?_
 exact ⟨_,_,_,rfl,hI.pick [false,false],hE,rfl,_,rfl,⟨_,_,rfl,hR0,hkb⟩⟩
theorem tU {c:C} {S:ax} {cs:List Value} (h:RdC S cs c) (hv:bH c=true) (hw:wC c<=1048576):Tri Tryz.prog ob [.agg cs.toArray] [] S (El (jM (bp c) c)):=zR h (tK hv) hw
abbrev DQ (c:C) (ok:Bool):Value->List Item->ax->Prop:=fun v I' _=>∃ cs L,v=.tuple #[.agg cs.toArray,.bool ok]/\I'=bk L/\TrC L cs c
theorem TrC.zero:TrC [] [.int .i64 0,.int .i64 0,.string ⟨#[]⟩,.slice none 0 0,.slice none 0 0] ⟨⟨0,0,⟨#[]⟩,[]⟩,[]⟩:=
 ⟨[.int .i64 0,.int .i64 0,.string ⟨#[]⟩,.slice none 0 0],.slice none 0 0,[],[],rfl,rfl,TrT.iff.2 ⟨_,rfl,by simp [inI,T.kind],by simp [inI,T.n],by rw [T.name]; decide +kernel,TrSl.nil (by simp [maxLen])⟩,TrSl.nil (by simp [maxLen])⟩
theorem fI {c:C} {S:ax} {cs:List Value} (h:RdC S cs c) (hw:wC c<=1048576):Tri Tryz.prog m0 [.agg cs.toArray] [] S (DQ (AY c) (bH c)):=by
 intro w hI
 have h0:=h
 have hlc:=h.length
 have hon:=h.one
 refine j1 ?_
 unfold gK
 refine co hI fun b1 w' hI=>?_
 refine bm hI bI fun b2 w' hI=>?_
 refine bb hI 0 aW rfl (by simpa [Value.cells] using hlc) ?_
 refine Run.callPure jB jJ hI (iJ h0) fun w' hI=>?_
 refine dT ?_
 rw [AY]
 cases hv:bH c
 ·refine bg (fun _=>?_) (fun hb=>by cases hb)
  refine lz ?_
  refine aX hI 1 rfl aW rfl rfl (by simp [Value.oneCell']) fun w' hI=>?_
  refine bA hI 1 aW rfl rfl ?_
  exact ⟨_,_,_,rfl,hI.pick [false,false],Ext.refl _ _ _,_,[],rfl,rfl,TrC.zero⟩
 refine bg (fun hb=>by cases hb) (fun _=>?_)
 refine bb hI 0 aW rfl (by simpa [Value.cells] using hlc) ?_
 refine Run.call0E vt vJ hI (tU h0 hv hw) fun v I' S' w'=>?_
 rintro ⟨rfl,cs',rfl,hR⟩ hE hI
 refine Run.call0 tY tS hI (r9 hR (by rw [DU]; exact hw)) fun v I' S2 w'=>?_
 rintro ⟨rfl,cs2,L,rfl,rfl,hT⟩ _ hI
 refine aX hI 1 rfl aW (by simpa using hT.length) rfl (by simpa using hT.one) fun w' hI=>?_
 refine bA hI 1 aW rfl (by simpa using hT.length) ?_
 have hI:Inv w [] (bk L) S2 w':=hI.sub (List.sublist_append_right [_,_] _)
 exact ⟨_,_,_,rfl,hI,hE,cs2,L,rfl,rfl,hT⟩
end

end Go.Proofs.YtmnnpgdeecnfpaaGreat

/- Matching with a map: impl.instance. -/
namespace Go.Proofs.YtmnnpgdeecnfpaaGreat
open Go Go.RowKit

/- the map of impl.instance -/
def KnownM (S:ax) (es:Array MapEntry) (st:cv):Prop:=
 (∀ e∈es.toList,∃ (n:Nat) (t:T) (cs:List Value),e.key=.int .i64 n/\e.val=.agg cs.toArray/\RdT S cs t/\st[n]?=some (some t))/\(∀ (n:Nat) (t:T),st[n]?=some (some t)->∃ e∈es.toList,e.key=.int .i64 n)
theorem KnownM.push {S:ax} {es:Array MapEntry} {st:cv} (h:KnownM S es st) {n:Nat} (hn:n<st.length) (hno:∀ t,st[n]?≠some (some t)) {cs:List Value} {u:T} (hu:RdT S cs u) (ck:Nat) :
  KnownM S (es.push { key:=.int .i64 n,val:=.agg cs.toArray,born:=ck }) (st.set n (some u)):=by
 refine ⟨fun e he=>?_,fun m t ht=>?_⟩
 ·rw [Array.toList_push] at he
  rcases List.mem_append.1 he with he|he
  ·obtain ⟨m,t,cs',hk,hv,hR,hs⟩:=h.1 e he
   refine ⟨m,t,cs',hk,hv,hR,?_⟩
   have:n≠m:=fun e=>hno t (by rw [e]; exact hs)
   rw [List.getElem?_set_ne this]
   exact hs
  ·simp at he
   subst he
   exact ⟨n,u,cs,rfl,rfl,hu,by rw [List.getElem?_set_self hn]⟩
 ·rw [Array.toList_push]
  by_cases e:n=m
  ·exact ⟨_,List.mem_append_right _ (List.mem_singleton.2 rfl),by rw [e]⟩
  ·rw [List.getElem?_set_ne e] at ht
   obtain ⟨x,hx,hk⟩:=h.2 m t ht
   exact ⟨x,List.mem_append_left _ hx,hk⟩
section
attribute [local irreducible] Run CondV ah ba
end

end Go.Proofs.YtmnnpgdeecnfpaaGreat

/- SubsumedClause: both sides. -/
namespace Go.Proofs.YtmnnpgdeecnfpaaGreat
open Go Go.RowKit

theorem BV:∀ {ts:List T},(∀ t∈ts,okV t)->rU ts
 | [],_=>by simp [rU]
 | t::ts,h=>by rw [rU]; exact ⟨h t (List.mem_cons_self ..),BV fun u hu=>h u (List.mem_cons_of_mem _ hu)⟩
theorem BE:∀ {ts:List T},(∀ t∈ts,okK t)->wX ts
 | [],_=>by simp [wX]
 | t::ts,h=>by rw [wX]; exact ⟨h t (List.mem_cons_self ..),BE fun u hu=>h u (List.mem_cons_of_mem _ hu)⟩
theorem Cm {c:C} (h:bH c=true):(okV c.head/\okK c.head)/\rU c.body/\wX c.body:=by
 rw [bH] at h
 simp only [Bool.and_eq_true,List.all_eq_true] at h
 obtain ⟨_,h2,h3,_⟩:=h
 have hb:∀ t∈c.body,okV t/\okK t:=fun t ht=>by
  have:=h2 t ht
  rw [eL,Bool.and_eq_true] at this
  exact zh this.1
 exact ⟨zh h3,BV fun t ht=>(hb t ht).1,BE fun t ht=>(hb t ht).2⟩
section
variable {P:Program} {w w0:World} {X:List Nat} {L:List Item} {S:ax} {K:Value->World->Prop}
attribute [local irreducible] Run CondV ah ba
end
section
attribute [local irreducible] Run CondV ah ba
end

end Go.Proofs.YtmnnpgdeecnfpaaGreat

/- Variables numbered anew, the plain law: numbering twice is numbering once, validity is kept, heads are variants. -/
namespace Go.Proofs.YtmnnpgdeecnfpaaGreat
open Go Go.RowKit
mutual
def mvT (f:Int->Int):T->T
 | .mk k n s ks=>.mk k (if k=1 then f n else n) s (mvL f ks)
def mvL (f:Int->Int):List T->List T
 | []=>[]
 | t::ts=>mvT f t::mvL f ts
end
theorem oN (f:Int->Int):∀ ts:List T,(mvL f ts).length=ts.length
 | []=>rfl
 | t::ts=>by rw [mvL,List.length_cons,List.length_cons,oN f ts]
theorem BN (f:Int->Int):∀ ts:List T,mvL f ts=ts.map (mvT f)
 | []=>rfl
 | t::ts=>by rw [mvL,List.map_cons,BN f ts]
mutual
theorem y0 (vs:List Int):∀ t:T,cL vs t=mvT (fun n=>gk vs n n 0) t
 | .mk k n s ks=>by rw [cL,mvT,tm vs ks]
theorem tm (vs:List Int):∀ ts:List T,dE vs ts=mvL (fun n=>gk vs n n 0) ts
 | []=>rfl
 | t::ts=>by rw [dE,mvL,y0 vs t,tm vs ts]
end
mutual
theorem xD {f g:Int->Int} {ws:List Int} (h:∀ n∈ws,f n=g n):∀ t:T,inT ws t->mvT f t=mvT g t
 | .mk k n s ks,hi=>by
  rw [inT] at hi
  rw [mvT,mvT,sL h ks hi.2]
  split
  ·rename_i hk; rw [h n (hi.1 hk)]
  ·rfl
theorem sL {f g:Int->Int} {ws:List Int} (h:∀ n∈ws,f n=g n):∀ ts:List T,inL ws ts->mvL f ts=mvL g ts
 | [],_=>rfl
 | t::ts,hi=>by
  rw [inL] at hi
  rw [mvL,mvL,xD h t hi.1,sL h ts hi.2]
end
mutual
theorem yI (f g:Int->Int):∀ t:T,mvT f (mvT g t)=mvT (fun n=>f (g n)) t
 | .mk k n s ks=>by
  rw [mvT,mvT,mvT,ur f g ks]
  split <;> rfl
theorem ur (f g:Int->Int):∀ ts:List T,mvL f (mvL g ts)=mvL (fun n=>f (g n)) ts
 | []=>rfl
 | t::ts=>by rw [mvL,mvL,mvL,yI f g t,ur f g ts]
end
theorem D6 {f:Int->Int} {l:List Int} {n:Int} (h:∀ m∈l,f m=f n->m=n):gI (l.map f) (f n)=(gI l n).map f:=by
 have e:sw (l.map f) (f n)=sw l n:=by
  rw [Bool.eq_iff_iff,oM,oM,List.mem_map]
  constructor
  ·rintro ⟨m,hm,e⟩
   rw [<- h m hm e]; exact hm
  ·intro hn
   exact ⟨n,hn,rfl⟩
 unfold gI
 rw [e]
 split
 ·rfl
 ·simp
mutual
theorem zQ {f:Int->Int} {ws:List Int} (hf:∀ a∈ws,∀ b∈ws,f a=f b->a=b):∀ (t:T) (l:List Int),(∀ m∈l,m∈ws)->inT ws t->eE (mvT f t) (l.map f)=(eE t l).map f/\∀ m∈eE t l,m∈ws
 | .mk k n s ks,l,hl,hi=>by
  rw [inT] at hi
  rw [mvT,eE,eE]
  by_cases hk:k=1
  ·rw [if_pos hk,if_pos hk,if_pos hk,D6 fun m hm e=>hf m (hl m hm) n (hi.1 hk) e]
   refine n6 hf ks _ (fun m hm=>?_) hi.2
   unfold gI at hm
   split at hm
   ·exact hl m hm
   ·rcases List.mem_append.1 hm with hm|hm
    ·exact hl m hm
    ·rw [List.mem_singleton.1 hm]; exact hi.1 hk
  ·rw [if_neg hk,if_neg hk]
   exact n6 hf ks l hl hi.2
theorem n6 {f:Int->Int} {ws:List Int} (hf:∀ a∈ws,∀ b∈ws,f a=f b->a=b):∀ (ts:List T) (l:List Int),(∀ m∈l,m∈ws)->inL ws ts->df (mvL f ts) (l.map f)=(df ts l).map f/\∀ m∈df ts l,m∈ws
 | [],l,hl,_=>⟨rfl,hl⟩
 | t::ts,l,hl,hi=>by
  rw [inL] at hi
  obtain ⟨e,h2⟩:=zQ hf t l hl hi.1
  rw [mvL,df,df,e]
  exact n6 hf ts _ h2 hi.2
end
theorem yU:∀ (xs:List Int) (n:Int) (k:Nat),n∈xs->∃ i,xs[i]?=some n/\(cI (σ:=Unit) (fun _ x=>(decide (n=x),())) () xs k).1=((k+i:Nat):Int)
 | x::xs,n,k,h=>by
  rw [cI]
  by_cases e:n=x
  ·subst e
   exact ⟨0,rfl,by simp⟩
  ·have h':n∈xs:=by
    rcases List.mem_cons.1 h with h|h
    ·exact absurd h e
    ·exact h
   obtain ⟨i,h1,h2⟩:=yU xs n (k+1) h'
   refine ⟨i+1,h1,?_⟩
   rw [decide_eq_false e]
   simp only [Bool.false_eq_true,if_false]
   rw [h2]
   omega
theorem qm {xs:List Int} {n:Int} (h:n∈xs):∃ i:Nat,xs[i]?=some n/\gv xs n=(i:Int)/\i<xs.length:=by
 obtain ⟨i,h1,h2⟩:=yU xs n 0 h
 exact ⟨i,h1,by rw [gv,h2,Nat.zero_add],(List.getElem?_eq_some_iff.1 h1).1⟩
theorem oX {xs:List Int}:∀ a∈xs,∀ b∈xs,gv xs a=gv xs b->a=b:=by
 intro a ha b hb e
 obtain ⟨i,h1,h2,_⟩:=qm ha
 obtain ⟨j,h3,h4,_⟩:=qm hb
 have:i=j:=by omega
 subst this
 rw [h1] at h3
 exact Option.some.inj h3
theorem B0 {f:Int->Int} {n:Int}:∀ (xs:List Int) (k:Nat),(∀ m∈xs,f m=f n->m=n)->(cI (σ:=Unit) (fun _ x=>(decide (f n=x),())) () (xs.map f) k).1=(cI (σ:=Unit) (fun _ x=>(decide (n=x),())) () xs k).1
 | [],_,_=>rfl
 | x::xs,k,h=>by
  rw [List.map_cons,cI,cI]
  have:decide (f n=f x)=decide (n=x):=by
   rw [decide_eq_decide]
   exact ⟨fun e=>(h x (List.mem_cons_self ..) e.symm).symm,fun e=>by rw [e]⟩
  rw [this]
  have ih:=B0 xs (k+1) fun m hm=>h m (List.mem_cons_of_mem _ hm)
  split
  ·rfl
  ·exact ih
theorem z6 {f:Int->Int} {xs:List Int} {n:Int} (h:∀ m∈xs,f m=f n->m=n):gv (xs.map f) (f n)=gv xs n:=B0 xs 0 h
/- validity -/
mutual
theorem wc {f:Int->Int} {ws:List Int} (h:∀ n∈ws,0<=f n/\f n<=25):∀ (t:T) (d:Int),inT ws t->dG t d=true->dG (mvT f t) d=true
 | .mk k n s ks,d,hi,hs=>by
  rw [inT] at hi
  rw [dG] at hs
  rw [mvT,dG]
  split at hs
  ·cases hs
  rename_i hd
  rw [if_neg hd]
  rw [Bool.and_eq_true] at hs ⊢
  refine ⟨?_,vV h ks _ hi.2 hs.2⟩
  have h1:=hs.1
  by_cases hk:k=1
  ·subst hk
   have hr:=h n (hi.1 rfl)
   rw [if_pos rfl]
   have h1:(decide (0<=n) && (decide (n<=25) && (decide (s=emptyB) && decide (ks.length=0))))=true:=h1
   show (decide (0<=f n) && (decide (f n<=25) && (decide (s=emptyB) && decide ((mvL f ks).length=0))))=true
   rw [oN,decide_eq_true hr.1,decide_eq_true hr.2]
   simp only [Bool.and_eq_true] at h1 ⊢
   exact ⟨trivial,trivial,h1.2.2⟩
  ·rw [if_neg hk]
   unfold et at h1 ⊢
   simp only [T.kind,T.n,T.name,T.kids,oN] at h1 ⊢
   exact h1
theorem vV {f:Int->Int} {ws:List Int} (h:∀ n∈ws,0<=f n/\f n<=25):∀ (ts:List T) (d:Int),inL ws ts->dx ts d=true->dx (mvL f ts) d=true
 | [],_,_,_=>rfl
 | t::ts,d,hi,hs=>by
  rw [inL] at hi
  rw [dx,Bool.and_eq_true] at hs
  rw [mvL,dx,wc h t d hi.1 hs.1,vV h ts d hi.2 hs.2]
  rfl
end
mutual
theorem BJ (f:Int->Int):∀ t:T,dN (mvT f t)=dN t
 | .mk k n s ks=>by rw [mvT,dN,dN,BU f ks]
theorem BU (f:Int->Int):∀ ts:List T,dk (mvL f ts)=dk ts
 | []=>rfl
 | t::ts=>by rw [mvL,dk,dk,BJ f t,BU f ts]
end
theorem yM {f:Int->Int} {ws:List Int} (h:∀ n∈ws,0<=f n/\f n<=25) {t:T} (hi:inT ws t) (hv:dA t=true):dA (mvT f t)=true:=by
 rw [dA,Bool.and_eq_true] at hv ⊢
 rw [BJ]
 exact ⟨wc h t 30 hi hv.1,hv.2⟩
theorem zU (f:Int->Int) (t:T):(mvT f t).kind=t.kind/\(mvT f t).name=t.name/\(mvT f t).kids.length=t.kids.length:=by
 obtain ⟨k,n,s,ks⟩:=t
 rw [mvT]
 exact ⟨rfl,rfl,oN f ks⟩
theorem EE {f:Int->Int} {ws:List Int} (h:∀ n∈ws,0<=f n/\f n<=25) {t:T} (hi:inT ws t) (hv:eL t=true):eL (mvT f t)=true:=by
 obtain ⟨e1,e2,e3⟩:=zU f t
 rw [eL,Bool.and_eq_true] at hv ⊢
 refine ⟨yM h hi hv.1,?_⟩
 have:=hv.2
 unfold yS fw kT at this ⊢
 rw [e1,e2,e3]
 exact this
theorem Ce {ws:List Int}:∀ {ts:List T},inL ws ts->∀ t∈ts,inT ws t
 | t::ts,h,x,hx=>by
  rw [inL] at h
  rcases List.mem_cons.1 hx with rfl|hx
  ·exact h.1
  ·exact Ce h.2 x hx
theorem tH {c:C} (h:bH c=true):jM (bp c) c=⟨mvT (gv (bp c)) c.head,mvL (gv (bp c)) c.body⟩/\inT (bp c) c.head/\inL (bp c) c.body/\(bp c).Nodup:=by
 obtain ⟨hv,_,_⟩:=tK h
 have hin:=nR (c.head::c.body) []
 rw [hv,inL] at hin
 have hd:(bp c).Nodup:=by rw [<- hv]; exact iX _ _ List.nodup_nil
 refine ⟨?_,hin.1,hin.2,hd⟩
 have hl:∀ n∈bp c,gk (bp c) n n 0=gv (bp c) n:=fun n hn=>pX _ n n 0 hn hd
 rw [jM,y0,tm,xD hl _ hin.1,sL hl _ hin.2]
mutual
theorem Ct:∀ (t:T) (l:List Int),okV t->(∀ m∈l,0<=m/\m<26)->∀ m∈eE t l,0<=m/\m<26
 | .mk k n s ks,l,ho,hl=>by
  rw [okV] at ho
  rw [eE]
  refine pS ks _ ho.2 fun m hm=>?_
  split at hm
  ·rename_i hk
   unfold gI at hm
   split at hm
   ·exact hl m hm
   ·rcases List.mem_append.1 hm with hm|hm
    ·exact hl m hm
    ·have:=ho.1 hk
     rw [List.mem_singleton.1 hm]
     omega
  ·exact hl m hm
theorem pS:∀ (ts:List T) (l:List Int),rU ts->(∀ m∈l,0<=m/\m<26)->∀ m∈df ts l,0<=m/\m<26
 | [],l,_,hl=>hl
 | t::ts,l,ho,hl=>by
  rw [rU] at ho
  rw [df]
  exact pS ts _ ho.2 (Ct t l ho.1 hl)
end
theorem Ch {c:C} (h:bH c=true):∀ x∈bp c,0<=x/\x<26:=by
 rw [<- (tK h).1]
 have ho:=Cm h
 exact pS _ [] (by rw [rU]; exact ⟨ho.1.1,ho.2.1⟩) (by simp)
theorem DX {c:C} (h:bH c=true):∀ n∈bp c,0<=gv (bp c) n/\gv (bp c) n<=25:=by
 obtain ⟨_,_,_,hd⟩:=tH h
 have hlen:(bp c).length<=26:=by
  refine Ey 26 _ hd fun x hx=>?_
  exact Ch h x hx
 intro n hn
 obtain ⟨i,_,e,hi⟩:=qm hn
 omega
theorem wt {c:C} (h:bH c=true):bH (jM (bp c) c)=true:=by
 obtain ⟨e,h1,h2,_⟩:=tH h
 have hr:=DX h
 rw [e]
 rw [bH] at h ⊢
 simp only [Bool.and_eq_true,List.all_eq_true] at h ⊢
 obtain ⟨ha,hb,hc,hd⟩:=h
 refine ⟨by simpa [oN] using ha,fun g hg=>?_,yM hr h1 hc,?_⟩
 ·simp only [BN,List.mem_map] at hg
  obtain ⟨g0,hg0,rfl⟩:=hg
  exact EE hr (Ce h2 g0 hg0) (hb g0 hg0)
 ·obtain ⟨e1,e2,e3⟩:=zU (gv (bp c)) c.head
  unfold fw at hd ⊢
  simp only [e1,e2,e3]
  exact hd
theorem Cr {c:C} (h:bH c=true):jM (bp (jM (bp c) c)) (jM (bp c) c)=jM (bp c) c:=by
 obtain ⟨e,h1,h2,_⟩:=tH h
 have hv:=wt h
 obtain ⟨e',_,_,_⟩:=tH hv
 obtain ⟨hv1,_,_⟩:=tK h
 obtain ⟨hv2,_,_⟩:=tK hv
 have hvars:bp (jM (bp c) c)=(bp c).map (gv (bp c)):=by
  rw [<- hv2,e]
  have:=(n6 (f:=gv (bp c)) (ws:=bp c) oX (c.head::c.body) [] (by simp) (by rw [inL]; exact ⟨h1,h2⟩)).1
  rw [mvL,List.map_nil,hv1] at this
  exact this
 rw [e',hvars,e]
 simp only [yI,ur]
 have hx:∀ n∈bp c,gv ((bp c).map (gv (bp c))) (gv (bp c) n)=gv (bp c) n:=fun n hn=>z6 fun m hm e=>oX m hm n hn e
 rw [xD hx _ h1,sL hx _ h2]
end Go.Proofs.YtmnnpgdeecnfpaaGreat
