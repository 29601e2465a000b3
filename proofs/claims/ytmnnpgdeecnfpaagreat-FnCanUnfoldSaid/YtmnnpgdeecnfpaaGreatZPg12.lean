/- impl.UnfoldClause. -/
import Derived.Test.YtmnnpgdeecnfpaaGreatZPg11
import Derived.Test.YtmnnpgdeecnfpaaGreatZPg4
import Derived.Test.YtmnnpgdeecnfpaaGreatZPg8
import Derived.Test.YtmnnpgdeecnfpaaGreatZPg2
import Derived.Test.YtmnnpgdeecnfpaaGreatZPg1
import Derived.Test.YtmnnpgdeecnfpaaGreatZPg7
import Derived.Test.YtmnnpgdeecnfpaaGreatZPg3
namespace Go.Proofs.YtmnnpgdeecnfpaaGreat
open Go Go.RowKit
theorem Grown.append {α:Type} {k:Nat} {R:aD->List Value->α->Prop} {Ls Ls':List aD} {css css':List (List Value)} {ys ys':List α} (h:Grown k R Ls css ys) (h':Grown k R Ls' css' ys'):Grown k R (Ls++Ls') (css++css') (ys++ys'):=by
 have e:=h.hc
 have e':=h'.hc
 have f:=h.hL
 have f':=h'.hL
 refine ⟨by simp [f,f'],by simp [e,e'],fun c hc=>?_,fun i h0 h1 h2=>?_⟩
 ·rcases List.mem_append.1 hc with hc|hc
  ·exact h.hk c hc
  ·exact h'.hk c hc
 ·by_cases hi:i<ys.length
  ·rw [List.getElem_append_left (by omega),List.getElem_append_left (by omega),List.getElem_append_left hi]
   exact h.hR i hi (by omega) (by omega)
  ·have hi':i - ys.length<ys'.length:=by simp at h0; omega
   rw [List.getElem_append_right (by omega),List.getElem_append_right (by omega),List.getElem_append_right (by omega)]
   have:=h'.hR (i - ys.length) hi' (by omega) (by omega)
   simpa only [e,f] using this
theorem Grown.one {Ls:List aD} {css:List (List Value)} {ys:List C} (h:Grown 5 TrC Ls css ys):∀ cs∈css,∀ u∈cs,u.oneCell'=true:=by
 intro cs hcs
 obtain ⟨i,hi,rfl⟩:=List.mem_iff_getElem.1 hcs
 have h1:=h.hc
 have h2:=h.hL
 exact (h.hR i (by omega) (by omega) hi).one
attribute [local irreducible] Run CondV GuardV LoadV
theorem ju {p:List C} {S:Store} {v:Value} (h:RdSl S 5 (RdC S) v p) (hw:p.length+wP p<=1048576):Tri Tryz.prog tg [v] [] S fun r I' S'=>S'=S/\∃ Ls css,I'=au r af 5 css::az Ls.flatten/\Grown 5 TrC Ls css p:=by
 intro w hI
 refine mw ?_
 unfold ir
 refine r_lenSl h aB ?_
 refine ⟨fun i t w'=>∃ (k:Nat) (Ls:List aD) (css:List (List Value)),k<=p.length/\i=.int .i64 k/\Grown 5 TrC Ls css (p.take k)/\Inv w [] (au t af 5 css::az Ls.flatten) S w',
  fun i _ _=>p.length - (intOf i).toNat,⟨0,[],[],Nat.zero_le _,rfl,Grown.nil _ _,hI.rowNil af 5⟩,?_⟩
 intro t8 _ t3 _ _ _ _ _ _ _ _ _ w'
 rintro ⟨k,Ls,css,hk,rfl,hg,hI⟩
 refine r_lss ?_
 refine condP (fun hki=>?_) (fun hki=>?_)
 ·have hk':k<p.length:=by omega
  have htl:(p.take k).length=k:=by simp; omega
  have hcl:=hg.hc
  refine r_elem hI h aB av hk' (fun _ _=>RdC.length) fun cs hcs=>?_
  have hm:=List.getElem_mem hk'
  have hwm:=Aq hm
  have hlc:=hcs.length
  refine r_alloc hI bd fun b6 w' hI=>?_
  have hI:=hI.perm (M:=.blk b6 _::(au t3 af 5 css::az Ls.flatten)) (List.perm_append_comm (l₁:=[_]))
  refine ao hI 0 rfl av (by simpa using hlc) rfl (by simpa using hcs.one) fun w' hI=>?_
  refine r_loadW hI 0 av rfl (by simpa using hlc) ?_
  have hI:Inv w [] (au t3 af 5 css::az Ls.flatten) S w':=hI.sub (List.sublist_cons_self _ _)
  refine Run.call0 jv iV hI (ii hcs (by omega)) fun v' I' S' w'=>?_
  rintro ⟨rfl,cs',L,rfl,rfl,hT⟩ _ hI
  refine bx hI 0 cs' bP (by omega) (by omega) rfl hT.length hT.one (by omega) (by omega) fun v' w' hI=>?_
  refine r_add (by omega) ?_
  refine ⟨⟨k+1,Ls++[L],css++[cs'],hk',rfl,?_,?_⟩,by simp [intOf]; omega⟩
  ·rw [List.take_succ_eq_append_getElem hk']
   exact hg.snoc hT hT.length
  ·simp only [List.flatten_append,List.flatten_cons,List.flatten_nil,List.append_nil,be]
   exact hI
 ·have:k=p.length:=by omega
  subst this
  rw [List.take_length] at hg
  exact ⟨_,_,_,rfl,hI,Ext.refl _ _ _,rfl,Ls,css,rfl,hg⟩
set_option maxHeartbeats 2000000 in
theorem iT {p r:List C} {S:Store} {v:Value} {i:Int} {b:Bool} (hr:UB p i r b) (h:RdSl S 5 (RdC S) v p) (hw:p.length+wP p<=1048576):Tri Tryz.prog pF [v,.int .i64 i] [] S (Fp r b):=by
 intro w hI
 refine iW ?_
 unfold fm
 refine Run.callPure je jH hI (gh i h hw) fun w' hI=>?_
 refine r_not ?_
 rcases hr with ⟨hu,rfl,rfl⟩|⟨hu,os,hos,hcase⟩
 ·rw [hu]
  refine condV (fun _=>?_) (fun hb=>by cases hb)
  exact ⟨_,_,_,rfl,hI,Ext.refl _ _ _,_,[],rfl,rfl,TrSl.nil (by simp [maxLen])⟩
 rw [hu]
 refine condV (fun hb=>by cases hb) (fun _=>?_)
 obtain ⟨hpv,j,hj,rfl,hfst⟩:=tO hu
 obtain ⟨g,gs,hbd,hpl⟩:=dt hfst
 obtain ⟨hp20,hpall⟩:=oQ hpv
 obtain ⟨hosw,hosl,hqw⟩:=DS hu hos
 rw [wW hj hbd] at hos
 rw [Int.toNat_natCast] at hos
 have hunf:∀ os,p7 p j os=(p.take j++gH os)++p.drop (j+1):=fun os=>by rw [p7,Int.toNat_natCast]
 rw [hunf] at hcase hqw
 have hbne:p[j].body≠[]:=by rw [hbd]; simp
 have hbl:0<p[j].body.length:=by rw [hbd]; simp
 have hg0:p[j].body[0]=g:=by simp [hbd]
 obtain ⟨vb,vo,vcap,rfl⟩:=h.some (by omega)
 obtain ⟨c1,E1,fz1,cs1,hS1,ec1,hR1⟩:=h.clauseAt hj
 have hlc1:=hR1.length
 have hwt:(p.take j).length+wP (p.take j)<=1048576:=by
  have:=Bz (b:=6000) (p:=p.take j) fun c hc=>(hpall c (List.mem_of_mem_take hc)).2
  have h2:(p.take j).length<=20:=by simp only [List.length_take]; omega
  have h3:(p.take j).length * 6000<=20 * 6000:=Nat.mul_le_mul_right _ h2
  omega
 have hwd:(p.drop (j+1)).length+wP (p.drop (j+1))<=1048576:=by
  have:=Bz (b:=6000) (p:=p.drop (j+1)) fun c hc=>(hpall c (List.mem_of_mem_drop hc)).2
  have h2:(p.drop (j+1)).length<=20:=by simp only [List.length_drop]; omega
  have h3:(p.drop (j+1)).length * 6000<=20 * 6000:=Nat.mul_le_mul_right _ h2
  omega
 refine Cu aB h (by omega) fun v3 e3=>?_
 refine Run.call0 gW gP hI (ju e3 hwt) fun v4 I' S' w'=>?_
 rintro ⟨eS,Ls0,css0,rfl,hg00⟩ _ hI
 rw [eS] at hI
 have hI:Inv w [] (au v4 af 5 css0::az Ls0.flatten) S w':=hI
 refine BS hI h aB ax al hj fun cs' hcs'=>?_
 obtain ⟨hd,ks',rfl,h1,h2⟩:=hcs'
 obtain ⟨kv,rfl,_⟩:=RdT.iff.1 h1
 refine ⟨ks',rfl,?_⟩
 refine r_elem (i:=0) hI h2 aj ag hbl (fun _ _=>RdT.length) fun cs' hcs'=>?_
 rw [hg0] at hcs'
 refine Run.callPure kI kD hI (ei hcs') fun w' hI=>?_
 refine Run.call0 dN dR hI (dr (bA g) h (by omega)) fun v1 I' S' w'=>?_
 rintro ⟨rfl,eS⟩ _ hI
 rw [eS] at hI
 have hI:Inv w [] ((au v4 af 5 css0::az Ls0.flatten)++[bv v1 (dh p g)]) S w':=hI
 obtain ⟨S1,hE1,hrd,hI⟩:=hI.lendExtR
 have hkr:=hrd.ints
 have hmem:∀ n∈dh p g,∃ m:Nat,n=m/\m<p.length:=fun n hn=>zp hn
 have hll:(dh p g).length<=p.length:=kK _ p 0
 generalize dh p g=ks at hkr hmem hll hos
 obtain ⟨hol,hro⟩:=hos
 refine r_lenSl hkr bI ?_
 refine ⟨fun i t w'=>∃ (m:Nat) (Ls:List aD) (css:List (List Value)) (Sm:Store),m<=ks.length/\i=.int .i64 m/\(os.take m).all mE=true/\Grown 5 TrC Ls css (p.take j++gH (os.take m))/\Ext w.heap.size [] S1 Sm/\Inv w [] (au t af 5 css::az Ls.flatten) Sm w',
  fun i _ _=>ks.length - (intOf i).toNat,⟨0,Ls0,css0,S1,Nat.zero_le _,rfl,by rw [List.take_zero]; rfl,by rw [List.take_zero,gH,List.append_nil]; exact hg00,Ext.refl _ _ _,hI⟩,?_⟩
 intro t31 _ t6 _ _ _ _ _ _ _ _ _ _ _ _ t11 t10 t9 t47 t46 t45 t35 t44 t43 t42 t41 t40 t39 t38 t37 t36 _ _ _ _ w'
 rintro ⟨m,Ls,css,Sm,hm,rfl,hok,hGm,hEm,hI⟩
 refine r_lss ?_
 have hcl:=hGm.hc
 have hotl:=AW (os:=os.take m) fun o ho=>hosw o (List.mem_of_mem_take ho)
 have htl:(os.take m).length<=20:=by simp only [List.length_take]; omega
 have hcl20:css.length<=40:=by
  rw [hcl,List.length_append,List.length_take]
  omega
 refine condP (fun hmi=>?_) (fun hmi=>?_)
 ·have hm':m<ks.length:=by omega
  have hmo:m<os.length:=by omega
  obtain ⟨n,hn,hnp⟩:=hmem _ (List.getElem_mem hm')
  obtain ⟨_,hk1,hro1⟩:=hro m hm' hmo
  have hpn:p[ks[m].toNat]=p[n]:=by congr 1; omega
  rw [hpn] at hro1
  have hstep:=CC hmo
  have hclj:=hpall _ (List.getElem_mem hj)
  have hcln:=hpall _ (List.getElem_mem hnp)
  have hcase':mE os[m]=false->r=[]/\b=false:=fun hk=>by
   have:os.all mE=false:=by
    cases ha:os.all mE with
    | false=>rfl
    | true=>
     rw [List.all_eq_true] at ha
     rw [ha _ (List.getElem_mem hmo)] at hk
     cases hk
   rcases hcase with ⟨_,h1,h2⟩|⟨h1,_⟩
   ·exact ⟨h1,h2⟩
   ·rw [this] at h1; cases h1
  have hallm:mE os[m]=true->(os.take (m+1)).all mE=true:=fun hk=>CW hmo hok hk
  generalize os[m]=o at hro1 hstep hcase' hallm
  obtain ⟨c2,E2,fz2,cs2,hS2,ec2,hR2⟩:=h.clauseAt hnp
  have hlc2:=hR2.length
  have hEa:=hE1.trans hEm
  refine ⟨fun t w'=>∃ Ls' css' SN,Grown 5 TrC Ls' css' (p.take j++gH (os.take (m+1)))/\(os.take (m+1)).all mE=true/\Ext w.heap.size [] S1 SN/\Inv w [] (au t af 5 css'::az Ls'.flatten) SN w',?_,?_⟩
  ·refine dg hI (hkr.mono hEm.1 fun _ _ h=>h) bI aC hm' (fun cs hcs=>hcs) ?_
   rw [hn]
   refine ⟨fun D x11 x10 x9 x47 x46 x45 x35 x44 x43 x42 x41 x40 x39 x38 x37 x36 w_=>(D 0=true->x36=.slice (some ⟨vb,vo,none⟩) p.length vcap)/\(D 1=true->x37=.int .i64 j)/\(D 2=true->x38=.pointer (some ⟨vb,vo+j * 5,none⟩))/\(D 3=true->x39=.agg (List.toArray cs1))/\(D 4=true->x40=.slice (some ⟨vb,vo,none⟩) p.length vcap)/\(D 5=true->x41=.int .i64 n)/\(D 6=true->x42=.pointer (some ⟨vb,vo+n * 5,none⟩))/\(D 7=true->x43=.agg (List.toArray cs2))/\(D 8=true->True)/\(D 9=true->True)/\(D 10=true->True)/\(D 11=true->x46=.bool (dX o))/\(D 12=true->x47=.bool (pb o))/\(D 13=true->True)/\(D 14=true->True)/\(D 15=true->x10=.bool (dX o))/\(D 16=true->x11=.bool (pb o))/\∃ SN G es b9 q9,Ext w.heap.size [] Sm SN/\(D 8=true->x44=.tuple #[.agg es.toArray,.bool (dX o),.bool (pb o)]/\TrC G es (clO o))/\(D 9=true->D 8=true/\x35=.tuple #[.agg es.toArray,.bool (dX o),.bool (pb o)])/\(D 10=true->D 8=true/\x45=.agg es.toArray)/\(D 13=true->x9=.pointer (some ⟨b9,0,none⟩))/\(D 14=true->D 8=true/\D 13=true/\q9=es.toArray)/\q9.size=5/\Inv w [] (au t6 af 5 css::(cond (D 13) [.blk b9 (.cells q9 af)] []++(az Ls.flatten++cond (D 8) (az G) []))) SN w_,⟨fun h=>Bool.noConfusion h,fun h=>Bool.noConfusion h,fun h=>Bool.noConfusion h,fun h=>Bool.noConfusion h,fun h=>Bool.noConfusion h,fun h=>Bool.noConfusion h,fun h=>Bool.noConfusion h,fun h=>Bool.noConfusion h,fun h=>Bool.noConfusion h,fun h=>Bool.noConfusion h,fun h=>Bool.noConfusion h,fun h=>Bool.noConfusion h,fun h=>Bool.noConfusion h,fun h=>Bool.noConfusion h,fun h=>Bool.noConfusion h,fun h=>Bool.noConfusion h,fun h=>Bool.noConfusion h,⟨Sm,[],[],0,#[.int .i64 0,.int .i64 0,.string ⟨#[]⟩,.slice none 0 0,.slice none 0 0],Ext.refl _ _ _,fun h=>Bool.noConfusion h,fun h=>Bool.noConfusion h,fun h=>Bool.noConfusion h,fun h=>Bool.noConfusion h,fun h=>Bool.noConfusion h,rfl,(by have:=hI.draw; simpa using this)⟩⟩,⟨?_,?_,?_,?_,?_,?_,?_,?_,?_,?_,?_,?_,?_,?_,?_,?_,?_,trivial⟩,?_⟩
   ·intro D hD_  x11 x10 x9 x47 x46 x45 x35 x44 x43 x42 x41 x40 x39 x38 x37 x36 w_
    rintro ⟨h0_,h1_,h2_,h3_,h4_,h5_,h6_,h7_,h8_,h9_,h10_,h11_,h12_,h13_,h14_,h15_,h16_,⟨SN,G,es,b9,q9,hN,e8,e9,e10,e13,e14,hq9,hI⟩⟩
    exact ⟨fun _=>rfl,h1_,h2_,h3_,h4_,h5_,h6_,h7_,h8_,h9_,h10_,h11_,h12_,h13_,h14_,h15_,h16_,⟨SN,G,es,b9,q9,hN,e8,e9,e10,e13,e14,hq9,hI⟩⟩
   ·intro D hD_  x11 x10 x9 x47 x46 x45 x35 x44 x43 x42 x41 x40 x39 x38 x37 x36 w_
    rintro ⟨h0_,h1_,h2_,h3_,h4_,h5_,h6_,h7_,h8_,h9_,h10_,h11_,h12_,h13_,h14_,h15_,h16_,⟨SN,G,es,b9,q9,hN,e8,e9,e10,e13,e14,hq9,hI⟩⟩
    exact ⟨h0_,fun _=>rfl,h2_,h3_,h4_,h5_,h6_,h7_,h8_,h9_,h10_,h11_,h12_,h13_,h14_,h15_,h16_,⟨SN,G,es,b9,q9,hN,e8,e9,e10,e13,e14,hq9,hI⟩⟩
   ·intro D hD_ d0_0 d1_1 x11 x10 x9 x47 x46 x45 x35 x44 x43 x42 x41 x40 x39 x38 x37 x36 w_
    rintro ⟨h0_,h1_,h2_,h3_,h4_,h5_,h6_,h7_,h8_,h9_,h10_,h11_,h12_,h13_,h14_,h15_,h16_,⟨SN,G,es,b9,q9,hN,e8,e9,e10,e13,e14,hq9,hI⟩⟩
    obtain rfl:=h0_ d0_0
    obtain rfl:=h1_ d1_1
    refine r_indexAddr (i:=j) aB hj ?_
    exact ⟨h0_,h1_,fun _=>rfl,h3_,h4_,h5_,h6_,h7_,h8_,h9_,h10_,h11_,h12_,h13_,h14_,h15_,h16_,⟨SN,G,es,b9,q9,hN,e8,e9,e10,e13,e14,hq9,hI⟩⟩
   ·intro D hD_ d2_0 x11 x10 x9 x47 x46 x45 x35 x44 x43 x42 x41 x40 x39 x38 x37 x36 w_
    rintro ⟨h0_,h1_,h2_,h3_,h4_,h5_,h6_,h7_,h8_,h9_,h10_,h11_,h12_,h13_,h14_,h15_,h16_,⟨SN,G,es,b9,q9,hN,e8,e9,e10,e13,e14,hq9,hI⟩⟩
    obtain rfl:=h2_ d2_0
    refine r_loadA (cs:=cs1) av hlc1 (fun j v hj=>by rw [hI.cellS ((hEa.trans hN).1 _ _ hS1)]; exact cellsAt_get ec1 j v hj) ?_
    exact ⟨h0_,h1_,h2_,fun _=>rfl,h4_,h5_,h6_,h7_,h8_,h9_,h10_,h11_,h12_,h13_,h14_,h15_,h16_,⟨SN,G,es,b9,q9,hN,e8,e9,e10,e13,e14,hq9,hI⟩⟩
   ·intro D hD_  x11 x10 x9 x47 x46 x45 x35 x44 x43 x42 x41 x40 x39 x38 x37 x36 w_
    rintro ⟨h0_,h1_,h2_,h3_,h4_,h5_,h6_,h7_,h8_,h9_,h10_,h11_,h12_,h13_,h14_,h15_,h16_,⟨SN,G,es,b9,q9,hN,e8,e9,e10,e13,e14,hq9,hI⟩⟩
    exact ⟨h0_,h1_,h2_,h3_,fun _=>rfl,h5_,h6_,h7_,h8_,h9_,h10_,h11_,h12_,h13_,h14_,h15_,h16_,⟨SN,G,es,b9,q9,hN,e8,e9,e10,e13,e14,hq9,hI⟩⟩
   ·intro D hD_  x11 x10 x9 x47 x46 x45 x35 x44 x43 x42 x41 x40 x39 x38 x37 x36 w_
    rintro ⟨h0_,h1_,h2_,h3_,h4_,h5_,h6_,h7_,h8_,h9_,h10_,h11_,h12_,h13_,h14_,h15_,h16_,⟨SN,G,es,b9,q9,hN,e8,e9,e10,e13,e14,hq9,hI⟩⟩
    exact ⟨h0_,h1_,h2_,h3_,h4_,fun _=>rfl,h6_,h7_,h8_,h9_,h10_,h11_,h12_,h13_,h14_,h15_,h16_,⟨SN,G,es,b9,q9,hN,e8,e9,e10,e13,e14,hq9,hI⟩⟩
   ·intro D hD_ d4_0 d5_1 x11 x10 x9 x47 x46 x45 x35 x44 x43 x42 x41 x40 x39 x38 x37 x36 w_
    rintro ⟨h0_,h1_,h2_,h3_,h4_,h5_,h6_,h7_,h8_,h9_,h10_,h11_,h12_,h13_,h14_,h15_,h16_,⟨SN,G,es,b9,q9,hN,e8,e9,e10,e13,e14,hq9,hI⟩⟩
    obtain rfl:=h4_ d4_0
    obtain rfl:=h5_ d5_1
    refine r_indexAddr (i:=n) aB hnp ?_
    exact ⟨h0_,h1_,h2_,h3_,h4_,h5_,fun _=>rfl,h7_,h8_,h9_,h10_,h11_,h12_,h13_,h14_,h15_,h16_,⟨SN,G,es,b9,q9,hN,e8,e9,e10,e13,e14,hq9,hI⟩⟩
   ·intro D hD_ d6_0 x11 x10 x9 x47 x46 x45 x35 x44 x43 x42 x41 x40 x39 x38 x37 x36 w_
    rintro ⟨h0_,h1_,h2_,h3_,h4_,h5_,h6_,h7_,h8_,h9_,h10_,h11_,h12_,h13_,h14_,h15_,h16_,⟨SN,G,es,b9,q9,hN,e8,e9,e10,e13,e14,hq9,hI⟩⟩
    obtain rfl:=h6_ d6_0
    refine r_loadA (cs:=cs2) av hlc2 (fun j v hj=>by rw [hI.cellS ((hEa.trans hN).1 _ _ hS2)]; exact cellsAt_get ec2 j v hj) ?_
    exact ⟨h0_,h1_,h2_,h3_,h4_,h5_,h6_,fun _=>rfl,h8_,h9_,h10_,h11_,h12_,h13_,h14_,h15_,h16_,⟨SN,G,es,b9,q9,hN,e8,e9,e10,e13,e14,hq9,hI⟩⟩
   ·intro D hD_ d3_0 d7_1 x11 x10 x9 x47 x46 x45 x35 x44 x43 x42 x41 x40 x39 x38 x37 x36 w_
    rintro ⟨h0_,h1_,h2_,h3_,h4_,h5_,h6_,h7_,h8_,h9_,h10_,h11_,h12_,h13_,h14_,h15_,h16_,⟨SN,G,es,b9,q9,hN,e8,e9,e10,e13,e14,hq9,hI⟩⟩
    obtain rfl:=h3_ d3_0
    obtain rfl:=h7_ d7_1
    rw [hD_] at hI
    refine Run.call0E tl te hI (oI hclj.1 hcln.1 (by omega) (by omega) hbne hro1 (hR1.mono (hEa.trans hN).1) (hR2.mono (hEa.trans hN).1)) fun v' I' SN w_=>?_
    rintro ⟨es,G,rfl,rfl,hG⟩ hl_ hI
    have hN:=hN.trans hl_
    have e9:=fun (h:setD D 8 9=true)=>(absurd (e9 h).1 (by rw [hD_]; decide):setD D 8 8=true/\x35=.tuple #[.agg es.toArray,.bool (dX o),.bool (pb o)])
    have e10:=fun (h:setD D 8 10=true)=>(absurd (e10 h).1 (by rw [hD_]; decide):setD D 8 8=true/\x45=.agg es.toArray)
    have e14:=fun (h:setD D 8 14=true)=>(absurd (e14 h).1 (by rw [hD_]; decide):setD D 8 8=true/\setD D 8 13=true/\q9=es.toArray)
    have e8:=fun (_:setD D 8 8=true)=>(⟨rfl,hG⟩:Value.tuple #[.agg es.toArray,.bool (dX o),.bool (pb o)]=.tuple #[.agg es.toArray,.bool (dX o),.bool (pb o)]/\TrC G es (clO o))
    have hI:Inv w [] (au t6 af 5 css::(cond (D 13) [.blk b9 (.cells q9 af)] []++(az Ls.flatten++cond true (az G) []))) SN w_:=by simpa using hI
    exact ⟨h0_,h1_,h2_,h3_,h4_,h5_,h6_,h7_,fun _=>by first|assumption|trivial,h9_,h10_,h11_,h12_,h13_,h14_,h15_,h16_,⟨SN,G,es,b9,q9,hN,e8,e9,e10,e13,e14,hq9,hI⟩⟩
   ·intro D hD_ d8_0 x11 x10 x9 x47 x46 x45 x35 x44 x43 x42 x41 x40 x39 x38 x37 x36 w_
    rintro ⟨h0_,h1_,h2_,h3_,h4_,h5_,h6_,h7_,h8_,h9_,h10_,h11_,h12_,h13_,h14_,h15_,h16_,⟨SN,G,es,b9,q9,hN,e8,e9,e10,e13,e14,hq9,hI⟩⟩
    have g8_:=h8_ d8_0
    have e9:=fun (_:setD D 9 9=true)=>(⟨d8_0,(e8 d8_0).1⟩:setD D 9 8=true/\x44=.tuple #[.agg es.toArray,.bool (dX o),.bool (pb o)])
    exact ⟨h0_,h1_,h2_,h3_,h4_,h5_,h6_,h7_,h8_,fun _=>by first|assumption|trivial,h10_,h11_,h12_,h13_,h14_,h15_,h16_,⟨SN,G,es,b9,q9,hN,e8,e9,e10,e13,e14,hq9,hI⟩⟩
   ·intro D hD_ d9_0 x11 x10 x9 x47 x46 x45 x35 x44 x43 x42 x41 x40 x39 x38 x37 x36 w_
    rintro ⟨h0_,h1_,h2_,h3_,h4_,h5_,h6_,h7_,h8_,h9_,h10_,h11_,h12_,h13_,h14_,h15_,h16_,⟨SN,G,es,b9,q9,hN,e8,e9,e10,e13,e14,hq9,hI⟩⟩
    have g9_:=h9_ d9_0
    obtain ⟨f8,q5⟩:=e9 d9_0
    subst q5
    refine r_extract rfl ?_
    have e10:=fun (_:setD D 10 10=true)=>(⟨f8,rfl⟩:setD D 10 8=true/\Value.agg es.toArray=.agg es.toArray)
    exact ⟨h0_,h1_,h2_,h3_,h4_,h5_,h6_,h7_,h8_,h9_,fun _=>by first|assumption|trivial,h11_,h12_,h13_,h14_,h15_,h16_,⟨SN,G,es,b9,q9,hN,e8,e9,e10,e13,e14,hq9,hI⟩⟩
   ·intro D hD_ d9_0 x11 x10 x9 x47 x46 x45 x35 x44 x43 x42 x41 x40 x39 x38 x37 x36 w_
    rintro ⟨h0_,h1_,h2_,h3_,h4_,h5_,h6_,h7_,h8_,h9_,h10_,h11_,h12_,h13_,h14_,h15_,h16_,⟨SN,G,es,b9,q9,hN,e8,e9,e10,e13,e14,hq9,hI⟩⟩
    have g9_:=h9_ d9_0
    obtain ⟨f8,q5⟩:=e9 d9_0
    subst q5
    refine r_extract rfl ?_
    exact ⟨h0_,h1_,h2_,h3_,h4_,h5_,h6_,h7_,h8_,h9_,h10_,fun _=>rfl,h12_,h13_,h14_,h15_,h16_,⟨SN,G,es,b9,q9,hN,e8,e9,e10,e13,e14,hq9,hI⟩⟩
   ·intro D hD_ d9_0 x11 x10 x9 x47 x46 x45 x35 x44 x43 x42 x41 x40 x39 x38 x37 x36 w_
    rintro ⟨h0_,h1_,h2_,h3_,h4_,h5_,h6_,h7_,h8_,h9_,h10_,h11_,h12_,h13_,h14_,h15_,h16_,⟨SN,G,es,b9,q9,hN,e8,e9,e10,e13,e14,hq9,hI⟩⟩
    have g9_:=h9_ d9_0
    obtain ⟨f8,q5⟩:=e9 d9_0
    subst q5
    refine r_extract rfl ?_
    exact ⟨h0_,h1_,h2_,h3_,h4_,h5_,h6_,h7_,h8_,h9_,h10_,h11_,fun _=>rfl,h13_,h14_,h15_,h16_,⟨SN,G,es,b9,q9,hN,e8,e9,e10,e13,e14,hq9,hI⟩⟩
   ·intro D hD_  x11 x10 x9 x47 x46 x45 x35 x44 x43 x42 x41 x40 x39 x38 x37 x36 w_
    rintro ⟨h0_,h1_,h2_,h3_,h4_,h5_,h6_,h7_,h8_,h9_,h10_,h11_,h12_,h13_,h14_,h15_,h16_,⟨SN,G,es,b9,q9,hN,e8,e9,e10,e13,e14,hq9,hI⟩⟩
    rw [hD_] at hI
    refine r_alloc hI bd fun b9 w_ hI=>?_
    have e13:=fun (_:setD D 13 13=true)=>(rfl:Value.pointer (some ⟨b9,0,none⟩)=.pointer (some ⟨b9,0,none⟩))
    obtain ⟨q9,hqe_⟩:∃ q:Array Value,q=#[.int .i64 0,.int .i64 0,.string ⟨#[]⟩,.slice none 0 0,.slice none 0 0]:=⟨_,rfl⟩
    have hq9:q9.size=5:=by rw [hqe_]; rfl
    have e14:=fun (h:setD D 13 14=true)=>(absurd (e14 h).2.1 (by rw [hD_]; decide):setD D 13 8=true/\setD D 13 13=true/\q9=es.toArray)
    have hI:Inv w [] ((au t6 af 5 css::(az Ls.flatten++cond (D 8) (az G) []))++[.blk b9 (.cells q9 af)]) SN w_:=by rw [hqe_]; exact hI
    have hI:=hI.perm (M:=au t6 af 5 css::(cond true [.blk b9 (.cells q9 af)] []++(az Ls.flatten++cond (D 8) (az G) []))) ((List.perm_append_comm (l₁:=[.blk b9 (.cells q9 af)]) (l₂:=az Ls.flatten++cond (D 8) (az G) [])).cons _)
    exact ⟨h0_,h1_,h2_,h3_,h4_,h5_,h6_,h7_,h8_,h9_,h10_,h11_,h12_,fun _=>by first|assumption|trivial,h14_,h15_,h16_,⟨SN,G,es,b9,q9,hN,e8,e9,e10,e13,e14,hq9,hI⟩⟩
   ·intro D hD_ d13_0 d10_1 d8_2 d0_3 d1_4 d2_5 d3_6 d4_7 d5_8 d6_9 d7_10 d8_11 d9_12 d10_13 d13_14 x11 x10 x9 x47 x46 x45 x35 x44 x43 x42 x41 x40 x39 x38 x37 x36 w_
    rintro ⟨h0_,h1_,h2_,h3_,h4_,h5_,h6_,h7_,h8_,h9_,h10_,h11_,h12_,h13_,h14_,h15_,h16_,⟨SN,G,es,b9,q9,hN,e8,e9,e10,e13,e14,hq9,hI⟩⟩
    have g13_:=h13_ d13_0
    have g10_:=h10_ d10_1
    have q8:=e13 d13_0
    obtain ⟨f8,q7⟩:=e10 d10_1
    have hT:=(e8 f8).2
    subst q8
    subst q7
    rw [d13_0] at hI
    refine ao hI 1 rfl av (by simpa using hT.length) hq9 (by simpa using hT.one) fun w_ hI=>?_
    have hq9:es.toArray.size=5:=by simpa using hT.length
    obtain ⟨q9,hqe_⟩:∃ q:Array Value,q=es.toArray:=⟨_,rfl⟩
    have e14:=fun (_:setD D 14 14=true)=>(⟨f8,d13_0,hqe_⟩:setD D 14 8=true/\setD D 14 13=true/\q9=es.toArray)
    have hI:Inv w [] (au t6 af 5 css::(cond (setD D 14 13) [.blk b9 (.cells q9 af)] []++(az Ls.flatten++cond (D 8) (az G) []))) SN w_:=by rw [show setD D 14 13=D 13 from rfl,d13_0,hqe_]; exact hI
    rw [<- hqe_] at hq9
    exact ⟨h0_,h1_,h2_,h3_,h4_,h5_,h6_,h7_,h8_,h9_,h10_,h11_,h12_,h13_,fun _=>trivial,h15_,h16_,⟨SN,G,es,b9,q9,hN,e8,e9,e10,e13,e14,hq9,hI⟩⟩
   ·intro D hD_ d11_0 d14_1 d0_2 d1_3 d2_4 d3_5 d4_6 d5_7 d6_8 d7_9 d8_10 d9_11 d10_12 d11_13 d13_14 d14_15 x11 x10 x9 x47 x46 x45 x35 x44 x43 x42 x41 x40 x39 x38 x37 x36 w_
    rintro ⟨h0_,h1_,h2_,h3_,h4_,h5_,h6_,h7_,h8_,h9_,h10_,h11_,h12_,h13_,h14_,h15_,h16_,⟨SN,G,es,b9,q9,hN,e8,e9,e10,e13,e14,hq9,hI⟩⟩
    obtain rfl:=h11_ d11_0
    exact ⟨h0_,h1_,h2_,h3_,h4_,h5_,h6_,h7_,h8_,h9_,h10_,h11_,h12_,h13_,h14_,fun _=>rfl,h16_,⟨SN,G,es,b9,q9,hN,e8,e9,e10,e13,e14,hq9,hI⟩⟩
   ·intro D hD_ d12_0 d15_1 d0_2 d1_3 d2_4 d3_5 d4_6 d5_7 d6_8 d7_9 d8_10 d9_11 d10_12 d11_13 d12_14 d13_15 d14_16 d15_17 x11 x10 x9 x47 x46 x45 x35 x44 x43 x42 x41 x40 x39 x38 x37 x36 w_
    rintro ⟨h0_,h1_,h2_,h3_,h4_,h5_,h6_,h7_,h8_,h9_,h10_,h11_,h12_,h13_,h14_,h15_,h16_,⟨SN,G,es,b9,q9,hN,e8,e9,e10,e13,e14,hq9,hI⟩⟩
    obtain rfl:=h12_ d12_0
    exact ⟨h0_,h1_,h2_,h3_,h4_,h5_,h6_,h7_,h8_,h9_,h10_,h11_,h12_,h13_,h14_,h15_,fun _=>rfl,⟨SN,G,es,b9,q9,hN,e8,e9,e10,e13,e14,hq9,hI⟩⟩
   intro D d16_ d15_ d14_ d13_ d12_ d11_ d10_ d9_ d8_ d7_ d6_ d5_ d4_ d3_ d2_ d1_ d0_ x11 x10 x9 x47 x46 x45 x35 x44 x43 x42 x41 x40 x39 x38 x37 x36 w_
   rintro ⟨h0_,h1_,h2_,h3_,h4_,h5_,h6_,h7_,h8_,h9_,h10_,h11_,h12_,h13_,h14_,h15_,h16_,⟨SN,G,es,b9,q9,hN,e8,e9,e10,e13,e14,hq9,hI⟩⟩
   obtain rfl:=h16_ d16_
   obtain rfl:=h15_ d15_
   have g13_:=h13_ d13_
   obtain rfl:=h12_ d12_
   obtain rfl:=h11_ d11_
   have g10_:=h10_ d10_
   have g9_:=h9_ d9_
   have g8_:=h8_ d8_
   obtain rfl:=h7_ d7_
   obtain rfl:=h6_ d6_
   obtain rfl:=h5_ d5_
   obtain rfl:=h4_ d4_
   obtain rfl:=h3_ d3_
   obtain rfl:=h2_ d2_
   obtain rfl:=h1_ d1_
   obtain rfl:=h0_ d0_
   clear h0_ h1_ h2_ h3_ h4_ h5_ h6_ h7_ h8_ h9_ h10_ h11_ h12_ h13_ h14_ h15_ h16_
   have q8:=e13 d13_
   subst q8
   obtain ⟨_,_,qe⟩:=e14 d14_
   subst qe
   have hT:=(e8 d8_).2
   rw [d13_,d8_] at hI
   clear e8 e9 e10 e13 e14
   have hI:Inv w [] ([au t6 af 5 css,.blk b9 (.cells es.toArray af)]++(az Ls.flatten++az G)) SN w_:=hI
   refine ⟨fun t w'=>t=.bool (!mE o)/\Inv w [] ([au t6 af 5 css,.blk b9 (.cells es.toArray af)]++(az Ls.flatten++az G)) SN w',?_,?_⟩
   ·rw [<- CA]
    cases hf:dX o
    ·repeat (first|refine ac ?_|refine ae (by decide) ?_|refine ad ?_|refine ai ?_|refine ah ?_)
     exact ⟨rfl,hI⟩
    repeat (first|refine ac ?_|refine ae (by decide) ?_|refine ad ?_|refine ai ?_|refine ah ?_)
    refine r_not ?_
    repeat (first|refine ac ?_|refine ae (by decide) ?_|refine ad ?_|refine ai ?_|refine ah ?_)
    exact ⟨rfl,hI⟩
   intro t _ _ _ _ w'
   rintro ⟨rfl,hI⟩
   cases hk:mE o
   ·refine condV (fun _=>?_) (fun hb=>by cases hb)
    obtain ⟨rfl,rfl⟩:=hcase' hk
    exact ⟨_,_,_,rfl,hI.sub (List.nil_sublist _),hE1.trans (hEm.trans hN),_,[],rfl,rfl,TrSl.nil (by simp [maxLen])⟩
   refine condV (fun hb=>by cases hb) (fun _=>?_)
   cases hf:dX o
   ·refine condV (fun hb=>by cases hb) (fun _=>?_)
    refine ⟨Ls,css,SN,?_,hallm hk,hEm.trans hN,hI.sub ?_⟩
    ·rw [hstep,Dc hf,List.append_nil]
     exact hGm
    ·exact (((List.sublist_append_left _ _).cons _).cons_cons _)
   ·refine condV (fun _=>?_) (fun hb=>by cases hb)
    refine r_loadW hI 1 av rfl (by simpa using hT.length) ?_
    refine bx hI 0 es bP (by omega) (by omega) rfl hT.length hT.one (by omega) (by omega) fun v' w' hI=>?_
    refine ⟨Ls++[G],css++[es],SN,?_,hallm hk,hEm.trans hN,?_⟩
    ·rw [hstep,DH hf hk,<- List.append_assoc]
     exact hGm.snoc hT hT.length
    ·have hI:Inv w [] (au v' af 5 (css++[es])::(az Ls.flatten++az G)) SN w':=hI.sub ((List.sublist_cons_self _ _).cons_cons _)
     simp only [List.flatten_append,List.flatten_cons,List.flatten_nil,List.append_nil,be]
     exact hI
  intro t6' _ _ _ _ _ _ _ _ _ _ _ _ _ _ _ _ _ _ _ _ _ _ _ _ _ _ _ _ _ _ _ w'
  rintro ⟨Ls',css',SN,hGN,hokN,hEN,hI⟩
  refine r_add (by omega) ?_
  exact ⟨⟨m+1,Ls',css',SN,hm',rfl,hokN,hGN,hEN,hI⟩,by simp [intOf]; omega⟩
 ·have hme:m=os.length:=by omega
  subst hme
  rw [List.take_length] at hok hGm
  refine r_add (by omega) ?_
  rw [show ((j:Int)+1)=((j+1:Nat):Int) by omega]
  refine dF aB h (by omega) fun v8 e8=>?_
  have hEa:=hE1.trans hEm
  refine Run.call0 gW gP hI (ju (e8.monoC hEa.1) hwd) fun v9 I' S' w'=>?_
  rintro ⟨eS,Ls2,css2,rfl,hg2⟩ _ hI
  rw [eS] at hI
  have hc2:=hg2.hc
  have hc2':css2.length<=20:=by rw [hc2,List.length_drop]; omega
  have hI:=hI.perm (M:=au t6 af 5 css::au v9 af 5 css2::(az Ls.flatten++az Ls2.flatten)) (List.Perm.cons _ (List.perm_middle (l₁:=az Ls.flatten) (l₂:=az Ls2.flatten)).symm)
  refine yh hI 0 1 bP (by omega) rfl rfl hg2.hk hg2.one (by omega) (by omega) fun v10 w' hI=>?_
  have hGq:=hGm.append hg2
  have hI:Inv w [] (au v10 af 5 (css++css2)::(az Ls.flatten++az Ls2.flatten)) Sm w':=hI.sub ((List.sublist_cons_self _ _).cons_cons _)
  have hI:Inv w [] ([]++(au v10 af 5 (css++css2)::az (Ls++Ls2).flatten)) Sm w':=by
   rw [List.flatten_append,be]
   exact hI
  obtain ⟨M,hT,hI⟩:=Inv.rowTree (R:=TrC) hI hGq
  obtain ⟨S2,hle2,hins,hI,hback⟩:=Inv.lendAll M hI
  have hrr:RdSl S2 5 (RdC S2) v10 ((p.take j++gH os)++p.drop (j+1)):=hT.rd hins fun _ _ _ hi h=>h.rd hi
  generalize hq:(p.take j++gH os)++p.drop (j+1)=q at hrr hqw hcase hT
  rw [hok] at hcase
  refine Run.callPure cV dc hI (cE hrr) fun w' hI=>?_
  have hI:=hback _ _ hI
  refine r_not ?_
  rcases hcase with ⟨h0,_⟩|⟨_,⟨hv,rfl,rfl⟩|⟨hv,rfl,rfl⟩⟩
  ·cases h0
  ·rw [hv]
   refine condV (fun hb=>by cases hb) (fun _=>?_)
   exact ⟨_,_,_,rfl,hI,hEa,_,M,rfl,rfl,hT⟩
  ·rw [hv]
   refine condV (fun _=>?_) (fun hb=>by cases hb)
   exact ⟨_,_,_,rfl,hI.sub (List.nil_sublist _),hEa,_,[],rfl,rfl,TrSl.nil (by simp [maxLen])⟩

end Go.Proofs.YtmnnpgdeecnfpaaGreat

/- What calls what, and what can be reached: both sides. -/
namespace Go.Proofs.YtmnnpgdeecnfpaaGreat
open Go Go.RowKit
attribute [local irreducible] Run CondV GuardV LoadV

end Go.Proofs.YtmnnpgdeecnfpaaGreat

/- The graph of calls: the plain form. -/
namespace Go.Proofs.YtmnnpgdeecnfpaaGreat
open Go Go.RowKit
attribute [local irreducible] Run CondV GuardV LoadV

/- what may still come in -/
/- rows of predicates: their length, an element -/
section
variable {P:Program} {w w0:World} {X:List Nat} {L:List Item} {S:Store} {K:Value->World->Prop}
end

end Go.Proofs.YtmnnpgdeecnfpaaGreat

/- What the clauses for a name call: both sides. -/
namespace Go.Proofs.YtmnnpgdeecnfpaaGreat
open Go Go.RowKit
attribute [local irreducible] Run CondV GuardV LoadV

/- the program's side goes over the clauses' numbers -/
end Go.Proofs.YtmnnpgdeecnfpaaGreat

/- What some predicates can lead to: both sides. -/
namespace Go.Proofs.YtmnnpgdeecnfpaaGreat
open Go Go.RowKit
attribute [local irreducible] Run CondV GuardV LoadV

end Go.Proofs.YtmnnpgdeecnfpaaGreat

/- Which predicates can lead to themselves: both sides. -/
namespace Go.Proofs.YtmnnpgdeecnfpaaGreat
open Go Go.RowKit
attribute [local irreducible] Run CondV GuardV LoadV

end Go.Proofs.YtmnnpgdeecnfpaaGreat

/- PredsOf, CallsOf, ReachOf: both sides. -/
namespace Go.Proofs.YtmnnpgdeecnfpaaGreat
open Go Go.RowKit
attribute [local irreducible] Run CondV GuardV LoadV

end Go.Proofs.YtmnnpgdeecnfpaaGreat

/- A predicate that comes in: its size, its copy, its reading. -/
namespace Go.Proofs.YtmnnpgdeecnfpaaGreat
open Go Go.ChangeShapes Go.WideShapes Go.ChangeAt Go.RowKit
section
attribute [local irreducible] Run CondV GuardV LoadV
end
theorem two {cs:List Value} (h:cs.length=2):∃ a b,cs=[a,b]:=by
 match cs,h with
 | [a,b],_=>exact ⟨a,b,rfl⟩
end Go.Proofs.YtmnnpgdeecnfpaaGreat

/- spec.l14Pred, DrawPredsOf, DrawCallsOf, DrawRecursivePred. -/
namespace Go.Proofs.YtmnnpgdeecnfpaaGreat
open Go Go.RowKit
theorem Inv.lendRow {w0 w:World} {X:List Nat} {A:List Item} {S:Store} {v:Value} {e:TypeId} {k n:Nat} {xs:List Value} (h:Inv w0 X (A++[.row v e k n xs]) S w) :
  ∃ S',Ext w0.heap.size X S S'/\RowRd S' v e k n xs/\Inv w0 X A S' w:=by
 obtain ⟨hl,ho⟩:=h.openRow
 rcases ho with ⟨rfl,h0⟩|⟨g,cap,cur,rfl,hnc,hcm,hcs,ht,hI⟩
 ·exact ⟨S,Ext.refl _ _ _,⟨hl,.inl ⟨rfl,h0⟩⟩,h.sub (List.sublist_append_left _ _)⟩
 ·obtain ⟨S',h1,h2,h3⟩:=Inv.pub1 (A:=A) hI
  exact ⟨S',h2,⟨hl,.inr ⟨g,cap,cur,rfl,h3,hnc,hcm,hcs,ht⟩⟩,h1⟩
section
variable {br:Nat} {sl:Value} {ys:List Nat}
attribute [local irreducible] Run CondV GuardV LoadV
theorem Pd.one (x:Pd):∀ u∈x.cells,u.oneCell'=true:=by
 intro u hu
 have hu':u∈([.string x.name,.int .i64 x.arity]:List Value):=hu
 simp at hu'
 rcases hu' with rfl|rfl <;> rfl
end
end Go.Proofs.YtmnnpgdeecnfpaaGreat

/- What the laws compare with: pgPreds, pgPred, impl.ClauseSame, pgClauses; bytes that come in. -/
namespace Go.Proofs.YtmnnpgdeecnfpaaGreat
open Go Go.ChangeShapes Go.WideShapes Go.ChangeAt Go.RowKit
theorem FA:Tryz.prog.underlying xH=some (.int .u8):=by kernel_rfl
theorem El {H:Type} {enc:TypeId × Value->H} {W:World} {sp:Nat->Bool} {held:Bool} {fuel:Nat} {cs:List Value} {x:DataW H × List MemPlace} (h:DataW.trod enc Tryz.prog W 0 sp held fuel xH cs=some x) :
  ∃ n,eV cs n:=by
 cases fuel with
 | zero=>simp [DataW.trod] at h
 | succ n=>
  unfold DataW.trod at h
  rw [FA] at h
  split at h <;> simp_all
  rename_i k1 k2 m he
  subst he
  obtain ⟨⟨_,h⟩,_⟩:=h
  simp only [Lit.wf,Bool.and_eq_true,decide_eq_true_eq] at h
  have h1:0<=m/\m<=255:=h
  exact ⟨m.toNat,by rw [eV,Int.toNat_of_nonneg (by omega)]; exact ⟨rfl,by omega⟩⟩
theorem Be {H:Type} {enc:TypeId × Value->H} {W:World} {sp:Nat->Bool} {held:Bool} {fuel:Nat} {v:Value} {x:DataW H × List MemPlace} (h:DataW.trod enc Tryz.prog W 0 sp held fuel yV [v]=some x) :
  ∃ ys,RdSl (BQ W) 1 eV v ys:=EG bw (by omega) h fun _ _ _ _ hy=>El hy
section
variable {w0 w:World} {X:List Nat} {L:List Item} {S:Store} {K:Value->World->Prop}
attribute [local irreducible] Run CondV GuardV LoadV
theorem Fd {P:Program} {T:TypeId} {cx cy:Bool} {a b:Bool} (hu:P.underlying T=some .bool) (hk:K (.bool (a == b)) w):Run P (sBin .eql T cx cy (.bool a) (.bool b)) w K:=
 Run.of (by
  have he:(Op.equal T (.bool a) (.bool b)).run P w=.ok (a == b) w:=by
   rw [Op.equal,Op.maxDepth,Op.equalIn.eq_def]
   simp [run_underlying hu]
  simp only [sBin,binOp,Sem.run_bind,eqGuard_bool,Result.andThen_ok,he,Sem.run_pure]) hk
end
end Go.Proofs.YtmnnpgdeecnfpaaGreat

/- FnCanUnfold returns true, whatever bytes come in: the walk. -/
namespace Go.Proofs.YtmnnpgdeecnfpaaGreat
open Go Go.RowKit
theorem Light.fits {q:List C} (h:Light 30 900 q):q.length+wP q<=1048576:=by
 have:=h.le; omega
theorem Do {p:List C} {i:Int} (h:dy p i=true):cR p=true/\∃ (j:Nat) (hj:j<p.length) (g:T) (gs:List T),i=j/\p[j].body=g::gs/\cj g=true/\bz g=true/\0<(dh p g).length/\kr (dh p g) i=false:=by
 rw [dy,Bool.and_eq_true,Bool.and_eq_true,decide_eq_true_eq] at h
 obtain ⟨hv,h0,hc⟩:=h
 refine ⟨hv,?_⟩
 split at hc
 ·cases hc
 rename_i c hcp
 obtain ⟨hj,rfl⟩:=List.getElem?_eq_some_iff.1 hcp
 rw [yd] at hc
 split at hc
 ·cases hc
 rename_i g gs hb
 simp only [Bool.and_eq_true,decide_eq_true_eq,List.all_eq_true] at hc
 obtain ⟨h1,h2,_,h4⟩:=hc
 have hcl:aH p[i.toNat]=true:=by
  rw [cR,Bool.and_eq_true,List.all_eq_true] at hv
  exact hv.2 _ (List.getElem_mem hj)
 have hg:bz g=true:=by
  rw [aH] at hcl
  simp only [Bool.and_eq_true,List.all_eq_true] at hcl
  have:=hcl.2.1 g (by rw [hb]; exact List.mem_cons_self ..)
  rw [cw,Bool.and_eq_true] at this
  exact this.1
 refine ⟨i.toNat,hj,g,gs,by rw [Int.toNat_of_nonneg h0],hb,h1,hg,h2,?_⟩
 cases he:kr (dh p g) i
 ·rfl
 ·rw [kr,List.any_eq_true] at he
  obtain ⟨n,hn,e⟩:=he
  have:=h4 n hn
  have e:i=n:=of_decide_eq_true e
  rw [e] at this
  simp at this
section
variable {S:Store} {ys:List Nat} {v:Value}
attribute [local irreducible] Run CondV GuardV LoadV
theorem Bi (s:Int) {xs:List Int} {v:Value} (h:RdSl S 1 gr v xs):Pure Tryz.prog DM [v,.int .i64 s] S (.bool (kr xs s)):=by
 intro w hI
 have hlen:=h.le
 simp only [maxLen] at hlen
 refine xF ?_
 unfold vL
 refine ⟨fun i w'=>∃ k:Nat,k<=xs.length/\i=.int .i64 k/\kr (xs.drop k) s=kr xs s/\Inv w [] [] S w',fun i _=>xs.length - (intOf i).toNat,⟨0,Nat.zero_le _,rfl,rfl,hI⟩,?_⟩
 intro t5 _ _ _ _ _ _ _ _ _ _ _ _ _ w'
 rintro ⟨k,hk,rfl,hrel,hI⟩
 refine r_lenSl h bI ?_
 refine r_lss ?_
 refine condP (fun hki=>?_) (fun hki=>?_)
 ·have hk':k<xs.length:=by omega
  have hstep:kr (xs.drop k) s=(decide (s=xs[k]) || kr (xs.drop (k+1)) s):=uk _ xs k hk'
  refine dg hI h bI aC hk' (fun cs hcs=>hcs) ?_
  refine r_eql ?_
  refine condP (fun he=>done hI ?_) (fun he=>?_)
  ·rw [<- hrel,hstep,decide_eq_true he.symm]; rfl
  ·refine r_add (by omega) ?_
   exact ⟨⟨k+1,hk',rfl,by rw [<- hrel,hstep,decide_eq_false (fun e=>he e.symm)]; rfl,hI⟩,by simp [intOf]; omega⟩
 ·have:k=xs.length:=by omega
  subst this
  exact done hI (by rw [<- hrel,List.drop_length]; rfl)
theorem gl {p:List C} {u:Value} {g:T} {cs:List Value} (h:RdSl S 5 (RdC S) u p) (hg:RdT S cs g) (hv:cR p=true) (hgv:bz g=true) (hgp:cj g=true) (hp:p.length<=2000000) :
  Tri Tryz.prog tW [u,.agg cs.toArray] [] S (yL S (dh p g)):=by
 intro w hI
 have hl4:=hg.length
 refine lP ?_
 unfold ie
 refine r_box hI fun b3 w' hI=>?_
 have hI:Inv w [] [.blk b3 (.cells cs.toArray ab)] S w':=hI
 refine ⟨fun t w'=>t=.bool false/\Inv w [] [.blk b3 (.cells cs.toArray ab)] S w',?_,?_⟩
 ·refine Run.callPure cV dc hI (cE h) fun w' hI=>?_
  rw [hv]
  refine r_not ?_
  repeat (first|refine ac ?_|refine ae (by decide) ?_|refine ad ?_|refine ai ?_|refine ah ?_)
  refine r_loadW hI 0 ag rfl (by simpa using hl4) ?_
  refine Run.callPure eM eH hI (dv hg) fun w' hI=>?_
  rw [hgv]
  refine r_not ?_
  repeat (first|refine ac ?_|refine ae (by decide) ?_|refine ad ?_|refine ai ?_|refine ah ?_)
  refine r_loadW hI 0 ag rfl (by simpa using hl4) ?_
  refine Run.callPure eh ek hI (dB hg) fun w' hI=>?_
  rw [hgp]
  refine r_not ?_
  repeat (first|refine ac ?_|refine ae (by decide) ?_|refine ad ?_|refine ai ?_|refine ah ?_)
  exact ⟨rfl,hI⟩
 intro t17 _ _ _ _ _ _ _ _ _ _ _ _ w'
 rintro ⟨rfl,hI⟩
 refine condV (fun hb=>by cases hb) (fun _=>?_)
 refine r_loadW hI 0 ag rfl (by simpa using hl4) ?_
 refine Run.callPure kI kD hI (ei hg) fun w' hI=>?_
 refine Run.call0E dN dR hI (dr (bA g) h hp) fun t21 I' S' w'=>?_
 rintro ⟨rfl,rfl⟩ _ hI
 exact ⟨_,_,_,rfl,hI.pick [false,true],Ext.refl _ _ _,rfl,rfl⟩
theorem ve (h:RdSl S 1 eV v ys):Pure Tryz.prog aZ [v] S (.bool true):=by
 intro w hI
 refine kM ?_
 unfold gp
 refine r_lenSl h bw ?_
 refine r_gtr ?_
 refine condP (fun _=>done hI rfl) (fun _=>?_)
 refine Run.call0E mi mf hI (ld h) fun t10 I' S1 w'=>?_
 rintro ⟨rfl,p,q,i,rfl,hi,hq,hl⟩ hE1 hI
 have hw:=hl.fits
 have hI:Inv w [] [] S1 w':=hI
 refine r_extract (v:=p) rfl ?_
 refine r_extract (v:=.int .i64 i) rfl ?_
 refine Run.callPure je jH hI (gh i hq hw) fun w' hI=>?_
 obtain ⟨r,b,hub⟩:=UB.ex q i
 refine Run.call0E oO ob hI (iT hub hq hw) fun t22 I' S2 w'=>?_
 rintro ⟨u2,M,rfl,rfl,_⟩ hE2 hI
 have hI:Inv w [] [] S2 w':=hI.nil
 have hq:=hq.monoC hE2.1
 have hle:=hE1.1.trans hE2.1
 refine r_extract (v:=u2) rfl ?_
 refine r_extract (v:=.bool b) rfl ?_
 refine ⟨fun t w'=>t=.bool (!dy q i)/\Inv w [] [] S2 w',?_,?_⟩
 ·refine Run.callPure jU kA hI (fO i hq hw) fun w' hI=>?_
  refine r_bneq r6 ?_
  rw [beq_self_eq_true]
  repeat (first|refine ac ?_|refine ae (by decide) ?_|refine ad ?_|refine ai ?_|refine ah ?_)
  refine r_not ?_
  repeat (first|refine ac ?_|refine ae (by decide) ?_|refine ad ?_|refine ai ?_|refine ah ?_)
  exact ⟨rfl,hI⟩
 intro t33 _ _ _ _ _ _ _ _ w'
 rintro ⟨rfl,hI⟩
 refine condV (fun hb=>?_) (fun hb=>?_)
 ·have hu:dy q i=false:=by simpa using hb
  have hbf:b=false:=by
   rcases hub with ⟨_,_,h⟩|⟨h,_⟩
   ·exact h
   ·rw [hu] at h; cases h
  refine Run.callPure jU kA hI (fO i hq hw) fun w' hI=>?_
  refine Fd r6 ?_
  rw [beq_self_eq_true,hbf]
  repeat (first|refine ac ?_|refine ae (by decide) ?_|refine ad ?_|refine ai ?_|refine ah ?_)
  refine r_not ?_
  repeat (first|refine ac ?_|refine ae (by decide) ?_|refine ad ?_|refine ai ?_|refine ah ?_)
  exact ff hI hle rfl
 ·have hu:dy q i=true:=by simpa using hb
  obtain ⟨hv,j,hj,g,gs,rfl,hbd,hgp,hgv,hfl,hin⟩:=Do hu
  obtain ⟨bb,o,cap,c1,E,fz,hp,hS,hd,kb,he,hh,hbr⟩:=hq.at_ hj
  rw [hbd] at hbr
  obtain ⟨b2,o2,cap2,c2,E2,fz2,hkb,hS2,hR2⟩:=hbr.at_ (i:=0) (by simp)
  have hR2:RdT S2 (cellsAt c2 (o2+0 * 4) 4) g:=hR2
  have hget:c1[bb * 0+(o+j * 5+4)]?=some kb:=by
   rw [Nat.mul_zero,Nat.zero_add]
   refine cellsAt_get he 4 kb ?_
   rw [List.getElem?_append_right (by rw [hh.length]; exact Nat.le_refl _),hh.length]
   rfl
  rw [Nat.mul_zero,Nat.zero_add] at hget
  have hstep:∀ {w'':World} {S3:Store} {K:Value->World->Prop},Inv w [] [] S3 w''->Sle S2 S3->K (.agg (cellsAt c2 (o2+0 * 4) 4).toArray) w''->
    Run Tryz.prog (sOp (.indexAddr bT (.const p) (.const (.int .i64 j))) 0) w'' fun t w2=>Run Tryz.prog (sOp (.fieldAddr af (.const t) 1) 0) w2 fun t w3=>Run Tryz.prog (sOp (.load eK (.const t)) eK) w3 fun t w4=>
     Run Tryz.prog (sOp (.indexAddr eK (.const t) (.const (.int .i64 0))) 0) w4 fun t w5=>Run Tryz.prog (sOp (.load ab (.const t)) ab) w5 K:=by
   intro w'' S3 K hI hle hk
   rw [hp]
   refine r_indexAddr aB hj ?_
   refine r_field ax ?_
   refine r_load al (v:=kb) ((hI.cellS (hle _ _ hS)).trans hget) ?_
   rw [hkb]
   refine r_indexAddr (i:=0) aj (by simp) ?_
   exact r_loadA ag hR2.length (fun j v hj=>by rw [hI.cellS (hle _ _ hS2)]; exact cellsAt_get rfl j v hj) hk
  rw [hp]
  refine r_indexAddr aB hj ?_
  refine r_field ax ?_
  refine r_load al (v:=kb) ((hI.cellS hS).trans hget) ?_
  rw [hkb]
  refine r_len aj ?_
  refine sn (by simp) ?_
  repeat (first|refine ac ?_|refine ae (by decide) ?_|refine ad ?_|refine ai ?_|refine ah ?_)
  rw [<- hp]
  refine hstep hI (Sle.refl _) ?_
  refine Run.call0E hO gS hI (gl hq hR2 hv hgv hgp (by omega)) fun t59 I' S3 w'=>?_
  rintro ⟨rfl,rfl⟩ _ hI
  obtain ⟨S4,hE4,hrow,hI⟩:=Inv.lendRow (A:=[]) hI
  refine r_lenSl hrow.ints bI ?_
  refine sn (by omega) ?_
  repeat (first|refine ac ?_|refine ae (by decide) ?_|refine ad ?_|refine ai ?_|refine ah ?_)
  refine hstep hI hE4.1 ?_
  refine Run.call0E hO gS hI (gl (hq.monoC hE4.1) (hR2.mono hE4.1) hv hgv hgp (by omega)) fun t72 I' S5 w'=>?_
  rintro ⟨rfl,rfl⟩ _ hI
  obtain ⟨S6,hE6,hrow6,hI⟩:=Inv.lendRow (A:=[]) hI
  refine Run.callPure Cz Cs hI (Bi j hrow6.ints) fun w' hI=>?_
  rw [hin]
  refine r_not ?_
  repeat (first|refine ac ?_|refine ae (by decide) ?_|refine ad ?_|refine ai ?_|refine ah ?_)
  exact ff hI (hle.trans (hE4.1.trans hE6.1)) rfl
end
end Go.Proofs.YtmnnpgdeecnfpaaGreat

/- What every row of this seat owes beside its walk: the arguments read again as they did, and nothing that was there has turned. -/
namespace Go.Proofs.YtmnnpgdeecnfpaaGreat
open Go Go.ChangeShapes Go.WideShapes Go.ChangeAt Go.RowKit

theorem Tryz.own:ownKnob Tryz.prog.godebug=none:=by kernel_rfl
theorem Tryz.kids:Kids Tryz.prog (·<Tryz.prog.types.size):=kids_rows (by kernel_rfl) (by kernel_rfl)
theorem Tryz.full:∀ t e,t<Tryz.prog.types.size->Tryz.prog.underlying t=some (.slice e)->0<Tryz.prog.cellsOf e:=slices_full_of Tryz.prog (by kernel_rfl)
section
variable {H:Type} {enc:TypeId × Value->H} {W W':World}
theorem yk {P:Program}:∀ {ts:List TypeId} {vs:List Value} {ds:List (DataW H)} {ps:List MemPlace},DataW.TrodAll enc P W 0 (fun _=>true) true ts vs ds ps->(∀ p∈ps,W.sameAt W' p)->
  DataW.TrodAll enc P W' 0 (fun _=>true) true ts vs ds ps
 | [],[],[],_,h,_=>h
 | _::_,_::_,_::_,_,⟨p,q,⟨n,h1⟩,h2,e⟩,hs=>
  ⟨p,q,⟨n,DataW.trod_carry n _ _ _ h1 fun x hx=>hs x (by rw [e]; exact List.mem_append_left _ hx)⟩,yk h2 fun x hx=>hs x (by rw [e]; exact List.mem_append_right _ hx),e⟩
theorem Er {p:MemPlace} (h:∀ b,b<W.heap.size->W'.heap[b]?=W.heap[b]?) (hp:p.block<W.heap.size):W.sameAt W' p:=by
 cases p with
 | cell b off=>simp only [World.sameAt,World.cell?]; rw [h b hp]
 | map b=>exact h b hp
/- a function of the program whose walk ends with 'true' and with all that was there as it was: the row's 'post' -/
theorem Ci {f:Func} {s:ChangeSpec} {args:Array Value} {ds gs:List (DataW H)} {before p q:List MemPlace}
  (hW:DataW.Whole enc Tryz.prog f.params.toList s.vars false W args.toList ds gs before) (hA:DataW.TrodAll enc Tryz.prog W 0 (fun _=>true) true f.params.toList args.toList ds p)
  (hV:DataW.TrodVars enc Tryz.prog W (fun _=>true) s.vars gs q) (hb:before=p++q) (hv:s.vars=[]) (hts:∀ t∈f.params.toList,t<Tryz.prog.types.size) (hr:f.resultTypes=#[Bc])
  (hs:(s.fn H (ds++gs)).results=[.lit (.bool true)]) (ha:(s.fn H (ds++gs)).args=ds) (hsv:(s.fn H (ds++gs)).vars=[]) (hI:Inv W [] [] (BQ W) W') :
  s.post enc Tryz.prog f false true false false W args (.bool true) W':=by
 have hsame:∀ b,b<W.heap.size->W'.heap[b]?=W.heap[b]?:=fun b hb=>hI.same b hb
 have hlt:=hW.lt
 rw [hv] at hV
 obtain ⟨hg,hq⟩:=trodVars_none hV
 subst hq
 rw [List.append_nil] at hb
 subst hb
 have hA':=yk (W':=W') hA fun x hx=>Er hsame (hlt x hx)
 refine ⟨ds,gs,before,[],before,[],hW,?_,?_,?_,CE hI.os hI.output hsame,fun h=>by cases h⟩
 ·rw [hs,hr]
  exact trodAll_mk1 (shut_bool r6 true)
 ·rw [ha]
  exact DataW.TrodAll.respare Tryz.kids Tryz.full hts hA' fun x hx=>by simpa using hlt x hx
 ·rw [hv,hsv]
  rfl
end

end Go.Proofs.YtmnnpgdeecnfpaaGreat
