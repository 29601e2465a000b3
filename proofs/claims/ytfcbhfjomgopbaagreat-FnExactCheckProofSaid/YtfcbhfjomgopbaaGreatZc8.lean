/- CallBuiltin on both sides: whether a goal holds without binding anything. -/
import Derived.Test.YtfcbhfjomgopbaaGreatZc5
import Derived.Test.YtfcbhfjomgopbaaGreatZc7
import Derived.Test.YtfcbhfjomgopbaaGreatZc4
import Derived.Test.YtfcbhfjomgopbaaGreatZc2
namespace Go.Proofs.YtfcbhfjomgopbaaGreat
open Go Go.RowKit
def EU:a6:=List.replicate 26 none
theorem Ae:∀ n:Nat,unb (List.replicate n none)=n
 | 0=>rfl
 | n+1=>by rw [List.replicate_succ,unb,Ae n]
theorem jj (N:Nat):Good N (List.replicate N none):=⟨by simp,fun t ht=>by simp at ht,fun t ht=>by simp at ht,fun n=>n,fun n u hu=>by
 have:=List.mem_of_getElem? hu
 simp at this⟩
theorem KnU.zero (z:Array Value) (hz:z=#[.int .i64 0,.int .i64 0,.string ⟨#[]⟩,.slice none 0 0]) (S:ar) (N:Nat):KnU S ((Array.range (N * 4)).map (z[· % z.size]!)) (List.replicate N none):=by
 subst hz
 refine ⟨by simp,fun i hi=>⟨fun _=>?_,fun t ht=>?_⟩⟩
 ·simp only [List.length_replicate] at hi
  apply List.ext_getElem?
  intro j
  rw [ba,List.getElem?_take]
  match j with
  | 0|1|2|3=>
   rw [if_pos (by omega),List.getElem?_drop,Array.getElem?_toList,Array.getElem?_map,Array.getElem?_range,if_pos (by omega)]
   simp only [Option.map_some,List.size_toArray,List.length_cons,List.length_nil]
   first
    | rw [show (i * 4+0) % 4=0 by omega]; rfl
    | rw [show (i * 4+1) % 4=1 by omega]; rfl
    | rw [show (i * 4+2) % 4=2 by omega]; rfl
    | rw [show (i * 4+3) % 4=3 by omega]; rfl
  | j+4=>
   rw [if_neg (by omega)]
   rfl
 ·have e:(List.replicate N (none:Option T))[i]=none:=by simp
  rw [e] at ht
  cases ht
def ng (code:Int) (st:a6):Bool:=decide (code=0) && st.all Option.isNone
def CC (f:Bool):Value->List Item->ar->Prop:=fun q _ _=>∃ a n cap c,q=.tuple #[.slice a n cap,.int .i64 c]/\(decide (c=0) && decide (n=0))=f
theorem AD {st:a6} {j:Nat} (h:j<st.length):(st.take (j+1)).all Option.isNone=((st.take j).all Option.isNone && st[j].isNone):=by
 rw [List.take_succ_eq_append_getElem h,List.all_append]
 simp
theorem A0 {st:a6} {j:Nat} (h:j<st.length) {t:T} (hs:st[j]=some t):st.all Option.isNone=false:=by
 rw [List.all_eq_false]
 exact ⟨st[j],List.getElem_mem h,by rw [hs]; simp⟩
section
variable {w:World} {K:Value->World->Prop}
attribute [local irreducible] Run CondV ak bg
theorem sQ {n:Int} {cs:List Value} (h4:cs.length=4) (hk:K (.agg (([Value.int .i64 n]:List Value)++cs).toArray) w):Run Tryz.prog (dn cE [(0,.int .i64 n),(1,.agg cs.toArray)]) w K:=by
 match cs,h4 with
 | [a,b,c,d],_=>
  refine Run.of (v:=.agg #[.int .i64 n,a,b,c,d]) (w':=w) ?_ hk
  unfold dn
  rw [Sem.run_bind,run_build w cE _ #[.int .i64 n,a,b,c,d] (by kernel_rfl),Result.andThen_ok]
  rfl
set_option maxHeartbeats 1000000 in
theorem mR {g:T} {code:Int} {st':a6} (hv:db g=true) (hb:c9 g=true) (ho:okU 26 g/\wT g<=1048576) (hn:okN g) (hB:Blt EU g code st') {S:ar} {cs:List Value} (h:RdT S cs g) :
  Tri Tryz.prog tM [.agg cs.toArray] [] S (CC (ng code st')):=by
 intro w hI
 have hl4:=h.length
 have h0:=h
 have hg':=hB.good (jj 26) hb ho
 obtain ⟨kv,rfl,_,_,_,hks⟩:=RdT.iff.1 h
 have hbt:=hb
 rw [c9,Bool.and_eq_true] at hb
 obtain ⟨hk3,hbs⟩:=hb
 refine m9 ?_
 unfold ke;dsimp only
 refine bt hI fun b1 w' hI=>?_
 refine uJ hI mF fun v4 w' hI=>?_
 obtain ⟨a4,n4,c4,hv4⟩:=hI.rowSlice 1 rfl
 have hn4:n4=0:=by
  have hm:w'.ownsRow 0 cE 5 v4 0 []:=hI.its (.row v4 cE 5 0 []) (by simp)
  rcases hm.2 with ⟨e1,e2⟩|⟨g1,c1,u1,e1,_⟩
  ·rw [hv4] at e1; simp only [Value.slice.injEq] at e1; omega
  ·rw [hv4] at e1; simp only [Value.slice.injEq] at e1; omega
 rw [hn4] at hv4
 have hI:Inv w [] [.blk b1 (.cells #[.int .i64 g.kind,.int .i64 g.n,.string g.name,kv] ac),.row v4 cE 5 0 []] S w':=hI
 refine ⟨fun q w'=>q=.bool false/\Inv w [] [.blk b1 (.cells #[.int .i64 g.kind,.int .i64 g.n,.string g.name,kv] ac),.row v4 cE 5 0 []] S w',?_,?_⟩
 ·refine a8 hI 0 al rfl rfl ?_
  refine Run.callPure fT f8 hI (eV h0 (zo ho.2)) fun w' hI=>?_
  rw [hv]
  refine bJ ?_
  repeat (first|refine ab ?_|refine ad (by decide) ?_|refine aa ?_|refine af ?_|refine ag ?_)
  refine ah hI 0 rfl aU aR rfl ?_
  refine bQ ?_
  rw [hk3]
  repeat (first|refine ab ?_|refine ad (by decide) ?_|refine aa ?_|refine af ?_|refine ag ?_)
  refine ah hI 0 rfl bi bk rfl ?_
  refine ah hI 0 rfl aP aO rfl ?_
  refine a5 hks aC ?_
  refine Run.callPure fW fQ hI (eM _ _ S) fun w' hI=>?_
  rw [hbs]
  refine bJ ?_
  repeat (first|refine ab ?_|refine ad (by decide) ?_|refine aa ?_|refine af ?_|refine ag ?_)
  exact ⟨rfl,hI⟩
 intro q _ _ _ _ _ _ _ _ _ _ _ _ _ _ _ _ w'
 rintro ⟨rfl,hI⟩
 refine bd (fun hb=>by cases hb) (fun _=>?_)
 refine p9 (n:=26) hI gv (by omega) (by omega) (by omega) fun kb w' hI=>?_
 refine a8 hI 0 al rfl rfl ?_
 refine Run.callE (A:=[_,_]) zp zv hI (ud (kp:=26) (by omega) (by omega) (Nat.le_refl _) (by decide) (jj 26) ho hn hbt hB h0 (KnU.zero _ rfl S 26)) fun v' I' S1 w'=>?_
 rintro ⟨rfl,rfl,kc,rfl,hkn⟩ hE0 hI
 refine bQ ?_
 refine bd (fun hc=>?_) (fun hc=>?_)
 ·refine ⟨_,_,_,rfl,hI.nil,Ext.refl _ _ _,a4,0,c4,code,by rw [hv4],?_⟩
  have:code≠0:=by simpa using hc
  rw [ng,decide_eq_false this]
  rfl
 have hc0:code=0:=by simpa using hc
 subst hc0
 have hl26:=hg'.len
 refine uJ hI mF fun v7 w' hI=>?_
 refine ⟨fun t8 t7 w'=>∃ (j:Nat) (css:List (List Value)) (S2:ar),j<=26/\t8=.int .i64 j/\css.length<=j/\decide (css.length=0)=(st'.take j).all Option.isNone/\Ext w.heap.size [] S1 S2/\
   Inv w [] [.blk b1 (.cells #[.int .i64 g.kind,.int .i64 g.n,.string g.name,kv] ac),.row v4 cE 5 0 [],.blk kb (.cells kc ac),dL t7 cE 5 css] S2 w',
  fun t8 _ _=>26 - (intOf t8).toNat,⟨0,[],S1,Nat.zero_le _,rfl,Nat.le_refl _,by simp,Ext.refl _ _ _,hI⟩,?_⟩
 intro t8 _ _ t7 _ _ _ _ _ _ _ _ _ _ _ _ _ _ _ _ _ _ _ _ _ _ _ _ _ _ _ _ _ _ _ _ _ _ _ _ _ w'
 rintro ⟨j,css,S2,hj,rfl,hcl,hcs,hE2,hI⟩
 refine wl aC ?_
 refine bz ?_
 refine bf (fun hji=>?_) (fun hji=>?_)
 ·have hj':j<26:=by omega
  have hjl:j<st'.length:=by omega
  have hkn:=hkn.mono hE2.1
  have hro:=hkn.rdO j hjl
  have hroL:=hro.length
  have hnext:=AD (st:=st') hjl
  refine ⟨fun t7 w'=>∃ (css:List (List Value)) (S2:ar),css.length<=j+1/\decide (css.length=0)=(st'.take (j+1)).all Option.isNone/\Ext w.heap.size [] S1 S2/\
   Inv w [] [.blk b1 (.cells #[.int .i64 g.kind,.int .i64 g.n,.string g.name,kv] ac),.row v4 cE 5 0 [],.blk kb (.cells kc ac),dL t7 cE 5 css] S2 w',?_,?_⟩
  ·refine aT aC hj' ?_
   rw [Nat.zero_add]
   refine bb aU ?_
   cases hs:st'[j] with
   | none=>
    rw [hs] at hro hnext
    refine bj (v:=.int .i64 0) hI 2 aR rfl (aS (k:=4) hro 0 _ rfl) ?_
    refine bu ?_
    rw [decide_eq_true rfl]
    refine bd (fun _=>?_) (fun hb=>by cases hb)
    exact ⟨css,S2,by omega,by rw [hcs,hnext]; simp,hE2,hI⟩
   | some t=>
    rw [hs] at hro hnext
    have hro:RdT S2 (ba kc (j * 4) 4) t:=hro
    have hall:=A0 hjl hs
    have hmem:some t∈st':=by rw [<- hs]; exact List.getElem_mem hjl
    have hto:=hg'.ok t hmem
    have htw:=hg'.w t hmem
    have hko:=hto.kind
    refine bj (v:=.int .i64 t.kind) hI 2 aR rfl (aS rfl 0 _ hro.f0) ?_
    refine bu ?_
    rw [decide_eq_false hko]
    refine bd (fun hb=>by cases hb) (fun _=>?_)
    refine aT aC hj' ?_
    rw [Nat.zero_add]
    refine bY hI 2 (ba kc (j * 4) 4) al rfl hro.length (fun i v hi=>aS rfl i v hi) ?_
    obtain ⟨u,hu⟩:=BP hg' t hto
    have hfull:FC 26 26 st' t u:=zB hg' hu ⟨hto,htw⟩
    have hI:=hI.perm (M:=[.blk b1 (.cells #[.int .i64 g.kind,.int .i64 g.n,.string g.name,kv] ac),.row v4 cE 5 0 [],dL t7 cE 5 css]++[.blk kb (.cells kc ac)]) (((List.Perm.swap ..).cons _).cons _)
    refine Run.callE (A:=[_,_,_]) sa sR hI (hfull S2 _ kb kc 120 hro hkn (by omega) (by omega)) fun v' I' S3 w'=>?_
    rintro ⟨rfl,ds,hdl,hd1,rfl,hdr⟩ hE3 hI
    refine be (v:=.agg ds.toArray) rfl ?_
    refine be (v:=.int .i64 _) rfl ?_
    refine bC hI bA fun b9 w' hI=>?_
    refine bq hI 4 rfl al (by simpa using hdl) rfl (by simpa using hd1) fun w' hI=>?_
    have hI:Inv w [] [.blk b1 (.cells #[.int .i64 g.kind,.int .i64 g.n,.string g.name,kv] ac),.row v4 cE 5 0 [],dL t7 cE 5 css,.blk kb (.cells kc ac),.blk b9 (.cells ds.toArray ac)] S3 w':=hI
    refine ⟨fun q w'=>∃ b,q=.bool b/\Inv w [] [.blk b1 (.cells #[.int .i64 g.kind,.int .i64 g.n,.string g.name,kv] ac),.row v4 cE 5 0 [],dL t7 cE 5 css,.blk kb (.cells kc ac),.blk b9 (.cells ds.toArray ac)] S3 w',?_,?_⟩
    ·refine bz ?_
     by_cases hroom:dk u<=120
     ·rw [if_pos hroom,decide_eq_false (by omega)]
      repeat (first|refine ab ?_|refine ad (by decide) ?_|refine aa ?_|refine af ?_|refine ag ?_)
      refine a8 hI 4 al rfl (by simpa using hdl) ?_
      refine Run.callPure fT f8 hI (eV (hdr hroom) (by omega)) fun w' hI=>?_
      refine bJ ?_
      repeat (first|refine ab ?_|refine ad (by decide) ?_|refine aa ?_|refine af ?_|refine ag ?_)
      exact ⟨_,rfl,hI⟩
     ·rw [if_neg hroom,decide_eq_true (by omega)]
      repeat (first|refine ab ?_|refine ad (by decide) ?_|refine aa ?_|refine af ?_|refine ag ?_)
      exact ⟨_,rfl,hI⟩
    intro q _ _ _ _ _ _ w'
    rintro ⟨b,rfl,hI⟩
    refine bd (fun hb=>?_) (fun hb=>?_)
    ·refine ⟨_,_,_,rfl,hI.nil,(hE0.trans (hE2.trans hE3)),a4,0,c4,5,by rw [hv4],?_⟩
     rw [ng,hall]
     rfl
    ·refine a8 hI 4 al rfl (by simpa using hdl) ?_
     refine sQ hdl ?_
     obtain ⟨xs,hxs⟩:∃ xs:List Value,xs=[Value.int .i64 (j:Int)]++ds:=⟨_,rfl⟩
     have hxl:xs.length=5:=by rw [hxs]; simp [hdl]
     have hx1:∀ u∈xs,u.oneCell'=true:=by
      intro u hu
      rw [hxs] at hu
      rcases List.mem_append.1 hu with hu|hu
      ·simp at hu; subst hu; rfl
      ·exact hd1 u hu
     rw [<- hxs]
     refine mG (css:=css) hI 2 xs mF (by omega) (by omega) rfl hxl hx1 (by omega) (by omega) fun v' w' hI=>?_
     have hI:Inv w [] [.blk b1 (.cells #[.int .i64 g.kind,.int .i64 g.n,.string g.name,kv] ac),.row v4 cE 5 0 [],dL v' cE 5 (css++[xs]),.blk kb (.cells kc ac),.blk b9 (.cells ds.toArray ac)] S3 w':=hI
     refine ⟨css++[xs],S3,by simp; omega,?_,hE2.trans hE3,?_⟩
     ·rw [hnext]; simp
     ·exact (hI.pick [true,true,true,true]).perm (((List.Perm.swap ..).cons _).cons _)
  intro t7 _ _ _ _ _ _ _ _ _ _ _ _ _ _ _ _ _ _ _ _ _ _ _ _ _ _ _ _ _ _ _ _ _ w'
  rintro ⟨css,S2,h1,h2,h3,hI⟩
  refine b0 (by omega) ?_
  exact ⟨⟨j+1,css,S2,by omega,rfl,h1,h2,h3,hI⟩,by simp [intOf]; omega⟩
 ·have:j=26:=by omega
  subst this
  obtain ⟨a7,n7,c7,hv7⟩:=hI.rowSlice 3 rfl
  have hn7:n7=css.length:=by
   have hm:w'.ownsRow 0 cE 5 t7 css.length css.flatten:=hI.its (dL t7 cE 5 css) (by simp)
   rcases hm.2 with ⟨e1,e2⟩|⟨g1,c1,u1,e1,_⟩
   ·rw [hv7] at e1; simp only [Value.slice.injEq] at e1; omega
   ·rw [hv7] at e1; simp only [Value.slice.injEq] at e1; omega
  refine ⟨_,_,_,rfl,hI.nil,hE0.trans hE2,a7,n7,c7,0,by rw [hv7],?_⟩
  rw [hn7,hcs,ng,<- hl26,List.take_length]
set_option maxHeartbeats 1000000 in
theorem pW {st:a6} (hg:Good 26 st) {S:ar} {sb:Nat} (hst:StS S S sb st):Tri Tryz.prog wV [.pointer (some ⟨sb,0,none⟩)] [] S
  fun q _ _=>∃ a n cap b,q=.tuple #[.slice a n cap,.bool b]/\(b && decide (n=0))=st.all Option.isNone:=by
 intro w hI
 have hI:Inv w [] [] S w:=hI
 have hl26:=hg.len
 refine qi ?_
 unfold lA
 have hI:=hI.rowNil cE 5
 refine ⟨fun t9 t4 w'=>∃ (j:Nat) (css:List (List Value)) (S2:ar),j<=26/\t9=.int .i64 j/\css.length<=j/\decide (css.length=0)=(st.take j).all Option.isNone/\Ext w.heap.size [] S S2/\Inv w [] [dL t4 cE 5 css] S2 w',
  fun t9 _ _=>26 - (intOf t9).toNat,⟨0,[],S,Nat.zero_le _,rfl,Nat.le_refl _,by simp,Ext.refl _ _ _,hI⟩,?_⟩
 intro t9 _ t4 _ _ _ _ _ _ _ _ _ _ _ _ _ _ _ _ _ _ _ _ _ _ _ _ _ _ _ _ _ _ _ _ _ w'
 rintro ⟨j,css,S2,hj,rfl,hcl,hcs,hE2,hI⟩
 have hstj:=hst.up hE2.1
 obtain ⟨mb,tv,es,ck,E,hsb,hmb,hkm⟩:=id hstj
 refine bz ?_
 refine bf (fun hji=>?_) (fun hji=>?_)
 ·have hj':j<26:=by omega
  have hjl:j<st.length:=by omega
  have hnext:=AD (st:=st) hjl
  refine ⟨fun t4 w'=>∃ (css:List (List Value)) (S2:ar),css.length<=j+1/\decide (css.length=0)=(st.take (j+1)).all Option.isNone/\Ext w.heap.size [] S S2/\Inv w [] [dL t4 cE 5 css] S2 w',?_,?_⟩
  ·refine bR ?_
   refine bb iP ?_
   refine fj (v:=.map (some mb)) nG (by rw [hI.cellS hsb]; rfl) ?_
   cases hs:st[j] with
   | none=>
    rw [hs] at hnext
    have hf:Instr.findNow (.int .i64) (.int .i64 j) es.toList 0=some none:=by
     rcases hkm.find j with ⟨_,_,u,_,_,_,_,hu⟩|⟨_,hf⟩
     ·rw [List.getElem?_eq_getElem hjl,hs] at hu; cases hu
     ·exact hf
    refine iB (c:=true) (v:=.agg #[.int .i64 0,.int .i64 0,.string ⟨#[]⟩,.slice none 0 0]) (ok:=false) ((hI.pub _ _ hmb).1) dg fD bA (.inr ⟨hf,rfl,rfl⟩) ?_
    refine be (v:=.agg #[.int .i64 0,.int .i64 0,.string ⟨#[]⟩,.slice none 0 0]) rfl ?_
    refine be (v:=.bool false) rfl ?_
    refine bC hI bA fun b6 w' hI=>?_
    refine bq hI 1 rfl al rfl rfl (by simp [Value.oneCell']) fun w' hI=>?_
    refine bJ ?_
    refine bd (fun _=>?_) (fun hb=>by cases hb)
    exact ⟨css,S2,by omega,by rw [hcs,hnext]; simp,hE2,hI.pick [true]⟩
   | some t=>
    rw [hs] at hnext
    have hall:=A0 hjl hs
    have hmem:some t∈st:=by rw [<- hs]; exact List.getElem_mem hjl
    have hto:=hg.ok t hmem
    have htw:=hg.w t hmem
    obtain ⟨cs,hf,hR⟩:∃ cs,(∃ i,Instr.findNow (.int .i64) (.int .i64 j) es.toList 0=some (some (i,.agg (List.toArray cs))))/\RdT S2 cs t:=by
     rcases hkm.find j with ⟨i,v,u,cs,hf,rfl,hR,hu⟩|⟨hno,_⟩
     ·rw [List.getElem?_eq_getElem hjl,hs] at hu
      cases hu
      exact ⟨cs,⟨i,hf⟩,hR⟩
     ·exact absurd (by rw [List.getElem?_eq_getElem hjl,hs]) (hno t)
    obtain ⟨i,hf⟩:=hf
    refine iB (c:=true) (v:=.agg cs.toArray) (ok:=true) ((hI.pub _ _ hmb).1) dg fD bA (.inl ⟨i,hf,rfl⟩) ?_
    refine be (v:=.agg cs.toArray) rfl ?_
    refine be (v:=.bool true) rfl ?_
    refine bC hI bA fun b6 w' hI=>?_
    refine bq hI 1 rfl al (by simpa using hR.length) rfl (by simpa using hR.one) fun w' hI=>?_
    refine bJ ?_
    refine bd (fun hb=>by cases hb) (fun _=>?_)
    refine a8 hI 1 al rfl (by simpa using hR.length) ?_
    obtain ⟨u,hu⟩:=BP hg t hto
    refine Run.call0E n3 ob hI (xM hg hu ⟨hto,htw⟩ hR hstj) fun v' I' S3 w'=>?_
    rintro ⟨rfl,ds,hdl,hd1,rfl,hdr⟩ hE3 hI
    refine be (v:=.agg ds.toArray) rfl ?_
    refine be (v:=.bool (l6 u)) rfl ?_
    refine bC hI bA fun b8 w' hI=>?_
    refine bq hI 2 rfl al (by simpa using hdl) rfl (by simpa using hd1) fun w' hI=>?_
    have hI:Inv w [] [dL t4 cE 5 css,.blk b6 (.cells cs.toArray ac),.blk b8 (.cells ds.toArray ac)] S3 w':=hI
    refine bJ ?_
    refine bd (fun hb=>?_) (fun hb=>?_)
    ·refine ⟨_,_,_,rfl,hI.nil,hE2.trans hE3,none,0,0,false,rfl,?_⟩
     rw [hall]; rfl
    ·refine a8 hI 2 al rfl (by simpa using hdl) ?_
     refine sQ hdl ?_
     obtain ⟨xs,hxs⟩:∃ xs:List Value,xs=[Value.int .i64 (j:Int)]++ds:=⟨_,rfl⟩
     have hxl:xs.length=5:=by rw [hxs]; simp [hdl]
     have hx1:∀ u∈xs,u.oneCell'=true:=by
      intro u hu
      rw [hxs] at hu
      rcases List.mem_append.1 hu with hu|hu
      ·simp at hu; subst hu; rfl
      ·exact hd1 u hu
     rw [<- hxs]
     refine mG (css:=css) hI 0 xs mF (by omega) (by omega) rfl hxl hx1 (by omega) (by omega) fun v' w' hI=>?_
     refine ⟨css++[xs],S3,by simp; omega,?_,hE2.trans hE3,hI.pick [true]⟩
     rw [hnext]; simp
  intro t4 _ _ _ _ _ _ _ _ _ _ _ _ _ _ _ _ _ _ _ _ _ _ _ _ _ _ _ _ _ _ _ _ w'
  rintro ⟨css,S2,h1,h2,h3,hI⟩
  refine b0 (by omega) ?_
  exact ⟨⟨j+1,css,S2,by omega,rfl,h1,h2,h3,hI⟩,by simp [intOf]; omega⟩
 ·have:j=26:=by omega
  subst this
  obtain ⟨a7,n7,c7,hv7⟩:=hI.rowSlice 0 rfl
  have hn7:n7=css.length:=by
   have hm:w'.ownsRow 0 cE 5 t4 css.length css.flatten:=hI.its (dL t4 cE 5 css) (by simp)
   rcases hm.2 with ⟨e1,e2⟩|⟨g1,c1,u1,e1,_⟩
   ·rw [hv7] at e1; simp only [Value.slice.injEq] at e1; omega
   ·rw [hv7] at e1; simp only [Value.slice.injEq] at e1; omega
  refine ⟨_,_,_,rfl,hI.nil,hE2,a7,n7,c7,true,by rw [hv7],?_⟩
  rw [hn7,hcs,<- hl26,List.take_length,Bool.true_and]
set_option maxHeartbeats 1000000 in
theorem nb {g:T} {f:Bool} (hv:db g=true) (ho:okU 26 g/\wT g<=1048576) (hn:okN g) (hf:(c9 g=false/\f=false) ∨ (c9 g=true/\∃ code st',Blt EU g code st'/\f=ng code st')) {S:ar} {cs:List Value} (h:RdT S cs g) :
  Tri Tryz.prog tu [.agg cs.toArray] [] S (CC f):=by
 intro w hI
 have hI:Inv w [] [] S w:=hI
 have hl4:=h.length
 refine mO ?_
 unfold jF
 refine bt hI fun b1 w' hI=>?_
 have hI:Inv w [] [.blk b1 (.cells cs.toArray ac)] S w':=hI
 refine ⟨fun q w'=>q=.bool (!c9 g)/\Inv w [] [.blk b1 (.cells cs.toArray ac)] S w',?_,?_⟩
 ·refine a8 hI 0 al rfl (by simpa using hl4) ?_
  refine Run.callPure iE iv hI (gu h) fun w' hI=>?_
  rw [hv]
  refine bJ ?_
  repeat (first|refine ab ?_|refine ad (by decide) ?_|refine aa ?_|refine af ?_|refine ag ?_)
  refine a8 hI 0 al rfl (by simpa using hl4) ?_
  refine Run.callPure ib ic hI (gF h) fun w' hI=>?_
  refine bJ ?_
  repeat (first|refine ab ?_|refine ad (by decide) ?_|refine aa ?_|refine af ?_|refine ag ?_)
  exact ⟨rfl,hI⟩
 intro q _ _ _ _ _ _ _ w'
 rintro ⟨rfl,hI⟩
 rcases hf with ⟨hb,rfl⟩|⟨hb,code,st',hB,rfl⟩
 ·rw [hb]
  refine bd (fun _=>?_) (fun hb=>by cases hb)
  exact ⟨_,_,_,rfl,hI.nil,Ext.refl _ _ _,none,0,0,6,rfl,rfl⟩
 rw [hb]
 refine bd (fun hb=>by cases hb) (fun _=>?_)
 have hg':=hB.good (jj 26) hb ho
 refine Run.call0E wy wN hI (u4 S) fun v' I' S' w'=>?_
 rintro ⟨rfl,sb,mb,rfl,rfl⟩ hE1 hI
 refine a8 hI 0 al rfl (by simpa using hl4) ?_
 refine Run.callE (A:=[_]) tG ti hI (zd (by omega) (jj 26) ho hn hb hB h (KnownM.none _ 26) (by rw [Ae]; simp)) fun v' I' S' w'=>?_
 rintro ⟨rfl,rfl,es,ck,tv,tr,rfl,hkm,_,_⟩ hE2 hI
 refine bQ ?_
 refine bd (fun hc=>?_) (fun hc=>?_)
 ·refine ⟨_,_,_,rfl,hI.nil,Ext.refl _ _ _,none,0,0,code,rfl,?_⟩
  have:code≠0:=by simpa using hc
  rw [ng,decide_eq_false this]
  rfl
 have hc0:code=0:=by simpa using hc
 subst hc0
 have hI:=hI.perm (M:=[.blk b1 (.cells cs.toArray ac),em tv tr]++dP [(sb,.cells #[.map (some mb),tv] cI),(mb,.map es ck)]) (List.Perm.cons _ (List.perm_append_comm (l₁:=[em tv tr]) (l₂:=dP [(sb,.cells #[.map (some mb),tv] cI),(mb,.map es ck)])))
 obtain ⟨S3,hI,hE3,hins⟩:=Inv.pubExt hI
 have hst:StS S3 S3 sb st':=⟨mb,tv,es,ck,cI,hins _ (List.mem_cons_self ..),hins _ (List.mem_cons_of_mem _ (List.mem_cons_self ..)),hkm.up hE3.1⟩
 refine Run.call0E wc vm hI (pW hg' hst) fun v' I' S4 w'=>?_
 rintro ⟨a,n,cap,b,rfl,hbn⟩ hE4 hI
 refine be (v:=.slice a n cap) rfl ?_
 refine be (v:=.bool b) rfl ?_
 refine bJ ?_
 refine bd (fun hb=>?_) (fun hb=>?_)
 ·have hb:b=false:=by simpa using hb
  refine ⟨_,_,_,rfl,hI.nil,hE3.trans hE4,none,0,0,5,rfl,?_⟩
  rw [hb,Bool.false_and] at hbn
  rw [ng,<- hbn]
  rfl
 ·have hb:b=true:=by simpa using hb
  refine ⟨_,_,_,rfl,hI.nil,hE3.trans hE4,a,n,cap,0,rfl,?_⟩
  rw [hb,Bool.true_and] at hbn
  rw [ng,<- hbn]
end
end Go.Proofs.YtfcbhfjomgopbaaGreat

/- spec.DrawSubsumedClause. -/
namespace Go.Proofs.YtfcbhfjomgopbaaGreat
open Go Go.RowKit
section
variable {S:ar} {ys:List Nat} {v:Value}
attribute [local irreducible] Run CondV ak bg
end
end Go.Proofs.YtfcbhfjomgopbaaGreat

/- InstanceOf and FactsFor: both sides. -/
namespace Go.Proofs.YtfcbhfjomgopbaaGreat
open Go Go.RowKit

section
attribute [local irreducible] Run CondV ak bg
end

end Go.Proofs.YtfcbhfjomgopbaaGreat

/- Matching and substitution, in plain Lean: a match is found exactly if there is a substitution; subsumption is an order. -/
namespace Go.Proofs.YtfcbhfjomgopbaaGreat
open Go Go.RowKit
/- a substitution that a table knows -/
def Agk (σ:Int->T) (st:a6):Prop:=∀ (i:Nat) (t:T),st[i]?=some (some t)->σ i=t
def Gek (st st':a6):Prop:=st'.length=st.length/\∀ (i:Nat) (t:T),st[i]?=some (some t)->st'[i]?=some (some t)
theorem Gek.refl (st:a6):Gek st st:=⟨rfl,fun _ _ h=>h⟩
theorem Gek.trans {a b c:a6} (h:Gek a b) (h':Gek b c):Gek a c:=⟨h'.1.trans h.1,fun i t hi=>h'.2 i t (h.2 i t hi)⟩
theorem Agk.less {σ:Int->T} {a b:a6} (h:Agk σ b) (hg:Gek a b):Agk σ a:=fun i t hi=>h i t (hg.2 i t hi)
/- what is found is right -/
/- what is right is found -/
end Go.Proofs.YtfcbhfjomgopbaaGreat

/- FnSubsumedFact and FnSubsumedClause return true, whatever bytes come in: the walks. -/
namespace Go.Proofs.YtfcbhfjomgopbaaGreat
open Go Go.RowKit
section
variable {S:ar} {ys zs:List Nat} {v u:Value}
attribute [local irreducible] Run CondV ak bg
theorem RdC.cells {S:ar} {cs:List Value} {c:C} (h:RdC S cs c):∃ kv kb,cs=[.int .i64 c.head.kind,.int .i64 c.head.n,.string c.head.name,kv,kb]/\RdT S [.int .i64 c.head.kind,.int .i64 c.head.n,.string c.head.name,kv] c.head/\RdSl S 4 (RdT S) kb c.body:=by
 obtain ⟨hd,kb,rfl,h1,h2⟩:=h
 have h1':=h1
 obtain ⟨kv,rfl,_⟩:=RdT.iff.1 h1
 exact ⟨kv,kb,rfl,h1',h2⟩
end
end Go.Proofs.YtfcbhfjomgopbaaGreat

/- Proofs that are checked, on both sides. -/
namespace Go.Proofs.YtfcbhfjomgopbaaGreat
open Go Go.RowKit
mutual
theorem xU:∀ (t:T) (d:Int),er t d=true->okN t
 | .mk k n s ks,d,h=>by
  rw [er] at h
  split at h
  ·cases h
  rw [Bool.and_eq_true] at h
  obtain ⟨ho,hk⟩:=h
  rw [okN]
  refine ⟨fun e=>?_,vt ks _ hk⟩
  subst e
  have ho2:d3 (.mk 2 n s ks)=(decide (-999<=n) && (decide (n<=999) && (decide (s=emptyB) && decide (ks.length=0)))):=by
   rw [d3]; exact (if_neg (show ¬ (2:Int)=1 by decide)).trans (if_pos rfl)
  rw [ho2,Bool.and_eq_true,Bool.and_eq_true] at ho
  exact ⟨of_decide_eq_true ho.1,of_decide_eq_true ho.2.1⟩
theorem vt:∀ (ts:List T) (d:Int),ep ts d=true->xA ts
 | [],_,_=>by rw [xA]; trivial
 | t::ts,d,h=>by
  rw [ep,Bool.and_eq_true] at h
  rw [xA]
  exact ⟨xU t d h.1,vt ts d h.2⟩
end
theorem yd {t:T} (h:db t=true):okN t:=xU t 30 (ss h)
theorem yR {t:T} (h:db t=true):wT t<=840:=by
 have ho:=ii h
 have h1:=Dn t ho
 rw [db,Bool.and_eq_true] at h
 have h2:dk t<=120:=by simpa using h.2
 omega
theorem eF {g:T} (h:eg g=true):db g=true:=by
 rw [eg,Bool.and_eq_true] at h; exact h.1
theorem CS {g:T} (h:eg g=true):decide (g.kind=3)=true:=by
 rw [eg,Bool.and_eq_true,Bool.or_eq_true,Bool.or_eq_true] at h
 rcases h.2 with h|h|h
 ·rw [qU,Bool.and_eq_true] at h; exact h.1
 ·rw [gy,Bool.and_eq_true] at h; exact h.1
 ·rw [c9,Bool.and_eq_true] at h; exact h.1
def bltF (g:T) (f:Bool):Prop:=(c9 g=false/\f=false) ∨ (c9 g=true/\∃ code st',Blt EU g code st'/\f=ng code st')
theorem bltF.ex {g:T} (h:db g=true):∃ f,bltF g f:=by
 cases hb:c9 g with
 | false=>exact ⟨false,.inl ⟨hb,rfl⟩⟩
 | true=>
  have:=yR h
  obtain ⟨c,st',hB⟩:=Blt.ex (jj 26) hb ⟨ii h,by omega⟩
  exact ⟨_,.inr ⟨hb,c,st',hB,rfl⟩⟩
open Classical in
noncomputable def bltV (g:T):Bool:=if h:∃ f,bltF g f then h.choose else false
theorem uk {g:T} (h:db g=true):bltF g (bltV g):=by
 have he:=bltF.ex h
 rw [bltV,dif_pos he]
 exact he.choose_spec
/- one node of a proof, and all of them -/
def uH:List T->List PF->a6->Bool
 | g::gs,x::xs,st=>!qU g && ((bE g x.goal st).1 && uH gs xs (bE g x.goal st).2)
 | _,_,_=>true
noncomputable def nodeC (p:List C) (g:T) (c:Int) (ks:List PF):Bool:=if c<0 then decide (ks.length=0) && bltV g else match p[c.toNat]? with
 | none=>false
 | some q=>decide (ks.length=q.body.length) && ((bE q.head g st0).1 && uH q.body ks (bE q.head g st0).2)
mutual
noncomputable def chkF (p:List C):PF->Bool
 | .mk g c ks=>nodeC p g c ks && chkFL p ks
noncomputable def chkFL (p:List C):List PF->Bool
 | []=>true
 | x::xs=>chkF p x && chkFL p xs
end
noncomputable def interL (p:List C):List T->List PF->a6->Bool
 | g::gs,x::xs,st=>!qU g && ((bE g x.goal st).1 && (chkF p x && interL p gs xs (bE g x.goal st).2))
 | _,_,_=>true
theorem Aw (p:List C):∀ (gs:List T) (xs:List PF) (st:a6),gs.length=xs.length->interL p gs xs st=(uH gs xs st && chkFL p xs)
 | [],[],_,_=>rfl
 | g::gs,x::xs,st,h=>by
  rw [interL,uH,chkFL,Aw p gs xs _ (by simpa using h)]
  cases qU g <;> cases (bE g x.goal st).1 <;> cases chkF p x <;> simp
 | [],_::_,_,h=>by simp at h
 | _::_,[],_,h=>by simp at h
theorem yg:∀ {ts:List PF} {d:Int},nu ts d=true->∀ x∈ts,l5 x d=true
 | t::ts,d,h,x,hx=>by
  rw [nu,Bool.and_eq_true] at h
  rcases List.mem_cons.1 hx with rfl|hx
  ·exact h.1
  ·exact yg h.2 x hx
theorem jZ {g:T} {c:Int} {ks:List PF} {d:Int} (h:l5 (.mk g c ks) d=true):eg g=true/\(-1<=c/\c<=19)/\∀ x∈ks,l5 x (d - 1)=true:=by
 rw [l5,Bool.and_eq_true,Bool.and_eq_true,sq,Bool.and_eq_true,Bool.and_eq_true,Bool.and_eq_true,decide_eq_true_eq,decide_eq_true_eq,decide_eq_true_eq,decide_eq_true_eq] at h
 obtain ⟨_,⟨h1,⟨h2,h3⟩,_⟩,h4⟩:=h
 exact ⟨h1,⟨h2,h3⟩,yg h4⟩
theorem sK {p:List C} (h:jG p=true) {c:C} (hc:c∈p):cF c=true:=by
 rw [jG,Bool.and_eq_true,List.all_eq_true] at h
 exact h.2 c hc
theorem Bd {a b c d e f:Value}:∀ (j:Nat) (v:Value),([a,b,c,d]:List Value)[j]?=some v->([a,b,c,d,e,f]:List Value)[j]?=some v
 | 0,_,h|1,_,h|2,_,h|3,_,h=>h
 | j+4,_,h=>by simp at h
section
attribute [local irreducible] Run CondV ak bg
theorem rO {g:T} (hv:db g=true) (hb:c9 g=true) {S:ar} {cs:List Value} (h:RdT S cs g):Pure Tryz.prog zE [.agg cs.toArray] S (.bool (bltV g)):=by
 intro w hI
 have hl:=h.length
 have hw:=yR hv
 obtain ⟨code,st',hB,hf⟩:∃ code st',Blt EU g code st'/\bltV g=ng code st':=by
  rcases uk hv with ⟨h1,_⟩|⟨_,h1⟩
  ·rw [hb] at h1; cases h1
  ·exact h1
 refine qX ?_
 unfold nv
 refine bt hI fun b1 w' hI=>?_
 refine a8 hI 0 al rfl (by simpa [Value.cells] using hl) ?_
 refine Run.call0E rm rV hI (mR hv hb ⟨ii hv,by omega⟩ (yd hv) hB h) fun v' I' S1 w'=>?_
 rintro ⟨a,n,cap,c,rfl,hfl⟩ hE hI
 refine be (v:=.slice a n cap) rfl ?_
 refine be (v:=.int .i64 c) rfl ?_
 refine bu ?_
 rw [hf,<- hfl]
 cases hc:decide (c=0)
 ·repeat (first|refine ab ?_|refine ad (by decide) ?_|refine aa ?_|refine af ?_|refine ag ?_)
  exact g9 hI hE.1 rfl
 repeat (first|refine ab ?_|refine ad (by decide) ?_|refine aa ?_|refine af ?_|refine ag ?_)
 refine wl x0 ?_
 refine bu ?_
 repeat (first|refine ab ?_|refine ad (by decide) ?_|refine aa ?_|refine af ?_|refine ag ?_)
 refine g9 hI hE.1 ?_
 have el:decide ((n:Int)=0)=decide (n=0):=by rw [decide_eq_decide]; omega
 rw [el]
 rfl
set_option maxHeartbeats 1000000 in
theorem wU {p:List C} (hpv:jG p=true) {g:T} {c:Int} {ks:List PF} {d:Int} (hsh:l5 (.mk g c ks) d=true) {S:ar} {u:Value} {cs:List Value} (hp:RdSl S 5 (RdC S) u p) (h:RdF S cs (.mk g c ks)) :
  Pure Tryz.prog Ao [u,.agg cs.toArray] S (.bool (nodeC p g c ks)):=by
 intro w hI
 obtain ⟨kv,kf,rfl,hg,hci,hks⟩:=RdF.iff.1 h
 obtain ⟨hgb,hcr,hkids⟩:=jZ hsh
 have hgv:=eF hgb
 simp only [PF.goal,PF.kids,PF.clause] at hg hci hks ⊢
 have hkl:=hks.le
 simp only [maxLen] at hkl
 rw [nodeC]
 refine tl ?_
 unfold pm;dsimp only
 refine bt hI fun b3 w' hI=>?_
 have hI:Inv w [] [.blk b3 (.cells #[.int .i64 g.kind,.int .i64 g.n,.string g.name,kv,.int .i64 c,kf] bx)] S w':=hI
 refine ah (u:=.int .i64 c) hI 0 rfl ch aR rfl ?_
 refine bz ?_
 refine bf (fun hneg=>?_) (fun hneg=>?_)
 ·rw [if_pos hneg]
  refine ah hI 0 rfl bK bT rfl ?_
  refine a5 hks bD ?_
  refine bu ?_
  have el:decide ((ks.length:Int)=0)=decide (ks.length=0):=by rw [decide_eq_decide]; omega
  rw [el]
  cases hk0:decide (ks.length=0)
  ·repeat (first|refine ab ?_|refine ad (by decide) ?_|refine aa ?_|refine af ?_|refine ag ?_)
   exact done hI rfl
  repeat (first|refine ab ?_|refine ad (by decide) ?_|refine aa ?_|refine af ?_|refine ag ?_)
  obtain ⟨gk,gkv,hge,_,_,hgs,hgk⟩:=RdT.iff.1 hg
  refine bb ct ?_
  refine bb bi ?_
  refine bj (v:=.string g.name) hI 0 bk rfl rfl ?_
  refine bb ct ?_
  refine bb aP ?_
  refine bj (v:=kv) hI 0 aO rfl rfl ?_
  have hkv:RdSl S 4 (RdT S) kv g.kids:=by
   obtain ⟨kv2,e,_,_,_,h2⟩:=RdT.iff.1 hg
   simp only [List.cons.injEq,and_true,true_and] at e
   rw [e]; exact h2
  refine a5 hkv aC ?_
  refine Run.callPure fW fQ hI (eM _ _ S) fun w' hI=>?_
  have hbt:c9 g=du g.name g.kids.length:=by rw [c9,CS hgb,Bool.true_and]
  rw [<- hbt]
  cases hb:c9 g
  ·repeat (first|refine ab ?_|refine ad (by decide) ?_|refine aa ?_|refine af ?_|refine ag ?_)
   refine done hI ?_
   rcases uk hgv with ⟨_,h2⟩|⟨h2,_⟩
   ·rw [h2]; rfl
   ·rw [hb] at h2; cases h2
  repeat (first|refine ab ?_|refine ad (by decide) ?_|refine aa ?_|refine af ?_|refine ag ?_)
  refine bb ct ?_
  refine bY hI 0 [_,_,_,_] al rfl rfl ly ?_
  refine Run.callPure wD wY hI (rO hgv hb hg) fun w' hI=>?_
  repeat (first|refine ab ?_|refine ad (by decide) ?_|refine aa ?_|refine af ?_|refine ag ?_)
  exact done hI rfl
 rw [if_neg hneg]
 by_cases hge:(p.length:Int)<=c
 ·have hpn:p[c.toNat]?=none:=List.getElem?_eq_none (by omega)
  rw [hpn]
  refine ⟨fun D cU cW df da cC cD cr cL dm de fZ fY gb ga fX ey ew ez w_=>(D 0=true->ez=.pointer (some ⟨b3,4,none⟩))/\(D 1=true->ew=.int .i64 c)/\(D 2=true->ey=u)/\(D 3=true->fX=.int .i64 p.length)/\(D 4=true->ga=.bool true)/\(D 5=true->gb=.bool true)/\(D 6=true->fY=undef)/\(D 7=true->fZ=undef)/\(D 8=true->de=undef)/\(D 9=true->dm=undef)/\(D 10=true->cL=undef)/\(D 11=true->cr=undef)/\(D 12=true->cD=undef)/\(D 13=true->cC=undef)/\(D 14=true->da=undef)/\(D 15=true->df=undef)/\(D 16=true->cW=undef)/\(D 17=true->cU=.bool true)/\Inv w [] [.blk b3 (.cells #[.int .i64 g.kind,.int .i64 g.n,.string g.name,kv,.int .i64 c,kf] bx)] S w_,⟨ae,ae,ae,ae,ae,ae,ae,ae,ae,ae,ae,ae,ae,ae,ae,ae,ae,ae,hI.draw⟩,⟨?_,?_,?_,?_,?_,?_,?_,?_,?_,?_,?_,?_,?_,?_,?_,?_,?_,?_,trivial⟩,?_⟩
  ·intro D aY  cU cW df da cC cD cr cL dm de fZ fY gb ga fX ey ew ez w_
   rintro ⟨av,aw,ao,au,az,aq,aA,aE,aH,aL,ai,aj,am,aF,aB,aJ,aI,aK,hI⟩
   refine bb ch ?_
   exact ⟨fun _=>rfl,aw,ao,au,az,aq,aA,aE,aH,aL,ai,aj,am,aF,aB,aJ,aI,aK,hI⟩
  ·intro D aY cB cU cW df da cC cD cr cL dm de fZ fY gb ga fX ey ew ez w_
   rintro ⟨av,aw,ao,au,az,aq,aA,aE,aH,aL,ai,aj,am,aF,aB,aJ,aI,aK,hI⟩
   obtain rfl:=av cB
   refine bj hI 0 aR rfl rfl ?_
   exact ⟨av,fun _=>rfl,ao,au,az,aq,aA,aE,aH,aL,ai,aj,am,aF,aB,aJ,aI,aK,hI⟩
  ·intro D aY  cU cW df da cC cD cr cL dm de fZ fY gb ga fX ey ew ez w_
   rintro ⟨av,aw,ao,au,az,aq,aA,aE,aH,aL,ai,aj,am,aF,aB,aJ,aI,aK,hI⟩
   exact ⟨av,aw,fun _=>rfl,au,az,aq,aA,aE,aH,aL,ai,aj,am,aF,aB,aJ,aI,aK,hI⟩
  ·intro D aY cc cU cW df da cC cD cr cL dm de fZ fY gb ga fX ey ew ez w_
   rintro ⟨av,aw,ao,au,az,aq,aA,aE,aH,aL,ai,aj,am,aF,aB,aJ,aI,aK,hI⟩
   obtain rfl:=ao cc
   refine a5 hp bI ?_
   exact ⟨av,aw,ao,fun _=>rfl,az,aq,aA,aE,aH,aL,ai,aj,am,aF,aB,aJ,aI,aK,hI⟩
  ·intro D aY c6 jw cU cW df da cC cD cr cL dm de fZ fY gb ga fX ey ew ez w_
   rintro ⟨av,aw,ao,au,az,aq,aA,aE,aH,aL,ai,aj,am,aF,aB,aJ,aI,aK,hI⟩
   obtain rfl:=aw c6
   obtain rfl:=au jw
   refine g5 ?_
   rw [decide_eq_true hge]
   exact ⟨av,aw,ao,au,fun _=>rfl,aq,aA,aE,aH,aL,ai,aj,am,aF,aB,aJ,aI,aK,hI⟩
  ·intro D aY cZ cU cW df da cC cD cr cL dm de fZ fY gb ga fX ey ew ez w_
   rintro ⟨av,aw,ao,au,az,aq,aA,aE,aH,aL,ai,aj,am,aF,aB,aJ,aI,aK,hI⟩
   obtain rfl:=az cZ
   exact ⟨av,aw,ao,au,az,fun _=>rfl,aA,aE,aH,aL,ai,aj,am,aF,aB,aJ,aI,aK,hI⟩
  ·intro D aY cY cU cW df da cC cD cr cL dm de fZ fY gb ga fX ey ew ez w_
   rintro ⟨av,aw,ao,au,az,aq,aA,aE,aH,aL,ai,aj,am,aF,aB,aJ,aI,aK,hI⟩
   obtain rfl:=aq cY
   repeat (first|refine ab ?_|refine ad (by decide) ?_|refine aa ?_|refine af ?_|refine ag ?_)
   exact ⟨av,aw,ao,au,az,aq,fun _=>rfl,aE,aH,aL,ai,aj,am,aF,aB,aJ,aI,aK,hI⟩
  ·intro D aY ci cm cU cW df da cC cD cr cL dm de fZ fY gb ga fX ey ew ez w_
   rintro ⟨av,aw,ao,au,az,aq,aA,aE,aH,aL,ai,aj,am,aF,aB,aJ,aI,aK,hI⟩
   obtain rfl:=aA ci
   obtain rfl:=aq cm
   repeat (first|refine ab ?_|refine ad (by decide) ?_|refine aa ?_|refine af ?_|refine ag ?_)
   exact ⟨av,aw,ao,au,az,aq,aA,fun _=>rfl,aH,aL,ai,aj,am,aF,aB,aJ,aI,aK,hI⟩
  ·intro D aY dT cm cU cW df da cC cD cr cL dm de fZ fY gb ga fX ey ew ez w_
   rintro ⟨av,aw,ao,au,az,aq,aA,aE,aH,aL,ai,aj,am,aF,aB,aJ,aI,aK,hI⟩
   obtain rfl:=aE dT
   obtain rfl:=aq cm
   repeat (first|refine ab ?_|refine ad (by decide) ?_|refine aa ?_|refine af ?_|refine ag ?_)
   exact ⟨av,aw,ao,au,az,aq,aA,aE,fun _=>rfl,aL,ai,aj,am,aF,aB,aJ,aI,aK,hI⟩
  ·intro D aY cY cU cW df da cC cD cr cL dm de fZ fY gb ga fX ey ew ez w_
   rintro ⟨av,aw,ao,au,az,aq,aA,aE,aH,aL,ai,aj,am,aF,aB,aJ,aI,aK,hI⟩
   obtain rfl:=aq cY
   repeat (first|refine ab ?_|refine ad (by decide) ?_|refine aa ?_|refine af ?_|refine ag ?_)
   exact ⟨av,aw,ao,au,az,aq,aA,aE,aH,fun _=>rfl,ai,aj,am,aF,aB,aJ,aI,aK,hI⟩
  ·intro D aY cY cU cW df da cC cD cr cL dm de fZ fY gb ga fX ey ew ez w_
   rintro ⟨av,aw,ao,au,az,aq,aA,aE,aH,aL,ai,aj,am,aF,aB,aJ,aI,aK,hI⟩
   obtain rfl:=aq cY
   repeat (first|refine ab ?_|refine ad (by decide) ?_|refine aa ?_|refine af ?_|refine ag ?_)
   exact ⟨av,aw,ao,au,az,aq,aA,aE,aH,aL,fun _=>rfl,aj,am,aF,aB,aJ,aI,aK,hI⟩
  ·intro D aY eo cm cU cW df da cC cD cr cL dm de fZ fY gb ga fX ey ew ez w_
   rintro ⟨av,aw,ao,au,az,aq,aA,aE,aH,aL,ai,aj,am,aF,aB,aJ,aI,aK,hI⟩
   obtain rfl:=ai eo
   obtain rfl:=aq cm
   repeat (first|refine ab ?_|refine ad (by decide) ?_|refine aa ?_|refine af ?_|refine ag ?_)
   exact ⟨av,aw,ao,au,az,aq,aA,aE,aH,aL,ai,fun _=>rfl,am,aF,aB,aJ,aI,aK,hI⟩
  ·intro D aY kV jX jg cU cW df da cC cD cr cL dm de fZ fY gb ga fX ey ew ez w_
   rintro ⟨av,aw,ao,au,az,aq,aA,aE,aH,aL,ai,aj,am,aF,aB,aJ,aI,aK,hI⟩
   obtain rfl:=aL kV
   obtain rfl:=aj jX
   obtain rfl:=aq jg
   repeat (first|refine ab ?_|refine ad (by decide) ?_|refine aa ?_|refine af ?_|refine ag ?_)
   exact ⟨av,aw,ao,au,az,aq,aA,aE,aH,aL,ai,aj,fun _=>rfl,aF,aB,aJ,aI,aK,hI⟩
  ·intro D aY j3 cm cU cW df da cC cD cr cL dm de fZ fY gb ga fX ey ew ez w_
   rintro ⟨av,aw,ao,au,az,aq,aA,aE,aH,aL,ai,aj,am,aF,aB,aJ,aI,aK,hI⟩
   obtain rfl:=am j3
   obtain rfl:=aq cm
   repeat (first|refine ab ?_|refine ad (by decide) ?_|refine aa ?_|refine af ?_|refine ag ?_)
   exact ⟨av,aw,ao,au,az,aq,aA,aE,aH,aL,ai,aj,am,fun _=>rfl,aB,aJ,aI,aK,hI⟩
  ·intro D aY fu cm cU cW df da cC cD cr cL dm de fZ fY gb ga fX ey ew ez w_
   rintro ⟨av,aw,ao,au,az,aq,aA,aE,aH,aL,ai,aj,am,aF,aB,aJ,aI,aK,hI⟩
   obtain rfl:=aF fu
   obtain rfl:=aq cm
   repeat (first|refine ab ?_|refine ad (by decide) ?_|refine aa ?_|refine af ?_|refine ag ?_)
   exact ⟨av,aw,ao,au,az,aq,aA,aE,aH,aL,ai,aj,am,aF,fun _=>rfl,aJ,aI,aK,hI⟩
  ·intro D aY dv cm cU cW df da cC cD cr cL dm de fZ fY gb ga fX ey ew ez w_
   rintro ⟨av,aw,ao,au,az,aq,aA,aE,aH,aL,ai,aj,am,aF,aB,aJ,aI,aK,hI⟩
   obtain rfl:=aB dv
   obtain rfl:=aq cm
   repeat (first|refine ab ?_|refine ad (by decide) ?_|refine aa ?_|refine af ?_|refine ag ?_)
   exact ⟨av,aw,ao,au,az,aq,aA,aE,aH,aL,ai,aj,am,aF,aB,fun _=>rfl,aI,aK,hI⟩
  ·intro D aY dN sV jg cU cW df da cC cD cr cL dm de fZ fY gb ga fX ey ew ez w_
   rintro ⟨av,aw,ao,au,az,aq,aA,aE,aH,aL,ai,aj,am,aF,aB,aJ,aI,aK,hI⟩
   obtain rfl:=aH dN
   obtain rfl:=aJ sV
   obtain rfl:=aq jg
   repeat (first|refine ab ?_|refine ad (by decide) ?_|refine aa ?_|refine af ?_|refine ag ?_)
   exact ⟨av,aw,ao,au,az,aq,aA,aE,aH,aL,ai,aj,am,aF,aB,aJ,fun _=>rfl,aK,hI⟩
  ·intro D aY cY r3 cU cW df da cC cD cr cL dm de fZ fY gb ga fX ey ew ez w_
   rintro ⟨av,aw,ao,au,az,aq,aA,aE,aH,aL,ai,aj,am,aF,aB,aJ,aI,aK,hI⟩
   obtain rfl:=aq cY
   obtain rfl:=aI r3
   repeat (first|refine ab ?_|refine ad (by decide) ?_|refine aa ?_|refine af ?_|refine ag ?_)
   exact ⟨av,aw,ao,au,az,aq,aA,aE,aH,aL,ai,aj,am,aF,aB,aJ,aI,fun _=>rfl,hI⟩
  intro D kU kq jr i5 jq fN dO d7 hY gh fB fk fi e9 fe eQ eZ e8 cU cW df da cC cD cr cL dm de fZ fY gb ga fX ey ew ez w_
  rintro ⟨av,aw,ao,au,az,aq,aA,aE,aH,aL,ai,aj,am,aF,aB,aJ,aI,aK,hI⟩
  obtain rfl:=aK kU
  obtain rfl:=aI kq
  obtain rfl:=aJ jr
  obtain rfl:=aB i5
  obtain rfl:=aF jq
  obtain rfl:=am fN
  obtain rfl:=aj dO
  obtain rfl:=ai d7
  obtain rfl:=aL hY
  obtain rfl:=aH gh
  obtain rfl:=aE fB
  obtain rfl:=aA fk
  obtain rfl:=aq fi
  obtain rfl:=az e9
  obtain rfl:=au fe
  obtain rfl:=ao eQ
  obtain rfl:=aw eZ
  obtain rfl:=av e8
  clear av aw ao au az aq aA aE aH aL ai aj am aF aB aJ aI aK
  refine bd (fun _=>done hI rfl) (fun hb=>by cases hb)
 obtain ⟨j,hcj⟩:∃ j:Nat,c=(j:Int):=⟨c.toNat,by omega⟩
 have hjl:j<p.length:=by omega
 subst hcj
 have hpe:p[(j:Int).toNat]?=some p[j]:=by rw [Int.toNat_natCast,List.getElem?_eq_getElem hjl]
 rw [hpe]
 have hqv:=sK hpv (List.getElem_mem hjl)
 obtain ⟨q,hq⟩:∃ q,q=p[j]:=⟨_,rfl⟩
 obtain ⟨pb,po,pcap,pc,pE,pfz,rfl,hpS,hpR⟩:=hp.at_ hjl
 rw [<- hq] at hpR hqv ⊢
 obtain ⟨kh,kb,hcc,hqh,hqb⟩:=hpR.cells
 have hcl5:=hpR.length
 rw [hcc] at hpR
 have hlq:decide ((ks.length:Int)=(q.body.length:Int))=decide (ks.length=q.body.length):=by rw [decide_eq_decide]; omega
 have hqo:=yu hqv
 refine ⟨fun D cU cW df da cC cD cr cL dm de fZ fY gb ga fX ey ew ez w_=>(D 0=true->ez=.pointer (some ⟨b3,4,none⟩))/\(D 1=true->ew=.int .i64 (j:Int))/\(D 2=true->ey=.slice (some ⟨pb,po,none⟩) p.length pcap)/\(D 3=true->fX=.int .i64 p.length)/\(D 4=true->ga=.bool false)/\(D 5=true->gb=.bool false)/\(D 6=true->fY=.pointer (some ⟨b3,5,none⟩))/\(D 7=true->fZ=kf)/\(D 8=true->de=.int .i64 ks.length)/\(D 9=true->dm=.slice (some ⟨pb,po,none⟩) p.length pcap)/\(D 10=true->cL=.pointer (some ⟨b3,4,none⟩))/\(D 11=true->cr=.int .i64 (j:Int))/\(D 12=true->cD=.pointer (some ⟨pb,po+j * 5,none⟩))/\(D 13=true->cC=.pointer (some ⟨pb,po+j * 5+4,none⟩))/\(D 14=true->da=kb)/\(D 15=true->df=.int .i64 q.body.length)/\(D 16=true->cW=.bool (!decide (ks.length=q.body.length)))/\(D 17=true->cU=.bool (!decide (ks.length=q.body.length)))/\Inv w [] [.blk b3 (.cells #[.int .i64 g.kind,.int .i64 g.n,.string g.name,kv,.int .i64 (j:Int),kf] bx)] S w_,⟨ae,ae,ae,ae,ae,ae,ae,ae,ae,ae,ae,ae,ae,ae,ae,ae,ae,ae,hI.draw⟩,⟨?_,?_,?_,?_,?_,?_,?_,?_,?_,?_,?_,?_,?_,?_,?_,?_,?_,?_,trivial⟩,?_⟩
 ·intro D aY  cU cW df da cC cD cr cL dm de fZ fY gb ga fX ey ew ez w_
  rintro ⟨av,aw,ao,au,az,aq,aA,aE,aH,aL,ai,aj,am,aF,aB,aJ,aI,aK,hI⟩
  refine bb ch ?_
  exact ⟨fun _=>rfl,aw,ao,au,az,aq,aA,aE,aH,aL,ai,aj,am,aF,aB,aJ,aI,aK,hI⟩
 ·intro D aY cB cU cW df da cC cD cr cL dm de fZ fY gb ga fX ey ew ez w_
  rintro ⟨av,aw,ao,au,az,aq,aA,aE,aH,aL,ai,aj,am,aF,aB,aJ,aI,aK,hI⟩
  obtain rfl:=av cB
  refine bj hI 0 aR rfl rfl ?_
  exact ⟨av,fun _=>rfl,ao,au,az,aq,aA,aE,aH,aL,ai,aj,am,aF,aB,aJ,aI,aK,hI⟩
 ·intro D aY  cU cW df da cC cD cr cL dm de fZ fY gb ga fX ey ew ez w_
  rintro ⟨av,aw,ao,au,az,aq,aA,aE,aH,aL,ai,aj,am,aF,aB,aJ,aI,aK,hI⟩
  exact ⟨av,aw,fun _=>rfl,au,az,aq,aA,aE,aH,aL,ai,aj,am,aF,aB,aJ,aI,aK,hI⟩
 ·intro D aY cc cU cW df da cC cD cr cL dm de fZ fY gb ga fX ey ew ez w_
  rintro ⟨av,aw,ao,au,az,aq,aA,aE,aH,aL,ai,aj,am,aF,aB,aJ,aI,aK,hI⟩
  obtain rfl:=ao cc
  refine a5 hp bI ?_
  exact ⟨av,aw,ao,fun _=>rfl,az,aq,aA,aE,aH,aL,ai,aj,am,aF,aB,aJ,aI,aK,hI⟩
 ·intro D aY c6 jw cU cW df da cC cD cr cL dm de fZ fY gb ga fX ey ew ez w_
  rintro ⟨av,aw,ao,au,az,aq,aA,aE,aH,aL,ai,aj,am,aF,aB,aJ,aI,aK,hI⟩
  obtain rfl:=aw c6
  obtain rfl:=au jw
  refine g5 ?_
  rw [decide_eq_false hge]
  exact ⟨av,aw,ao,au,fun _=>rfl,aq,aA,aE,aH,aL,ai,aj,am,aF,aB,aJ,aI,aK,hI⟩
 ·intro D aY cZ cU cW df da cC cD cr cL dm de fZ fY gb ga fX ey ew ez w_
  rintro ⟨av,aw,ao,au,az,aq,aA,aE,aH,aL,ai,aj,am,aF,aB,aJ,aI,aK,hI⟩
  obtain rfl:=az cZ
  exact ⟨av,aw,ao,au,az,fun _=>rfl,aA,aE,aH,aL,ai,aj,am,aF,aB,aJ,aI,aK,hI⟩
 ·intro D aY cY cU cW df da cC cD cr cL dm de fZ fY gb ga fX ey ew ez w_
  rintro ⟨av,aw,ao,au,az,aq,aA,aE,aH,aL,ai,aj,am,aF,aB,aJ,aI,aK,hI⟩
  obtain rfl:=aq cY
  repeat (first|refine ab ?_|refine ad (by decide) ?_|refine aa ?_|refine af ?_|refine ag ?_)
  refine bb bK ?_
  exact ⟨av,aw,ao,au,az,aq,fun _=>rfl,aE,aH,aL,ai,aj,am,aF,aB,aJ,aI,aK,hI⟩
 ·intro D aY ci cm cU cW df da cC cD cr cL dm de fZ fY gb ga fX ey ew ez w_
  rintro ⟨av,aw,ao,au,az,aq,aA,aE,aH,aL,ai,aj,am,aF,aB,aJ,aI,aK,hI⟩
  obtain rfl:=aA ci
  obtain rfl:=aq cm
  repeat (first|refine ab ?_|refine ad (by decide) ?_|refine aa ?_|refine af ?_|refine ag ?_)
  refine bj hI 0 bT rfl rfl ?_
  exact ⟨av,aw,ao,au,az,aq,aA,fun _=>by first|assumption|trivial,aH,aL,ai,aj,am,aF,aB,aJ,aI,aK,hI⟩
 ·intro D aY dT cm cU cW df da cC cD cr cL dm de fZ fY gb ga fX ey ew ez w_
  rintro ⟨av,aw,ao,au,az,aq,aA,aE,aH,aL,ai,aj,am,aF,aB,aJ,aI,aK,hI⟩
  have FP:=aE dT
  obtain rfl:=aq cm
  repeat (first|refine ab ?_|refine ad (by decide) ?_|refine aa ?_|refine af ?_|refine ag ?_)
  refine a5 (xs:=ks) (by rw [FP]; exact hks) bD ?_
  exact ⟨av,aw,ao,au,az,aq,aA,aE,fun _=>rfl,aL,ai,aj,am,aF,aB,aJ,aI,aK,hI⟩
 ·intro D aY cY cU cW df da cC cD cr cL dm de fZ fY gb ga fX ey ew ez w_
  rintro ⟨av,aw,ao,au,az,aq,aA,aE,aH,aL,ai,aj,am,aF,aB,aJ,aI,aK,hI⟩
  obtain rfl:=aq cY
  repeat (first|refine ab ?_|refine ad (by decide) ?_|refine aa ?_|refine af ?_|refine ag ?_)
  exact ⟨av,aw,ao,au,az,aq,aA,aE,aH,fun _=>rfl,ai,aj,am,aF,aB,aJ,aI,aK,hI⟩
 ·intro D aY cY cU cW df da cC cD cr cL dm de fZ fY gb ga fX ey ew ez w_
  rintro ⟨av,aw,ao,au,az,aq,aA,aE,aH,aL,ai,aj,am,aF,aB,aJ,aI,aK,hI⟩
  obtain rfl:=aq cY
  repeat (first|refine ab ?_|refine ad (by decide) ?_|refine aa ?_|refine af ?_|refine ag ?_)
  refine bb ch ?_
  exact ⟨av,aw,ao,au,az,aq,aA,aE,aH,aL,fun _=>rfl,aj,am,aF,aB,aJ,aI,aK,hI⟩
 ·intro D aY eo cm cU cW df da cC cD cr cL dm de fZ fY gb ga fX ey ew ez w_
  rintro ⟨av,aw,ao,au,az,aq,aA,aE,aH,aL,ai,aj,am,aF,aB,aJ,aI,aK,hI⟩
  obtain rfl:=ai eo
  obtain rfl:=aq cm
  repeat (first|refine ab ?_|refine ad (by decide) ?_|refine aa ?_|refine af ?_|refine ag ?_)
  refine bj hI 0 aR rfl rfl ?_
  exact ⟨av,aw,ao,au,az,aq,aA,aE,aH,aL,ai,fun _=>rfl,am,aF,aB,aJ,aI,aK,hI⟩
 ·intro D aY kV jX jg cU cW df da cC cD cr cL dm de fZ fY gb ga fX ey ew ez w_
  rintro ⟨av,aw,ao,au,az,aq,aA,aE,aH,aL,ai,aj,am,aF,aB,aJ,aI,aK,hI⟩
  obtain rfl:=aL kV
  obtain rfl:=aj jX
  obtain rfl:=aq jg
  repeat (first|refine ab ?_|refine ad (by decide) ?_|refine aa ?_|refine af ?_|refine ag ?_)
  refine aT bI hjl ?_
  exact ⟨av,aw,ao,au,az,aq,aA,aE,aH,aL,ai,aj,fun _=>rfl,aF,aB,aJ,aI,aK,hI⟩
 ·intro D aY j3 cm cU cW df da cC cD cr cL dm de fZ fY gb ga fX ey ew ez w_
  rintro ⟨av,aw,ao,au,az,aq,aA,aE,aH,aL,ai,aj,am,aF,aB,aJ,aI,aK,hI⟩
  obtain rfl:=am j3
  obtain rfl:=aq cm
  repeat (first|refine ab ?_|refine ad (by decide) ?_|refine aa ?_|refine af ?_|refine ag ?_)
  refine bb cn ?_
  exact ⟨av,aw,ao,au,az,aq,aA,aE,aH,aL,ai,aj,am,fun _=>rfl,aB,aJ,aI,aK,hI⟩
 ·intro D aY fu cm cU cW df da cC cD cr cL dm de fZ fY gb ga fX ey ew ez w_
  rintro ⟨av,aw,ao,au,az,aq,aA,aE,aH,aL,ai,aj,am,aF,aB,aJ,aI,aK,hI⟩
  obtain rfl:=aF fu
  obtain rfl:=aq cm
  repeat (first|refine ab ?_|refine ad (by decide) ?_|refine aa ?_|refine af ?_|refine ag ?_)
  refine fj aO (by rw [hI.cellS hpS]; exact aS hcc 4 _ rfl) ?_
  exact ⟨av,aw,ao,au,az,aq,aA,aE,aH,aL,ai,aj,am,aF,fun _=>by first|assumption|trivial,aJ,aI,aK,hI⟩
 ·intro D aY dv cm cU cW df da cC cD cr cL dm de fZ fY gb ga fX ey ew ez w_
  rintro ⟨av,aw,ao,au,az,aq,aA,aE,aH,aL,ai,aj,am,aF,aB,aJ,aI,aK,hI⟩
  have DK:=aB dv
  obtain rfl:=aq cm
  repeat (first|refine ab ?_|refine ad (by decide) ?_|refine aa ?_|refine af ?_|refine ag ?_)
  refine a5 (xs:=q.body) (by rw [DK]; exact hqb) aC ?_
  exact ⟨av,aw,ao,au,az,aq,aA,aE,aH,aL,ai,aj,am,aF,aB,fun _=>rfl,aI,aK,hI⟩
 ·intro D aY dN sV jg cU cW df da cC cD cr cL dm de fZ fY gb ga fX ey ew ez w_
  rintro ⟨av,aw,ao,au,az,aq,aA,aE,aH,aL,ai,aj,am,aF,aB,aJ,aI,aK,hI⟩
  obtain rfl:=aH dN
  obtain rfl:=aJ sV
  obtain rfl:=aq jg
  repeat (first|refine ab ?_|refine ad (by decide) ?_|refine aa ?_|refine af ?_|refine ag ?_)
  refine bQ ?_
  rw [hlq]
  exact ⟨av,aw,ao,au,az,aq,aA,aE,aH,aL,ai,aj,am,aF,aB,aJ,fun _=>rfl,aK,hI⟩
 ·intro D aY cY r3 cU cW df da cC cD cr cL dm de fZ fY gb ga fX ey ew ez w_
  rintro ⟨av,aw,ao,au,az,aq,aA,aE,aH,aL,ai,aj,am,aF,aB,aJ,aI,aK,hI⟩
  obtain rfl:=aq cY
  obtain rfl:=aI r3
  repeat (first|refine ab ?_|refine ad (by decide) ?_|refine aa ?_|refine af ?_|refine ag ?_)
  exact ⟨av,aw,ao,au,az,aq,aA,aE,aH,aL,ai,aj,am,aF,aB,aJ,aI,fun _=>rfl,hI⟩
 intro D kU kq jr i5 jq fN dO d7 hY gh fB fk fi e9 fe eQ eZ e8 cU cW df da cC cD cr cL dm de fZ fY gb ga fX ey ew ez w_
 rintro ⟨av,aw,ao,au,az,aq,aA,aE,aH,aL,ai,aj,am,aF,aB,aJ,aI,aK,hI⟩
 obtain rfl:=aK kU
 obtain rfl:=aI kq
 obtain rfl:=aJ jr
 have DK:=aB i5
 obtain rfl:=aF jq
 obtain rfl:=am fN
 obtain rfl:=aj dO
 obtain rfl:=ai d7
 obtain rfl:=aL hY
 obtain rfl:=aH gh
 have FP:=aE fB
 obtain rfl:=aA fk
 obtain rfl:=aq fi
 obtain rfl:=az e9
 obtain rfl:=au fe
 obtain rfl:=ao eQ
 obtain rfl:=aw eZ
 obtain rfl:=av e8
 clear av aw ao au az aq aA aE aH aL ai aj am aF aB aJ aI aK
 refine bd (fun hb=>done hI ?_) (fun hb=>?_)
 ·have hb:decide (ks.length=q.body.length)=false:=by simpa using hb
  simp only [hb]
  rfl
 have hlen:ks.length=q.body.length:=by simpa using hb
 simp only [decide_eq_true hlen,Bool.true_and]
 refine ah (u:=.int .i64 (j:Int)) hI 0 rfl ch aR rfl ?_
 refine aT bI hjl ?_
 refine bw (cs:=[.int .i64 q.head.kind,.int .i64 q.head.n,.string q.head.name,kh,kb]) dd rfl (fun i v hi=>by rw [hI.cellS hpS]; exact aS hcc i v hi) ?_
 refine bC hI kr fun b5 w' hI=>?_
 refine bq hI 1 rfl dd rfl rfl (by simpa using hpR.one) fun w' hI=>?_
 refine p9 (n:=26) hI gv (by omega) (by omega) (by omega) fun tb w' hI=>?_
 have hkc0:=EN _ rfl S
 obtain ⟨kc,hkce⟩:∃ kc,kc=(Array.range 104).map ((#[.int .i64 0,.int .i64 0,.string ⟨#[]⟩,.slice none 0 0]:Array Value)[· % (#[.int .i64 0,.int .i64 0,.string ⟨#[]⟩,.slice none 0 0]:Array Value).size]!):=⟨_,rfl⟩
 rw [<- hkce] at hkc0
 have hI:Inv w [] [.blk b3 (.cells #[.int .i64 g.kind,.int .i64 g.n,.string g.name,kv,.int .i64 (j:Int),kf] bx),.blk b5 (.cells #[.int .i64 q.head.kind,.int .i64 q.head.n,.string q.head.name,kh,kb] cN),.blk tb (.cells kc ac)] S w':=by rw [hkce]; exact hI
 refine bb dr ?_
 refine bY hI 1 [.int .i64 q.head.kind,.int .i64 q.head.n,.string q.head.name,kh] al rfl rfl D5 ?_
 refine bb ct ?_
 refine bY hI 0 [.int .i64 g.kind,.int .i64 g.n,.string g.name,kv] al rfl rfl ly ?_
 have hgk:=(fO hgv).2
 have hcall:=nm 26 q.head g S _ _ tb kc st0 hqh hg hqo.1.1 hgk yG hkc0
 have hsn:=gU q.head g st0 yG hgk
 generalize bE q.head g st0=r0 at hcall hsn ⊢
 refine Run.call (A:=[_,_]) ko kF hI hcall fun v' I' S1 w'=>?_
 rintro ⟨rfl,rfl,kc,rfl,hkc⟩ _ hI
 refine bJ ?_
 cases hr0:r0.1
 ·refine bd (fun _=>done hI rfl) (fun hb=>by cases hb)
 refine bd (fun hb=>by cases hb) (fun _=>?_)
 simp only [Bool.true_and]
 refine ⟨fun i w'=>∃ (k:Nat) (st':a6) (kc:Array Value),k<=q.body.length/\i=.int .i64 k/\uH (q.body.drop k) (ks.drop k) st'=uH q.body ks r0.2/\rA st'/\KnownC S1 kc st'/\Inv w [] [.blk b3 (.cells #[.int .i64 g.kind,.int .i64 g.n,.string g.name,kv,.int .i64 (j:Int),kf] bx),.blk b5 (.cells #[.int .i64 q.head.kind,.int .i64 q.head.n,.string q.head.name,kh,kb] cN),.blk tb (.cells kc ac)] S1 w',
  fun i _=>q.body.length - (intOf i).toNat,⟨0,r0.2,kc,Nat.zero_le _,rfl,rfl,hsn,hkc,hI⟩,?_⟩
 intro i _ _ _ t89 t88 t87 t86 t85 t84 t83 t82 t81 t80 t79 t78 t77 t76 t75 t74 t73 t72 t71 t70 t69 t68 _ _ _ _ _ w'
 rintro ⟨k,st',kc,hk,rfl,hrel,hst,hkc,hI⟩
 have hqbl:=hqb.le
 simp only [maxLen] at hqbl
 refine ah hI 1 rfl cn aO rfl ?_
 refine a5 hqb aC ?_
 refine bz ?_
 refine bf (fun hki=>?_) (fun hki=>?_)
 ·have hk1:k<q.body.length:=by omega
  have hk2:k<ks.length:=by omega
  rw [List.drop_eq_getElem_cons hk1,List.drop_eq_getElem_cons hk2,uH] at hrel
  obtain ⟨qb,qo,qcap,qc,qE,qfz,rfl,hqS,hqR⟩:=hqb.at_ hk1
  obtain ⟨fb,fo,fcap,fc,fE,ffz,rfl,hfS,hfR⟩:=hks.at_ hk2
  obtain ⟨fv,ff,hfe,hfg,_,_⟩:=RdF.iff.1 hfR
  obtain ⟨x,hx⟩:∃ x,x=ks[k]:=⟨_,rfl⟩
  obtain ⟨y,hy⟩:∃ y,y=q.body[k]:=⟨_,rfl⟩
  have hym:y∈q.body:=by rw [hy]; exact List.getElem_mem hk1
  have hxg:eg x.goal=true:=by
   have h1:=hkids ks[k] (List.getElem_mem hk2)
   rw [<- hx] at h1
   obtain ⟨xg,xc,xk⟩:=x
   exact (jZ h1).1
  rw [<- hx] at hfe hfg hrel
  rw [<- hy] at hqR hrel
  cases hcut:qU y
  ·have hI:=hI
   refine ⟨fun D bM bN bU bV bW bX cf cA cz cu cv cw bP dE dB dw dC dy dz dA dx d4 w_=>(D 0=true->d4=.pointer (some ⟨b5,4,none⟩))/\(D 1=true->dx=.slice (some ⟨qb,qo,none⟩) q.body.length qcap)/\(D 2=true->dA=.int .i64 k)/\(D 3=true->dz=.pointer (some ⟨qb,qo+k * 4,none⟩))/\(D 4=true->dy=.agg (ba qc (qo+k * 4) 4).toArray)/\(D 5=true->dC=.bool false)/\(D 6=true->dw=.bool false)/\(D 7=true->dB=.pointer (some ⟨b5,4,none⟩))/\(D 8=true->dE=.slice (some ⟨qb,qo,none⟩) q.body.length qcap)/\(D 9=true->bP=.int .i64 k)/\(D 10=true->cw=.pointer (some ⟨qb,qo+k * 4,none⟩))/\(D 11=true->cv=.agg (ba qc (qo+k * 4) 4).toArray)/\(D 12=true->cu=.pointer (some ⟨b3,5,none⟩))/\(D 13=true->cz=.slice (some ⟨fb,fo,none⟩) ks.length fcap)/\(D 14=true->cA=.int .i64 k)/\(D 15=true->cf=.pointer (some ⟨fb,fo+k * 6,none⟩))/\(D 16=true->bX=.pointer (some ⟨fb,fo+k * 6,none⟩))/\(D 17=true->bW=.agg #[.int .i64 x.goal.kind,.int .i64 x.goal.n,.string x.goal.name,fv])/\(D 18=true->bV=kv0 tb)/\(D 19=true->bU=.bool (bE y x.goal st').1)/\(D 20=true->bN=.bool (!(bE y x.goal st').1))/\(D 21=true->bM=.bool (!(bE y x.goal st').1))/\∃ kcx,(D 19=false->kcx=kc)/\(D 19=true->KnownC S1 kcx (bE y x.goal st').2)/\Inv w [] [.blk b3 (.cells #[.int .i64 g.kind,.int .i64 g.n,.string g.name,kv,.int .i64 (j:Int),.slice (some ⟨fb,fo,none⟩) ks.length fcap] bx),.blk b5 (.cells #[.int .i64 q.head.kind,.int .i64 q.head.n,.string q.head.name,kh,.slice (some ⟨qb,qo,none⟩) q.body.length qcap] cN),.blk tb (.cells kcx ac)] S1 w_,⟨ae,ae,ae,ae,ae,ae,ae,ae,ae,ae,ae,ae,ae,ae,ae,ae,ae,ae,ae,ae,ae,ae,⟨kc,fun _=>rfl,ae,hI.draw⟩⟩,⟨?_,?_,?_,?_,?_,?_,?_,?_,?_,?_,?_,?_,?_,?_,?_,?_,?_,?_,?_,?_,?_,?_,trivial⟩,?_⟩
   ·intro D aY  bM bN bU bV bW bX cf cA cz cu cv cw bP dE dB dw dC dy dz dA dx d4 w_
    rintro ⟨av,aw,ao,au,az,aq,aA,aE,aH,aL,ai,aj,am,aF,aB,aJ,aI,aK,aV,aW,aX,aZ,⟨kcx,k0,k1,hI⟩⟩
    refine bb cn ?_
    exact ⟨fun _=>rfl,aw,ao,au,az,aq,aA,aE,aH,aL,ai,aj,am,aF,aB,aJ,aI,aK,aV,aW,aX,aZ,⟨kcx,k0,k1,hI⟩⟩
   ·intro D aY cB bM bN bU bV bW bX cf cA cz cu cv cw bP dE dB dw dC dy dz dA dx d4 w_
    rintro ⟨av,aw,ao,au,az,aq,aA,aE,aH,aL,ai,aj,am,aF,aB,aJ,aI,aK,aV,aW,aX,aZ,⟨kcx,k0,k1,hI⟩⟩
    obtain rfl:=av cB
    refine bj hI 1 aO rfl rfl ?_
    exact ⟨av,fun _=>rfl,ao,au,az,aq,aA,aE,aH,aL,ai,aj,am,aF,aB,aJ,aI,aK,aV,aW,aX,aZ,⟨kcx,k0,k1,hI⟩⟩
   ·intro D aY  bM bN bU bV bW bX cf cA cz cu cv cw bP dE dB dw dC dy dz dA dx d4 w_
    rintro ⟨av,aw,ao,au,az,aq,aA,aE,aH,aL,ai,aj,am,aF,aB,aJ,aI,aK,aV,aW,aX,aZ,⟨kcx,k0,k1,hI⟩⟩
    exact ⟨av,aw,fun _=>rfl,au,az,aq,aA,aE,aH,aL,ai,aj,am,aF,aB,aJ,aI,aK,aV,aW,aX,aZ,⟨kcx,k0,k1,hI⟩⟩
   ·intro D aY c6 d8 bM bN bU bV bW bX cf cA cz cu cv cw bP dE dB dw dC dy dz dA dx d4 w_
    rintro ⟨av,aw,ao,au,az,aq,aA,aE,aH,aL,ai,aj,am,aF,aB,aJ,aI,aK,aV,aW,aX,aZ,⟨kcx,k0,k1,hI⟩⟩
    obtain rfl:=aw c6
    obtain rfl:=ao d8
    refine aT aC hk1 ?_
    exact ⟨av,aw,ao,fun _=>rfl,az,aq,aA,aE,aH,aL,ai,aj,am,aF,aB,aJ,aI,aK,aV,aW,aX,aZ,⟨kcx,k0,k1,hI⟩⟩
   ·intro D aY dq bM bN bU bV bW bX cf cA cz cu cv cw bP dE dB dw dC dy dz dA dx d4 w_
    rintro ⟨av,aw,ao,au,az,aq,aA,aE,aH,aL,ai,aj,am,aF,aB,aJ,aI,aK,aV,aW,aX,aZ,⟨kcx,k0,k1,hI⟩⟩
    obtain rfl:=au dq
    refine bw al hqR.length (fun i v hi=>by rw [hI.cellS hqS]; exact aS rfl i v hi) ?_
    exact ⟨av,aw,ao,au,fun _=>rfl,aq,aA,aE,aH,aL,ai,aj,am,aF,aB,aJ,aI,aK,aV,aW,aX,aZ,⟨kcx,k0,k1,hI⟩⟩
   ·intro D aY cZ bM bN bU bV bW bX cf cA cz cu cv cw bP dE dB dw dC dy dz dA dx d4 w_
    rintro ⟨av,aw,ao,au,az,aq,aA,aE,aH,aL,ai,aj,am,aF,aB,aJ,aI,aK,aV,aW,aX,aZ,⟨kcx,k0,k1,hI⟩⟩
    obtain rfl:=az cZ
    refine Run.callPure oc oi hI (mu hqR) fun w_ hI=>?_
    rw [hcut]
    exact ⟨av,aw,ao,au,az,fun _=>rfl,aA,aE,aH,aL,ai,aj,am,aF,aB,aJ,aI,aK,aV,aW,aX,aZ,⟨kcx,k0,k1,hI⟩⟩
   ·intro D aY cY cm bM bN bU bV bW bX cf cA cz cu cv cw bP dE dB dw dC dy dz dA dx d4 w_
    rintro ⟨av,aw,ao,au,az,aq,aA,aE,aH,aL,ai,aj,am,aF,aB,aJ,aI,aK,aV,aW,aX,aZ,⟨kcx,k0,k1,hI⟩⟩
    obtain rfl:=aq cY
    exact ⟨av,aw,ao,au,az,aq,fun _=>rfl,aE,aH,aL,ai,aj,am,aF,aB,aJ,aI,aK,aV,aW,aX,aZ,⟨kcx,k0,k1,hI⟩⟩
   ·intro D aY ci bM bN bU bV bW bX cf cA cz cu cv cw bP dE dB dw dC dy dz dA dx d4 w_
    rintro ⟨av,aw,ao,au,az,aq,aA,aE,aH,aL,ai,aj,am,aF,aB,aJ,aI,aK,aV,aW,aX,aZ,⟨kcx,k0,k1,hI⟩⟩
    obtain rfl:=aA ci
    repeat (first|refine ab ?_|refine ad (by decide) ?_|refine aa ?_|refine af ?_|refine ag ?_)
    refine bb cn ?_
    exact ⟨av,aw,ao,au,az,aq,aA,fun _=>rfl,aH,aL,ai,aj,am,aF,aB,aJ,aI,aK,aV,aW,aX,aZ,⟨kcx,k0,k1,hI⟩⟩
   ·intro D aY dT gc bM bN bU bV bW bX cf cA cz cu cv cw bP dE dB dw dC dy dz dA dx d4 w_
    rintro ⟨av,aw,ao,au,az,aq,aA,aE,aH,aL,ai,aj,am,aF,aB,aJ,aI,aK,aV,aW,aX,aZ,⟨kcx,k0,k1,hI⟩⟩
    obtain rfl:=aE dT
    obtain rfl:=aA gc
    repeat (first|refine ab ?_|refine ad (by decide) ?_|refine aa ?_|refine af ?_|refine ag ?_)
    refine bj hI 1 aO rfl rfl ?_
    exact ⟨av,aw,ao,au,az,aq,aA,aE,fun _=>rfl,aL,ai,aj,am,aF,aB,aJ,aI,aK,aV,aW,aX,aZ,⟨kcx,k0,k1,hI⟩⟩
   ·intro D aY ci bM bN bU bV bW bX cf cA cz cu cv cw bP dE dB dw dC dy dz dA dx d4 w_
    rintro ⟨av,aw,ao,au,az,aq,aA,aE,aH,aL,ai,aj,am,aF,aB,aJ,aI,aK,aV,aW,aX,aZ,⟨kcx,k0,k1,hI⟩⟩
    obtain rfl:=aA ci
    repeat (first|refine ab ?_|refine ad (by decide) ?_|refine aa ?_|refine af ?_|refine ag ?_)
    exact ⟨av,aw,ao,au,az,aq,aA,aE,aH,fun _=>rfl,ai,aj,am,aF,aB,aJ,aI,aK,aV,aW,aX,aZ,⟨kcx,k0,k1,hI⟩⟩
   ·intro D aY dN iJ q0 bM bN bU bV bW bX cf cA cz cu cv cw bP dE dB dw dC dy dz dA dx d4 w_
    rintro ⟨av,aw,ao,au,az,aq,aA,aE,aH,aL,ai,aj,am,aF,aB,aJ,aI,aK,aV,aW,aX,aZ,⟨kcx,k0,k1,hI⟩⟩
    obtain rfl:=aH dN
    obtain rfl:=aL iJ
    obtain rfl:=aA q0
    repeat (first|refine ab ?_|refine ad (by decide) ?_|refine aa ?_|refine af ?_|refine ag ?_)
    refine aT aC hk1 ?_
    exact ⟨av,aw,ao,au,az,aq,aA,aE,aH,aL,fun _=>rfl,aj,am,aF,aB,aJ,aI,aK,aV,aW,aX,aZ,⟨kcx,k0,k1,hI⟩⟩
   ·intro D aY eo gc bM bN bU bV bW bX cf cA cz cu cv cw bP dE dB dw dC dy dz dA dx d4 w_
    rintro ⟨av,aw,ao,au,az,aq,aA,aE,aH,aL,ai,aj,am,aF,aB,aJ,aI,aK,aV,aW,aX,aZ,⟨kcx,k0,k1,hI⟩⟩
    obtain rfl:=ai eo
    obtain rfl:=aA gc
    repeat (first|refine ab ?_|refine ad (by decide) ?_|refine aa ?_|refine af ?_|refine ag ?_)
    refine bw al hqR.length (fun i v hi=>by rw [hI.cellS hqS]; exact aS rfl i v hi) ?_
    exact ⟨av,aw,ao,au,az,aq,aA,aE,aH,aL,ai,fun _=>rfl,am,aF,aB,aJ,aI,aK,aV,aW,aX,aZ,⟨kcx,k0,k1,hI⟩⟩
   ·intro D aY ci bM bN bU bV bW bX cf cA cz cu cv cw bP dE dB dw dC dy dz dA dx d4 w_
    rintro ⟨av,aw,ao,au,az,aq,aA,aE,aH,aL,ai,aj,am,aF,aB,aJ,aI,aK,aV,aW,aX,aZ,⟨kcx,k0,k1,hI⟩⟩
    obtain rfl:=aA ci
    repeat (first|refine ab ?_|refine ad (by decide) ?_|refine aa ?_|refine af ?_|refine ag ?_)
    refine bb bK ?_
    exact ⟨av,aw,ao,au,az,aq,aA,aE,aH,aL,ai,aj,fun _=>rfl,aF,aB,aJ,aI,aK,aV,aW,aX,aZ,⟨kcx,k0,k1,hI⟩⟩
   ·intro D aY j3 gc bM bN bU bV bW bX cf cA cz cu cv cw bP dE dB dw dC dy dz dA dx d4 w_
    rintro ⟨av,aw,ao,au,az,aq,aA,aE,aH,aL,ai,aj,am,aF,aB,aJ,aI,aK,aV,aW,aX,aZ,⟨kcx,k0,k1,hI⟩⟩
    obtain rfl:=am j3
    obtain rfl:=aA gc
    repeat (first|refine ab ?_|refine ad (by decide) ?_|refine aa ?_|refine af ?_|refine ag ?_)
    refine bj hI 0 bT rfl rfl ?_
    exact ⟨av,aw,ao,au,az,aq,aA,aE,aH,aL,ai,aj,am,fun _=>rfl,aB,aJ,aI,aK,aV,aW,aX,aZ,⟨kcx,k0,k1,hI⟩⟩
   ·intro D aY ci bM bN bU bV bW bX cf cA cz cu cv cw bP dE dB dw dC dy dz dA dx d4 w_
    rintro ⟨av,aw,ao,au,az,aq,aA,aE,aH,aL,ai,aj,am,aF,aB,aJ,aI,aK,aV,aW,aX,aZ,⟨kcx,k0,k1,hI⟩⟩
    obtain rfl:=aA ci
    repeat (first|refine ab ?_|refine ad (by decide) ?_|refine aa ?_|refine af ?_|refine ag ?_)
    exact ⟨av,aw,ao,au,az,aq,aA,aE,aH,aL,ai,aj,am,aF,fun _=>rfl,aJ,aI,aK,aV,aW,aX,aZ,⟨kcx,k0,k1,hI⟩⟩
   ·intro D aY fu ft q0 bM bN bU bV bW bX cf cA cz cu cv cw bP dE dB dw dC dy dz dA dx d4 w_
    rintro ⟨av,aw,ao,au,az,aq,aA,aE,aH,aL,ai,aj,am,aF,aB,aJ,aI,aK,aV,aW,aX,aZ,⟨kcx,k0,k1,hI⟩⟩
    obtain rfl:=aF fu
    obtain rfl:=aB ft
    obtain rfl:=aA q0
    repeat (first|refine ab ?_|refine ad (by decide) ?_|refine aa ?_|refine af ?_|refine ag ?_)
    refine aT bD hk2 ?_
    exact ⟨av,aw,ao,au,az,aq,aA,aE,aH,aL,ai,aj,am,aF,aB,fun _=>rfl,aI,aK,aV,aW,aX,aZ,⟨kcx,k0,k1,hI⟩⟩
   ·intro D aY jl gc bM bN bU bV bW bX cf cA cz cu cv cw bP dE dB dw dC dy dz dA dx d4 w_
    rintro ⟨av,aw,ao,au,az,aq,aA,aE,aH,aL,ai,aj,am,aF,aB,aJ,aI,aK,aV,aW,aX,aZ,⟨kcx,k0,k1,hI⟩⟩
    obtain rfl:=aJ jl
    obtain rfl:=aA gc
    repeat (first|refine ab ?_|refine ad (by decide) ?_|refine aa ?_|refine af ?_|refine ag ?_)
    refine bb ct ?_
    exact ⟨av,aw,ao,au,az,aq,aA,aE,aH,aL,ai,aj,am,aF,aB,aJ,fun _=>rfl,aK,aV,aW,aX,aZ,⟨kcx,k0,k1,hI⟩⟩
   ·intro D aY mg gc bM bN bU bV bW bX cf cA cz cu cv cw bP dE dB dw dC dy dz dA dx d4 w_
    rintro ⟨av,aw,ao,au,az,aq,aA,aE,aH,aL,ai,aj,am,aF,aB,aJ,aI,aK,aV,aW,aX,aZ,⟨kcx,k0,k1,hI⟩⟩
    obtain rfl:=aI mg
    obtain rfl:=aA gc
    repeat (first|refine ab ?_|refine ad (by decide) ?_|refine aa ?_|refine af ?_|refine ag ?_)
    refine bw (cs:=[.int .i64 x.goal.kind,.int .i64 x.goal.n,.string x.goal.name,fv]) al rfl (fun i v hi=>by rw [hI.cellS hfS]; exact aS hfe i v (Bd i v hi)) ?_
    exact ⟨av,aw,ao,au,az,aq,aA,aE,aH,aL,ai,aj,am,aF,aB,aJ,aI,fun _=>rfl,aV,aW,aX,aZ,⟨kcx,k0,k1,hI⟩⟩
   ·intro D aY ci bM bN bU bV bW bX cf cA cz cu cv cw bP dE dB dw dC dy dz dA dx d4 w_
    rintro ⟨av,aw,ao,au,az,aq,aA,aE,aH,aL,ai,aj,am,aF,aB,aJ,aI,aK,aV,aW,aX,aZ,⟨kcx,k0,k1,hI⟩⟩
    obtain rfl:=aA ci
    repeat (first|refine ab ?_|refine ad (by decide) ?_|refine aa ?_|refine af ?_|refine ag ?_)
    exact ⟨av,aw,ao,au,az,aq,aA,aE,aH,aL,ai,aj,am,aF,aB,aJ,aI,aK,fun _=>rfl,aW,aX,aZ,⟨kcx,k0,k1,hI⟩⟩
   ·intro D aY e7 DM D2 FE F3 bM bN bU bV bW bX cf cA cz cu cv cw bP dE dB dw dC dy dz dA dx d4 w_
    rintro ⟨av,aw,ao,au,az,aq,aA,aE,aH,aL,ai,aj,am,aF,aB,aJ,aI,aK,aV,aW,aX,aZ,⟨kcx,k0,k1,hI⟩⟩
    obtain rfl:=aj e7
    obtain rfl:=aK DM
    obtain rfl:=aV D2
    obtain rfl:=aA FE
    repeat (first|refine ab ?_|refine ad (by decide) ?_|refine aa ?_|refine af ?_|refine ag ?_)
    have e0:=k0 aY
    rw [e0] at hI
    refine Run.callE (A:=[_,_]) ko kF hI (nm 26 y x.goal S1 _ _ tb kc st' hqR hfg (jW hqo.2.1 _ hym) (fO (eF hxg)).2 hst hkc) fun v' I' S2 w_=>?_
    rintro ⟨eS,rfl,kcx,rfl,hkx⟩ _ hI
    rw [eS] at hI
    have k0:=fun (h:aD D 19 19=false)=>(Bool.noConfusion h:kcx=kc)
    have k1:=fun (_:aD D 19 19=true)=>hkx
    exact ⟨av,aw,ao,au,az,aq,aA,aE,aH,aL,ai,aj,am,aF,aB,aJ,aI,aK,aV,fun _=>rfl,aX,aZ,⟨kcx,k0,k1,hI⟩⟩
   ·intro D aY oC gc bM bN bU bV bW bX cf cA cz cu cv cw bP dE dB dw dC dy dz dA dx d4 w_
    rintro ⟨av,aw,ao,au,az,aq,aA,aE,aH,aL,ai,aj,am,aF,aB,aJ,aI,aK,aV,aW,aX,aZ,⟨kcx,k0,k1,hI⟩⟩
    obtain rfl:=aW oC
    obtain rfl:=aA gc
    repeat (first|refine ab ?_|refine ad (by decide) ?_|refine aa ?_|refine af ?_|refine ag ?_)
    refine bJ ?_
    exact ⟨av,aw,ao,au,az,aq,aA,aE,aH,aL,ai,aj,am,aF,aB,aJ,aI,aK,aV,aW,fun _=>rfl,aZ,⟨kcx,k0,k1,hI⟩⟩
   ·intro D aY ci qj bM bN bU bV bW bX cf cA cz cu cv cw bP dE dB dw dC dy dz dA dx d4 w_
    rintro ⟨av,aw,ao,au,az,aq,aA,aE,aH,aL,ai,aj,am,aF,aB,aJ,aI,aK,aV,aW,aX,aZ,⟨kcx,k0,k1,hI⟩⟩
    obtain rfl:=aA ci
    obtain rfl:=aX qj
    repeat (first|refine ab ?_|refine ad (by decide) ?_|refine aa ?_|refine af ?_|refine ag ?_)
    exact ⟨av,aw,ao,au,az,aq,aA,aE,aH,aL,ai,aj,am,aF,aB,aJ,aI,aK,aV,aW,aX,fun _=>rfl,⟨kcx,k0,k1,hI⟩⟩
   intro D zx yM xu yH kU kq jr i5 jq fN dO d7 hY gh fB fk fi e9 fe eQ eZ e8 bM bN bU bV bW bX cf cA cz cu cv cw bP dE dB dw dC dy dz dA dx d4 w_
   rintro ⟨av,aw,ao,au,az,aq,aA,aE,aH,aL,ai,aj,am,aF,aB,aJ,aI,aK,aV,aW,aX,aZ,⟨kcx,k0,k1,hI⟩⟩
   obtain rfl:=aZ zx
   obtain rfl:=aX yM
   obtain rfl:=aW xu
   obtain rfl:=aV yH
   obtain rfl:=aK kU
   obtain rfl:=aI kq
   obtain rfl:=aJ jr
   obtain rfl:=aB i5
   obtain rfl:=aF jq
   obtain rfl:=am fN
   obtain rfl:=aj dO
   obtain rfl:=ai d7
   obtain rfl:=aL hY
   obtain rfl:=aH gh
   obtain rfl:=aE fB
   obtain rfl:=aA fk
   obtain rfl:=aq fi
   obtain rfl:=az e9
   obtain rfl:=au fe
   obtain rfl:=ao eQ
   obtain rfl:=aw eZ
   obtain rfl:=av e8
   clear av aw ao au az aq aA aE aH aL ai aj am aF aB aJ aI aK aV aW aX aZ
   have hkx:=k1 xu
   have hst2:=gU y x.goal st' hst (fO (eF hxg)).2
   rw [hcut] at hrel
   cases hm:(bE y x.goal st').1
   ·refine bd (fun _=>done hI ?_) (fun hb=>by cases hb)
    rw [<- hrel,hm]; rfl
   refine bd (fun hb=>by cases hb) (fun _=>?_)
   refine b0 (by omega) ?_
   rw [hm,Bool.not_false,Bool.true_and,Bool.true_and] at hrel
   exact ⟨⟨k+1,_,kcx,hk1,rfl,hrel,hst2,hkx,hI⟩,by simp [intOf]; omega⟩
  ·have hI:=hI
   refine ⟨fun D bM bN bU bV bW bX cf cA cz cu cv cw bP dE dB dw dC dy dz dA dx d4 w_=>(D 0=true->d4=.pointer (some ⟨b5,4,none⟩))/\(D 1=true->dx=.slice (some ⟨qb,qo,none⟩) q.body.length qcap)/\(D 2=true->dA=.int .i64 k)/\(D 3=true->dz=.pointer (some ⟨qb,qo+k * 4,none⟩))/\(D 4=true->dy=.agg (ba qc (qo+k * 4) 4).toArray)/\(D 5=true->dC=.bool true)/\(D 6=true->dw=.bool true)/\(D 7=true->dB=undef)/\(D 8=true->dE=undef)/\(D 9=true->bP=undef)/\(D 10=true->cw=undef)/\(D 11=true->cv=undef)/\(D 12=true->cu=undef)/\(D 13=true->cz=undef)/\(D 14=true->cA=undef)/\(D 15=true->cf=undef)/\(D 16=true->bX=undef)/\(D 17=true->bW=undef)/\(D 18=true->bV=undef)/\(D 19=true->bU=undef)/\(D 20=true->bN=undef)/\(D 21=true->bM=.bool true)/\Inv w [] [.blk b3 (.cells #[.int .i64 g.kind,.int .i64 g.n,.string g.name,kv,.int .i64 (j:Int),.slice (some ⟨fb,fo,none⟩) ks.length fcap] bx),.blk b5 (.cells #[.int .i64 q.head.kind,.int .i64 q.head.n,.string q.head.name,kh,.slice (some ⟨qb,qo,none⟩) q.body.length qcap] cN),.blk tb (.cells kc ac)] S1 w_,⟨ae,ae,ae,ae,ae,ae,ae,ae,ae,ae,ae,ae,ae,ae,ae,ae,ae,ae,ae,ae,ae,ae,hI.draw⟩,⟨?_,?_,?_,?_,?_,?_,?_,?_,?_,?_,?_,?_,?_,?_,?_,?_,?_,?_,?_,?_,?_,?_,trivial⟩,?_⟩
   ·intro D aY  bM bN bU bV bW bX cf cA cz cu cv cw bP dE dB dw dC dy dz dA dx d4 w_
    rintro ⟨av,aw,ao,au,az,aq,aA,aE,aH,aL,ai,aj,am,aF,aB,aJ,aI,aK,aV,aW,aX,aZ,hI⟩
    refine bb cn ?_
    exact ⟨fun _=>rfl,aw,ao,au,az,aq,aA,aE,aH,aL,ai,aj,am,aF,aB,aJ,aI,aK,aV,aW,aX,aZ,hI⟩
   ·intro D aY cB bM bN bU bV bW bX cf cA cz cu cv cw bP dE dB dw dC dy dz dA dx d4 w_
    rintro ⟨av,aw,ao,au,az,aq,aA,aE,aH,aL,ai,aj,am,aF,aB,aJ,aI,aK,aV,aW,aX,aZ,hI⟩
    obtain rfl:=av cB
    refine bj hI 1 aO rfl rfl ?_
    exact ⟨av,fun _=>rfl,ao,au,az,aq,aA,aE,aH,aL,ai,aj,am,aF,aB,aJ,aI,aK,aV,aW,aX,aZ,hI⟩
   ·intro D aY  bM bN bU bV bW bX cf cA cz cu cv cw bP dE dB dw dC dy dz dA dx d4 w_
    rintro ⟨av,aw,ao,au,az,aq,aA,aE,aH,aL,ai,aj,am,aF,aB,aJ,aI,aK,aV,aW,aX,aZ,hI⟩
    exact ⟨av,aw,fun _=>rfl,au,az,aq,aA,aE,aH,aL,ai,aj,am,aF,aB,aJ,aI,aK,aV,aW,aX,aZ,hI⟩
   ·intro D aY c6 d8 bM bN bU bV bW bX cf cA cz cu cv cw bP dE dB dw dC dy dz dA dx d4 w_
    rintro ⟨av,aw,ao,au,az,aq,aA,aE,aH,aL,ai,aj,am,aF,aB,aJ,aI,aK,aV,aW,aX,aZ,hI⟩
    obtain rfl:=aw c6
    obtain rfl:=ao d8
    refine aT aC hk1 ?_
    exact ⟨av,aw,ao,fun _=>rfl,az,aq,aA,aE,aH,aL,ai,aj,am,aF,aB,aJ,aI,aK,aV,aW,aX,aZ,hI⟩
   ·intro D aY dq bM bN bU bV bW bX cf cA cz cu cv cw bP dE dB dw dC dy dz dA dx d4 w_
    rintro ⟨av,aw,ao,au,az,aq,aA,aE,aH,aL,ai,aj,am,aF,aB,aJ,aI,aK,aV,aW,aX,aZ,hI⟩
    obtain rfl:=au dq
    refine bw al hqR.length (fun i v hi=>by rw [hI.cellS hqS]; exact aS rfl i v hi) ?_
    exact ⟨av,aw,ao,au,fun _=>rfl,aq,aA,aE,aH,aL,ai,aj,am,aF,aB,aJ,aI,aK,aV,aW,aX,aZ,hI⟩
   ·intro D aY cZ bM bN bU bV bW bX cf cA cz cu cv cw bP dE dB dw dC dy dz dA dx d4 w_
    rintro ⟨av,aw,ao,au,az,aq,aA,aE,aH,aL,ai,aj,am,aF,aB,aJ,aI,aK,aV,aW,aX,aZ,hI⟩
    obtain rfl:=az cZ
    refine Run.callPure oc oi hI (mu hqR) fun w_ hI=>?_
    rw [hcut]
    exact ⟨av,aw,ao,au,az,fun _=>rfl,aA,aE,aH,aL,ai,aj,am,aF,aB,aJ,aI,aK,aV,aW,aX,aZ,hI⟩
   ·intro D aY cY cm bM bN bU bV bW bX cf cA cz cu cv cw bP dE dB dw dC dy dz dA dx d4 w_
    rintro ⟨av,aw,ao,au,az,aq,aA,aE,aH,aL,ai,aj,am,aF,aB,aJ,aI,aK,aV,aW,aX,aZ,hI⟩
    obtain rfl:=aq cY
    exact ⟨av,aw,ao,au,az,aq,fun _=>rfl,aE,aH,aL,ai,aj,am,aF,aB,aJ,aI,aK,aV,aW,aX,aZ,hI⟩
   ·intro D aY ci bM bN bU bV bW bX cf cA cz cu cv cw bP dE dB dw dC dy dz dA dx d4 w_
    rintro ⟨av,aw,ao,au,az,aq,aA,aE,aH,aL,ai,aj,am,aF,aB,aJ,aI,aK,aV,aW,aX,aZ,hI⟩
    obtain rfl:=aA ci
    repeat (first|refine ab ?_|refine ad (by decide) ?_|refine aa ?_|refine af ?_|refine ag ?_)
    exact ⟨av,aw,ao,au,az,aq,aA,fun _=>rfl,aH,aL,ai,aj,am,aF,aB,aJ,aI,aK,aV,aW,aX,aZ,hI⟩
   ·intro D aY dT gc bM bN bU bV bW bX cf cA cz cu cv cw bP dE dB dw dC dy dz dA dx d4 w_
    rintro ⟨av,aw,ao,au,az,aq,aA,aE,aH,aL,ai,aj,am,aF,aB,aJ,aI,aK,aV,aW,aX,aZ,hI⟩
    obtain rfl:=aE dT
    obtain rfl:=aA gc
    repeat (first|refine ab ?_|refine ad (by decide) ?_|refine aa ?_|refine af ?_|refine ag ?_)
    exact ⟨av,aw,ao,au,az,aq,aA,aE,fun _=>rfl,aL,ai,aj,am,aF,aB,aJ,aI,aK,aV,aW,aX,aZ,hI⟩
   ·intro D aY ci bM bN bU bV bW bX cf cA cz cu cv cw bP dE dB dw dC dy dz dA dx d4 w_
    rintro ⟨av,aw,ao,au,az,aq,aA,aE,aH,aL,ai,aj,am,aF,aB,aJ,aI,aK,aV,aW,aX,aZ,hI⟩
    obtain rfl:=aA ci
    repeat (first|refine ab ?_|refine ad (by decide) ?_|refine aa ?_|refine af ?_|refine ag ?_)
    exact ⟨av,aw,ao,au,az,aq,aA,aE,aH,fun _=>rfl,ai,aj,am,aF,aB,aJ,aI,aK,aV,aW,aX,aZ,hI⟩
   ·intro D aY dN iJ q0 bM bN bU bV bW bX cf cA cz cu cv cw bP dE dB dw dC dy dz dA dx d4 w_
    rintro ⟨av,aw,ao,au,az,aq,aA,aE,aH,aL,ai,aj,am,aF,aB,aJ,aI,aK,aV,aW,aX,aZ,hI⟩
    obtain rfl:=aH dN
    obtain rfl:=aL iJ
    obtain rfl:=aA q0
    repeat (first|refine ab ?_|refine ad (by decide) ?_|refine aa ?_|refine af ?_|refine ag ?_)
    exact ⟨av,aw,ao,au,az,aq,aA,aE,aH,aL,fun _=>rfl,aj,am,aF,aB,aJ,aI,aK,aV,aW,aX,aZ,hI⟩
   ·intro D aY eo gc bM bN bU bV bW bX cf cA cz cu cv cw bP dE dB dw dC dy dz dA dx d4 w_
    rintro ⟨av,aw,ao,au,az,aq,aA,aE,aH,aL,ai,aj,am,aF,aB,aJ,aI,aK,aV,aW,aX,aZ,hI⟩
    obtain rfl:=ai eo
    obtain rfl:=aA gc
    repeat (first|refine ab ?_|refine ad (by decide) ?_|refine aa ?_|refine af ?_|refine ag ?_)
    exact ⟨av,aw,ao,au,az,aq,aA,aE,aH,aL,ai,fun _=>rfl,am,aF,aB,aJ,aI,aK,aV,aW,aX,aZ,hI⟩
   ·intro D aY ci bM bN bU bV bW bX cf cA cz cu cv cw bP dE dB dw dC dy dz dA dx d4 w_
    rintro ⟨av,aw,ao,au,az,aq,aA,aE,aH,aL,ai,aj,am,aF,aB,aJ,aI,aK,aV,aW,aX,aZ,hI⟩
    obtain rfl:=aA ci
    repeat (first|refine ab ?_|refine ad (by decide) ?_|refine aa ?_|refine af ?_|refine ag ?_)
    exact ⟨av,aw,ao,au,az,aq,aA,aE,aH,aL,ai,aj,fun _=>rfl,aF,aB,aJ,aI,aK,aV,aW,aX,aZ,hI⟩
   ·intro D aY j3 gc bM bN bU bV bW bX cf cA cz cu cv cw bP dE dB dw dC dy dz dA dx d4 w_
    rintro ⟨av,aw,ao,au,az,aq,aA,aE,aH,aL,ai,aj,am,aF,aB,aJ,aI,aK,aV,aW,aX,aZ,hI⟩
    obtain rfl:=am j3
    obtain rfl:=aA gc
    repeat (first|refine ab ?_|refine ad (by decide) ?_|refine aa ?_|refine af ?_|refine ag ?_)
    exact ⟨av,aw,ao,au,az,aq,aA,aE,aH,aL,ai,aj,am,fun _=>rfl,aB,aJ,aI,aK,aV,aW,aX,aZ,hI⟩
   ·intro D aY ci bM bN bU bV bW bX cf cA cz cu cv cw bP dE dB dw dC dy dz dA dx d4 w_
    rintro ⟨av,aw,ao,au,az,aq,aA,aE,aH,aL,ai,aj,am,aF,aB,aJ,aI,aK,aV,aW,aX,aZ,hI⟩
    obtain rfl:=aA ci
    repeat (first|refine ab ?_|refine ad (by decide) ?_|refine aa ?_|refine af ?_|refine ag ?_)
    exact ⟨av,aw,ao,au,az,aq,aA,aE,aH,aL,ai,aj,am,aF,fun _=>rfl,aJ,aI,aK,aV,aW,aX,aZ,hI⟩
   ·intro D aY fu ft q0 bM bN bU bV bW bX cf cA cz cu cv cw bP dE dB dw dC dy dz dA dx d4 w_
    rintro ⟨av,aw,ao,au,az,aq,aA,aE,aH,aL,ai,aj,am,aF,aB,aJ,aI,aK,aV,aW,aX,aZ,hI⟩
    obtain rfl:=aF fu
    obtain rfl:=aB ft
    obtain rfl:=aA q0
    repeat (first|refine ab ?_|refine ad (by decide) ?_|refine aa ?_|refine af ?_|refine ag ?_)
    exact ⟨av,aw,ao,au,az,aq,aA,aE,aH,aL,ai,aj,am,aF,aB,fun _=>rfl,aI,aK,aV,aW,aX,aZ,hI⟩
   ·intro D aY jl gc bM bN bU bV bW bX cf cA cz cu cv cw bP dE dB dw dC dy dz dA dx d4 w_
    rintro ⟨av,aw,ao,au,az,aq,aA,aE,aH,aL,ai,aj,am,aF,aB,aJ,aI,aK,aV,aW,aX,aZ,hI⟩
    obtain rfl:=aJ jl
    obtain rfl:=aA gc
    repeat (first|refine ab ?_|refine ad (by decide) ?_|refine aa ?_|refine af ?_|refine ag ?_)
    exact ⟨av,aw,ao,au,az,aq,aA,aE,aH,aL,ai,aj,am,aF,aB,aJ,fun _=>rfl,aK,aV,aW,aX,aZ,hI⟩
   ·intro D aY mg gc bM bN bU bV bW bX cf cA cz cu cv cw bP dE dB dw dC dy dz dA dx d4 w_
    rintro ⟨av,aw,ao,au,az,aq,aA,aE,aH,aL,ai,aj,am,aF,aB,aJ,aI,aK,aV,aW,aX,aZ,hI⟩
    obtain rfl:=aI mg
    obtain rfl:=aA gc
    repeat (first|refine ab ?_|refine ad (by decide) ?_|refine aa ?_|refine af ?_|refine ag ?_)
    exact ⟨av,aw,ao,au,az,aq,aA,aE,aH,aL,ai,aj,am,aF,aB,aJ,aI,fun _=>rfl,aV,aW,aX,aZ,hI⟩
   ·intro D aY ci bM bN bU bV bW bX cf cA cz cu cv cw bP dE dB dw dC dy dz dA dx d4 w_
    rintro ⟨av,aw,ao,au,az,aq,aA,aE,aH,aL,ai,aj,am,aF,aB,aJ,aI,aK,aV,aW,aX,aZ,hI⟩
    obtain rfl:=aA ci
    repeat (first|refine ab ?_|refine ad (by decide) ?_|refine aa ?_|refine af ?_|refine ag ?_)
    exact ⟨av,aw,ao,au,az,aq,aA,aE,aH,aL,ai,aj,am,aF,aB,aJ,aI,aK,fun _=>rfl,aW,aX,aZ,hI⟩
   ·intro D aY e7 DM D2 FE F3 bM bN bU bV bW bX cf cA cz cu cv cw bP dE dB dw dC dy dz dA dx d4 w_
    rintro ⟨av,aw,ao,au,az,aq,aA,aE,aH,aL,ai,aj,am,aF,aB,aJ,aI,aK,aV,aW,aX,aZ,hI⟩
    obtain rfl:=aj e7
    obtain rfl:=aK DM
    obtain rfl:=aV D2
    obtain rfl:=aA FE
    repeat (first|refine ab ?_|refine ad (by decide) ?_|refine aa ?_|refine af ?_|refine ag ?_)
    exact ⟨av,aw,ao,au,az,aq,aA,aE,aH,aL,ai,aj,am,aF,aB,aJ,aI,aK,aV,fun _=>rfl,aX,aZ,hI⟩
   ·intro D aY oC gc bM bN bU bV bW bX cf cA cz cu cv cw bP dE dB dw dC dy dz dA dx d4 w_
    rintro ⟨av,aw,ao,au,az,aq,aA,aE,aH,aL,ai,aj,am,aF,aB,aJ,aI,aK,aV,aW,aX,aZ,hI⟩
    obtain rfl:=aW oC
    obtain rfl:=aA gc
    repeat (first|refine ab ?_|refine ad (by decide) ?_|refine aa ?_|refine af ?_|refine ag ?_)
    exact ⟨av,aw,ao,au,az,aq,aA,aE,aH,aL,ai,aj,am,aF,aB,aJ,aI,aK,aV,aW,fun _=>rfl,aZ,hI⟩
   ·intro D aY ci qj bM bN bU bV bW bX cf cA cz cu cv cw bP dE dB dw dC dy dz dA dx d4 w_
    rintro ⟨av,aw,ao,au,az,aq,aA,aE,aH,aL,ai,aj,am,aF,aB,aJ,aI,aK,aV,aW,aX,aZ,hI⟩
    obtain rfl:=aA ci
    obtain rfl:=aX qj
    repeat (first|refine ab ?_|refine ad (by decide) ?_|refine aa ?_|refine af ?_|refine ag ?_)
    exact ⟨av,aw,ao,au,az,aq,aA,aE,aH,aL,ai,aj,am,aF,aB,aJ,aI,aK,aV,aW,aX,fun _=>rfl,hI⟩
   intro D zx yM xu yH kU kq jr i5 jq fN dO d7 hY gh fB fk fi e9 fe eQ eZ e8 bM bN bU bV bW bX cf cA cz cu cv cw bP dE dB dw dC dy dz dA dx d4 w_
   rintro ⟨av,aw,ao,au,az,aq,aA,aE,aH,aL,ai,aj,am,aF,aB,aJ,aI,aK,aV,aW,aX,aZ,hI⟩
   obtain rfl:=aZ zx
   obtain rfl:=aX yM
   obtain rfl:=aW xu
   obtain rfl:=aV yH
   obtain rfl:=aK kU
   obtain rfl:=aI kq
   obtain rfl:=aJ jr
   obtain rfl:=aB i5
   obtain rfl:=aF jq
   obtain rfl:=am fN
   obtain rfl:=aj dO
   obtain rfl:=ai d7
   obtain rfl:=aL hY
   obtain rfl:=aH gh
   obtain rfl:=aE fB
   obtain rfl:=aA fk
   obtain rfl:=aq fi
   obtain rfl:=az e9
   obtain rfl:=au fe
   obtain rfl:=ao eQ
   obtain rfl:=aw eZ
   obtain rfl:=av e8
   clear av aw ao au az aq aA aE aH aL ai aj am aF aB aJ aI aK aV aW aX aZ
   refine bd (fun _=>done hI ?_) (fun hb=>by cases hb)
   rw [<- hrel,hcut]; rfl
 ·have:k=q.body.length:=by omega
  subst this
  refine done hI ?_
  rw [<- hrel,List.drop_length]
  generalize ks.drop q.body.length=zs
  cases zs <;> rfl
theorem vK {p:List C} (hpv:jG p=true):∀ (x:PF) (d:Int) (S:ar) (u:Value) (cs:List Value),l5 x d=true->RdSl S 5 (RdC S) u p->RdF S cs x->Pure Tryz.prog zH [u,.agg cs.toArray] S (.bool (chkF p x)):=by
 refine PF.ind fun g c ks ih d S u cs hsh hp h=>?_
 intro w hI
 have h0:=h
 obtain ⟨kv,kf,rfl,hg,hci,hks⟩:=RdF.iff.1 h
 obtain ⟨_,_,hkids⟩:=jZ hsh
 simp only [PF.goal,PF.kids,PF.clause] at hg hci hks h0 ⊢
 have hkl:=hks.le
 simp only [maxLen] at hkl
 rw [chkF]
 refine rq ?_
 unfold nP
 refine bt hI fun b3 w' hI=>?_
 have hI:Inv w [] [.blk b3 (.cells #[.int .i64 g.kind,.int .i64 g.n,.string g.name,kv,.int .i64 c,kf] bx)] S w':=hI
 refine a8 hI 0 bS rfl rfl ?_
 refine Run.callPure yL yU hI (wU hpv hsh hp h0) fun w' hI=>?_
 refine bJ ?_
 cases hn:nodeC p g c ks
 ·refine bd (fun _=>done hI rfl) (fun hb=>by cases hb)
 refine bd (fun hb=>by cases hb) (fun _=>?_)
 rw [Bool.true_and]
 refine ⟨fun i w'=>∃ k:Nat,k<=ks.length/\i=.int .i64 k/\chkFL p (ks.drop k)=chkFL p ks/\Inv w [] [.blk b3 (.cells #[.int .i64 g.kind,.int .i64 g.n,.string g.name,kv,.int .i64 c,kf] bx)] S w',
  fun i _=>ks.length - (intOf i).toNat,⟨0,Nat.zero_le _,rfl,rfl,hI⟩,?_⟩
 intro i _ _ _ _ _ _ _ _ _ _ _ _ _ _ _ _ w'
 rintro ⟨k,hk,rfl,hrel,hI⟩
 refine ah hI 0 rfl bK bT rfl ?_
 refine a5 hks bD ?_
 refine bz ?_
 refine bf (fun hki=>?_) (fun hki=>?_)
 ·have hk':k<ks.length:=by omega
  have hm:=List.getElem_mem hk'
  rw [List.drop_eq_getElem_cons hk',chkFL] at hrel
  refine ah hI 0 rfl bK bT rfl ?_
  refine cj hI hks bD bS hk' (fun _ _=>RdF.length) fun ds hds=>?_
  refine Run.callPure nH nC hI (ih _ hm (d - 1) S u ds (hkids _ hm) hp hds) fun w' hI=>?_
  refine bJ ?_
  refine bd (fun hne=>done hI ?_) (fun he=>?_)
  ·rw [Bool.not_eq_true'] at hne
   rw [<- hrel,hne]; rfl
  ·rw [Bool.not_eq_false'] at he
   rw [he,Bool.true_and] at hrel
   refine b0 (by omega) ?_
   exact ⟨⟨k+1,hk',rfl,hrel,hI⟩,by simp [intOf]; omega⟩
 ·have:k=ks.length:=by omega
  subst this
  exact done hI (by rw [<- hrel,List.drop_length]; rfl)
end
end Go.Proofs.YtfcbhfjomgopbaaGreat
