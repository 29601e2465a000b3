/- impl.ownProgram; spec's copies. -/
import Derived.Test.YtmnnpgdeecnfpaaGreatZMh1
namespace Go.Proofs.YtmnnpgdeecnfpaaGreat
open Go Go.RowKit
theorem RdC.one {S:ax} {cs:List Value} {c:C} (h:RdC S cs c):∀ u∈cs,u.oneCell'=true:=by
 obtain ⟨hd,ks,rfl,h1,a,cap,rfl,_⟩:=h
 intro u hu
 rcases List.mem_append.1 hu with hu|hu
 ·exact h1.one u hu
 ·simp at hu; subst hu; rfl
section
attribute [local irreducible] Run CondV ah ba
/- a row's value is a slice -/
theorem Inv.rowSlice {w0 w:World} {X:List Nat} {L:List Item} {S:ax} {v:Value} {e:TypeId} {k n:Nat} {xs:List Value} (h:Inv w0 X L S w) (i:Nat) (hi:L[i]?=some (.row v e k n xs)):∃ a m c,v=.slice a m c:=by
 have hm:w.ownsRow 0 e k v n xs:=h.its (.row v e k n xs) (List.mem_of_getElem? hi)
 rcases hm.2 with ⟨rfl,_⟩|⟨g,cap,cur,rfl,_⟩
 ·exact ⟨_,_,_,rfl⟩
 ·exact ⟨_,_,_,rfl⟩
def bd (B1 B2 B3 B3' r r':Item) (rest:List Item) (M:bn) (B27:Item) (d7 d8 d9 d11:Bool):List Item:=
 B1::B2::(match d11 with|true=>B3'|false=>B3)::(match d9 with|true=>r'|false=>r)::(rest++((match d7 with|true=>bk M|false=>[])++(match d8 with|true=>[B27]|false=>[])))

theorem fQ:∀ (t:T) (S:ax) (cs:List Value),RdT S cs t->wT t<=1048576->Tri Tryz.prog m7 [.agg cs.toArray] [] S (rO S t):=by
 refine T.ind fun k n s ks ih S cs h hw=>?_
 intro w hI
 obtain ⟨kv,rfl,h1,h2,hs,hks⟩:=RdT.iff.1 h
 simp only [T.name,T.kids,T.kind,T.n] at h1 h2 hs hks ⊢
 simp only [wT] at hw
 refine lf ?_
 unfold lF
 refine co hI fun b1 w' hI=>?_
 refine bm hI bx fun b2 w' hI=>?_
 refine aH hI 0 rfl bF bw rfl ?_
 refine aH hI 0 rfl bE bw rfl ?_
 refine aH hI 0 rfl bu bq rfl ?_
 refine jc ?_
 refine bm hI bx fun b3 w' hI=>?_
 refine aX hI 2 rfl aj rfl rfl (by simp [Value.oneCell']) fun w' hI=>?_
 have hI:=hI.rowNil ac 4
 refine ⟨fun i w'=>∃ (j:Nat) (kvc:Value) (Ls:List bn) (css:List (List Value)),j<=ks.length/\i=.int .i64 j/\Grown 4 TrT Ls css (ks.take j)/\
   Inv w [] (.blk b1 (.cells #[.int .i64 k,.int .i64 n,.string s,kv] ac)::.blk b2 (.cells #[.int .i64 0,.int .i64 0,.string ⟨#[]⟩,.slice none 0 0] ac)::.blk b3 (.cells #[.int .i64 k,.int .i64 n,.string s,kvc] ac)::be kvc ac 4 css::bk Ls.flatten) S w',
  fun i _=>ks.length - (intOf i).toNat,⟨0,_,[],[],Nat.zero_le _,rfl,Grown.nil _ _,hI⟩,?_⟩
 intro t4 _ _ _ _ _ _ _ _ _ _ _ _ _ _ _ _ _ _ w'
 rintro ⟨j,kvc,Ls,css,hj,rfl,hg,hI⟩
 refine aH hI 0 rfl a9 aV rfl ?_
 refine bo hks aS ?_
 refine dh ?_
 refine bz (fun hji=>?_) (fun hji=>?_)
 ·have hj':j<ks.length:=by omega
  have hjl:(ks.take j).length=j:=by simp; omega
  have hcl:=hg.hc
  have hm:=List.getElem_mem hj'
  have hwm:=fV hm
  obtain ⟨b,o,cap,c,E,fz,rfl,hS,hR⟩:=hks.at_ hj'
  refine ⟨fun D dq di dp cX cM dn dr de cY cK c4 w_=>(D 0=true->c4=.pointer (some ⟨b3,3,none⟩))/\(D 1=true->cK=kvc)/\(D 2=true->cY=.pointer (some ⟨b1,3,none⟩))/\(D 3=true->de=.slice (some ⟨b,o,none⟩) (ks).length cap)/\(D 4=true->dr=.int .i64 j)/\(D 5=true->dn=.pointer (some ⟨b,o+j * 4,none⟩))/\(D 6=true->cM=.agg (bB c (o+j * 4) 4).toArray)/\(D 7=true->True)/\(D 8=true->True)/\(D 9=true->True)/\(D 10=true->dq=.pointer (some ⟨b3,3,none⟩))/\(D 11=true->True)/\∃ M cs7 b8,(D 7=true->cX=.agg cs7.toArray/\TrT M cs7 (ks)[j])/\(D 8=true->dp=.slice (some ⟨b8,0,none⟩) 1 1)/\(D 8=true->D 7=true)/\(D 9=true->D 8=true)/\(D 11=true->D 9=true)/\(D 11=true->D 1=true)/\Inv w [] (bd (.blk b1 (.cells #[.int .i64 k,.int .i64 n,.string s,.slice (some ⟨b,o,none⟩) ks.length cap] ac)) (.blk b2 (.cells #[.int .i64 0,.int .i64 0,.string ⟨#[]⟩,.slice none 0 0] ac)) (.blk b3 (.cells #[.int .i64 k,.int .i64 n,.string s,kvc] ac)) (.blk b3 (.cells #[.int .i64 k,.int .i64 n,.string s,di] ac)) (be kvc ac 4 css) (be di ac 4 (css++[cs7])) (bk Ls.flatten) M (.blk b8 (.cells cs7.toArray ac)) (D 7) (D 8) (D 9) (D 11)) S w_,⟨af,af,af,af,af,af,af,af,af,af,af,af,⟨[],[],0,af,af,af,af,af,af,by simpa [bd,bk] using hI.draw⟩⟩,⟨?_,?_,?_,?_,?_,?_,?_,?_,?_,?_,?_,?_,trivial⟩,?_⟩
  ·intro D a6  dq di dp cX cM dn dr de cY cK c4 w_
   rintro ⟨aF,aC,aB,aE,aD,aG,az,aK,aQ,aU,ao,ar,⟨M,cs7,b8,e7,e8,k8,k9,k11,k1,hI⟩⟩
   refine bh a9 ?_
   exact ⟨fun _=>rfl,aC,aB,aE,aD,aG,az,aK,aQ,aU,ao,ar,⟨M,cs7,b8,e7,e8,k8,k9,k11,k1,hI⟩⟩
  ·intro D a6 dc dq di dp cX cM dn dr de cY cK c4 w_
   rintro ⟨aF,aC,aB,aE,aD,aG,az,aK,aQ,aU,ao,ar,⟨M,cs7,b8,e7,e8,k8,k9,k11,k1,hI⟩⟩
   obtain rfl:=aF dc
   have f11:D 11=false:=Bool.eq_false_iff.2 fun h=>by rw [k1 h] at a6; cases a6
   refine bG (b:=b3) hI 2 (c:=(#[.int .i64 k,.int .i64 n,.string s,kvc])) aV (by rw [f11]; rfl) rfl ?_
   have k1:=fun (_:av D 1 11=true)=>(rfl:av D 1 1=true)
   exact ⟨aF,fun _=>rfl,aB,aE,aD,aG,az,aK,aQ,aU,ao,ar,⟨M,cs7,b8,e7,e8,k8,k9,k11,k1,hI⟩⟩
  ·intro D a6  dq di dp cX cM dn dr de cY cK c4 w_
   rintro ⟨aF,aC,aB,aE,aD,aG,az,aK,aQ,aU,ao,ar,⟨M,cs7,b8,e7,e8,k8,k9,k11,k1,hI⟩⟩
   refine bh a9 ?_
   exact ⟨aF,aC,fun _=>rfl,aE,aD,aG,az,aK,aQ,aU,ao,ar,⟨M,cs7,b8,e7,e8,k8,k9,k11,k1,hI⟩⟩
  ·intro D a6 dy dq di dp cX cM dn dr de cY cK c4 w_
   rintro ⟨aF,aC,aB,aE,aD,aG,az,aK,aQ,aU,ao,ar,⟨M,cs7,b8,e7,e8,k8,k9,k11,k1,hI⟩⟩
   obtain rfl:=aB dy
   refine bG hI 0 aV rfl rfl ?_
   exact ⟨aF,aC,aB,fun _=>rfl,aD,aG,az,aK,aQ,aU,ao,ar,⟨M,cs7,b8,e7,e8,k8,k9,k11,k1,hI⟩⟩
  ·intro D a6  dq di dp cX cM dn dr de cY cK c4 w_
   rintro ⟨aF,aC,aB,aE,aD,aG,az,aK,aQ,aU,ao,ar,⟨M,cs7,b8,e7,e8,k8,k9,k11,k1,hI⟩⟩
   exact ⟨aF,aC,aB,aE,fun _=>rfl,aG,az,aK,aQ,aU,ao,ar,⟨M,cs7,b8,e7,e8,k8,k9,k11,k1,hI⟩⟩
  ·intro D a6 ef ev dq di dp cX cM dn dr de cY cK c4 w_
   rintro ⟨aF,aC,aB,aE,aD,aG,az,aK,aQ,aU,ao,ar,⟨M,cs7,b8,e7,e8,k8,k9,k11,k1,hI⟩⟩
   obtain rfl:=aE ef
   obtain rfl:=aD ev
   refine bv aS hj' ?_
   exact ⟨aF,aC,aB,aE,aD,fun _=>rfl,az,aK,aQ,aU,ao,ar,⟨M,cs7,b8,e7,e8,k8,k9,k11,k1,hI⟩⟩
  ·intro D a6 eq dq di dp cX cM dn dr de cY cK c4 w_
   rintro ⟨aF,aC,aB,aE,aD,aG,az,aK,aQ,aU,ao,ar,⟨M,cs7,b8,e7,e8,k8,k9,k11,k1,hI⟩⟩
   obtain rfl:=aG eq
   refine dM aj hR.length (fun j v hj=>by rw [hI.cellS hS]; exact bC rfl j v hj) ?_
   exact ⟨aF,aC,aB,aE,aD,aG,fun _=>rfl,aK,aQ,aU,ao,ar,⟨M,cs7,b8,e7,e8,k8,k9,k11,k1,hI⟩⟩
  ·intro D a6 cw dq di dp cX cM dn dr de cY cK c4 w_
   rintro ⟨aF,aC,aB,aE,aD,aG,az,aK,aQ,aU,ao,ar,⟨M,cs7,b8,e7,e8,k8,k9,k11,k1,hI⟩⟩
   obtain rfl:=az cw
   have f8:D 8=false:=Bool.eq_false_iff.2 fun h=>by rw [k8 h] at a6; cases a6
   have f9:D 9=false:=Bool.eq_false_iff.2 fun h=>by rw [k9 h] at f8; cases f8
   have f11:D 11=false:=Bool.eq_false_iff.2 fun h=>by rw [k11 h] at f9; cases f9
   rw [a6,f8,f9,f11] at hI
   refine Run.call0 eW eT hI (ih _ (List.getElem_mem hj') S _ hR (by omega)) fun v' I' S w_=>?_
   rintro ⟨rfl,cs7,M,rfl,rfl,hT⟩ _ hI
   have e7:av D 7 7=true->Value.agg cs7.toArray=Value.agg cs7.toArray/\TrT M cs7 (ks)[j]:=fun _=>⟨rfl,hT⟩
   have k8:=fun (_:av D 7 8=true)=>(rfl:av D 7 7=true)
   have hI:Inv w [] (bd (.blk b1 (.cells #[.int .i64 k,.int .i64 n,.string s,.slice (some ⟨b,o,none⟩) ks.length cap] ac)) (.blk b2 (.cells #[.int .i64 0,.int .i64 0,.string ⟨#[]⟩,.slice none 0 0] ac)) (.blk b3 (.cells #[.int .i64 k,.int .i64 n,.string s,kvc] ac)) (.blk b3 (.cells #[.int .i64 k,.int .i64 n,.string s,di] ac)) (be kvc ac 4 css) (be di ac 4 (css++[cs7])) (bk Ls.flatten) M (.blk b8 (.cells cs7.toArray ac)) true (D 8) (D 9) (D 11)) S w_:=by
    rw [f8,f9,f11]
    simpa [bd] using hI
   exact ⟨aF,aC,aB,aE,aD,aG,az,fun _=>by first|assumption|trivial,aQ,aU,ao,ar,⟨M,cs7,b8,e7,e8,k8,k9,k11,k1,hI⟩⟩
  ·intro D a6 d6 dq di dp cX cM dn dr de cY cK c4 w_
   rintro ⟨aF,aC,aB,aE,aD,aG,az,aK,aQ,aU,ao,ar,⟨M,cs7,b8,e7,e8,k8,k9,k11,k1,hI⟩⟩
   have Eq:=aK d6
   have f9:D 9=false:=Bool.eq_false_iff.2 fun h=>by rw [k9 h] at a6; cases a6
   have f11:D 11=false:=Bool.eq_false_iff.2 fun h=>by rw [k11 h] at f9; cases f9
   obtain ⟨q7,hT⟩:=e7 d6
   subst q7
   rw [d6,a6,f9,f11] at hI
   refine dg hI bt (by simp [Value.cells,hT.length]) (by omega) (by omega) fun b8 w_ hI=>?_
   have e7:av D 8 7=true->Value.agg cs7.toArray=Value.agg cs7.toArray/\TrT M cs7 (ks)[j]:=fun _=>⟨rfl,hT⟩
   have e8:=fun (_:av D 8 8=true)=>(rfl:Value.slice (some ⟨b8,0,none⟩) 1 1=_)
   have k8:=fun (_:av D 8 8=true)=>d6
   have k9:=fun (_:av D 8 9=true)=>(rfl:av D 8 8=true)
   have hI:Inv w [] (bd (.blk b1 (.cells #[.int .i64 k,.int .i64 n,.string s,.slice (some ⟨b,o,none⟩) ks.length cap] ac)) (.blk b2 (.cells #[.int .i64 0,.int .i64 0,.string ⟨#[]⟩,.slice none 0 0] ac)) (.blk b3 (.cells #[.int .i64 k,.int .i64 n,.string s,kvc] ac)) (.blk b3 (.cells #[.int .i64 k,.int .i64 n,.string s,di] ac)) (be kvc ac 4 css) (be di ac 4 (css++[cs7])) (bk Ls.flatten) M (.blk b8 (.cells cs7.toArray ac)) (D 7) true (D 9) (D 11)) S w_:=by
    rw [d6,f9,f11]
    simpa [bd,Value.cells] using hI
   exact ⟨aF,aC,aB,aE,aD,aG,az,aK,fun _=>by first|assumption|trivial,aU,ao,ar,⟨M,cs7,b8,e7,e8,k8,k9,k11,k1,hI⟩⟩
  ·intro D a6 eB fh lH dq di dp cX cM dn dr de cY cK c4 w_
   rintro ⟨aF,aC,aB,aE,aD,aG,az,aK,aQ,aU,ao,ar,⟨M,cs7,b8,e7,e8,k8,k9,k11,k1,hI⟩⟩
   obtain rfl:=aC eB
   have Ab:=aQ fh
   have f11:D 11=false:=Bool.eq_false_iff.2 fun h=>by rw [k11 h] at a6; cases a6
   have q8:=e8 fh
   subst q8
   obtain ⟨_,hT⟩:=e7 lH
   rw [lH,fh,a6,f11] at hI
   have hblk:((bd (.blk b1 (.cells #[.int .i64 k,.int .i64 n,.string s,.slice (some ⟨b,o,none⟩) ks.length cap] ac)) (.blk b2 (.cells #[.int .i64 0,.int .i64 0,.string ⟨#[]⟩,.slice none 0 0] ac)) (.blk b3 (.cells #[.int .i64 k,.int .i64 n,.string s,cK] ac)) (.blk b3 (.cells #[.int .i64 k,.int .i64 n,.string s,di] ac)) (be cK ac 4 css) (be di ac 4 (css++[cs7])) (bk Ls.flatten) M (.blk b8 (.cells cs7.toArray ac)) true true false false))[4+(bk Ls.flatten).length+(bk M).length]?=some (.blk b8 (.cells cs7.toArray ac)):=by
    have e4:4+(bk Ls.flatten).length+(bk M).length=((bk Ls.flatten).length+(bk M).length)+1+1+1+1:=by omega
    rw [e4]
    simp only [bd,List.getElem?_cons_succ]
    rw [List.getElem?_append_right (by omega),Nat.add_sub_cancel_left,List.getElem?_append_right (Nat.le_refl _),Nat.sub_self]; rfl
   refine dU hI 3 cs7 bt (by omega) rfl (by rw [hT.length]) (m:=1) (o:=0) ?_ hT.one (by omega) (by omega) fun v' w_ hI=>?_
   ·intro i u hi
    rw [hI.cellL hblk,Nat.zero_add]
    simpa using hi
   rw [el] at hI
   have k9:=fun (_:av D 9 9=true)=>fh
   have k11:=fun (_:av D 9 11=true)=>(rfl:av D 9 9=true)
   have hI:Inv w [] (bd (.blk b1 (.cells #[.int .i64 k,.int .i64 n,.string s,.slice (some ⟨b,o,none⟩) ks.length cap] ac)) (.blk b2 (.cells #[.int .i64 0,.int .i64 0,.string ⟨#[]⟩,.slice none 0 0] ac)) (.blk b3 (.cells #[.int .i64 k,.int .i64 n,.string s,cK] ac)) (.blk b3 (.cells #[.int .i64 k,.int .i64 n,.string s,v'] ac)) (be cK ac 4 css) (be v' ac 4 (css++[cs7])) (bk Ls.flatten) M (.blk b8 (.cells cs7.toArray ac)) (D 7) (D 8) true (D 11)) S w_:=by
    rw [lH,fh,f11]
    exact hI
   exact ⟨aF,aC,aB,aE,aD,aG,az,aK,aQ,fun _=>by first|assumption|trivial,ao,ar,⟨M,cs7,b8,e7,e8,k8,k9,k11,k1,hI⟩⟩
  ·intro D a6 dc gl mM sC sr uT vy wI AO A4 dq di dp cX cM dn dr de cY cK c4 w_
   rintro ⟨aF,aC,aB,aE,aD,aG,az,aK,aQ,aU,ao,ar,⟨M,cs7,b8,e7,e8,k8,k9,k11,k1,hI⟩⟩
   refine bh a9 ?_
   exact ⟨aF,aC,aB,aE,aD,aG,az,aK,aQ,aU,fun _=>rfl,ar,⟨M,cs7,b8,e7,e8,k8,k9,k11,k1,hI⟩⟩
  ·intro D a6 iC eh Fq rY gF sg r4 pf rW uR gt fm jx dq di dp cX cM dn dr de cY cK c4 w_
   rintro ⟨aF,aC,aB,aE,aD,aG,az,aK,aQ,aU,ao,ar,⟨M,cs7,b8,e7,e8,k8,k9,k11,k1,hI⟩⟩
   obtain rfl:=ao iC
   have Ac:=aU eh
   rw [gt,fm,eh,a6] at hI
   obtain ⟨va,vn,vc,hv9⟩:=Inv.rowSlice hI 3 rfl
   refine dY hI 2 (n:=1) (by rw [hv9]; rfl) (by decide +kernel) rfl (by simp) (by rw [hv9]; simp [Value.cells,Value.oneCell']) fun w_ hI=>?_
   have hcl9:Value.cells di=#[di]:=by rw [hv9]; rfl
   rw [hcl9] at hI
   have k1:=fun (_:av D 11 11=true)=>gF
   have k11:=fun (_:av D 11 11=true)=>eh
   have hI:Inv w [] (bd (.blk b1 (.cells #[.int .i64 k,.int .i64 n,.string s,.slice (some ⟨b,o,none⟩) ks.length cap] ac)) (.blk b2 (.cells #[.int .i64 0,.int .i64 0,.string ⟨#[]⟩,.slice none 0 0] ac)) (.blk b3 (.cells #[.int .i64 k,.int .i64 n,.string s,kvc] ac)) (.blk b3 (.cells #[.int .i64 k,.int .i64 n,.string s,di] ac)) (be kvc ac 4 css) (be di ac 4 (css++[cs7])) (bk Ls.flatten) M (.blk b8 (.cells cs7.toArray ac)) (D 7) (D 8) (D 9) true) S w_:=by
    rw [gt,fm,eh]
    exact hI
   exact ⟨aF,aC,aB,aE,aD,aG,az,aK,aQ,aU,ao,fun _=>trivial,⟨M,cs7,b8,e7,e8,k8,k9,k11,k1,hI⟩⟩
  intro D gw fK kA iV ii gM gT hO iR im iT iS dq di dp cX cM dn dr de cY cK c4 w_
  rintro ⟨aF,aC,aB,aE,aD,aG,az,aK,aQ,aU,ao,ar,⟨M,cs7,b8,e7,e8,k8,k9,k11,k1,hI⟩⟩
  obtain rfl:=ao fK
  have Ac:=aU kA
  have Ab:=aQ iV
  have Eq:=aK ii
  obtain rfl:=az gM
  obtain rfl:=aG gT
  obtain rfl:=aD hO
  obtain rfl:=aE iR
  obtain rfl:=aB im
  obtain rfl:=aC iT
  obtain rfl:=aF iS
  clear aF aC aB aE aD aG az aK aQ aU ao ar
  obtain ⟨_,hT⟩:=e7 ii
  rw [ii,iV,kA,gw] at hI
  refine ct (by omega) ?_
  refine ⟨⟨j+1,di,Ls++[M],css++[cs7],hj',rfl,?_,?_⟩,by simp [intOf]; omega⟩
  ·rw [List.take_succ_eq_append_getElem hj']
   exact hg.snoc hT hT.length
  ·simp only [List.flatten_append,List.flatten_cons,List.flatten_nil,List.append_nil,cH]
   refine hI.sub ?_
   simp only [bd]
   rw [<- List.append_assoc]
   exact (((List.sublist_append_left _ _).cons_cons _).cons_cons _).cons_cons _ |>.cons_cons _
 ·have:j=ks.length:=by omega
  subst this
  rw [List.take_length] at hg
  obtain ⟨va,vn,vc,hvk⟩:=hI.rowSlice 3 rfl
  have hv1:kvc.oneCell'=true:=by rw [hvk]; rfl
  refine bb hI 2 aj rfl rfl ?_
  refine aX hI 1 rfl aj rfl rfl ?_ fun w' hI=>?_
  ·intro u hu
   have hu':u∈([.int .i64 k,.int .i64 n,.string s,kvc]:List Value):=hu
   simp at hu'
   rcases hu' with rfl|rfl|rfl|rfl <;> first|rfl|exact hv1
  refine bA hI 1 aj rfl rfl ?_
  have hI:Inv w [] ([]++(be kvc ac 4 css::bk Ls.flatten)) S w':=hI.sub (List.sublist_append_right [_,_,_] _)
  obtain ⟨L,hT,hI⟩:=Inv.rowTree hI hg
  exact ⟨_,_,_,rfl,hI,Ext.refl _ _ _,rfl,_,L,rfl,rfl,TrT.iff.2 ⟨kvc,rfl,h1,h2,hs,hT⟩⟩
end

end Go.Proofs.YtmnnpgdeecnfpaaGreat

/- spec.l4Copy, spec.l14Copy: clauses and programs copied. -/
namespace Go.Proofs.YtmnnpgdeecnfpaaGreat
open Go Go.RowKit
section
attribute [local irreducible] Run CondV ah ba
theorem yb {c0:C} {S:ax} {cs:List Value} (h:RdC S cs c0) (hw:wC c0<=1048576):Tri Tryz.prog tr [.agg cs.toArray] [] S (EZ S c0):=by
 intro w hI
 obtain ⟨hd,ks,rfl,h1,h2⟩:=h
 have h1':=h1
 obtain ⟨kv,rfl,g1,g2,g3,g4⟩:=RdT.iff.1 h1
 unfold wC at hw
 refine lP ?_
 unfold kS
 refine co hI fun b1 w' hI=>?_
 refine bm hI bI fun b2 w' hI=>?_
 refine bh cm ?_
 refine dI hI 0 [.int .i64 c0.head.kind,.int .i64 c0.head.n,.string c0.head.name,kv] aj rfl rfl tV ?_
 refine Run.call0 eW eT hI (fQ _ S _ h1' (by omega)) fun v' I' S w'=>?_
 rintro ⟨rfl,cs1,N,rfl,rfl,hT1⟩ _ hI
 obtain ⟨kh,rfl,_⟩:=TrT.iff.1 hT1
 refine fA ?_
 refine bm hI bI fun b3 w' hI=>?_
 have hI:=hI.perm (M:=.blk b1 _::.blk b2 _::.blk b3 _::bk N) (((List.perm_append_comm (l₁:=[_])).cons _).cons _)
 refine aX hI 2 rfl aW rfl rfl ?_ fun w' hI=>?_
 ·intro u hu
  have hu':u∈([.int .i64 c0.head.kind,.int .i64 c0.head.n,.string c0.head.name,kh,.slice none 0 0]:List Value):=hu
  simp at hu'
  have o1:kh.oneCell'=true:=hT1.one kh (by simp)
  rcases hu' with rfl|rfl|rfl|rfl|rfl <;> first|rfl|exact o1
 have hI:=hI.rowNil ac 4
 have hI:=hI.perm (M:=.blk b1 (.cells #[.int .i64 c0.head.kind,.int .i64 c0.head.n,.string c0.head.name,kv,ks] ai)::.blk b2 (.cells #[.int .i64 0,.int .i64 0,.string ⟨#[]⟩,.slice none 0 0,.slice none 0 0] ai)::.blk b3 (.cells #[.int .i64 c0.head.kind,.int .i64 c0.head.n,.string c0.head.name,kh,.slice none 0 0] ai)::be (.slice none 0 0) ac 4 []::bk N) ((((List.perm_append_comm (l₁:=[_])).cons _).cons _).cons _)
 refine ⟨fun i w'=>∃ (j:Nat) (kvc:Value) (Ls:List bn) (css:List (List Value)),j<=c0.body.length/\i=.int .i64 j/\Grown 4 TrT Ls css (c0.body.take j)/\
   Inv w [] (.blk b1 (.cells #[.int .i64 c0.head.kind,.int .i64 c0.head.n,.string c0.head.name,kv,ks] ai)::.blk b2 (.cells #[.int .i64 0,.int .i64 0,.string ⟨#[]⟩,.slice none 0 0,.slice none 0 0] ai)::.blk b3 (.cells #[.int .i64 c0.head.kind,.int .i64 c0.head.n,.string c0.head.name,kh,kvc] ai)::be kvc ac 4 css::bk (N::Ls).flatten) S w',
  fun i _=>c0.body.length - (intOf i).toNat,⟨0,_,[],[],Nat.zero_le _,rfl,Grown.nil _ _,by simp only [List.flatten_cons,List.flatten_nil,List.append_nil]; exact hI⟩,?_⟩
 intro t4 _ _ _ _ _ _ _ _ _ _ _ _ _ _ _ _ _ _ w'
 rintro ⟨j,kvc,Ls,css,hj,rfl,hg,hI⟩
 refine aH hI 0 rfl bi aV rfl ?_
 refine bo h2 aS ?_
 refine dh ?_
 refine bz (fun hji=>?_) (fun hji=>?_)
 ·have hj':j<c0.body.length:=by omega
  have hjl:(c0.body.take j).length=j:=by simp; omega
  have hcl:=hg.hc
  have hm:=List.getElem_mem hj'
  have hwm:=fV hm
  obtain ⟨b,o,cap,c,E,fz,rfl,hS,hR⟩:=h2.at_ hj'
  refine ⟨fun D cX cM dn dr de cY cK c4 eI dQ dX w_=>(D 0=true->dX=.pointer (some ⟨b3,4,none⟩))/\(D 1=true->dQ=kvc)/\(D 2=true->eI=.pointer (some ⟨b1,4,none⟩))/\(D 3=true->c4=.slice (some ⟨b,o,none⟩) (c0.body).length cap)/\(D 4=true->cK=.int .i64 j)/\(D 5=true->cY=.pointer (some ⟨b,o+j * 4,none⟩))/\(D 6=true->de=.agg (bB c (o+j * 4) 4).toArray)/\(D 7=true->True)/\(D 8=true->True)/\(D 9=true->True)/\(D 10=true->cX=.pointer (some ⟨b3,4,none⟩))/\(D 11=true->True)/\∃ M cs7 b8,(D 7=true->dr=.agg cs7.toArray/\TrT M cs7 (c0.body)[j])/\(D 8=true->dn=.slice (some ⟨b8,0,none⟩) 1 1)/\(D 8=true->D 7=true)/\(D 9=true->D 8=true)/\(D 11=true->D 9=true)/\(D 11=true->D 1=true)/\Inv w [] (bd (.blk b1 (.cells #[.int .i64 c0.head.kind,.int .i64 c0.head.n,.string c0.head.name,kv,.slice (some ⟨b,o,none⟩) c0.body.length cap] ai)) (.blk b2 (.cells #[.int .i64 0,.int .i64 0,.string ⟨#[]⟩,.slice none 0 0,.slice none 0 0] ai)) (.blk b3 (.cells #[.int .i64 c0.head.kind,.int .i64 c0.head.n,.string c0.head.name,kh,kvc] ai)) (.blk b3 (.cells #[.int .i64 c0.head.kind,.int .i64 c0.head.n,.string c0.head.name,kh,cM] ai)) (be kvc ac 4 css) (be cM ac 4 (css++[cs7])) (bk (N::Ls).flatten) M (.blk b8 (.cells cs7.toArray ac)) (D 7) (D 8) (D 9) (D 11)) S w_,⟨af,af,af,af,af,af,af,af,af,af,af,af,⟨[],[],0,af,af,af,af,af,af,by simpa [bd,bk] using hI.draw⟩⟩,⟨?_,?_,?_,?_,?_,?_,?_,?_,?_,?_,?_,?_,trivial⟩,?_⟩
  ·intro D a6  cX cM dn dr de cY cK c4 eI dQ dX w_
   rintro ⟨aF,aC,aB,aE,aD,aG,az,aK,aQ,aU,ao,ar,⟨M,cs7,b8,e7,e8,k8,k9,k11,k1,hI⟩⟩
   refine bh bi ?_
   exact ⟨fun _=>rfl,aC,aB,aE,aD,aG,az,aK,aQ,aU,ao,ar,⟨M,cs7,b8,e7,e8,k8,k9,k11,k1,hI⟩⟩
  ·intro D a6 dc cX cM dn dr de cY cK c4 eI dQ dX w_
   rintro ⟨aF,aC,aB,aE,aD,aG,az,aK,aQ,aU,ao,ar,⟨M,cs7,b8,e7,e8,k8,k9,k11,k1,hI⟩⟩
   obtain rfl:=aF dc
   have f11:D 11=false:=Bool.eq_false_iff.2 fun h=>by rw [k1 h] at a6; cases a6
   refine bG (b:=b3) hI 2 (c:=(#[.int .i64 c0.head.kind,.int .i64 c0.head.n,.string c0.head.name,kh,kvc])) aV (by rw [f11]; rfl) rfl ?_
   have k1:=fun (_:av D 1 11=true)=>(rfl:av D 1 1=true)
   exact ⟨aF,fun _=>rfl,aB,aE,aD,aG,az,aK,aQ,aU,ao,ar,⟨M,cs7,b8,e7,e8,k8,k9,k11,k1,hI⟩⟩
  ·intro D a6  cX cM dn dr de cY cK c4 eI dQ dX w_
   rintro ⟨aF,aC,aB,aE,aD,aG,az,aK,aQ,aU,ao,ar,⟨M,cs7,b8,e7,e8,k8,k9,k11,k1,hI⟩⟩
   refine bh bi ?_
   exact ⟨aF,aC,fun _=>rfl,aE,aD,aG,az,aK,aQ,aU,ao,ar,⟨M,cs7,b8,e7,e8,k8,k9,k11,k1,hI⟩⟩
  ·intro D a6 dy cX cM dn dr de cY cK c4 eI dQ dX w_
   rintro ⟨aF,aC,aB,aE,aD,aG,az,aK,aQ,aU,ao,ar,⟨M,cs7,b8,e7,e8,k8,k9,k11,k1,hI⟩⟩
   obtain rfl:=aB dy
   refine bG hI 0 aV rfl rfl ?_
   exact ⟨aF,aC,aB,fun _=>rfl,aD,aG,az,aK,aQ,aU,ao,ar,⟨M,cs7,b8,e7,e8,k8,k9,k11,k1,hI⟩⟩
  ·intro D a6  cX cM dn dr de cY cK c4 eI dQ dX w_
   rintro ⟨aF,aC,aB,aE,aD,aG,az,aK,aQ,aU,ao,ar,⟨M,cs7,b8,e7,e8,k8,k9,k11,k1,hI⟩⟩
   exact ⟨aF,aC,aB,aE,fun _=>rfl,aG,az,aK,aQ,aU,ao,ar,⟨M,cs7,b8,e7,e8,k8,k9,k11,k1,hI⟩⟩
  ·intro D a6 ef ev cX cM dn dr de cY cK c4 eI dQ dX w_
   rintro ⟨aF,aC,aB,aE,aD,aG,az,aK,aQ,aU,ao,ar,⟨M,cs7,b8,e7,e8,k8,k9,k11,k1,hI⟩⟩
   obtain rfl:=aE ef
   obtain rfl:=aD ev
   refine bv aS hj' ?_
   exact ⟨aF,aC,aB,aE,aD,fun _=>rfl,az,aK,aQ,aU,ao,ar,⟨M,cs7,b8,e7,e8,k8,k9,k11,k1,hI⟩⟩
  ·intro D a6 eq cX cM dn dr de cY cK c4 eI dQ dX w_
   rintro ⟨aF,aC,aB,aE,aD,aG,az,aK,aQ,aU,ao,ar,⟨M,cs7,b8,e7,e8,k8,k9,k11,k1,hI⟩⟩
   obtain rfl:=aG eq
   refine dM aj hR.length (fun j v hj=>by rw [hI.cellS hS]; exact bC rfl j v hj) ?_
   exact ⟨aF,aC,aB,aE,aD,aG,fun _=>rfl,aK,aQ,aU,ao,ar,⟨M,cs7,b8,e7,e8,k8,k9,k11,k1,hI⟩⟩
  ·intro D a6 cw cX cM dn dr de cY cK c4 eI dQ dX w_
   rintro ⟨aF,aC,aB,aE,aD,aG,az,aK,aQ,aU,ao,ar,⟨M,cs7,b8,e7,e8,k8,k9,k11,k1,hI⟩⟩
   obtain rfl:=az cw
   have f8:D 8=false:=Bool.eq_false_iff.2 fun h=>by rw [k8 h] at a6; cases a6
   have f9:D 9=false:=Bool.eq_false_iff.2 fun h=>by rw [k9 h] at f8; cases f8
   have f11:D 11=false:=Bool.eq_false_iff.2 fun h=>by rw [k11 h] at f9; cases f9
   rw [a6,f8,f9,f11] at hI
   refine Run.call0 eW eT hI (fQ _ S _ hR (by omega)) fun v' I' S w_=>?_
   rintro ⟨rfl,cs7,M,rfl,rfl,hT⟩ _ hI
   have e7:av D 7 7=true->Value.agg cs7.toArray=Value.agg cs7.toArray/\TrT M cs7 (c0.body)[j]:=fun _=>⟨rfl,hT⟩
   have k8:=fun (_:av D 7 8=true)=>(rfl:av D 7 7=true)
   have hI:Inv w [] (bd (.blk b1 (.cells #[.int .i64 c0.head.kind,.int .i64 c0.head.n,.string c0.head.name,kv,.slice (some ⟨b,o,none⟩) c0.body.length cap] ai)) (.blk b2 (.cells #[.int .i64 0,.int .i64 0,.string ⟨#[]⟩,.slice none 0 0,.slice none 0 0] ai)) (.blk b3 (.cells #[.int .i64 c0.head.kind,.int .i64 c0.head.n,.string c0.head.name,kh,kvc] ai)) (.blk b3 (.cells #[.int .i64 c0.head.kind,.int .i64 c0.head.n,.string c0.head.name,kh,cM] ai)) (be kvc ac 4 css) (be cM ac 4 (css++[cs7])) (bk (N::Ls).flatten) M (.blk b8 (.cells cs7.toArray ac)) true (D 8) (D 9) (D 11)) S w_:=by
    rw [f8,f9,f11]
    simpa [bd] using hI
   exact ⟨aF,aC,aB,aE,aD,aG,az,fun _=>by first|assumption|trivial,aQ,aU,ao,ar,⟨M,cs7,b8,e7,e8,k8,k9,k11,k1,hI⟩⟩
  ·intro D a6 d6 cX cM dn dr de cY cK c4 eI dQ dX w_
   rintro ⟨aF,aC,aB,aE,aD,aG,az,aK,aQ,aU,ao,ar,⟨M,cs7,b8,e7,e8,k8,k9,k11,k1,hI⟩⟩
   have Eq:=aK d6
   have f9:D 9=false:=Bool.eq_false_iff.2 fun h=>by rw [k9 h] at a6; cases a6
   have f11:D 11=false:=Bool.eq_false_iff.2 fun h=>by rw [k11 h] at f9; cases f9
   obtain ⟨q7,hT⟩:=e7 d6
   subst q7
   rw [d6,a6,f9,f11] at hI
   refine dg hI bt (by simp [Value.cells,hT.length]) (by omega) (by omega) fun b8 w_ hI=>?_
   have e7:av D 8 7=true->Value.agg cs7.toArray=Value.agg cs7.toArray/\TrT M cs7 (c0.body)[j]:=fun _=>⟨rfl,hT⟩
   have e8:=fun (_:av D 8 8=true)=>(rfl:Value.slice (some ⟨b8,0,none⟩) 1 1=_)
   have k8:=fun (_:av D 8 8=true)=>d6
   have k9:=fun (_:av D 8 9=true)=>(rfl:av D 8 8=true)
   have hI:Inv w [] (bd (.blk b1 (.cells #[.int .i64 c0.head.kind,.int .i64 c0.head.n,.string c0.head.name,kv,.slice (some ⟨b,o,none⟩) c0.body.length cap] ai)) (.blk b2 (.cells #[.int .i64 0,.int .i64 0,.string ⟨#[]⟩,.slice none 0 0,.slice none 0 0] ai)) (.blk b3 (.cells #[.int .i64 c0.head.kind,.int .i64 c0.head.n,.string c0.head.name,kh,kvc] ai)) (.blk b3 (.cells #[.int .i64 c0.head.kind,.int .i64 c0.head.n,.string c0.head.name,kh,cM] ai)) (be kvc ac 4 css) (be cM ac 4 (css++[cs7])) (bk (N::Ls).flatten) M (.blk b8 (.cells cs7.toArray ac)) (D 7) true (D 9) (D 11)) S w_:=by
    rw [d6,f9,f11]
    simpa [bd,Value.cells] using hI
   exact ⟨aF,aC,aB,aE,aD,aG,az,aK,fun _=>by first|assumption|trivial,aU,ao,ar,⟨M,cs7,b8,e7,e8,k8,k9,k11,k1,hI⟩⟩
  ·intro D a6 eB fh lH cX cM dn dr de cY cK c4 eI dQ dX w_
   rintro ⟨aF,aC,aB,aE,aD,aG,az,aK,aQ,aU,ao,ar,⟨M,cs7,b8,e7,e8,k8,k9,k11,k1,hI⟩⟩
   obtain rfl:=aC eB
   have Ab:=aQ fh
   have f11:D 11=false:=Bool.eq_false_iff.2 fun h=>by rw [k11 h] at a6; cases a6
   have q8:=e8 fh
   subst q8
   obtain ⟨_,hT⟩:=e7 lH
   rw [lH,fh,a6,f11] at hI
   have hblk:((bd (.blk b1 (.cells #[.int .i64 c0.head.kind,.int .i64 c0.head.n,.string c0.head.name,kv,.slice (some ⟨b,o,none⟩) c0.body.length cap] ai)) (.blk b2 (.cells #[.int .i64 0,.int .i64 0,.string ⟨#[]⟩,.slice none 0 0,.slice none 0 0] ai)) (.blk b3 (.cells #[.int .i64 c0.head.kind,.int .i64 c0.head.n,.string c0.head.name,kh,dQ] ai)) (.blk b3 (.cells #[.int .i64 c0.head.kind,.int .i64 c0.head.n,.string c0.head.name,kh,cM] ai)) (be dQ ac 4 css) (be cM ac 4 (css++[cs7])) (bk (N::Ls).flatten) M (.blk b8 (.cells cs7.toArray ac)) true true false false))[4+(bk (N::Ls).flatten).length+(bk M).length]?=some (.blk b8 (.cells cs7.toArray ac)):=by
    have e4:4+(bk (N::Ls).flatten).length+(bk M).length=((bk (N::Ls).flatten).length+(bk M).length)+1+1+1+1:=by omega
    rw [e4]
    simp only [bd,List.getElem?_cons_succ]
    rw [List.getElem?_append_right (by omega),Nat.add_sub_cancel_left,List.getElem?_append_right (Nat.le_refl _),Nat.sub_self]; rfl
   refine dU hI 3 cs7 bt (by omega) rfl (by rw [hT.length]) (m:=1) (o:=0) ?_ hT.one (by omega) (by omega) fun v' w_ hI=>?_
   ·intro i u hi
    rw [hI.cellL hblk,Nat.zero_add]
    simpa using hi
   rw [el] at hI
   have k9:=fun (_:av D 9 9=true)=>fh
   have k11:=fun (_:av D 9 11=true)=>(rfl:av D 9 9=true)
   have hI:Inv w [] (bd (.blk b1 (.cells #[.int .i64 c0.head.kind,.int .i64 c0.head.n,.string c0.head.name,kv,.slice (some ⟨b,o,none⟩) c0.body.length cap] ai)) (.blk b2 (.cells #[.int .i64 0,.int .i64 0,.string ⟨#[]⟩,.slice none 0 0,.slice none 0 0] ai)) (.blk b3 (.cells #[.int .i64 c0.head.kind,.int .i64 c0.head.n,.string c0.head.name,kh,dQ] ai)) (.blk b3 (.cells #[.int .i64 c0.head.kind,.int .i64 c0.head.n,.string c0.head.name,kh,v'] ai)) (be dQ ac 4 css) (be v' ac 4 (css++[cs7])) (bk (N::Ls).flatten) M (.blk b8 (.cells cs7.toArray ac)) (D 7) (D 8) true (D 11)) S w_:=by
    rw [lH,fh,f11]
    exact hI
   exact ⟨aF,aC,aB,aE,aD,aG,az,aK,aQ,fun _=>by first|assumption|trivial,ao,ar,⟨M,cs7,b8,e7,e8,k8,k9,k11,k1,hI⟩⟩
  ·intro D a6 dc gl mM sC sr uT vy wI AO A4 cX cM dn dr de cY cK c4 eI dQ dX w_
   rintro ⟨aF,aC,aB,aE,aD,aG,az,aK,aQ,aU,ao,ar,⟨M,cs7,b8,e7,e8,k8,k9,k11,k1,hI⟩⟩
   refine bh bi ?_
   exact ⟨aF,aC,aB,aE,aD,aG,az,aK,aQ,aU,fun _=>rfl,ar,⟨M,cs7,b8,e7,e8,k8,k9,k11,k1,hI⟩⟩
  ·intro D a6 iC eh Fq rY gF sg r4 pf rW uR gt fm jx cX cM dn dr de cY cK c4 eI dQ dX w_
   rintro ⟨aF,aC,aB,aE,aD,aG,az,aK,aQ,aU,ao,ar,⟨M,cs7,b8,e7,e8,k8,k9,k11,k1,hI⟩⟩
   obtain rfl:=ao iC
   have Ac:=aU eh
   rw [gt,fm,eh,a6] at hI
   obtain ⟨va,vn,vc,hv9⟩:=Inv.rowSlice hI 3 rfl
   refine dY hI 2 (n:=1) (by rw [hv9]; rfl) (by decide +kernel) rfl (by simp) (by rw [hv9]; simp [Value.cells,Value.oneCell']) fun w_ hI=>?_
   have hcl9:Value.cells cM=#[cM]:=by rw [hv9]; rfl
   rw [hcl9] at hI
   have k1:=fun (_:av D 11 11=true)=>gF
   have k11:=fun (_:av D 11 11=true)=>eh
   have hI:Inv w [] (bd (.blk b1 (.cells #[.int .i64 c0.head.kind,.int .i64 c0.head.n,.string c0.head.name,kv,.slice (some ⟨b,o,none⟩) c0.body.length cap] ai)) (.blk b2 (.cells #[.int .i64 0,.int .i64 0,.string ⟨#[]⟩,.slice none 0 0,.slice none 0 0] ai)) (.blk b3 (.cells #[.int .i64 c0.head.kind,.int .i64 c0.head.n,.string c0.head.name,kh,kvc] ai)) (.blk b3 (.cells #[.int .i64 c0.head.kind,.int .i64 c0.head.n,.string c0.head.name,kh,cM] ai)) (be kvc ac 4 css) (be cM ac 4 (css++[cs7])) (bk (N::Ls).flatten) M (.blk b8 (.cells cs7.toArray ac)) (D 7) (D 8) (D 9) true) S w_:=by
    rw [gt,fm,eh]
    exact hI
   exact ⟨aF,aC,aB,aE,aD,aG,az,aK,aQ,aU,ao,fun _=>trivial,⟨M,cs7,b8,e7,e8,k8,k9,k11,k1,hI⟩⟩
  intro D gw fK kA iV ii gM gT hO iR im iT iS cX cM dn dr de cY cK c4 eI dQ dX w_
  rintro ⟨aF,aC,aB,aE,aD,aG,az,aK,aQ,aU,ao,ar,⟨M,cs7,b8,e7,e8,k8,k9,k11,k1,hI⟩⟩
  obtain rfl:=ao fK
  have Ac:=aU kA
  have Ab:=aQ iV
  have Eq:=aK ii
  obtain rfl:=az gM
  obtain rfl:=aG gT
  obtain rfl:=aD hO
  obtain rfl:=aE iR
  obtain rfl:=aB im
  obtain rfl:=aC iT
  obtain rfl:=aF iS
  clear aF aC aB aE aD aG az aK aQ aU ao ar
  obtain ⟨_,hT⟩:=e7 ii
  rw [ii,iV,kA,gw] at hI
  refine ct (by omega) ?_
  refine ⟨⟨j+1,cM,Ls++[M],css++[cs7],hj',rfl,?_,?_⟩,by simp [intOf]; omega⟩
  ·rw [List.take_succ_eq_append_getElem hj']
   exact hg.snoc hT hT.length
  ·rw [<- List.cons_append,List.flatten_append,cH]
   simp only [List.flatten_cons,List.flatten_nil,List.append_nil]
   refine hI.sub ?_
   simp only [bd,List.flatten_cons]
   rw [<- List.append_assoc]
   exact (((List.sublist_append_left _ _).cons_cons _).cons_cons _).cons_cons _ |>.cons_cons _
 ·have:j=c0.body.length:=by omega
  subst this
  rw [List.take_length] at hg
  obtain ⟨va,vn,vc,hvk⟩:=hI.rowSlice 3 rfl
  have hv1:kvc.oneCell'=true:=by rw [hvk]; rfl
  have o1:kh.oneCell'=true:=hT1.one kh (by simp)
  refine bb hI 2 aW rfl rfl ?_
  refine aX hI 1 rfl aW rfl rfl ?_ fun w' hI=>?_
  ·intro u hu
   have hu':u∈([.int .i64 c0.head.kind,.int .i64 c0.head.n,.string c0.head.name,kh,kvc]:List Value):=hu
   simp at hu'
   rcases hu' with rfl|rfl|rfl|rfl|rfl <;> first|rfl|exact o1|exact hv1
  refine bA hI 1 aW rfl rfl ?_
  have hI:Inv w [] (be kvc ac 4 css::bk (N::Ls).flatten) S w':=hI.sub (List.sublist_append_right [_,_,_] _)
  rw [List.flatten_cons,cH] at hI
  have hI:=hI.perm (M:=bk N++(be kvc ac 4 css::bk Ls.flatten)) (List.perm_middle)
  obtain ⟨L,hT,hI⟩:=Inv.rowTree hI hg
  exact ⟨_,_,_,rfl,hI,Ext.refl _ _ _,rfl,_,N++L,rfl,by rw [cH],_,kvc,N,L,rfl,rfl,hT1,hT⟩
end

end Go.Proofs.YtmnnpgdeecnfpaaGreat

/- append of a whole slice that is only read to a row of the function's own. -/
namespace Go.Proofs.YtmnnpgdeecnfpaaGreat
open Go Go.RowKit
section
variable {P:Program} {w w0:World} {X:List Nat} {L:List Item} {S:ax} {K:Value->World->Prop}
theorem C0 (h:Inv w0 X L S w) {T ty e:TypeId} {k by_ n cp:Nat} {z v:Value} {cs:List Bool} {xs:List Value} {a:Option Addr} (i:Nat)
  (hT:mX P T=some (e,k,by_,z)) (hi:L[i]?=some (.row v e k n xs)) (hk:K v w) :
  Run P (aA .append #[T,T] ty cs [v,.slice a 0 cp]) w K:=by
 obtain ⟨hu,inf,hi',hz,hs,hb,hzs⟩:=lX hT
 have hown:=h.its _ (List.mem_of_getElem? hi)
 simp only [Item.holds] at hown
 refine Run.of (v:=v) (w':=w) ?_ hk
 rcases hown.2 with ⟨rfl,rfl⟩|⟨g,cap,cur,rfl,_,hg,hnc,hcm,hcs,ht⟩
 ·cases a <;> simp [aA,builtin,Builtin.append_,run_underlying hu,sizeOf,typeInfo,hi',Builtin.lenOf,Builtin.firstCells,loadCells,loadCellsFrom]
 ·cases a <;> simp [aA,builtin,Builtin.append_,run_underlying hu,sizeOf,typeInfo,hi',storeCells,hnc,Builtin.lenOf,Builtin.firstCells,loadCells,loadCellsFrom]
end

end Go.Proofs.YtmnnpgdeecnfpaaGreat

/- Rows of clauses that are only read: grown, joined, copied. -/
namespace Go.Proofs.YtmnnpgdeecnfpaaGreat
open Go Go.RowKit

structure Rows {α:Type} (k:Nat) (R:List Value->α->Prop) (css:List (List Value)) (ys:List α):Prop where
 hc:css.length=ys.length
 hk:∀ cs∈css,cs.length=k
 hR:∀ i (h:i<ys.length) (h1:i<css.length),R css[i] ys[i]
theorem Rows.nil {α:Type} (k:Nat) (R:List Value->α->Prop):Rows k R [] ([]:List α):=⟨rfl,by simp,fun i h=>by simp at h⟩
theorem Rows.snoc {α:Type} {k:Nat} {R:List Value->α->Prop} {css:List (List Value)} {ys:List α} (h:Rows k R css ys) {cs:List Value} {y:α} (hR:R cs y) (hl:cs.length=k):Rows k R (css++[cs]) (ys++[y]):=by
 refine ⟨by simp [h.hc],fun c hc=>?_,fun i h0 h2=>?_⟩
 ·rcases List.mem_append.1 hc with hc|hc
  ·exact h.hk c hc
  ·simp at hc; subst hc; exact hl
 ·have e2:=h.hc
  by_cases hi:i<ys.length
  ·rw [List.getElem_append_left (by omega),List.getElem_append_left hi]
   exact h.hR i hi (by omega)
  ·have:i=ys.length:=by simp at h0; omega
   subst this
   rw [List.getElem_append_right (by omega),List.getElem_append_right (by omega)]
   simp only [e2,Nat.sub_self,List.getElem_cons_zero]
   exact hR
theorem Rows.append {α:Type} {k:Nat} {R:List Value->α->Prop} {css css':List (List Value)} {ys ys':List α} (h:Rows k R css ys) (h':Rows k R css' ys'):Rows k R (css++css') (ys++ys'):=by
 have e:=h.hc
 have e':=h'.hc
 refine ⟨by simp [e,e'],fun c hc=>?_,fun i h0 h2=>?_⟩
 ·rcases List.mem_append.1 hc with hc|hc
  ·exact h.hk c hc
  ·exact h'.hk c hc
 ·by_cases hi:i<ys.length
  ·rw [List.getElem_append_left (by omega),List.getElem_append_left hi]
   exact h.hR i hi (by omega)
  ·have hi':i - css.length<ys'.length:=by simp at h0; omega
   rw [List.getElem_append_right (by omega),List.getElem_append_right (by omega)]
   have:=h'.hR (i - css.length) hi' (by omega)
   simpa only [e] using this
theorem RowRd.rows {α:Type} {S:ax} {v:Value} {e:TypeId} {k:Nat} {R:List Value->α->Prop} {css:List (List Value)} {ys:List α} (hr:Rows k R css ys) (h:RowRd S v e k css.length css.flatten):RdSl S k R v ys:=by
 obtain ⟨hl,h⟩:=h
 have hcy:=hr.hc
 rcases h with ⟨rfl,h0⟩|⟨g,cap,cur,rfl,hS,hnc,hcm,hcs,ht⟩
 ·have:ys=[]:=List.eq_nil_of_length_eq_zero (by omega)
  subst this
  exact ⟨none,0,rfl,Nat.le_refl _,Nat.zero_le _,.inl rfl⟩
 ·refine ⟨_,cap,by rw [hcy],by omega,hcm,.inr ⟨g,0,cur,e,(0,0),rfl,hS,fun i hi=>?_⟩⟩
  have:=jZ k css i hr.hk (by omega)
  have hik:i * k+k<=css.length * k:=by rw [<- Nat.succ_mul]; exact Nat.mul_le_mul_right k (by omega)
  rw [<- ht,List.drop_take,List.take_take,Nat.min_eq_left (by omega)] at this
  rw [bB,Nat.zero_add,this]
  exact hr.hR i hi (by omega)
theorem qL {k:Nat}:∀ {css:List (List Value)},(∀ cs∈css,cs.length=k)->css.flatten.length=css.length * k
 | [],_=>by simp
 | c::css,h=>by
  have:=qL (css:=css) fun cs hc=>h cs (List.mem_cons_of_mem _ hc)
  rw [List.flatten_cons,List.length_append,h c (List.mem_cons_self ..),this,List.length_cons,Nat.succ_mul,Nat.add_comm]
section
variable {P:Program} {w w0:World} {X:List Nat} {L:List Item} {S:ax} {K:Value->World->Prop}
attribute [local irreducible] Run CondV ah ba
/- append(row, other row...) -/
end
end Go.Proofs.YtmnnpgdeecnfpaaGreat

/- Reslicing; a read slice joined to a row. -/
namespace Go.Proofs.YtmnnpgdeecnfpaaGreat
open Go Go.RowKit

theorem jW {P:Program} {T e:TypeId} {k:Nat} (h:dC P T=some (e,k)):P.underlying T=some (.slice e)/\∃ i,P.info? e=some i/\i.size=k:=by
 unfold dC at h
 split at h
 ·rename_i e1 he
  rw [Option.map_eq_some_iff] at h
  obtain ⟨i,hi,hx⟩:=h
  simp only [Prod.mk.injEq] at hx
  obtain ⟨rfl,rfl⟩:=hx
  exact ⟨he,i,hi,rfl⟩
 ·cases h
section
variable {P:Program} {w:World} {K:Value->World->Prop}
attribute [local irreducible] Run
theorem iy {n y:Nat} {code:BoundsCode} (h:n<=y):(Instr.sliceBound (.int .i64 n) y code).run P w=.ok n w:=by
 have h1:(0:Int)<=(n:Int)/\(n:Int)<=(y:Int):=by omega
 simp [Instr.sliceBound,asIntOf,h]
theorem Fi {T ty e:TypeId} {k h len cap:Nat} {a:Option Addr} (hT:dC P T=some (e,k)) (hh:h<=cap) (hk:K (.slice (if cap=0 then a else a.map (·.add (0 * k))) h cap) w) :
  Run P (sOp (.slice T (.const (.slice a len cap)) none (some (.const (.int .i64 h))) none) ty) w K:=by
 obtain ⟨hu,i,hi,_⟩:=jW hT
 refine Run.of ?_ hk
 simp [sOp,execOp,ev0,evE,Instr.sliceAt,Instr.slice,Instr.sliceBounds,run_underlying hu,iy hh,sizeOf,typeInfo,hi]
theorem D5 {T ty e:TypeId} {k l len cap:Nat} {a:Option Addr} (hT:dC P T=some (e,k)) (hl:l<=len) (hk:K (.slice (if cap=l then a else a.map (·.add (l * k))) (len - l) (cap - l)) w) :
  Run P (sOp (.slice T (.const (.slice a len cap)) (some (.const (.int .i64 l))) none none) ty) w K:=by
 obtain ⟨hu,i,hi,hs⟩:=jW hT
 refine Run.of ?_ hk
 simp [sOp,execOp,ev0,evE,Instr.sliceAt,Instr.slice,Instr.sliceBounds,run_underlying hu,iy hl,sizeOf,typeInfo,hi,hs]
end
theorem RdSl.to {α:Type} {S:ax} {k:Nat} {R:List Value->α->Prop} {a:Option Addr} {cap n h:Nat} {xs:List α} (hx:RdSl S k R (.slice a n cap) xs) (hh:h<=xs.length) :
  RdSl S k R (.slice (if cap=0 then a else a.map (·.add (0 * k))) h cap) (xs.take h):=by
 obtain ⟨a',cap',e,hl,hc,hx⟩:=hx
 simp only [Value.slice.injEq] at e
 obtain ⟨rfl,rfl,rfl⟩:=e
 have e1:(if cap=0 then a else a.map (·.add (0 * k)))=a:=by
  split
  ·rfl
  ·cases a <;> simp [Addr.add]
 rw [e1]
 have e2:h=(xs.take h).length:=by rw [List.length_take]; omega
 refine ⟨a,cap,by rw [<- e2],by omega,hc,?_⟩
 rcases hx with rfl|⟨b,o,c,E,fz,rfl,hS,hR⟩
 ·left; simp
 ·right
  refine ⟨b,o,c,E,fz,rfl,hS,fun i hi=>?_⟩
  rw [List.getElem_take]
  exact hR i (by omega)
theorem RdSl.from {α:Type} {S:ax} {k:Nat} {R:List Value->α->Prop} {a:Option Addr} {cap n l:Nat} {xs:List α} (hx:RdSl S k R (.slice a n cap) xs) (hl:l<=xs.length) :
  RdSl S k R (.slice (if cap=l then a else a.map (·.add (l * k))) (n - l) (cap - l)) (xs.drop l):=by
 obtain ⟨a',cap',e,hlc,hc,hx⟩:=hx
 simp only [Value.slice.injEq] at e
 obtain ⟨rfl,rfl,rfl⟩:=e
 refine ⟨_,cap - l,by rw [List.length_drop],by rw [List.length_drop]; omega,by omega,?_⟩
 by_cases hd:xs.drop l=[]
 ·exact .inl hd
 ·rcases hx with rfl|⟨b,o,c,E,fz,rfl,hS,hR⟩
  ·simp at hd
  ·right
   have hlt:l<xs.length:=by
    rcases Nat.lt_or_ge l xs.length with h|h
    ·exact h
    ·exact absurd (List.drop_eq_nil_of_le h) hd
   refine ⟨b,o+l * k,c,E,fz,?_,hS,fun i hi=>?_⟩
   ·rw [if_neg (by omega)]
    simp [Addr.add]
   ·rw [List.getElem_drop]
    have:=hR (l+i) (by simp at hi; omega)
    rwa [Nat.add_mul,<- Nat.add_assoc] at this
section
variable {P:Program} {w w0:World} {X:List Nat} {L:List Item} {S:ax} {K:Value->World->Prop}
attribute [local irreducible] Run CondV ah ba
theorem qQ {α:Type} {R:List Value->α->Prop} {xs:List α} {v:Value} {T ty e:TypeId} {k l:Nat} (hT:dC P T=some (e,k)) (hx:RdSl S k R v xs) (hl:l<=xs.length)
  (hk:∀ v',RdSl S k R v' (xs.drop l)->K v' w):Run P (sOp (.slice T (.const v) (some (.const (.int .i64 l))) none none) ty) w K:=by
 obtain ⟨a,cap,rfl,hl',hc,hx'⟩:=id hx
 exact D5 hT hl (hk _ (hx.from hl))
end
theorem RdSl.exact {α:Type} {S:ax} {k:Nat} {R:List Value->α->Prop} {v:Value} {ys:List α} (h:RdSl S k R v ys) (hk:∀ cs y,R cs y->cs.length=k) :
  ∃ ds:List {cs:List Value // cs.length=k},RdSl S k (fun cs d=>cs=d.val) v ds/\Rows k R (ds.map (·.val)) ys:=by
 obtain ⟨a,cap,rfl,hl,hc,hx⟩:=h
 rcases hx with rfl|⟨b,o,c,E,fz,rfl,hS,hR⟩
 ·exact ⟨[],⟨a,cap,rfl,hl,hc,.inl rfl⟩,Rows.nil _ _⟩
 ·refine ⟨List.ofFn fun i:Fin ys.length=>⟨bB c (o+i.val * k) k,hk _ _ (hR i.val i.isLt)⟩,⟨_,cap,by rw [List.length_ofFn],by rw [List.length_ofFn]; exact hl,hc,.inr ⟨b,o,c,E,fz,rfl,hS,fun i hi=>by simp⟩⟩,⟨by simp,fun cs hcs=>?_,fun i h1 h2=>?_⟩⟩
  ·obtain ⟨d,_,rfl⟩:=List.mem_map.1 hcs
   exact d.property
  ·simp only [List.getElem_map,List.getElem_ofFn]
   exact hR i h1
section
variable {P:Program} {w w0:World} {X:List Nat} {L:List Item} {S:ax} {K:Value->World->Prop}
attribute [local irreducible] Run CondV ah ba
theorem ng {α:Type} {R:List Value->α->Prop} (h:Inv w0 X L S w) {T ty e:TypeId} {k by_:Nat} {z v u:Value} {cs:List Bool} {css:List (List Value)} {ys:List α} (i:Nat)
  (hT:mX P T=some (e,k,by_,z)) (hk0:0<k) (hi:L[i]?=some (be v e k css)) (hr:RdSl S k R u ys) (hlen:∀ cs y,R cs y->cs.length=k) (h1:∀ cs y,R cs y->∀ c∈cs,c.oneCell'=true)
  (hfit:css.length+ys.length<=4294967296) (hby:by_<=32768) (hk:∀ v' w' css2,Rows k R css2 ys->Inv w0 X (L.set i (be v' e k (css++css2))) S w'->K v' w') :
  Run P (aA .append #[T,T] ty cs [v,u]) w K:=by
 obtain ⟨ds,hd,hR⟩:=hr.exact hlen
 have hdl:ds.length=ys.length:=by have:=hR.hc; simpa using this
 have hone:∀ d∈ds,∀ c∈d.val,c.oneCell'=true:=by
  intro d hd' c hc
  obtain ⟨j,hj,rfl⟩:=List.mem_iff_getElem.1 hd'
  have:=hR.hR j (by omega) (by simpa using hj)
  simp only [List.getElem_map] at this
  exact h1 _ _ this c hc
 obtain ⟨a,cap,rfl,hl',hc',hx⟩:=id hd
 have e1:∀ v',Item.row v' e k (css.length+ds.length) (css.flatten++(ds.map (·.val)).flatten)=be v' e k (css++ds.map (·.val)):=fun v'=>by simp [be]
 rcases hx with rfl|⟨b,o,c,E,fz,rfl,hS,hel⟩
 ·refine C0 h i hT hi (hk v w [] (by simpa using hR) ?_)
  have:L.set i (be v e k (css++[]))=L:=by
   obtain ⟨hlt,e'⟩:=List.getElem?_eq_some_iff.1 hi
   rw [List.append_nil,<- e',List.set_getElem_self]
  rw [this]
  exact h
 ·have hfl:(ds.map (·.val)).flatten.length=ds.length * k:=by
   rw [qL (k:=k) (fun cs hcs=>by obtain ⟨d,_,rfl⟩:=List.mem_map.1 hcs; exact d.property),List.length_map]
  refine dU h i (ds.map (·.val)).flatten hT hk0 hi hfl ?_ ?_ (by omega) hby fun v' w' hI=>hk _ _ _ hR ?_
  ·intro j u hj
   have hj':j<ds.length * k:=by
    rw [<- hfl]
    exact (List.getElem?_eq_some_iff.1 hj).1
   have hq:j / k<ds.length:=(Nat.div_lt_iff_lt_mul hk0).2 hj'
   have hcell:=hel (j / k) hq
   have hflat:=jZ k (ds.map (·.val)) (j / k) (fun cs hcs=>by obtain ⟨d,_,rfl⟩:=List.mem_map.1 hcs; exact d.property) (by simpa using hq)
   have hdm:=Nat.div_add_mod j k
   rw [Nat.mul_comm] at hdm
   rw [h.cellS hS]
   have e2:(ds.map (·.val)).flatten[j]?=(ds[j / k].val)[j % k]?:=by
    rw [List.getElem_map] at hflat
    rw [<- hflat,List.getElem?_take,if_pos (Nat.mod_lt _ hk0),List.getElem?_drop]
    congr 1
    omega
   rw [e2] at hj
   have:=bC hcell (j % k) u hj
   rw [<- this]
   congr 1
   omega
  ·intro u hu
   obtain ⟨cs,hcs,hu⟩:=List.mem_flatten.1 hu
   obtain ⟨d,hd',rfl⟩:=List.mem_map.1 hcs
   exact hone d hd' u hu
  ·rw [<- e1]
   exact hI
end

end Go.Proofs.YtmnnpgdeecnfpaaGreat

/- Plain functions: texts of terms and clauses, and how texts are read. Fuel runs out: none. -/
namespace Go.Proofs.YtmnnpgdeecnfpaaGreat
open Go Go.RowKit

abbrev Bs:=List UInt8
abbrev bs (s:ByteArray):Bs:=s.data.toList
abbrev st (l:Bs):ByteArray:=⟨l.toArray⟩
theorem v6 (l:Bs):bs (st l)=l:=by simp [bs]
theorem j8 (l:Bs):(st l).size=l.length:=by simp [ByteArray.size]

def sgn (s:Bs) (i:Nat) (c:Nat):Bool:=match s[i]? with
 | some b=>decide (b.toNat=c)
 | none=>false
def btw (s:Bs) (i:Nat) (a b:Nat):Bool:=match s[i]? with
 | some x=>decide (a<=x.toNat) && decide (x.toNat<=b)
 | none=>false
def sml (s:Bs) (i:Nat):Bool:=btw s i 97 122
def dig (s:Bs) (i:Nat):Bool:=btw s i 48 57
def upp (s:Bs) (i:Nat):Bool:=btw s i 65 90
def cut (s:Bs) (a b:Nat):Bs:=(s.take b).drop a

def sG (s:Bs):Nat->Nat->Nat
 | 0,e=>e
 | n+1,e=>if sml s e=true then sG s n (e+1) else e
def fS (s:Bs) (i:Nat):List ByteArray->Bs->Bs
 | [],b=>b
 | x::l,b=>fS s i l (if decide (i+x.size<=s.length)=true/\cut s i (i+x.size)=bs x/\b.length<x.size then bs x else b)
def oA (s:Bs) (i:Nat):Option (Bs × Nat):=
 let e:=sG s (s.length - i) i
 if i+6<e then none else if i<e then some (cut s i e,e) else
  let b:=fS s i signs []
  if b=[] then none else some (b,i+b.length)
def mf (s:Bs):Nat->Nat->Nat
 | 0,e=>e
 | n+1,e=>if dig s e=true then mf s n (e+1) else e
def u0:Bs->Nat->Nat
 | [],n=>n
 | b::l,n=>u0 l (n * 10+(b.toNat - 48))
def DV (s:Bs) (i:Nat):Option (T × Nat):=
 let from_:=if sgn s i 45=true then i+1 else i
 let e:=mf s 4 from_
 let d:=cut s from_ e
 let n:=u0 d 0
 if d=[] ∨ (sgn d 0 48=true/\1<d.length) ∨ (i<from_/\n=0) ∨ 999<n then none
 else some (.mk 2 (if i<from_ then -(n:Int) else n) emptyB [],e)
def yx (name:Bs) (kids:List T):T:=.mk 3 0 (st name) kids
def Fk:T:=yx [91,93] []
def zK (a b:T):T:=yx [46] [a,b]
def fZ:List T->T->T
 | [],t=>t
 | a::l,t=>zK a (fZ l t)
def opF (s:Bs) (i:Nat):Option (Bs × Nat):=
 let from_:=if sgn s i 32=true then i+1 else i
 if s.length<=from_ then none else match oA s from_ with
  | none=>none
  | some (name,next)=>
   let word:=decide (name=[105,115]) || decide (name=[109,111,100])
   if cG (st name)=0 ∨ word≠decide (i<from_) ∨ (word=true/\sgn s next 32=false) then none
   else some (name,if word=true then next+1 else next)
mutual
def gy:Nat->Bs->Nat->Nat->Nat->Option (T × Nat)
 | 0,_,_,_,_=>none
 | f+1,s,i,d,0=>mN f s i d
 | f+1,s,i,d,l+1=>match gy f s i d l with
  | none=>none
  | some (t,n)=>yD f s n d l t
def yD:Nat->Bs->Nat->Nat->Nat->T->Option (T × Nat)
 | 0,_,_,_,_,_=>none
 | f+1,s,i,d,l,t=>match opF s i with
  | none=>some (t,i)
  | some (name,after)=>if cG (st name)=((l+1:Nat):Int) then match gy f s after d l with
    | none=>none
    | some (r,e)=>if l=2 then some (yx name [t,r],e) else yD f s e d l (yx name [t,r])
   else some (t,i)
def mN:Nat->Bs->Nat->Nat->Option (T × Nat)
 | 0,_,_,_=>none
 | f+1,s,i,d=>if d=0 ∨ s.length<=i then none else if sgn s i 40=true then match gy f s (i+1) d 3 with
    | none=>none
    | some (t,n)=>if sgn s n 41=true then some (t,n+1) else none
  else if sgn s i 91=true/\sgn s (i+1) 93=false then match fM f s (i+1) (d - 1) 93 124 [] with
    | none=>none
    | some (ts,n)=>if sgn s n 93=true then some (fZ ts Fk,n+1) else match gy f s (n+1) (d - 1) 3 with
     | none=>none
     | some (t,e)=>if sgn s e 93=true then some (fZ ts t,e+1) else none
  else if upp s i=true then some (.mk 1 ((s.getD i 0).toNat - 65) emptyB [],i+1)
  else if dig s i=true ∨ (sgn s i 45=true/\dig s (i+1)=true) then DV s i
  else match oA s i with
   | none=>none
   | some (name,n)=>if sgn s n 40=false then some (yx name [],n) else match fM f s (n+1) (d - 1) 41 41 [] with
    | none=>none
    | some (ts,e)=>some (yx name ts,e+1)
def fM:Nat->Bs->Nat->Nat->Nat->Nat->List T->Option (List T × Nat)
 | 0,_,_,_,_,_,_=>none
 | f+1,s,i,d,e,o,acc=>match gy f s i d 3 with
  | none=>none
  | some (t,n)=>if sgn s n e=true ∨ sgn s n o=true then some (acc++[t],n) else if sgn s n 44=true then fM f s (n+1) d e o (acc++[t]) else none
end

/- texts -/
def jN (t:T):Bool:=decide (t.kind=3) && (decide (t.kids.length=2) && decide (0<cG t.name))
def tE (t:T):Bool:=decide (t.kind=3) && (decide (t.name=st [46]) && decide (t.kids.length=2))
def C4 (t:T):Bool:=decide (t.kind=3) && (decide (t.name=st [91,93]) && decide (t.kids.length=0))
def qM (t:T):Bool:=decide (t.kind=3) && (decide (t.kids.length=0) && decide (0<cG t.name))
def xq (s:Bs):Bool:=sml s 0 || (dig s 0 || (upp s 0 || (sgn s 0 91 || sgn s 0 40)))
def fH (n:Bs):Bs:=if n=[105,115] ∨ n=[109,111,100] then 32::(n++[32]) else n
def vb:Nat->Nat->Bs->Option Bs
 | 0,_,_=>none
 | f+1,n,out=>if 9<n then vb f (n / 10) (UInt8.ofNat (48+n % 10)::out) else some (UInt8.ofNat (48+n)::out)
def Fj (n:Int):Option Bs:=if n<0 then (vb 20 (-n).toNat []).map fun l=>45::l else vb 20 n.toNat []
def DD (t:T):Option Bs:=if t.kind=1 then (if 0<=t.n/\t.n<=25 then some [UInt8.ofNat (65+t.n.toNat)] else none)
 else if t.kind=2 then (if -999<=t.n/\t.n<=999 then Fj t.n else none) else if t.kids.length=0 then some (bs t.name) else none
mutual
def wK:Nat->T->Option Bs
 | 0,_=>none
 | f+1,t=>if tE t=true then wq f t [] else if jN t=true then match t.kids with
   | [a,b]=>match BR f a (if cG t.name=3 then 2 else cG t.name),xB f b (cG t.name - 1) with
    | some x,some y=>some (x++fH (bs t.name)++y)
    | _,_=>none
   | _=>none
  else if t.kind=3/\0<t.kids.length then match ko f t.kids [] with
   | some x=>some (bs t.name++[40]++x++[41])
   | none=>none
  else DD t
def wq:Nat->T->List T->Option Bs
 | 0,_,_=>none
 | f+1,t,items=>if tE t=true then match t.kids with
   | [a,b]=>wq f b (items++[a])
   | _=>none
  else match ko f items [] with
   | none=>none
   | some x=>if C4 t=true then some ([91]++x++[93]) else match wK f t with
    | none=>none
    | some y=>some ([91]++x++[124]++y++[93])
def ko:Nat->List T->Bs->Option Bs
 | 0,_,_=>none
 | _+1,[],out=>some out
 | f+1,t::l,out=>match wK f t with
  | none=>none
  | some x=>ko f l (out++x++(if l=[] then [] else [44]))
def lk:Nat->T->Int->Option Bs
 | 0,_,_=>none
 | f+1,t,l=>match wK f t with
  | none=>none
  | some x=>some (if jN t=true/\l<cG t.name then [40]++x++[41] else x)
def BR:Nat->T->Int->Option Bs
 | 0,_,_=>none
 | f+1,t,l=>if qM t=true then match wK f t with
   | none=>none
   | some x=>some ([40]++x++[41])
  else lk f t l
def xB:Nat->T->Int->Option Bs
 | 0,_,_=>none
 | f+1,t,l=>match lk f t l with
  | none=>none
  | some x=>if x=[] then none else some (if qM t=true ∨ xq x=false then [40]++x++[41] else x)
end
def ry (f:Nat):List T->Bool->Bs->Option Bs
 | [],_,out=>some out
 | t::l,first,out=>match wK f t with
  | none=>none
  | some x=>ry f l false (out++(if first=true then [58,45] else [44])++x)
def B7 (f:Nat) (c:C):Option Bs:=match wK f c.head with
 | none=>none
 | some x=>match ry f c.body true x with
  | none=>none
  | some y=>some (y++[46])

/- clauses and programs -/
def m1 (f:Nat):Nat->Bs->Nat->List T->Option (List T × Nat)
 | 0,_,_,_=>none
 | k+1,s,i,acc=>if 6<acc.length then none else match gy f s i 30 3 with
  | none=>none
  | some (t,n)=>if sgn s n 44=true then m1 f k s (n+1) (acc++[t]) else some (acc++[t],n)
def Cs (f:Nat) (s:Bs) (c:C) (n:Nat):Option C:=
 if n+1=s.length/\sgn s n 46=true/\bH c=true/\wC c<=200/\B7 f c=some s then some c else none
def oT (f:Nat) (s:Bs):Option C:=if 1000<s.length then none else match gy f s 0 30 3 with
 | none=>none
 | some (h,n)=>if sgn s n 58=true/\sgn s (n+1) 45=true then match m1 f 8 s (n+2) [] with
   | none=>none
   | some (b,n2)=>Cs f s ⟨h,b⟩ n2
  else Cs f s ⟨h,[]⟩ n
def vH (s:Bs) (c:Nat):Nat->Nat->Nat->List Bs->List Bs
 | 0,i,from_,acc=>acc++[cut s from_ i]
 | n+1,i,from_,acc=>if sgn s i c=true then vH s c n (i+1) (i+1) (acc++[cut s from_ i]) else vH s c n (i+1) from_ acc
def C9 (s:Bs):List Bs:=vH s 10 s.length 0 0 []
def iG (f:Nat):List Bs->List C->Option (List C)
 | [],acc=>some acc
 | l::ls,acc=>match oT f l with
  | none=>none
  | some c=>iG f ls (acc++[c])
def BT (f:Nat) (s:Bs):Option (List C):=
 let ls:=C9 s
 if 21<ls.length ∨ ls.getLast?≠some [] then none else iG f ls.dropLast []
def Du (s:Bs):Bool:=match BT 60 s with
 | some p=>decide (0<p.length) && (decide (p.length<=8) && p.all fun c=>bH c && decide (wC c<=200))
 | none=>false
end Go.Proofs.YtmnnpgdeecnfpaaGreat

/- More rules: arithmetic, conversions, texts joined and cut. -/
namespace Go.Proofs.YtmnnpgdeecnfpaaGreat
open Go Go.RowKit
section
variable {P:Program} {w w0:World} {X:List Nat} {L:List Item} {S:ax} {K:Value->World->Prop}
theorem ux {T:TypeId} {cx cy:Bool} {k:IntKind} {a b:Int} (h:a<b) (hk:K (.bool true) w):Run P (au .lss T cx cy (.int k a) (.int k b)) w K:=by
 refine dh ?_
 rw [decide_eq_true h]
 exact hk
theorem ed {T:TypeId} {cx cy:Bool} {k:IntKind} {a b:Int} (h:¬ (a<b)) (hk:K (.bool false) w):Run P (au .lss T cx cy (.int k a) (.int k b)) w K:=by
 refine dh ?_
 rw [decide_eq_false h]
 exact hk
theorem xt {T:TypeId} {cx cy:Bool} {k:IntKind} {a b:Int} (h:a<=b) (hk:K (.bool true) w):Run P (au .leq T cx cy (.int k a) (.int k b)) w K:=by
 refine fO ?_
 rw [decide_eq_true h]
 exact hk
theorem De {T:TypeId} {cx cy:Bool} {k:IntKind} {a b:Int} (h:¬ (a<=b)) (hk:K (.bool false) w):Run P (au .leq T cx cy (.int k a) (.int k b)) w K:=by
 refine fO ?_
 rw [decide_eq_false h]
 exact hk
theorem AA {T:TypeId} {cx cy:Bool} {k:IntKind} {a b:Int} (h:b<a) (hk:K (.bool true) w):Run P (au .gtr T cx cy (.int k a) (.int k b)) w K:=by
 refine eN ?_
 rw [decide_eq_true h]
 exact hk
theorem jf {T:TypeId} {cx cy:Bool} {k:IntKind} {a b:Int} (h:¬ (b<a)) (hk:K (.bool false) w):Run P (au .gtr T cx cy (.int k a) (.int k b)) w K:=by
 refine eN ?_
 rw [decide_eq_false h]
 exact hk
theorem jT {T:TypeId} {cx cy:Bool} {k:IntKind} {a b:Int} (h:b<=a) (hk:K (.bool true) w):Run P (au .geq T cx cy (.int k a) (.int k b)) w K:=by
 refine pg ?_
 rw [decide_eq_true h]
 exact hk
theorem qd {T:TypeId} {cx cy:Bool} {k:IntKind} {a b:Int} (h:¬ (b<=a)) (hk:K (.bool false) w):Run P (au .geq T cx cy (.int k a) (.int k b)) w K:=by
 refine pg ?_
 rw [decide_eq_false h]
 exact hk
theorem eK {T:TypeId} {cx cy:Bool} {k:IntKind} {a b:Int} (h:a=b) (hk:K (.bool true) w):Run P (au .eql T cx cy (.int k a) (.int k b)) w K:=by
 refine bK ?_
 rw [decide_eq_true h]
 exact hk
theorem dR {T:TypeId} {cx cy:Bool} {k:IntKind} {a b:Int} (h:¬ (a=b)) (hk:K (.bool false) w):Run P (au .eql T cx cy (.int k a) (.int k b)) w K:=by
 refine bK ?_
 rw [decide_eq_false h]
 exact hk
theorem wi {T:TypeId} {cx cy:Bool} {a b:Int} (hr:-9223372036854775808<=a * b/\a * b<=9223372036854775807) (hk:K (.int .i64 (a * b)) w):Run P (au .mul T cx cy (.int .i64 a) (.int .i64 b)) w K:=
 Run.of (by simp [au,c5,binOp,Op.intArith,IntWalk.i64_in _ hr]) hk
theorem E5 {T:TypeId} {cx cy:Bool} {a b:Nat} (hb:0<b) (ha:a<=9223372036854775807) (hk:K (.int .i64 ((a / b:Nat):Int)) w):Run P (au .quo T cx cy (.int .i64 (a:Int)) (.int .i64 (b:Int))) w K:=by
 refine Run.of ?_ hk
 have h0:¬ ((b:Int)=0):=by omega
 have h1:IntKind.i64.wrap ((a:Int).tdiv b)=((a / b:Nat):Int):=by
  rw [IntWalk.i64_quo _ _ (by omega)]; rfl
 simp only [au,c5,binOp,Op.intDiv,Sem.run_bind,Result.andThen_ok,if_neg h0,Sem.run_pure]
 exact congrArg (fun v=>Result.ok (Next.value (.int .i64 v)) w) h1
theorem AZ {T:TypeId} {cx cy:Bool} {a b:Nat} (hb:0<b) (hk:K (.int .i64 ((a % b:Nat):Int)) w):Run P (au .rem T cx cy (.int .i64 (a:Int)) (.int .i64 (b:Int))) w K:=by
 refine Run.of ?_ hk
 have h1:(a:Int).tmod b=((a % b:Nat):Int):=by
  rw [IntWalk.rem_in _ _ (by omega)]; rfl
 have h0:¬ ((b:Int)=0):=by omega
 simp only [au,c5,binOp,Op.intDiv,Sem.run_bind,Result.andThen_ok,if_neg h0,Sem.run_pure]
 exact congrArg (fun v=>Result.ok (Next.value (.int .i64 v)) w) h1
theorem Ft {T:TypeId} {cx cy:Bool} {a b:Nat} (ha:a<4611686018427387904) (hb:b<4611686018427387904) (hk:K (.int .i64 ((a ^^^ b:Nat):Int)) w):Run P (au .xor T cx cy (.int .i64 (a:Int)) (.int .i64 (b:Int))) w K:=by
 refine Run.of ?_ hk
 have hx:a ^^^ b<2 ^ 62:=Nat.xor_lt_two_pow (by simpa using ha) (by simpa using hb)
 have e1:(BitVec.ofInt 64 (a:Int)).toNat=a:=by rw [BitVec.toNat_ofInt]; omega
 have e2:(BitVec.ofInt 64 (b:Int)).toNat=b:=by rw [BitVec.toNat_ofInt]; omega
 have h1:IntKind.i64.wrap ((BitVec.ofInt 64 (a:Int) ^^^ BitVec.ofInt 64 (b:Int)).toNat:Int)=((a ^^^ b:Nat):Int):=by
  rw [BitVec.toNat_xor,e1,e2]
  exact IntWalk.i64_in _ (by omega)
 simp only [au,c5,binOp,Op.intBits,Sem.run_bind,Result.andThen_ok,Sem.run_pure]
 exact congrArg (fun v=>Result.ok (Next.value (.int .i64 v)) w) h1
theorem E9 {T:TypeId} {cx cy:Bool} {k:IntKind} {a b c:Int} (hr:k.wrap (a+b)=c) (hk:K (.int k c) w):Run P (au .add T cx cy (.int k a) (.int k b)) w K:=
 Run.of (by simp [au,c5,binOp,Op.intArith,hr]) hk
theorem Di {T:TypeId} {cx cy:Bool} {k:IntKind} {a b c:Int} (hr:k.wrap (a - b)=c) (hk:K (.int k c) w):Run P (au .sub T cx cy (.int k a) (.int k b)) w K:=
 Run.of (by simp [au,c5,binOp,Op.intArith,hr]) hk
theorem lE {src dst ty:TypeId} {k k':IntKind} {n m:Int} {d:TypeDesc} (hs:P.underlying src=some d) (hd:P.underlying dst=some (.int k')) (hr:k'.wrap n=m) (hk:K (.int k' m) w) :
  Run P (sOp (.convert src dst (.const (.int k n))) ty) w K:=by
 refine Run.of ?_ hk
 simp [sOp,execOp,ev0,evE,convert,run_underlying hs,run_underlying hd,Conv.intToInt,hr]
theorem E0 {T ty:TypeId} {n:Int} (hr:-9223372036854775808<=-n/\-n<=9223372036854775807) (hk:K (.int .i64 (-n)) w):Run P (sOp (.unOp .neg T (.const (.int .i64 n))) ty) w K:=
 Run.of (by simp [sOp,execOp,ev0,evE,Op.unary,Op.intArith,Int.zero_sub,IntWalk.i64_in _ hr]) hk
theorem Fe (a b:Bs):st a++st b=st (a++b):=by
 apply ByteArray.ext
 simp [st]
theorem dw {T:TypeId} {cx cy:Bool} {a b:Bs} (hl:a.length+b.length<=9223372036854775807) (hk:K (.string (st (a++b))) w):Run P (au .add T cx cy (.string (st a)) (.string (st b))) w K:=by
 refine Run.of ?_ hk
 have h1:¬ (9223372036854775807<(((st a).size+(st b).size:Nat):Int)):=by rw [j8,j8]; omega
 have h2:IntKind.i64.max=9223372036854775807:=by decide
 simp only [au,binOp,Op.stringOp,Sem.run_bind,lI,Result.andThen_ok,gt_iff_lt,h2,if_neg h1,Sem.run_pure,Fe]
theorem Fu (s:Bs) (a b:Nat):(st s).extract a b=st (cut s a b):=by
 apply ByteArray.ext
 apply Array.toList_inj.1
 simp [cut,ByteArray.data_extract,List.drop_take]
theorem sW {T ty:TypeId} {s:Bs} {a b:Nat} (hu:P.underlying T=some .string) (hab:a<=b) (hb:b<=s.length) (hk:K (.string (st (cut s a b))) w) :
  Run P (sOp (.slice T (.const (.string (st s))) (some (.const (.int .i64 a))) (some (.const (.int .i64 b))) none) ty) w K:=by
 refine Run.of ?_ hk
 have hb':b<=(st s).size:=by rw [j8]; exact hb
 simp [sOp,execOp,ev0,evE,Instr.sliceAt,Instr.slice,Instr.sliceBounds,run_underlying hu,iy hab,iy hb',Fu]
/- a byte out of a text -/
theorem dP {T ty:TypeId} {s:Bs} {i:Nat} (hu:P.underlying T=some .string) (hi:i<s.length) (hk:K (.int .u8 s[i].toNat) w) :
  Run P (sOp (.index T (.const (.string (st s))) (.const (.int .i64 i))) ty) w K:=by
 have hi':i<(st s).size:=by rw [j8]; exact hi
 refine iH hu hi' ?_
 have:(st s)[i]=s[i]:=by simp [st,ByteArray.getElem_eq_getElem_data]
 rw [this]
 exact hk
theorem eA {T ty:TypeId} {cs:List Bool} {s:Bs} (hu:P.underlying T=some .string) (hk:K (.int .i64 s.length) w):Run P (aA .len #[T] ty cs [.string (st s)]) w K:=by
 refine iM hu ?_
 rw [j8]
 exact hk
theorem tF {T:TypeId} {cx cy:Bool} {a b:Bs} (hk:K (.bool (decide (a=b))) w):Run P (au .eql T cx cy (.string (st a)) (.string (st b))) w K:=by
 refine cr ?_
 have:decide (st a=st b)=decide (a=b):=by
  rw [decide_eq_decide]
  exact ⟨fun h=>by rw [<- v6 a,h,v6],fun h=>by rw [h]⟩
 rw [this]
 exact hk
theorem B8 {T:TypeId} {cx cy:Bool} {a b:Bs} (hk:K (.bool (!decide (a=b))) w):Run P (au .neq T cx cy (.string (st a)) (.string (st b))) w K:=by
 refine Fg ?_
 have:decide (st a=st b)=decide (a=b):=by
  rw [decide_eq_decide]
  exact ⟨fun h=>by rw [<- v6 a,h,v6],fun h=>by rw [h]⟩
 rw [this]
 exact hk
/- string([]byte{x}) -/
theorem uD (h:Inv w0 X L S w) {T T' D ty e:TypeId} {by_:Nat} {z:Value} {n:Nat} (hT:mX P T=some (e,1,by_,z)) (he:P.underlying T'=some (.slice e)) (hb:P.underlying e=some (.int .u8)) (hD:P.underlying D=some .string)
  (hk:∀ w',Inv w0 X L S w'->K (.string (st [UInt8.ofNat n])) w') :
  Run P (aR T 1 [(0,.int .u8 (n:Int))]) w fun u w'=>Run P (sOp (.convert T' D (.const u)) ty) w' K:=by
 refine dg h hT rfl (by omega) (by omega) fun b w' hI=>?_
 have hi:(L++[Item.blk b (.cells (Value.int .u8 (n:Int)).cells e)])[L.length]?=some (.blk b (.cells (Value.int .u8 (n:Int)).cells e)):=by
  rw [List.getElem?_append_right (Nat.le_refl _),Nat.sub_self]; rfl
 have hc:w'.cell? ⟨b,0,none⟩=some (.int .u8 (n:Int)):=by rw [hI.cellL hi]; rfl
 have hl:=run_loadCells_list (P:=P) (w:=w') ⟨b,0,none⟩ [.int .u8 (n:Int)] (fun j v hj=>by
  match j with
  | 0=>simp only [List.getElem?_cons_zero,Option.some.injEq] at hj; subst hj; rw [jV]; exact hc
  | j+1=>simp at hj)
 simp only [List.length_cons,List.length_nil] at hl
 refine Run.of (w':=w') ?_ (hk _ (hI.sub (List.sublist_append_left _ _)))
 simp [sOp,execOp,ev0,evE,convert,run_underlying he,run_underlying hb,run_underlying hD,Conv.bytesToString,hl,st]
 rfl
end
end Go.Proofs.YtmnnpgdeecnfpaaGreat
