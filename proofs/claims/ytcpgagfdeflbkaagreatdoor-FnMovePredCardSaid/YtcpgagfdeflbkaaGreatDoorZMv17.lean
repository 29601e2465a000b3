/- impl: binding, unification. -/
import Derived.Test.YtcpgagfdeflbkaaGreatDoorZMv16
namespace Go.Proofs.YtcpgagfdeflbkaaGreatDoor
section
open Go Go.RowKit
abbrev aq (sb mb:Nat) (es:Array MapEntry) (ck:Nat) (tv:Value) (tr:List Int):List Item:=[.blk sb (.cells #[.map (some mb),tv] bT),.blk mb (.map es ck),dl tv tr]
section
attribute [local irreducible] Run CondV ao aI
theorem yx {N:Nat} {st:ah} (hg:Good N st) {n:Nat} (hf:st[n]?=some none) (hnN:n<1000000000) {t:T} (ht:okU N t) {S:ad} {cs:List Value} {sb mb ck:Nat} {es:Array MapEntry} {tv:Value} {tr:List Int} (h:RdT S cs t) (hm:KnownM S es st) (htr:tr.length<=1000000) :
  Tri Tryz.prog zf [.pointer (some ⟨sb,0,none⟩),.int .i64 n,.agg cs.toArray] (aq sb mb es ck tv tr) S fun r I' S'=>S'=S/\
   ((¬ fj st n t/\r=.bool true/\∃ es' ck' tv',I'=aq sb mb es' ck' tv' (tr++[(n:Int)])/\KnownM S es' (st.set n (some t))) ∨ (fj st n t/\r=.bool false/\I'=aq sb mb es ck tv tr)):=by
 intro w hI
 have hlc:=h.length
 obtain ⟨X,hX⟩:∃ X,X=bp (aq sb mb es ck tv tr):=⟨_,rfl⟩
 rw [<- hX] at hI ⊢
 have hn:∀ u,st[n]?≠some (some u):=fun u hu=>by rw [hf] at hu; cases hu
 have hnl:n<st.length:=(List.getElem?_eq_some_iff.1 hf).1
 refine mf.2 ?_
 dsimp only[mf,ft]
 refine bl hI fun b5 w' hI=>?_
 refine aw hI 3 ac rfl (by simpa [Value.cells] using hlc) ?_
 refine A6 hI fun mm w' hI=>?_
 have hI:Inv w X ([.blk b5 (.cells cs.toArray ab),dl tv tr,.blk mm (.map #[] 0)]++aZ [(sb,.cells #[.map (some mb),tv] bT),(mb,.map es ck)]) S w':=hI.perm (by
  refine (List.Perm.trans ?_ (List.perm_append_comm (l₁:=[.blk b5 (.cells cs.toArray ab),.blk mm (.map #[] 0)]) (l₂:=aq sb mb es ck tv tr)))
  refine (List.Perm.cons _ (List.Perm.trans (List.Perm.swap _ _ _) (List.Perm.cons _ ?_)))
  exact List.perm_append_comm (l₁:=[dl tv tr]) (l₂:=aZ [(sb,.cells #[.map (some mb),tv] bT),(mb,.map es ck)]))
 obtain ⟨S1,hle,hins,hI1,hback⟩:=Inv.lendAll _ hI
 have hst:StS S S1 sb st:=⟨mb,tv,es,ck,bT,hins _ (List.mem_cons_self ..),hins _ (List.mem_cons_of_mem _ (List.mem_cons_self ..)),hm⟩
 have hI1:Inv w X ([.blk b5 (.cells cs.toArray ab),dl tv tr]++[.blk mm (.map #[] 0)]) S1 w':=hI1
 refine Run.callE fy fG hI1 (Co hg hn hnN t ht S S1 cs mm 0 #[] _ hle hst h MetM.empty (fun m hm=>hm.elim)) fun v' I' S' w'=>?_
 rintro ⟨eS,es2,ck2,rfl,hres⟩ _ hI1
 rw [eS] at hI1
 have hI:=hback _ _ hI1
 have hI:Inv w X ([.blk b5 (.cells cs.toArray ab)]++aq sb mb es ck tv tr) S w':=(hI.pick [true,true,false,true,true]).perm (List.Perm.cons _ (List.perm_append_comm (l₁:=aZ [(sb,.cells #[.map (some mb),tv] bT),(mb,.map es ck)]) (l₂:=[dl tv tr])))
 rcases hres with ⟨hocc,rfl⟩|⟨hocc,rfl,_⟩
 ·refine av (fun _=>?_) (fun hb=>by cases hb)
  exact ⟨_,_,_,rfl,hI.sub (List.sublist_cons_self _ _),Ext.refl _ _ _,rfl,.inr ⟨hocc,rfl,rfl⟩⟩
 refine av (fun hb=>by cases hb) (fun _=>?_)
 have hfind:Instr.findNow (.int .i64) (.int .i64 n) es.toList 0=some none:=by
  rcases hm.find n with ⟨_,_,u,_,_,_,_,hu⟩|⟨_,hf⟩
  ·exact absurd hu (hn u)
  ·exact hf
 have hm2:=hm.push hnl hn h ck
 generalize hes2:es.push { key:=.int .i64 n,val:=.agg cs.toArray,born:=ck }=es2 at hm2
 have hI:Inv w X [.blk b5 (.cells cs.toArray ab),.blk sb (.cells #[.map (some mb),tv] bT),.blk mb (.map es ck),dl tv tr] S w':=hI
 refine ⟨fun D mL xy EY zp DU E3 w_=>Fx D 0 [E3=.pointer (some ⟨sb,0,none⟩),DU=.pointer (some ⟨sb,0,none⟩),zp=.pointer (some ⟨sb,0,none⟩),EY=.map (some mb),xy=.int .i64 n,mL=.agg cs.toArray,True]/\Inv w X [.blk b5 (.cells cs.toArray ab),.blk sb (.cells #[.map (some mb),tv] bT),.blk mb (cond (D 6) (.map es2 (ck+1)) (.map es ck)),dl tv tr] S w_,⟨Fx.nil _ _,hI.draw⟩,⟨?_,?_,?_,?_,?_,?_,?_,trivial⟩,?_⟩
 all_goals (intro D bv; intros; rename_i mL xy EY zp DU E3 w_ hA_; have hF_:=hA_.1; obtain ⟨⟨ci,cd,cj,cc,cm,cr,bO,_⟩,hI⟩:=hA_)
 ·exact ⟨hF_.set 0 rfl,hI⟩
 ·obtain rfl:=ci ‹_›
  refine al ?_
  exact ⟨hF_.set 1 rfl,hI⟩
 ·obtain rfl:=cd ‹_›
  refine aA oa ?_
  exact ⟨hF_.set 2 rfl,hI⟩
 ·obtain rfl:=cj ‹_›
  refine aT hI 1 (by decide +kernel) rfl rfl ?_
  exact ⟨hF_.set 3 rfl,hI⟩
 ·exact ⟨hF_.set 4 rfl,hI⟩
 ·refine aw hI 0 ac rfl (by simpa using hlc) ?_
  exact ⟨hF_.set 5 rfl,hI⟩
 ·obtain rfl:=cc ‹_›
  obtain rfl:=cm ‹_›
  obtain rfl:=cr ‹_›
  rw [bv] at hI
  refine DL hI 2 gr eQ rfl hfind fun w_ hI=>?_
  rw [hes2] at hI
  exact ⟨hF_.set 6 trivial,hI⟩
 obtain ⟨rfl,rfl,rfl,rfl,rfl,rfl,_,_⟩:=hF_.all
 have IB:D 6=true:=by assumption
 clear hF_ ci cd cj cc cm cr bO
 rw [IB] at hI
 have hI:Inv w X [.blk b5 (.cells cs.toArray ab),.blk sb (.cells #[.map (some mb),tv] bT),.blk mb (.map es2 (ck+1)),dl tv tr] S w_:=hI
 obtain ⟨va,vn,vc,hv9⟩:=hI.rowSlice 3 rfl
 refine al ?_
 refine aA dQ ?_
 refine aT hI 1 fD rfl rfl ?_
 refine du hI oL rfl (by omega) (by omega) fun b w' hI=>?_
 refine cN hI 3 (k:=1) (o:=0) (m:=1) [.int .i64 n] oL (by omega) rfl rfl ?_ (by simp [Value.oneCell']) (by omega) (by omega) fun tv2 w' hI=>?_
 ·intro j u hj
  rw [hI.cellL (i:=4) rfl]
  match j with
  | 0=>simpa [Value.cells] using hj
  | j+1=>simp at hj
 rw [tU] at hI
 have hI:Inv w X [.blk b5 (.cells cs.toArray ab),.blk sb (.cells #[.map (some mb),tv] bT),.blk mb (.map es2 (ck+1)),dl tv2 (tr++[(n:Int)]),.blk b (.cells #[.int .i64 n] bG)] S w':=by
  have e:Item.row tv2 bG 1 (tr.length+1) (ints (tr++[(n:Int)]))=dl tv2 (tr++[(n:Int)]):=by simp [dl]
  rw [<- e]
  exact hI
 obtain ⟨va2,vn2,vc2,hv2⟩:=hI.rowSlice 3 rfl
 refine al ?_
 refine cq hI 1 rfl dQ fD rfl (by rw [hv2]; rfl) (by rw [hv2]; rfl) fun w' hI=>?_
 have hI:Inv w X ([.blk b5 (.cells cs.toArray ab)]++(aq sb mb es2 (ck+1) tv2 (tr++[(n:Int)])++[.blk b (.cells #[.int .i64 n] bG)])) S w':=hI
 exact ⟨_,_,_,rfl,(hI.sub (List.sublist_append_right [_] _)).sub (List.sublist_append_left _ _),Ext.refl _ _ _,rfl,.inl ⟨hocc,rfl,es2,ck+1,tv2,rfl,hm2⟩⟩
def dn:ah->List Int->ah
 | st,[]=>st
 | st,n::ns=>(dn st ns).set n.toNat none
theorem ox (st:ah):∀ a b:List Int,dn st (a++b)=dn (dn st b) a
 | [],_=>rfl
 | n::a,b=>by rw [List.cons_append,dn,dn,ox st a b]
theorem kJ (st:ah):∀ (ns:List Int) (i:Nat),(dn st ns)[i]?=if (∃ n∈ns,n.toNat=i) then st[i]?.map (fun _=>none) else st[i]?
 | [],i=>by rw [dn,if_neg (by simp)]
 | n::ns,i=>by
  rw [dn,List.getElem?_set,kJ st ns]
  have hl:(dn st ns).length=st.length:=by
   clear i
   induction ns with
   | nil=>rfl
   | cons m ns ih=>rw [dn,List.length_set,ih]
  by_cases h1:n.toNat=i
  ·subst h1
   have h3:∃ m∈n::ns,m.toNat=n.toNat:=⟨n,by simp,rfl⟩
   by_cases h2:n.toNat<st.length
   ·rw [if_pos rfl,hl,if_pos h2,if_pos h3,List.getElem?_eq_getElem h2]; rfl
   ·rw [if_pos rfl,hl,if_neg h2,if_pos h3,List.getElem?_eq_none (by omega)]; rfl
  ·rw [if_neg h1]
   by_cases h2:∃ m∈ns,m.toNat=i
   ·obtain ⟨m,h3,h4⟩:=h2
    rw [if_pos ⟨m,h3,h4⟩,if_pos ⟨m,List.mem_cons_of_mem _ h3,h4⟩]
   ·rw [if_neg h2,if_neg]
    rintro ⟨m,h3,h4⟩
    rcases List.mem_cons.1 h3 with rfl|h3
    ·exact h1 h4
    ·exact h2 ⟨m,h3,h4⟩
def Tr (st st':ah) (tr tr':List Int):Prop:=∃ ns,tr'=tr++ns/\dn st' ns=st/\(∀ n∈ns,∃ j:Nat,n=(j:Int)/\st[j]?=some none)/\ns.length+unb st'<=unb st
theorem Tr.refl (st:ah) (tr:List Int):Tr st st tr tr:=⟨[],(List.append_nil _).symm,rfl,by simp,by simp⟩
theorem Tr.bind {st:ah} {tr:List Int} {n:Nat} {t:T} (h:st[n]?=some none):Tr st (st.set n (some t)) tr (tr++[(n:Int)]):=by
 refine ⟨[(n:Int)],rfl,?_,fun m hm=>⟨n,List.mem_singleton.1 hm,h⟩,by have:=oQ st n t h; simp only [List.length_cons,List.length_nil]; omega⟩
 rw [dn,dn,Int.toNat_natCast,List.set_set]
 apply List.ext_getElem?
 intro i
 rw [List.getElem?_set]
 by_cases e:n=i
 ·subst e
  rw [if_pos rfl,h,if_pos (List.getElem?_eq_some_iff.1 h).1]
 ·rw [if_neg e]
theorem Tr.trans {a b c:ah} {x y z:List Int} (h:Tr a b x y) (h':Tr b c y z):Tr a c x z:=by
 obtain ⟨ns,rfl,rfl,h3,h6⟩:=h
 obtain ⟨ms,rfl,rfl,h5,h7⟩:=h'
 refine ⟨ns++ms,by rw [List.append_assoc],by rw [ox],fun n hn=>?_,by rw [List.length_append]; omega⟩
 rcases List.mem_append.1 hn with hn|hn
 ·exact h3 n hn
 ·obtain ⟨j,rfl,hj⟩:=h5 n hn
  refine ⟨j,rfl,?_⟩
  rw [kJ]
  split
  ·rw [hj]; rfl
  ·exact hj
def UI (st:ah) (a b:T) (r:Bool) (st':ah):Prop:=∀ (S:ad) (cs ds:List Value) (sb mb ck:Nat) (es:Array MapEntry) (tv:Value) (tr:List Int),RdT S cs a->RdT S ds b->KnownM S es st->tr.length+unb st<=1000000->
 Tri Tryz.prog wB [.pointer (some ⟨sb,0,none⟩),.agg cs.toArray,.agg ds.toArray] (aq sb mb es ck tv tr) S fun q I' S'=>S'=S/\q=.bool r/\∃ es' ck' tv' tr',I'=aq sb mb es' ck' tv' tr'/\KnownM S es' st'/\tr'.length+unb st'<=1000000/\Tr st st' tr tr'
set_option maxHeartbeats 1000000 in
theorem C0 {N:Nat} (hN:N<=1000000) {st st':ah} {a b a' b':T} {r:Bool} (hg:Good N st) (hj:okJ N (.one a b)) (hwa:cK st a a') (hwb:cK st b b') (he:NT UI st a' b' r st'):UI st a b r st':=by
 intro S cs ds sb mb ck es tv tr h h' hkm htr w hI
 have hlc:=h.length
 have hld:=h'.length
 have hoa:=eI hg hwa hj.1
 have hob:=eI hg hwb hj.2
 obtain ⟨X,hX⟩:∃ X,X=bp (aq sb mb es ck tv tr):=⟨_,rfl⟩
 rw [<- hX] at hI ⊢
 refine lg.2 ?_
 dsimp only[lg,ft]
 refine bl hI fun b1 w' hI=>?_
 refine bl hI fun b2 w' hI=>?_
 have hI:Inv w X ([.blk b1 (.cells cs.toArray ab),.blk b2 (.cells ds.toArray ab),dl tv tr]++aZ [(sb,.cells #[.map (some mb),tv] bT),(mb,.map es ck)]) S w':=hI.perm (by
  refine (List.Perm.trans ?_ (List.perm_append_comm (l₁:=[.blk b1 (.cells cs.toArray ab),.blk b2 (.cells ds.toArray ab)]) (l₂:=aq sb mb es ck tv tr)))
  exact List.Perm.cons _ (List.Perm.cons _ (List.perm_append_comm (l₁:=[dl tv tr]) (l₂:=aZ [(sb,.cells #[.map (some mb),tv] bT),(mb,.map es ck)]))))
 obtain ⟨S1,hle,hins,hI,hback⟩:=Inv.lendAll _ hI
 have hst:StS S S1 sb st:=⟨mb,tv,es,ck,bT,hins _ (List.mem_cons_self ..),hins _ (List.mem_cons_of_mem _ (List.mem_cons_self ..)),hkm⟩
 refine ⟨fun D DU E3 GJ KZ x9 x8 w_=>Fx D 0 [x8=.pointer (some ⟨sb,0,none⟩),x9=.agg cs.toArray,True,GJ=.pointer (some ⟨sb,0,none⟩),E3=.agg ds.toArray,True,True,True]/\∃ cs' ds',(D 2=true->KZ=.agg (List.toArray cs')/\RdT S cs' a')/\(D 5=true->DU=.agg (List.toArray ds')/\RdT S ds' b')/\(D 6=true->D 1=true/\D 2=true)/\(D 7=true->D 4=true/\D 5=true)/\Inv w X [.blk b1 (.cells (cond (D 6) (List.toArray cs') cs.toArray) ab),.blk b2 (.cells (cond (D 7) (List.toArray ds') ds.toArray) ab),dl tv tr] S1 w_,⟨Fx.nil _ _,⟨[],[],aM,aM,aM,aM,hI.draw⟩⟩,⟨?_,?_,?_,?_,?_,?_,?_,?_,trivial⟩,?_⟩
 all_goals (intro D bv; intros; rename_i DU E3 GJ KZ x9 x8 w_ hA_; have hF_:=hA_.1; obtain ⟨⟨ci,cd,cj,cc,cm,cr,bO,cR,_⟩,⟨cs',ds',e2,e5,k6,k7,hI⟩⟩:=hA_)
 ·exact ⟨hF_.set 0 rfl,⟨cs',ds',e2,e5,k6,k7,hI⟩⟩
 ·have f6:D 6=false:=Bool.eq_false_iff.2 fun h=>by rw [(k6 h).1] at bv; cases bv
  refine aw (c:=cs.toArray) hI 0 ac (by rw [f6]; rfl) (by simpa using hlc) ?_
  have k6:=fun (h:az D 1 6=true)=>(⟨rfl,(k6 h).2⟩:az D 1 1=true/\az D 1 2=true)
  exact ⟨hF_.set 1 rfl,⟨cs',ds',e2,e5,k6,k7,hI⟩⟩
 ·obtain rfl:=ci ‹_›
  obtain rfl:=cd ‹_›
  have f6:D 6=false:=Bool.eq_false_iff.2 fun h=>by rw [(k6 h).2] at bv; cases bv
  refine Run.call0 fi ff hI (hY hg hwa hj.1.1 hst h) fun v' I' S' w_=>?_
  rintro ⟨eS,rfl,cs',rfl,hcs'⟩ _ hI
  rw [eS] at hI
  have e2:=fun (_:az D 2 2=true)=>(⟨rfl,hcs'⟩:Value.agg (List.toArray cs')=Value.agg (List.toArray cs')/\RdT S cs' a')
  have k6:=fun (h:az D 2 6=true)=>(⟨(k6 h).1,rfl⟩:az D 2 1=true/\az D 2 2=true)
  have hI:Inv w X [.blk b1 (.cells (cond (D 6) (List.toArray cs') cs.toArray) ab),.blk b2 (.cells (cond (D 7) (List.toArray ds') ds.toArray) ab),dl tv tr] S1 w_:=by rw [f6] at hI ⊢; simpa using hI
  exact ⟨hF_.set 2 (by first|assumption|trivial),⟨cs',ds',e2,e5,k6,k7,hI⟩⟩
 ·exact ⟨hF_.set 3 rfl,⟨cs',ds',e2,e5,k6,k7,hI⟩⟩
 ·have f7:D 7=false:=Bool.eq_false_iff.2 fun h=>by rw [(k7 h).1] at bv; cases bv
  refine aw (c:=ds.toArray) hI 1 ac (by rw [f7]; rfl) (by simpa using hld) ?_
  have k7:=fun (h:az D 4 7=true)=>(⟨rfl,(k7 h).2⟩:az D 4 4=true/\az D 4 5=true)
  exact ⟨hF_.set 4 rfl,⟨cs',ds',e2,e5,k6,k7,hI⟩⟩
 ·obtain rfl:=cc ‹_›
  obtain rfl:=cm ‹_›
  have f7:D 7=false:=Bool.eq_false_iff.2 fun h=>by rw [(k7 h).2] at bv; cases bv
  refine Run.call0 fi ff hI (hY hg hwb hj.2.1 hst h') fun v' I' S' w_=>?_
  rintro ⟨eS,rfl,ds',rfl,hds'⟩ _ hI
  rw [eS] at hI
  have e5:=fun (_:az D 5 5=true)=>(⟨rfl,hds'⟩:Value.agg (List.toArray ds')=Value.agg (List.toArray ds')/\RdT S ds' b')
  have k7:=fun (h:az D 5 7=true)=>(⟨(k7 h).1,rfl⟩:az D 5 4=true/\az D 5 5=true)
  have hI:Inv w X [.blk b1 (.cells (cond (D 6) (List.toArray cs') cs.toArray) ab),.blk b2 (.cells (cond (D 7) (List.toArray ds') ds.toArray) ab),dl tv tr] S1 w_:=by rw [f7] at hI ⊢; simpa using hI
  exact ⟨hF_.set 5 (by first|assumption|trivial),⟨cs',ds',e2,e5,k6,k7,hI⟩⟩
 ·have NA:=cj ‹_›
  obtain ⟨q2,hR2⟩:=e2 ‹D 2=true›
  rw [bv] at hI
  subst q2
  refine au hI 0 rfl ac (by simpa using hR2.length) (by simpa using hlc) (by simpa using hR2.one) fun w_ hI=>?_
  have k6:=fun (_:az D 6 6=true)=>(⟨‹D 1=true›,‹D 2=true›⟩:az D 6 1=true/\az D 6 2=true)
  exact ⟨hF_.set 6 trivial,⟨cs',ds',e2,e5,k6,k7,hI⟩⟩
 ·have IZ:=cr ‹_›
  obtain ⟨q5,hR5⟩:=e5 ‹D 5=true›
  rw [bv] at hI
  subst q5
  refine au hI 1 rfl ac (by simpa using hR5.length) (by simpa using hld) (by simpa using hR5.one) fun w_ hI=>?_
  have k7:=fun (_:az D 7 7=true)=>(⟨‹D 4=true›,‹D 5=true›⟩:az D 7 4=true/\az D 7 5=true)
  exact ⟨hF_.set 7 trivial,⟨cs',ds',e2,e5,k6,k7,hI⟩⟩
 obtain ⟨rfl,rfl,NA,rfl,rfl,IZ,_,_,_⟩:=hF_.all
 have PN:D 2=true:=by assumption
 have Lz:D 5=true:=by assumption
 have IB:D 6=true:=by assumption
 have Aa:D 7=true:=by assumption
 clear hF_ ci cd cj cc cm cr bO cR
 obtain ⟨_,hcs'⟩:=e2 PN
 obtain ⟨_,hds'⟩:=e5 Lz
 rw [IB,Aa] at hI
 clear e2 e5 k6 k7
 have hI:=hback _ _ hI
 have hI:Inv w X ([.blk b1 (.cells cs'.toArray ab),.blk b2 (.cells ds'.toArray ab)]++aq sb mb es ck tv tr) S w_:=hI.perm (List.Perm.cons _ (List.Perm.cons _ (List.perm_append_comm (l₁:=aZ [(sb,.cells #[.map (some mb),tv] bT),(mb,.map es ck)]) (l₂:=[dl tv tr]))))
 have hcs:=hcs'
 have hds:=hds'
 obtain ⟨kv,rfl,_,_,_,hks⟩:=RdT.iff.1 hcs'
 obtain ⟨kv',rfl,_,_,_,hks'⟩:=RdT.iff.1 hds'
 obtain ⟨k,n,s,ks⟩:=a'
 obtain ⟨k',n',s',ks'⟩:=b'
 unfold NT at he
 simp only [T.name,T.kids,T.kind,T.n] at hks hks' hI he ⊢
 have hlen:=hks.le
 simp only [maxLen] at hlen
 have hfa:=fun h=>qJ hg h (kV hwa) hoa.1
 have hfb:=fun h=>qJ hg h (kV hwb) hob.1
 have hlN:=hg.len
 refine ⟨fun q w'=>q=.bool (decide (k=1/\k'=1/\n=n'))/\Inv w X ([.blk b1 (.cells #[.int .i64 k,.int .i64 n,.string s,kv] ab),.blk b2 (.cells #[.int .i64 k',.int .i64 n',.string s',kv'] ab)]++aq sb mb es ck tv tr) S w',?_,?_⟩
 ·refine ae hI 0 rfl aP aF rfl ?_
  refine ba ?_
  by_cases e1:k=1
  ·rw [decide_eq_true e1]
   refine rpG ?_
   refine ae hI 1 rfl aP aF rfl ?_
   refine ba ?_
   by_cases e2:k'=1
   ·rw [decide_eq_true e2]
    refine rpG ?_
    refine ae hI 0 rfl bb aF rfl ?_
    refine ae hI 1 rfl bb aF rfl ?_
    refine ba ?_
    refine rpG ?_
    exact ⟨by simp [e1,e2],hI⟩
   ·rw [decide_eq_false e2]
    refine rpG ?_
    exact ⟨by simp [e2],hI⟩
  ·rw [decide_eq_false e1]
   refine rpG ?_
   exact ⟨by simp [e1],hI⟩
 intro q _ _ _ _ _ _ _ _ _ _ _ _ _ _ _ w'
 rintro ⟨rfl,hI⟩
 refine aH (fun hsame=>?_) (fun hsame=>?_)
 ·have:r=true/\st'=st:=by
   rcases he with ⟨_,_,_,h1,h2⟩|⟨_,h1,_⟩|⟨h1,_,_⟩|⟨h1,_,_⟩
   ·exact ⟨h1,h2⟩
   ·exact absurd hsame.2 h1
   ·exact absurd hsame.1 h1
   ·exact absurd hsame.1 h1
  obtain ⟨rfl,rfl⟩:=this
  exact ⟨_,_,_,rfl,hI.sub (List.sublist_append_right [_,_] _),Ext.refl _ _ _,rfl,rfl,es,ck,tv,tr,rfl,hkm,htr,Tr.refl _ _⟩
 refine ae hI 0 rfl aP aF rfl ?_
 refine ba ?_
 refine aH (fun hk1=>?_) (fun hk1=>?_)
 ·have hend:(¬ fj st n.toNat (.mk k' n' s' ks')/\r=true/\st'=st.set n.toNat (some (.mk k' n' s' ks'))) ∨ (fj st n.toNat (.mk k' n' s' ks')/\r=false/\st'=st):=by
   rcases he with ⟨h1,h2,h3,_⟩|⟨_,_,h1⟩|⟨h1,_,_⟩|⟨h1,_,_⟩
   ·exact absurd ⟨h1,h2,h3⟩ hsame
   ·exact h1
   ·exact absurd hk1 h1
   ·exact absurd hk1 h1
  obtain ⟨hn0,hnN,_⟩:=hoa.1.var hk1
  have hfa:=hfa hk1
  simp only [T.n] at hn0 hnN hfa
  obtain ⟨j,rfl⟩:∃ j:Nat,n=j:=⟨n.toNat,by omega⟩
  rw [Int.toNat_natCast] at hfa hend
  refine ae hI 0 rfl bb aF rfl ?_
  refine aw hI 1 ac rfl rfl ?_
  refine Run.callE (A:=[_,_]) mj mH hI (yx hg hfa (by omega) hob.1 hds hkm (by omega)) fun v' I' S' w'=>?_
  rintro ⟨eS,hres⟩ _ hI
  rw [eS] at hI
  have hun:=oQ st j (.mk k' n' s' ks') hfa
  rcases hend with ⟨h1,rfl,rfl⟩|⟨h1,rfl,rfl⟩
  ·rcases hres with ⟨_,rfl,es2,ck2,tv2,rfl,hm2⟩|⟨h2,_⟩
   ·exact ⟨_,_,_,rfl,hI.sub (List.sublist_append_right [_,_] _),Ext.refl _ _ _,rfl,rfl,es2,ck2,tv2,_,rfl,hm2,by simp; omega,Tr.bind (by assumption)⟩
   ·exact absurd h2 h1
  ·rcases hres with ⟨h2,_⟩|⟨_,rfl,rfl⟩
   ·exact absurd h1 h2
   ·exact ⟨_,_,_,rfl,hI.sub (List.sublist_append_right [_,_] _),Ext.refl _ _ _,rfl,rfl,es,ck,tv,tr,rfl,hkm,htr,Tr.refl _ _⟩
 refine ae hI 1 rfl aP aF rfl ?_
 refine ba ?_
 refine aH (fun hk2=>?_) (fun hk2=>?_)
 ·have hend:(¬ fj st n'.toNat (.mk k n s ks)/\r=true/\st'=st.set n'.toNat (some (.mk k n s ks))) ∨ (fj st n'.toNat (.mk k n s ks)/\r=false/\st'=st):=by
   rcases he with ⟨h1,_⟩|⟨h1,_,_⟩|⟨_,_,h1⟩|⟨_,h1,_⟩
   ·exact absurd h1 hk1
   ·exact absurd h1 hk1
   ·exact h1
   ·exact absurd hk2 h1
  obtain ⟨hn0,hnN,_⟩:=hob.1.var hk2
  have hfb:=hfb hk2
  simp only [T.n] at hn0 hnN hfb
  obtain ⟨j,rfl⟩:∃ j:Nat,n'=j:=⟨n'.toNat,by omega⟩
  rw [Int.toNat_natCast] at hfb hend
  refine ae hI 1 rfl bb aF rfl ?_
  refine aw hI 0 ac rfl rfl ?_
  refine Run.callE (A:=[_,_]) mj mH hI (yx hg hfb (by omega) hoa.1 hcs hkm (by omega)) fun v' I' S' w'=>?_
  rintro ⟨eS,hres⟩ _ hI
  rw [eS] at hI
  have hun:=oQ st j (.mk k n s ks) hfb
  rcases hend with ⟨h1,rfl,rfl⟩|⟨h1,rfl,rfl⟩
  ·rcases hres with ⟨_,rfl,es2,ck2,tv2,rfl,hm2⟩|⟨h2,_⟩
   ·exact ⟨_,_,_,rfl,hI.sub (List.sublist_append_right [_,_] _),Ext.refl _ _ _,rfl,rfl,es2,ck2,tv2,_,rfl,hm2,by simp; omega,Tr.bind (by assumption)⟩
   ·exact absurd h2 h1
  ·rcases hres with ⟨h2,_⟩|⟨_,rfl,rfl⟩
   ·exact absurd h1 h2
   ·exact ⟨_,_,_,rfl,hI.sub (List.sublist_append_right [_,_] _),Ext.refl _ _ _,rfl,rfl,es,ck,tv,tr,rfl,hkm,htr,Tr.refl _ _⟩
 have hend:(tg (.mk k n s ks) (.mk k' n' s' ks')=false/\r=false/\st'=st) ∨ (tg (.mk k n s ks) (.mk k' n' s' ks')=true/\Chain UI st ks ks' r st'):=by
  rcases he with ⟨h1,_⟩|⟨h1,_,_⟩|⟨_,h1,_⟩|⟨_,_,h1⟩
  ·exact absurd h1 hk1
  ·exact absurd h1 hk1
  ·exact absurd h1 hk2
  ·exact h1
 refine ⟨fun q w'=>q=.bool (!tg (.mk k n s ks) (.mk k' n' s' ks'))/\Inv w X ([.blk b1 (.cells #[.int .i64 k,.int .i64 n,.string s,kv] ab),.blk b2 (.cells #[.int .i64 k',.int .i64 n',.string s',kv'] ab)]++aq sb mb es ck tv tr) S w',?_,?_⟩
 ·refine ae hI 0 rfl aP aF rfl ?_
  refine ae hI 1 rfl aP aF rfl ?_
  refine fN ?_
  by_cases e1:k=k'
  ·rw [decide_eq_true e1]
   refine rpG ?_
   refine ae hI 0 rfl bb aF rfl ?_
   refine ae hI 1 rfl bb aF rfl ?_
   refine fN ?_
   by_cases e2:n=n'
   ·rw [decide_eq_true e2]
    refine rpG ?_
    refine ae hI 0 rfl aQ aK rfl ?_
    refine ae hI 1 rfl aQ aK rfl ?_
    refine Kg ?_
    by_cases e3:s=s'
    ·rw [decide_eq_true e3]
     refine rpG ?_
     refine ae hI 0 rfl ar aj rfl ?_
     refine aD hks ag ?_
     refine ae hI 1 rfl ar aj rfl ?_
     refine aD hks' ag ?_
     refine fN ?_
     refine rpG ?_
     exact ⟨by rw [wG,decide_eq_true e1,decide_eq_true e2,decide_eq_true e3,Pj]; rfl,hI⟩
    ·rw [decide_eq_false e3]
     refine rpG ?_
     exact ⟨by rw [wG,decide_eq_true e1,decide_eq_true e2,decide_eq_false e3]; rfl,hI⟩
   ·rw [decide_eq_false e2]
    refine rpG ?_
    exact ⟨by rw [wG,decide_eq_true e1,decide_eq_false e2]; rfl,hI⟩
  ·rw [decide_eq_false e1]
   refine rpG ?_
   exact ⟨by rw [wG,decide_eq_false e1]; rfl,hI⟩
 intro q _ _ _ _ _ _ _ _ _ _ _ _ _ _ _ _ _ _ _ _ _ _ _ _ _ _ _ _ w'
 rintro ⟨rfl,hI⟩
 cases hd:tg (.mk k n s ks) (.mk k' n' s' ks')
 ·refine av (fun _=>?_) (fun hb=>by cases hb)
  have:r=false/\st'=st:=by
   rcases hend with ⟨_,h1⟩|⟨h1,_⟩
   ·exact h1
   ·rw [hd] at h1; cases h1
  obtain ⟨rfl,rfl⟩:=this
  exact ⟨_,_,_,rfl,hI.sub (List.sublist_append_right [_,_] _),Ext.refl _ _ _,rfl,rfl,es,ck,tv,tr,rfl,hkm,htr,Tr.refl _ _⟩
 refine av (fun hb=>by cases hb) (fun _=>?_)
 have hle2:ks.length=ks'.length:=sT hd
 have hch:Chain UI st ks ks' r st':=by
  rcases hend with ⟨h1,_⟩|⟨_,h1⟩
  ·rw [hd] at h1; cases h1
  ·exact h1
 refine ae hI 0 rfl ar aj rfl ?_
 refine aD hks ag ?_
 refine ⟨fun i w'=>∃ (j:Nat) (st1:ah) (es1:Array MapEntry) (ck1:Nat) (tv1:Value) (tr1:List Int),j<=ks.length/\i=.int .i64 j/\Chain UI st1 (ks.drop j) (ks'.drop j) r st'/\KnownM S es1 st1/\tr1.length+unb st1<=1000000/\Tr st st1 tr tr1/\Inv w X ([.blk b1 (.cells #[.int .i64 k,.int .i64 n,.string s,kv] ab),.blk b2 (.cells #[.int .i64 k',.int .i64 n',.string s',kv'] ab)]++aq sb mb es1 ck1 tv1 tr1) S w',fun i _=>ks.length - (intOf i).toNat,⟨0,st,es,ck,tv,tr,Nat.zero_le _,rfl,hch,hkm,htr,Tr.refl _ _,hI⟩,?_⟩
 intro t80 _ _ _ _ _ _ _ _ _ _ _ _ _ _ _ _ _ _ w'
 rintro ⟨j,st1,es1,ck1,tv1,tr1,hj,rfl,hrel,hkm1,htr1,hT1,hI⟩
 refine bC ?_
 refine aH (fun hji=>?_) (fun hji=>?_)
 ·have hj1:j<ks.length:=by omega
  have hj2:j<ks'.length:=by omega
  obtain ⟨c1,o1,cap1,a1,E1,fz1,rfl,hS1,hR1⟩:=hks.at_ hj1
  obtain ⟨c2,o2,cap2,a2,E2,fz2,rfl,hS2,hR2⟩:=hks'.at_ hj2
  rw [List.drop_eq_getElem_cons hj1,List.drop_eq_getElem_cons hj2] at hrel
  obtain ⟨r1,st2,hcall,hno,hyes⟩:=hrel.head
  have hcall:=hcall S _ _ sb mb ck1 es1 tv1 tr1 hR1 hR2 hkm1 htr1
  refine ⟨fun D MM MQ M8 MP Nc Nd Ne Nf M4 MN MK MR Lw w_=>Fx D 0 [Lw=.pointer (some ⟨sb,0,none⟩),MR=.pointer (some ⟨b1,3,none⟩),MK=.slice (some ⟨c1,o1,none⟩) ks.length cap1,MN=.int .i64 j,M4=.pointer (some ⟨c1,o1+j * 4,none⟩),Nf=.agg (aV a1 (o1+j * 4) 4).toArray,Ne=.pointer (some ⟨b2,3,none⟩),Nd=.slice (some ⟨c2,o2,none⟩) ks'.length cap2,Nc=.int .i64 j,MP=.pointer (some ⟨c2,o2+j * 4,none⟩),M8=.agg (aV a2 (o2+j * 4) 4).toArray,MQ=.bool r1,MM=.bool (!r1)]/\(D 11=false->Inv w X ([.blk b1 (.cells #[.int .i64 k,.int .i64 n,.string s,.slice (some ⟨c1,o1,none⟩) ks.length cap1] ab),.blk b2 (.cells #[.int .i64 k',.int .i64 n',.string s',.slice (some ⟨c2,o2,none⟩) ks'.length cap2] ab)]++aq sb mb es1 ck1 tv1 tr1) S w_)/\(D 11=true->∃ es2 ck2 tv2 tr2,KnownM S es2 st2/\tr2.length+unb st2<=1000000/\Tr st1 st2 tr1 tr2/\Inv w X ([.blk b1 (.cells #[.int .i64 k,.int .i64 n,.string s,.slice (some ⟨c1,o1,none⟩) ks.length cap1] ab),.blk b2 (.cells #[.int .i64 k',.int .i64 n',.string s',.slice (some ⟨c2,o2,none⟩) ks'.length cap2] ab)]++aq sb mb es2 ck2 tv2 tr2) S w_)/\∃ es3 ck3 tv3 tr3,Inv w X ([.blk b1 (.cells #[.int .i64 k,.int .i64 n,.string s,.slice (some ⟨c1,o1,none⟩) ks.length cap1] ab),.blk b2 (.cells #[.int .i64 k',.int .i64 n',.string s',.slice (some ⟨c2,o2,none⟩) ks'.length cap2] ab)]++aq sb mb es3 ck3 tv3 tr3) S w_,⟨Fx.nil _ _,⟨fun _=>hI.draw,aM,es1,ck1,tv1,tr1,hI.draw⟩⟩,⟨?_,?_,?_,?_,?_,?_,?_,?_,?_,?_,?_,?_,?_,trivial⟩,?_⟩
  all_goals (intro D bv; intros; rename_i MM MQ M8 MP Nc Nd Ne Nf M4 MN MK MR Lw w_ hA_; have hF_:=hA_.1; obtain ⟨⟨ci,cd,cj,cc,cm,cr,bO,cR,dt,eP,cI,db,d6,_⟩,⟨hI0,hI1,es3,ck3,tv3,tr3,hI⟩⟩:=hA_)
  ·exact ⟨hF_.set 0 rfl,⟨hI0,hI1,es3,ck3,tv3,tr3,hI⟩⟩
  ·refine aA ar ?_
   exact ⟨hF_.set 1 rfl,⟨hI0,hI1,es3,ck3,tv3,tr3,hI⟩⟩
  ·obtain rfl:=cd ‹_›
   refine aT hI 0 aj rfl rfl ?_
   exact ⟨hF_.set 2 rfl,⟨hI0,hI1,es3,ck3,tv3,tr3,hI⟩⟩
  ·exact ⟨hF_.set 3 rfl,⟨hI0,hI1,es3,ck3,tv3,tr3,hI⟩⟩
  ·obtain rfl:=cj ‹_›
   obtain rfl:=cc ‹_›
   refine aE ag hj1 ?_
   exact ⟨hF_.set 4 rfl,⟨hI0,hI1,es3,ck3,tv3,tr3,hI⟩⟩
  ·obtain rfl:=cm ‹_›
   refine bK ac hR1.length (fun j v hj=>by rw [hI.cellS hS1]; exact aJ rfl j v hj) ?_
   exact ⟨hF_.set 5 rfl,⟨hI0,hI1,es3,ck3,tv3,tr3,hI⟩⟩
  ·refine aA ar ?_
   exact ⟨hF_.set 6 rfl,⟨hI0,hI1,es3,ck3,tv3,tr3,hI⟩⟩
  ·obtain rfl:=bO ‹_›
   refine aT hI 1 aj rfl rfl ?_
   exact ⟨hF_.set 7 rfl,⟨hI0,hI1,es3,ck3,tv3,tr3,hI⟩⟩
  ·exact ⟨hF_.set 8 rfl,⟨hI0,hI1,es3,ck3,tv3,tr3,hI⟩⟩
  ·obtain rfl:=cR ‹_›
   obtain rfl:=dt ‹_›
   refine aE ag hj2 ?_
   exact ⟨hF_.set 9 rfl,⟨hI0,hI1,es3,ck3,tv3,tr3,hI⟩⟩
  ·obtain rfl:=eP ‹_›
   refine bK ac hR2.length (fun j v hj=>by rw [hI.cellS hS2]; exact aJ rfl j v hj) ?_
   exact ⟨hF_.set 10 rfl,⟨hI0,hI1,es3,ck3,tv3,tr3,hI⟩⟩
  ·obtain rfl:=ci ‹_›
   obtain rfl:=cr ‹_›
   obtain rfl:=cI ‹_›
   refine Run.callE (A:=[_,_]) de df (hI0 bv) hcall fun v' I' S' w_=>?_
   rintro ⟨eS,rfl,es2,ck2,tv2,tr2,rfl,hm2,htr2,hT2⟩ _ hI
   rw [eS] at hI
   have hI0:=fun (h:az D 11 11=false)=>(Bool.noConfusion h:Inv w X ([.blk b1 (.cells #[.int .i64 k,.int .i64 n,.string s,.slice (some ⟨c1,o1,none⟩) ks.length cap1] ab),.blk b2 (.cells #[.int .i64 k',.int .i64 n',.string s',.slice (some ⟨c2,o2,none⟩) ks'.length cap2] ab)]++aq sb mb es1 ck1 tv1 tr1) S w_)
   have hI1:=fun (_:az D 11 11=true)=>(⟨es2,ck2,tv2,tr2,hm2,htr2,hT2,hI⟩:∃ es2 ck2 tv2 tr2,KnownM S es2 st2/\tr2.length+unb st2<=1000000/\Tr st1 st2 tr1 tr2/\Inv w X ([.blk b1 (.cells #[.int .i64 k,.int .i64 n,.string s,.slice (some ⟨c1,o1,none⟩) ks.length cap1] ab),.blk b2 (.cells #[.int .i64 k',.int .i64 n',.string s',.slice (some ⟨c2,o2,none⟩) ks'.length cap2] ab)]++aq sb mb es2 ck2 tv2 tr2) S w_)
   obtain ⟨es3,ck3,tv3,tr3,hI⟩:∃ es3 ck3 tv3 tr3,Inv w X ([.blk b1 (.cells #[.int .i64 k,.int .i64 n,.string s,.slice (some ⟨c1,o1,none⟩) ks.length cap1] ab),.blk b2 (.cells #[.int .i64 k',.int .i64 n',.string s',.slice (some ⟨c2,o2,none⟩) ks'.length cap2] ab)]++aq sb mb es3 ck3 tv3 tr3) S w_:=⟨es2,ck2,tv2,tr2,hI⟩
   exact ⟨hF_.set 11 rfl,⟨hI0,hI1,es3,ck3,tv3,tr3,hI⟩⟩
  ·obtain rfl:=db ‹_›
   refine bU ?_
   exact ⟨hF_.set 12 rfl,⟨hI0,hI1,es3,ck3,tv3,tr3,hI⟩⟩
  obtain ⟨rfl,rfl,rfl,rfl,rfl,rfl,rfl,rfl,rfl,rfl,rfl,rfl,rfl,_⟩:=hF_.all
  have yW:D 11=true:=by assumption
  clear hF_ ci cd cj cc cm cr bO cR dt eP cI db d6
  obtain ⟨es2,ck2,tv2,tr2,hm2,htr2,hT2,hI⟩:=hI1 yW
  clear hI0 hI1
  refine av (fun hne=>?_) (fun he'=>?_)
  ·simp only [Bool.not_eq_true'] at hne
   obtain ⟨rfl,rfl⟩:=hno hne
   exact ⟨_,_,_,rfl,hI.sub (List.sublist_append_right [_,_] _),Ext.refl _ _ _,rfl,rfl,es2,ck2,tv2,tr2,rfl,hm2,htr2,hT1.trans hT2⟩
  ·simp only [Bool.not_eq_false'] at he'
   refine bi (by omega) ?_
   exact ⟨⟨j+1,st2,es2,ck2,tv2,tr2,hj1,rfl,hyes he',hm2,htr2,hT1.trans hT2,hI⟩,by simp [intOf]; omega⟩
 ·have:j=ks.length:=by omega
  subst this
  rw [List.drop_length,hle2,List.drop_length] at hrel
  obtain ⟨rfl,rfl⟩:=hrel.done
  exact ⟨_,_,_,rfl,hI.sub (List.sublist_append_right [_,_] _),Ext.refl _ _ _,rfl,rfl,es1,ck1,tv1,tr1,rfl,hkm1,htr1,hT1⟩
theorem fb {N:Nat} (hN:N<=1000000) {st st':ah} {a b:T} {r:Bool} (hg:Good N st) (hj:okJ N (.one a b)) (hu:Uni st (.one a b) r st'):UI st a b r st':=
 Uni.calls (N:=N) (Call:=UI) (fun _ _ _ _ _ _ _ hg hj hwa hwb he=>C0 hN hg hj hwa hwb he) hu hg hj
end
end
section
open Go Go.RowKit
theorem uG {n:Int}:∀ (l:List MapEntry) (i j:Nat) (v:Value),(∀ e∈l,∃ m,e.key=.int .i64 m)->Instr.findNow (.int .i64) (.int .i64 n) l i=some (some (j,v))->i<=j/\∃ e,l[j - i]?=some e/\e.key=.int .i64 n
 | [],i,j,v,_,h=>by simp [Instr.findNow] at h
 | e::l,i,j,v,hk,h=>by
  obtain ⟨m,hm⟩:=hk e (List.mem_cons_self ..)
  have hs:Instr.sameNow (.int .i64) (.int .i64 n) e.key=some (n == m):=by rw [hm]; rfl
  rw [Instr.findNow,hs] at h
  by_cases hnm:n=m
  ·subst hnm
   simp only [beq_self_eq_true,Option.some.injEq,Prod.mk.injEq] at h
   obtain ⟨rfl,rfl⟩:=h
   exact ⟨Nat.le_refl _,e,by simp,hm⟩
  ·have h2:(n == m)=false:=by simpa using hnm
   rw [h2] at h
   obtain ⟨h3,e',h4,h5⟩:=uG l (i+1) j v (fun e he=>hk e (List.mem_cons_of_mem _ he)) h
   refine ⟨by omega,e',?_,h5⟩
   have:j - i=(j - (i+1))+1:=by omega
   rw [this,List.getElem?_cons_succ]
   exact h4
theorem KnownM.erase {S:ad} {es:Array MapEntry} {st:ah} (h:KnownM S es st) {n j:Nat} {v:Value} (hf:Instr.findNow (.int .i64) (.int .i64 n) es.toList 0=some (some (j,v))) :
  KnownM S (es.eraseIdxIfInBounds j) (st.set n none):=by
 obtain ⟨_,e,he,hke⟩:=uG es.toList 0 j v (fun e he=>by obtain ⟨m,_,_,hk,_⟩:=h.1 e he; exact ⟨m,hk⟩) hf
 rw [Nat.sub_zero] at he
 have hlt:j<es.toList.length:=(List.getElem?_eq_some_iff.1 he).1
 have hje:es.toList[j]=e:=(List.getElem?_eq_some_iff.1 he).2
 have hp:List.Perm es.toList (e::es.toList.eraseIdx j):=by
  rw [List.eraseIdx_eq_take_drop_succ]
  have e1:es.toList=es.toList.take j++e::es.toList.drop (j+1):=by
   conv=>lhs; rw [<- List.take_append_drop j es.toList,List.drop_eq_getElem_cons hlt,hje]
  conv=>lhs; rw [e1]
  exact List.perm_middle
 have hnd:((e::es.toList.eraseIdx j).map (·.key)).Nodup:=(hp.map _).nodup_iff.1 h.2.2
 rw [List.map_cons,List.nodup_cons] at hnd
 refine ⟨fun x hx=>?_,fun m t ht=>?_,?_⟩
 ·rw [Array.toList_eraseIdxIfInBounds] at hx
  obtain ⟨m,t,cs,hk,hv,hR,hs⟩:=h.1 x (hp.mem_iff.2 (List.mem_cons_of_mem _ hx))
  refine ⟨m,t,cs,hk,hv,hR,?_⟩
  have:n≠m:=by
   rintro rfl
   exact hnd.1 (List.mem_map.2 ⟨x,hx,by rw [hk,hke]⟩)
  rw [List.getElem?_set_ne this]
  exact hs
 ·rw [Array.toList_eraseIdxIfInBounds]
  have hm:n≠m:=by
   rintro rfl
   rw [List.getElem?_set] at ht
   simp at ht
  rw [List.getElem?_set_ne hm] at ht
  obtain ⟨x,hx,hk⟩:=h.2.1 m t ht
  rcases List.mem_cons.1 (hp.mem_iff.1 hx) with rfl|hx
  ·rw [hke] at hk
   simp only [Value.int.injEq,true_and] at hk
   exact absurd (by omega) hm
  ·exact ⟨x,hx,hk⟩
 ·rw [Array.toList_eraseIdxIfInBounds]
  exact hnd.2
theorem KnownM.clear {S:ad} {es:Array MapEntry} {st:ah} (h:KnownM S es st) {n:Nat} (hn:∀ t,st[n]?≠some (some t)):KnownM S es (st.set n none):=by
 refine ⟨fun x hx=>?_,fun m t ht=>?_,h.2.2⟩
 ·obtain ⟨m,t,cs,hk,hv,hR,hs⟩:=h.1 x hx
  refine ⟨m,t,cs,hk,hv,hR,?_⟩
  have:n≠m:=by rintro rfl; exact hn t hs
  rw [List.getElem?_set_ne this]
  exact hs
 ·have hm:n≠m:=by
   rintro rfl
   rw [List.getElem?_set] at ht
   simp at ht
  rw [List.getElem?_set_ne hm] at ht
  exact h.2.1 m t ht
theorem tu (st:ah) (l:List Int) (n:Int):dn st (l++[n])=(dn st l).set n.toNat none:=by
 have hl:(dn st l).length=st.length:=by
  induction l with
  | nil=>rfl
  | cons m ns ih=>rw [dn,List.length_set,ih]
 apply List.ext_getElem?
 intro i
 rw [kJ,List.getElem?_set,kJ,hl]
 by_cases h1:n.toNat=i
 ·subst h1
  rw [if_pos ⟨n,by simp,rfl⟩,if_pos rfl]
  by_cases h2:n.toNat<st.length
  ·rw [if_pos h2,List.getElem?_eq_getElem h2]; rfl
  ·rw [if_neg h2,List.getElem?_eq_none (by omega)]; rfl
 ·rw [if_neg h1]
  by_cases h2:∃ m∈l,m.toNat=i
  ·obtain ⟨m,h3,h4⟩:=h2
   rw [if_pos ⟨m,List.mem_append_left _ h3,h4⟩,if_pos ⟨m,h3,h4⟩]
  ·rw [if_neg h2,if_neg]
   rintro ⟨m,h3,h4⟩
   rcases List.mem_append.1 h3 with h3|h3
   ·exact h2 ⟨m,h3,h4⟩
   ·rw [List.mem_singleton] at h3
    subst h3
    exact h1 h4
section
variable {P:Program} {w w0:World} {X:List Nat} {L:List Item} {S:ad} {K:Value->World->Prop}
attribute [local irreducible] Run CondV ao aI
theorem ES (h:Inv w0 X L S w) {T kt et ty U:TypeId} {cs:List Bool} {b clock:Nat} {es:Array MapEntry} {n:Int} {o:Option (Nat × Value)} (i:Nat) (hT:P.underlying T=some (.map kt et)) (hkt:P.underlying kt=some (.int .i64))
  (hi:L[i]?=some (.blk b (.map es clock))) (hf:Instr.findNow (.int .i64) (.int .i64 n) es.toList 0=some o)
  (hk:∀ w',Inv w0 X (L.set i (.blk b (.map (match o with|some (j,_)=>es.eraseIdxIfInBounds j|none=>es) clock))) S w'->K (.tuple #[]) w') :
  Run P (bu .delete #[T,U] ty cs [.map (some b),.int .i64 n]) w K:=by
 have hb:w.heap[b]?=some (.map es clock):=h.its _ (List.mem_of_getElem? hi)
 have hck:∀ e,(Instr.checkKey e 10000 kt (.int .i64 n)).run P w=.ok () w:=fun e=>by
  rw [show (10000:Nat)=9999+1 from rfl,Instr.checkKey]
  simp [run_underlying hkt]
 have hg:(getObj b).run P w=.ok (.map es clock) w:=by simp [getObj,Sem.run,hb]
 have hfk:=hO (P:=P) (w:=w) hkt hf
 obtain ⟨es',he'⟩:∃ es',es'=(match o with|some (j,_)=>es.eraseIdxIfInBounds j|none=>es):=⟨_,rfl⟩
 rw [<- he'] at hk
 have hst:(setObj b (.map es' clock)).run P w=.ok () { w with heap:=w.heap.setIfInBounds b (.map es' clock) }:=by simp [setObj,Sem.run,hb]
 refine Run.of (w':={ w with heap:=w.heap.setIfInBounds b (.map es' clock) }) ?_ (hk _ (h.setBlk hi _ rfl))
 cases o with
 | none=>
  subst he'
  simp [bu,builtin,Builtin.delete_,run_underlying hT,hg,hck,hfk,hst]
 | some p=>
  obtain ⟨j,v⟩:=p
  subst he'
  simp [bu,builtin,Builtin.delete_,run_underlying hT,hg,hck,hfk,hst]
end
section
attribute [local irreducible] Run CondV ao aI
theorem qe {st:ah} {S:ad} {sb mb ck mark:Nat} {es:Array MapEntry} {tv:Value} {tr:List Int} (hkm:KnownM S es st) (hmk:mark<=tr.length) (hnn:∀ n∈tr.drop mark,0<=n) (htr:tr.length<=100000000) :
  Tri Tryz.prog xk [.pointer (some ⟨sb,0,none⟩),.int .i64 mark] (aq sb mb es ck tv tr) S fun q I' S'=>S'=S/\q=.tuple #[]/\∃ es' tv',I'=aq sb mb es' ck tv' (tr.take mark)/\KnownM S es' (dn st (tr.drop mark)):=by
 intro w hI
 obtain ⟨X,hX⟩:∃ X,X=bp (aq sb mb es ck tv tr):=⟨_,rfl⟩
 rw [<- hX] at hI ⊢
 have hI0:Inv w X ([.blk sb (.cells #[.map (some mb),tv] bT),.blk mb (.map es ck)]++[.row tv bG 1 tr.length (ints tr)]) S w:=hI
 refine mt.2 ?_
 dsimp only[mt,aR]
 refine al ?_
 refine ae hI 0 rfl dQ fD rfl ?_
 obtain ⟨S1,hle,hrr,hI,hback⟩:=Inv.lend hI0
 have hrd:=hrr.ints
 refine u3 dd hrd hmk fun v' hv'=>?_
 refine aD hv' dd ?_
 refine ⟨fun i w'=>∃ (k:Nat) (es':Array MapEntry),k<=(tr.drop mark).length/\i=.int .i64 k/\KnownM S es' (dn st ((tr.drop mark).take k))/\Inv w X [.blk sb (.cells #[.map (some mb),tv] bT),.blk mb (.map es' ck)] S1 w',
  fun i _=>(tr.drop mark).length - (intOf i).toNat,⟨0,es,Nat.zero_le _,rfl,hkm,hI⟩,?_⟩
 intro i _ _ _ _ _ _ _ _ _ _ w'
 rintro ⟨k,es',hk,rfl,hkm',hI⟩
 have hdl:(tr.drop mark).length<=100000000:=by rw [List.length_drop]; omega
 refine bC ?_
 refine aH (fun hki=>?_) (fun hki=>?_)
 ·have hk':k<(tr.drop mark).length:=by omega
  have hm:=List.getElem_mem hk'
  have h0:=hnn _ hm
  refine gn hI hv' dd aF hk' (fun cs hcs=>hcs) ?_
  refine al ?_
  refine ae hI 0 rfl oa Ai rfl ?_
  obtain ⟨m,hme⟩:∃ m:Nat,(tr.drop mark)[k]=(m:Int):=⟨((tr.drop mark)[k]).toNat,by omega⟩
  have hstep:dn st ((tr.drop mark).take (k+1))=(dn st ((tr.drop mark).take k)).set m none:=by
   rw [List.take_succ_eq_append_getElem hk',tu,hme,Int.toNat_natCast]
  rw [hme]
  rcases hkm'.find m with ⟨j,v,t,cs,hf,_,_,_⟩|⟨hno,hf⟩
  ·refine ES hI 1 gr eQ rfl hf fun w' hI=>?_
   refine bi (by omega) ?_
   exact ⟨⟨k+1,_,hk',rfl,by rw [hstep]; exact hkm'.erase hf,hI⟩,by simp only [intOf]; omega⟩
  ·refine ES hI 1 gr eQ rfl hf fun w' hI=>?_
   refine bi (by omega) ?_
   exact ⟨⟨k+1,_,hk',rfl,by rw [hstep]; exact hkm'.clear hno,hI⟩,by simp only [intOf]; omega⟩
 ·have:k=(tr.drop mark).length:=by omega
  subst this
  rw [List.take_length] at hkm'
  have hI:=hback _ _ hI
  refine al ?_
  refine ae hI 0 rfl dQ fD rfl ?_
  obtain ⟨hl,ho⟩:=Inv.openRow hI
  have hit:(ints tr).take mark=ints (tr.take mark):=by
   have:∀ (l:List Int) (m:Nat),(ints l).take m=ints (l.take m):=by
    intro l
    induction l with
    | nil=>intro m; simp [ints]
    | cons a l ih=>
     intro m
     cases m with
     | zero=>simp [ints]
     | succ m=>have:=ih m; simp only [ints,List.flatMap_cons,List.take_succ_cons,List.singleton_append] at *; rw [this]
   exact this tr mark
  have htl:(tr.take mark).length=mark:=by rw [List.length_take]; omega
  rcases ho with ⟨rfl,h1⟩|⟨g,cap,cur,rfl,hnc,hcm,hcs,ht,hI⟩
  ·have htn:tr=[]:=List.eq_nil_of_length_eq_zero h1
   subst htn
   obtain rfl:mark=0:=by simpa using hmk
   refine Dr dd (Nat.le_refl _) ?_
   refine al ?_
   refine cq hI 0 rfl dQ fD rfl rfl rfl fun w' hI=>?_
   exact ⟨_,_,S,rfl,hI,Ext.refl _ _ _,rfl,rfl,es',_,rfl,hkm'⟩
  ·refine Dr dd (by omega) ?_
   have e1:(if cap=0 then (some (⟨g,0,none⟩:Addr)) else (some (⟨g,0,none⟩:Addr)).map (·.add (0 * 1)))=some ⟨g,0,none⟩:=by
    split
    ·rfl
    ·simp [Addr.add]
   rw [e1]
   refine al ?_
   refine cq hI 0 rfl dQ fD rfl rfl rfl fun w' hI=>?_
   have hI:Inv w X ([.blk sb (.cells #[.map (some mb),.slice (some ⟨g,0,none⟩) mark cap] bT),.blk mb (.map es' ck)]++[.blk g (.cells cur bG)]) S w':=hI
   have hI:=Inv.closeRow (n:=mark) (k:=1) (cap:=cap) hI (by omega) hcm hcs
   have e2:cur.toList.take (mark * 1)=ints (tr.take mark):=by
    rw [<- hit,<- ht,List.take_take,Nat.mul_one,Nat.mul_one,Nat.min_eq_left hmk]
   rw [e2] at hI
   refine ⟨_,_,S,rfl,hI,Ext.refl _ _ _,rfl,rfl,es',.slice (some ⟨g,0,none⟩) mark cap,?_,hkm'⟩
   simp only [aq,dl,htl]
   rfl
end
end
end Go.Proofs.YtcpgagfdeflbkaaGreatDoor
