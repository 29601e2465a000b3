/- impl: binding, unification. -/
import Derived.Test.YtnmnddpdikghhaaGreatZr10
import Derived.Test.YtnmnddpdikghhaaGreatZr8
import Derived.Test.YtnmnddpdikghhaaGreatZr6
import Derived.Test.YtnmnddpdikghhaaGreatZr3
import Derived.Test.YtnmnddpdikghhaaGreatZr9
namespace Go.Proofs.YtnmnddpdikghhaaGreat
open Go Go.RowKit
/- a store of one's own -/
abbrev cL (sb mb:Nat) (es:Array MapEntry) (ck:Nat) (tv:Value) (tr:List Int):List Item:=[.blk sb (.cells #[.map (some mb),tv] dU),.blk mb (.map es ck),el tv tr]
section
attribute [local irreducible] Run CondV ai a4
theorem zp {N:Nat} {st:bu} (hg:Good N st) {n:Nat} (hf:st[n]?=some none) (hnN:n<1000000000) {t:T} (ht:okU N t) {S:ay} {cs:List Value} {sb mb ck:Nat} {es:Array MapEntry} {tv:Value} {tr:List Int} (h:RdT S cs t) (hm:KnownM S es st) (htr:tr.length<=1000000) :
  Tri Tryz.prog yU [.pointer (some ⟨sb,0,none⟩),.int .i64 n,.agg cs.toArray] (cL sb mb es ck tv tr) S fun r I' S'=>S'=S/\
   ((¬ fi st n t/\r=.bool true/\∃ es' ck' tv',I'=cL sb mb es' ck' tv' (tr++[(n:Int)])/\KnownM S es' (st.set n (some t))) ∨ (fi st n t/\r=.bool false/\I'=cL sb mb es ck tv tr)):=by
 intro w hI
 have hlc:=h.length
 obtain ⟨X,hX⟩:∃ X,X=bS (cL sb mb es ck tv tr):=⟨_,rfl⟩
 rw [<- hX] at hI ⊢
 have hn:∀ u,st[n]?≠some (some u):=fun u hu=>by rw [hf] at hu; cases hu
 have hnl:n<st.length:=(List.getElem?_eq_some_iff.1 hf).1
 refine pW ?_
 unfold mJ
 refine bN hI fun b5 w' hI=>?_
 refine aO hI 3 ag rfl (by simpa [Value.cells] using hlc) ?_
 refine ub hI fun mm w' hI=>?_
 have hI:Inv w X ([.blk b5 (.cells cs.toArray ab),el tv tr,.blk mm (.map #[] 0)]++bw [(sb,.cells #[.map (some mb),tv] dU),(mb,.map es ck)]) S w':=hI.perm (by
  refine (List.Perm.trans ?_ (List.perm_append_comm (l₁:=[.blk b5 (.cells cs.toArray ab),.blk mm (.map #[] 0)]) (l₂:=cL sb mb es ck tv tr)))
  refine (List.Perm.cons _ (List.Perm.trans (List.Perm.swap _ _ _) (List.Perm.cons _ ?_)))
  exact List.perm_append_comm (l₁:=[el tv tr]) (l₂:=bw [(sb,.cells #[.map (some mb),tv] dU),(mb,.map es ck)]))
 obtain ⟨S1,hle,hins,hI1,hback⟩:=Inv.lendAll _ hI
 have hst:StS S S1 sb st:=⟨mb,tv,es,ck,dU,hins _ (List.mem_cons_self ..),hins _ (List.mem_cons_of_mem _ (List.mem_cons_self ..)),hm⟩
 have hI1:Inv w X ([.blk b5 (.cells cs.toArray ab),el tv tr]++[.blk mm (.map #[] 0)]) S1 w':=hI1
 refine Run.callE hY ig hI1 (BO hg hn hnN t ht S S1 cs mm 0 #[] _ hle hst h MetM.empty (fun m hm=>hm.elim)) fun v' I' S' w'=>?_
 rintro ⟨eS,es2,ck2,rfl,hres⟩ _ hI1
 rw [eS] at hI1
 have hI:=hback _ _ hI1
 have hI:Inv w X ([.blk b5 (.cells cs.toArray ab)]++cL sb mb es ck tv tr) S w':=(hI.pick [true,true,false,true,true]).perm (List.Perm.cons _ (List.perm_append_comm (l₁:=bw [(sb,.cells #[.map (some mb),tv] dU),(mb,.map es ck)]) (l₂:=[el tv tr])))
 rcases hres with ⟨hocc,rfl⟩|⟨hocc,rfl,_⟩
 ·refine a7 (fun _=>?_) (fun hb=>by cases hb)
  exact ⟨_,_,_,rfl,hI.sub (List.sublist_cons_self _ _),Ext.refl _ _ _,rfl,.inr ⟨hocc,rfl,rfl⟩⟩
 refine a7 (fun hb=>by cases hb) (fun _=>?_)
 have hfind:Instr.findNow (.int .i64) (.int .i64 n) es.toList 0=some none:=by
  rcases hm.find n with ⟨_,_,u,_,_,_,_,hu⟩|⟨_,hf⟩
  ·exact absurd hu (hn u)
  ·exact hf
 have hm2:=hm.push hnl hn h ck
 generalize hes2:es.push { key:=.int .i64 n,val:=.agg cs.toArray,born:=ck }=es2 at hm2
 have hI:Inv w X [.blk b5 (.cells cs.toArray ab),.blk sb (.cells #[.map (some mb),tv] dU),.blk mb (.map es ck),el tv tr] S w':=hI
 refine ⟨fun D dD dV fh hH j5 j2 w_=>(D 0=true->j2=.pointer (some ⟨sb,0,none⟩))/\(D 1=true->j5=.pointer (some ⟨sb,0,none⟩))/\(D 2=true->hH=.pointer (some ⟨sb,0,none⟩))/\(D 3=true->fh=.map (some mb))/\(D 4=true->dV=.int .i64 n)/\(D 5=true->dD=.agg cs.toArray)/\(D 6=true->True)/\Inv w X [.blk b5 (.cells cs.toArray ab),.blk sb (.cells #[.map (some mb),tv] dU),.blk mb (cond (D 6) (.map es2 (ck+1)) (.map es ck)),el tv tr] S w_,⟨af,af,af,af,af,af,af,hI.draw⟩,⟨?_,?_,?_,?_,?_,?_,?_,trivial⟩,?_⟩
 ·intro D aS  dD dV fh hH j5 j2 w_
  rintro ⟨aA,az,aB,ax,aD,aC,aw,hI⟩
  exact ⟨fun _=>rfl,az,aB,ax,aD,aC,aw,hI⟩
 ·intro D aS cA dD dV fh hH j5 j2 w_
  rintro ⟨aA,az,aB,ax,aD,aC,aw,hI⟩
  obtain rfl:=aA cA
  refine cG ?_
  exact ⟨aA,fun _=>rfl,aB,ax,aD,aC,aw,hI⟩
 ·intro D aS dB dD dV fh hH j5 j2 w_
  rintro ⟨aA,az,aB,ax,aD,aC,aw,hI⟩
  obtain rfl:=az dB
  refine bj vC ?_
  exact ⟨aA,az,fun _=>rfl,ax,aD,aC,aw,hI⟩
 ·intro D aS cM dD dV fh hH j5 j2 w_
  rintro ⟨aA,az,aB,ax,aD,aC,aw,hI⟩
  obtain rfl:=aB cM
  refine bB hI 1 (by decide +kernel) rfl rfl ?_
  exact ⟨aA,az,aB,fun _=>rfl,aD,aC,aw,hI⟩
 ·intro D aS  dD dV fh hH j5 j2 w_
  rintro ⟨aA,az,aB,ax,aD,aC,aw,hI⟩
  exact ⟨aA,az,aB,ax,fun _=>rfl,aC,aw,hI⟩
 ·intro D aS  dD dV fh hH j5 j2 w_
  rintro ⟨aA,az,aB,ax,aD,aC,aw,hI⟩
  refine aO hI 0 ag rfl (by simpa using hlc) ?_
  exact ⟨aA,az,aB,ax,aD,fun _=>rfl,aw,hI⟩
 ·intro D aS dh eD KP tP i8 uJ uE qF qJ dD dV fh hH j5 j2 w_
  rintro ⟨aA,az,aB,ax,aD,aC,aw,hI⟩
  obtain rfl:=ax dh
  obtain rfl:=aD eD
  obtain rfl:=aC KP
  rw [aS] at hI
  refine zf hI 2 gK gJ rfl hfind fun w_ hI=>?_
  rw [hes2] at hI
  exact ⟨aA,az,aB,ax,aD,aC,fun _=>trivial,hI⟩
 intro D fj ft fL fX fM fP fY dD dV fh hH j5 j2 w_
 rintro ⟨aA,az,aB,ax,aD,aC,aw,hI⟩
 obtain rfl:=aC ft
 obtain rfl:=aD fL
 obtain rfl:=ax fX
 obtain rfl:=aB fM
 obtain rfl:=az fP
 obtain rfl:=aA fY
 clear aA az aB ax aD aC aw
 rw [fj] at hI
 have hI:Inv w X [.blk b5 (.cells cs.toArray ab),.blk sb (.cells #[.map (some mb),tv] dU),.blk mb (.map es2 (ck+1)),el tv tr] S w_:=hI
 obtain ⟨va,vn,vc,hv9⟩:=hI.rowSlice 3 rfl
 refine cG ?_
 refine bj vK ?_
 refine bB hI 1 xu rfl rfl ?_
 refine dJ hI lM rfl (by omega) (by omega) fun b w' hI=>?_
 refine ev hI 3 (k:=1) (o:=0) (m:=1) [.int .i64 n] lM (by omega) rfl rfl ?_ (by simp [Value.oneCell']) (by omega) (by omega) fun tv2 w' hI=>?_
 ·intro j u hj
  rw [hI.cellL (i:=4) rfl]
  match j with
  | 0=>simpa [Value.cells] using hj
  | j+1=>simp at hj
 rw [uD] at hI
 have hI:Inv w X [.blk b5 (.cells cs.toArray ab),.blk sb (.cells #[.map (some mb),tv] dU),.blk mb (.map es2 (ck+1)),el tv2 (tr++[(n:Int)]),.blk b (.cells #[.int .i64 n] dw)] S w':=by
  have e:Item.row tv2 dw 1 (tr.length+1) (ints (tr++[(n:Int)]))=el tv2 (tr++[(n:Int)]):=by simp [el]
  rw [<- e]
  exact hI
 obtain ⟨va2,vn2,vc2,hv2⟩:=hI.rowSlice 3 rfl
 refine cG ?_
 refine eM hI 1 rfl vK xu rfl (by rw [hv2]; rfl) (by rw [hv2]; rfl) fun w' hI=>?_
 have hI:Inv w X ([.blk b5 (.cells cs.toArray ab)]++(cL sb mb es2 (ck+1) tv2 (tr++[(n:Int)])++[.blk b (.cells #[.int .i64 n] dw)])) S w':=hI
 exact ⟨_,_,_,rfl,(hI.sub (List.sublist_append_right [_] _)).sub (List.sublist_append_left _ _),Ext.refl _ _ _,rfl,.inl ⟨hocc,rfl,es2,ck+1,tv2,rfl,hm2⟩⟩
def UI (st:bu) (a b:T) (r:Bool) (st':bu):Prop:=∀ (S:ay) (cs ds:List Value) (sb mb ck:Nat) (es:Array MapEntry) (tv:Value) (tr:List Int),RdT S cs a->RdT S ds b->KnownM S es st->tr.length+unb st<=1000000->
 Tri Tryz.prog wO [.pointer (some ⟨sb,0,none⟩),.agg cs.toArray,.agg ds.toArray] (cL sb mb es ck tv tr) S fun q I' S'=>S'=S/\q=.bool r/\∃ es' ck' tv' tr',I'=cL sb mb es' ck' tv' tr'/\KnownM S es' st'/\tr'.length+unb st'<=1000000
set_option maxHeartbeats 1000000 in
theorem Cm {N:Nat} (hN:N<=1000000) {st st':bu} {a b a' b':T} {r:Bool} (hg:Good N st) (hj:okJ N (.one a b)) (hwa:dy st a a') (hwb:dy st b b') (he:Kt UI st a' b' r st'):UI st a b r st':=by
 intro S cs ds sb mb ck es tv tr h h' hkm htr w hI
 have hlc:=h.length
 have hld:=h'.length
 have hoa:=eG hg hwa hj.1
 have hob:=eG hg hwb hj.2
 obtain ⟨X,hX⟩:∃ X,X=bS (cL sb mb es ck tv tr):=⟨_,rfl⟩
 rw [<- hX] at hI ⊢
 refine oS ?_
 unfold lo;dsimp only
 refine bN hI fun b1 w' hI=>?_
 refine bN hI fun b2 w' hI=>?_
 have hI:Inv w X ([.blk b1 (.cells cs.toArray ab),.blk b2 (.cells ds.toArray ab),el tv tr]++bw [(sb,.cells #[.map (some mb),tv] dU),(mb,.map es ck)]) S w':=hI.perm (by
  refine (List.Perm.trans ?_ (List.perm_append_comm (l₁:=[.blk b1 (.cells cs.toArray ab),.blk b2 (.cells ds.toArray ab)]) (l₂:=cL sb mb es ck tv tr)))
  exact List.Perm.cons _ (List.Perm.cons _ (List.perm_append_comm (l₁:=[el tv tr]) (l₂:=bw [(sb,.cells #[.map (some mb),tv] dU),(mb,.map es ck)]))))
 obtain ⟨S1,hle,hins,hI,hback⟩:=Inv.lendAll _ hI
 have hst:StS S S1 sb st:=⟨mb,tv,es,ck,dU,hins _ (List.mem_cons_self ..),hins _ (List.mem_cons_of_mem _ (List.mem_cons_self ..)),hkm⟩
 refine ⟨fun D j5 j2 mQ lD x9 x8 w_=>(D 0=true->x8=.pointer (some ⟨sb,0,none⟩))/\(D 1=true->x9=.agg cs.toArray)/\(D 2=true->True)/\(D 3=true->mQ=.pointer (some ⟨sb,0,none⟩))/\(D 4=true->j2=.agg ds.toArray)/\(D 5=true->True)/\(D 6=true->True)/\(D 7=true->True)/\∃ cs' ds',(D 2=true->lD=.agg (List.toArray cs')/\RdT S cs' a')/\(D 5=true->j5=.agg (List.toArray ds')/\RdT S ds' b')/\(D 6=true->D 1=true/\D 2=true)/\(D 7=true->D 4=true/\D 5=true)/\Inv w X [.blk b1 (.cells (cond (D 6) (List.toArray cs') cs.toArray) ab),.blk b2 (.cells (cond (D 7) (List.toArray ds') ds.toArray) ab),el tv tr] S1 w_,⟨af,af,af,af,af,af,af,af,⟨[],[],af,af,af,af,hI.draw⟩⟩,⟨?_,?_,?_,?_,?_,?_,?_,?_,trivial⟩,?_⟩
 ·intro D aS  j5 j2 mQ lD x9 x8 w_
  rintro ⟨aA,az,aB,ax,aD,aC,aw,aJ,⟨cs',ds',e2,e5,k6,k7,hI⟩⟩
  exact ⟨fun _=>rfl,az,aB,ax,aD,aC,aw,aJ,⟨cs',ds',e2,e5,k6,k7,hI⟩⟩
 ·intro D aS  j5 j2 mQ lD x9 x8 w_
  rintro ⟨aA,az,aB,ax,aD,aC,aw,aJ,⟨cs',ds',e2,e5,k6,k7,hI⟩⟩
  have f6:D 6=false:=Bool.eq_false_iff.2 fun h=>by rw [(k6 h).1] at aS; cases aS
  refine aO (c:=cs.toArray) hI 0 ag (by rw [f6]; rfl) (by simpa using hlc) ?_
  have k6:=fun (h:ao D 1 6=true)=>(⟨rfl,(k6 h).2⟩:ao D 1 1=true/\ao D 1 2=true)
  exact ⟨aA,fun _=>rfl,aB,ax,aD,aC,aw,aJ,⟨cs',ds',e2,e5,k6,k7,hI⟩⟩
 ·intro D aS cA iz j5 j2 mQ lD x9 x8 w_
  rintro ⟨aA,az,aB,ax,aD,aC,aw,aJ,⟨cs',ds',e2,e5,k6,k7,hI⟩⟩
  obtain rfl:=aA cA
  obtain rfl:=az iz
  have f6:D 6=false:=Bool.eq_false_iff.2 fun h=>by rw [(k6 h).2] at aS; cases aS
  refine Run.call0 gT gQ hI (jw hg hwa hj.1.1 hst h) fun v' I' S' w_=>?_
  rintro ⟨eS,rfl,cs',rfl,hcs'⟩ _ hI
  rw [eS] at hI
  have e2:=fun (_:ao D 2 2=true)=>(⟨rfl,hcs'⟩:Value.agg (List.toArray cs')=Value.agg (List.toArray cs')/\RdT S cs' a')
  have k6:=fun (h:ao D 2 6=true)=>(⟨(k6 h).1,rfl⟩:ao D 2 1=true/\ao D 2 2=true)
  have hI:Inv w X [.blk b1 (.cells (cond (D 6) (List.toArray cs') cs.toArray) ab),.blk b2 (.cells (cond (D 7) (List.toArray ds') ds.toArray) ab),el tv tr] S1 w_:=by rw [f6] at hI ⊢; simpa using hI
  exact ⟨aA,az,fun _=>by first|assumption|trivial,ax,aD,aC,aw,aJ,⟨cs',ds',e2,e5,k6,k7,hI⟩⟩
 ·intro D aS  j5 j2 mQ lD x9 x8 w_
  rintro ⟨aA,az,aB,ax,aD,aC,aw,aJ,⟨cs',ds',e2,e5,k6,k7,hI⟩⟩
  exact ⟨aA,az,aB,fun _=>rfl,aD,aC,aw,aJ,⟨cs',ds',e2,e5,k6,k7,hI⟩⟩
 ·intro D aS  j5 j2 mQ lD x9 x8 w_
  rintro ⟨aA,az,aB,ax,aD,aC,aw,aJ,⟨cs',ds',e2,e5,k6,k7,hI⟩⟩
  have f7:D 7=false:=Bool.eq_false_iff.2 fun h=>by rw [(k7 h).1] at aS; cases aS
  refine aO (c:=ds.toArray) hI 1 ag (by rw [f7]; rfl) (by simpa using hld) ?_
  have k7:=fun (h:ao D 4 7=true)=>(⟨rfl,(k7 h).2⟩:ao D 4 4=true/\ao D 4 5=true)
  exact ⟨aA,az,aB,ax,fun _=>rfl,aC,aw,aJ,⟨cs',ds',e2,e5,k6,k7,hI⟩⟩
 ·intro D aS dh eD qD j5 j2 mQ lD x9 x8 w_
  rintro ⟨aA,az,aB,ax,aD,aC,aw,aJ,⟨cs',ds',e2,e5,k6,k7,hI⟩⟩
  obtain rfl:=ax dh
  obtain rfl:=aD eD
  have f7:D 7=false:=Bool.eq_false_iff.2 fun h=>by rw [(k7 h).2] at aS; cases aS
  refine Run.call0 gT gQ hI (jw hg hwb hj.2.1 hst h') fun v' I' S' w_=>?_
  rintro ⟨eS,rfl,ds',rfl,hds'⟩ _ hI
  rw [eS] at hI
  have e5:=fun (_:ao D 5 5=true)=>(⟨rfl,hds'⟩:Value.agg (List.toArray ds')=Value.agg (List.toArray ds')/\RdT S ds' b')
  have k7:=fun (h:ao D 5 7=true)=>(⟨(k7 h).1,rfl⟩:ao D 5 4=true/\ao D 5 5=true)
  have hI:Inv w X [.blk b1 (.cells (cond (D 6) (List.toArray cs') cs.toArray) ab),.blk b2 (.cells (cond (D 7) (List.toArray ds') ds.toArray) ab),el tv tr] S1 w_:=by rw [f7] at hI ⊢; simpa using hI
  exact ⟨aA,az,aB,ax,aD,fun _=>by first|assumption|trivial,aw,aJ,⟨cs',ds',e2,e5,k6,k7,hI⟩⟩
 ·intro D aS cM eF kS mL kN j5 j2 mQ lD x9 x8 w_
  rintro ⟨aA,az,aB,ax,aD,aC,aw,aJ,⟨cs',ds',e2,e5,k6,k7,hI⟩⟩
  have LD:=aB cM
  obtain ⟨q2,hR2⟩:=e2 cM
  rw [aS] at hI
  subst q2
  refine aM hI 0 rfl ag (by simpa using hR2.length) (by simpa using hlc) (by simpa using hR2.one) fun w_ hI=>?_
  have k6:=fun (_:ao D 6 6=true)=>(⟨mL,cM⟩:ao D 6 1=true/\ao D 6 2=true)
  exact ⟨aA,az,aB,ax,aD,aC,fun _=>trivial,aJ,⟨cs',ds',e2,e5,k6,k7,hI⟩⟩
 ·intro D aS dT iL kS mL kN qx oV th ug j5 j2 mQ lD x9 x8 w_
  rintro ⟨aA,az,aB,ax,aD,aC,aw,aJ,⟨cs',ds',e2,e5,k6,k7,hI⟩⟩
  have zK:=aC dT
  obtain ⟨q5,hR5⟩:=e5 dT
  rw [aS] at hI
  subst q5
  refine aM hI 1 rfl ag (by simpa using hR5.length) (by simpa using hld) (by simpa using hR5.one) fun w_ hI=>?_
  have k7:=fun (_:ao D 7 7=true)=>(⟨oV,dT⟩:ao D 7 4=true/\ao D 7 5=true)
  exact ⟨aA,az,aB,ax,aD,aC,aw,fun _=>trivial,⟨cs',ds',e2,e5,k6,k7,hI⟩⟩
 intro D gc fj ft fL fX fM fP fY j5 j2 mQ lD x9 x8 w_
 rintro ⟨aA,az,aB,ax,aD,aC,aw,aJ,⟨cs',ds',e2,e5,k6,k7,hI⟩⟩
 have zK:=aC ft
 obtain rfl:=aD fL
 obtain rfl:=ax fX
 have LD:=aB fM
 obtain rfl:=az fP
 obtain rfl:=aA fY
 clear aA az aB ax aD aC aw aJ
 obtain ⟨_,hcs'⟩:=e2 fM
 obtain ⟨_,hds'⟩:=e5 ft
 rw [fj,gc] at hI
 clear e2 e5 k6 k7
 have hI:=hback _ _ hI
 have hI:Inv w X ([.blk b1 (.cells cs'.toArray ab),.blk b2 (.cells ds'.toArray ab)]++cL sb mb es ck tv tr) S w_:=hI.perm (List.Perm.cons _ (List.Perm.cons _ (List.perm_append_comm (l₁:=bw [(sb,.cells #[.map (some mb),tv] dU),(mb,.map es ck)]) (l₂:=[el tv tr]))))
 have hcs:=hcs'
 have hds:=hds'
 obtain ⟨kv,rfl,_,_,_,hks⟩:=RdT.iff.1 hcs'
 obtain ⟨kv',rfl,_,_,_,hks'⟩:=RdT.iff.1 hds'
 obtain ⟨k,n,s,ks⟩:=a'
 obtain ⟨k',n',s',ks'⟩:=b'
 unfold Kt at he
 simp only [T.name,T.kids,T.kind,T.n] at hks hks' hI he ⊢
 have hlen:=hks.le
 simp only [maxLen] at hlen
 have hfa:=fun h=>sH hg h (iO hwa) hoa.1
 have hfb:=fun h=>sH hg h (iO hwb) hob.1
 have hlN:=hg.len
 refine ⟨fun q w'=>q=.bool (decide (k=1/\k'=1/\n=n'))/\Inv w X ([.blk b1 (.cells #[.int .i64 k,.int .i64 n,.string s,kv] ab),.blk b2 (.cells #[.int .i64 k',.int .i64 n',.string s',kv'] ab)]++cL sb mb es ck tv tr) S w',?_,?_⟩
 ·refine ar hI 0 rfl bv bg rfl ?_
  refine bO ?_
  by_cases e1:k=1
  ·rw [decide_eq_true e1]
   repeat (first|refine ae ?_|refine ah (by decide) ?_|refine ad ?_|refine al ?_|refine aj ?_)
   refine ar hI 1 rfl bv bg rfl ?_
   refine bO ?_
   by_cases e2:k'=1
   ·rw [decide_eq_true e2]
    repeat (first|refine ae ?_|refine ah (by decide) ?_|refine ad ?_|refine al ?_|refine aj ?_)
    refine ar hI 0 rfl bn bg rfl ?_
    refine ar hI 1 rfl bn bg rfl ?_
    refine bO ?_
    repeat (first|refine ae ?_|refine ah (by decide) ?_|refine ad ?_|refine al ?_|refine aj ?_)
    exact ⟨by simp [e1,e2],hI⟩
   ·rw [decide_eq_false e2]
    repeat (first|refine ae ?_|refine ah (by decide) ?_|refine ad ?_|refine al ?_|refine aj ?_)
    exact ⟨by simp [e2],hI⟩
  ·rw [decide_eq_false e1]
   repeat (first|refine ae ?_|refine ah (by decide) ?_|refine ad ?_|refine al ?_|refine aj ?_)
   exact ⟨by simp [e1],hI⟩
 intro q _ _ _ _ _ _ _ _ _ _ _ _ _ _ _ w'
 rintro ⟨rfl,hI⟩
 refine bF (fun hsame=>?_) (fun hsame=>?_)
 ·have:r=true/\st'=st:=by
   rcases he with ⟨_,_,_,h1,h2⟩|⟨_,h1,_⟩|⟨h1,_,_⟩|⟨h1,_,_⟩
   ·exact ⟨h1,h2⟩
   ·exact absurd hsame.2 h1
   ·exact absurd hsame.1 h1
   ·exact absurd hsame.1 h1
  obtain ⟨rfl,rfl⟩:=this
  exact ⟨_,_,_,rfl,hI.sub (List.sublist_append_right [_,_] _),Ext.refl _ _ _,rfl,rfl,es,ck,tv,tr,rfl,hkm,htr⟩
 refine ar hI 0 rfl bv bg rfl ?_
 refine bO ?_
 refine bF (fun hk1=>?_) (fun hk1=>?_)
 ·have hend:(¬ fi st n.toNat (.mk k' n' s' ks')/\r=true/\st'=st.set n.toNat (some (.mk k' n' s' ks'))) ∨ (fi st n.toNat (.mk k' n' s' ks')/\r=false/\st'=st):=by
   rcases he with ⟨h1,h2,h3,_⟩|⟨_,_,h1⟩|⟨h1,_,_⟩|⟨h1,_,_⟩
   ·exact absurd ⟨h1,h2,h3⟩ hsame
   ·exact h1
   ·exact absurd hk1 h1
   ·exact absurd hk1 h1
  obtain ⟨hn0,hnN,_⟩:=hoa.1.var hk1
  have hfa:=hfa hk1
  simp only [T.n] at hn0 hnN hfa
  obtain ⟨j,rfl⟩:∃ j:Nat,n=j:=⟨n.toNat,by omega⟩
  rw [Int.toNat_natCast] at hfa hend
  refine ar hI 0 rfl bn bg rfl ?_
  refine aO hI 1 ag rfl rfl ?_
  refine Run.callE (A:=[_,_]) mp mr hI (zp hg hfa (by omega) hob.1 hds hkm (by omega)) fun v' I' S' w'=>?_
  rintro ⟨eS,hres⟩ _ hI
  rw [eS] at hI
  have hun:=sB st j (.mk k' n' s' ks') hfa
  rcases hend with ⟨h1,rfl,rfl⟩|⟨h1,rfl,rfl⟩
  ·rcases hres with ⟨_,rfl,es2,ck2,tv2,rfl,hm2⟩|⟨h2,_⟩
   ·exact ⟨_,_,_,rfl,hI.sub (List.sublist_append_right [_,_] _),Ext.refl _ _ _,rfl,rfl,es2,ck2,tv2,_,rfl,hm2,by simp; omega⟩
   ·exact absurd h2 h1
  ·rcases hres with ⟨h2,_⟩|⟨_,rfl,rfl⟩
   ·exact absurd h1 h2
   ·exact ⟨_,_,_,rfl,hI.sub (List.sublist_append_right [_,_] _),Ext.refl _ _ _,rfl,rfl,es,ck,tv,tr,rfl,hkm,htr⟩
 refine ar hI 1 rfl bv bg rfl ?_
 refine bO ?_
 refine bF (fun hk2=>?_) (fun hk2=>?_)
 ·have hend:(¬ fi st n'.toNat (.mk k n s ks)/\r=true/\st'=st.set n'.toNat (some (.mk k n s ks))) ∨ (fi st n'.toNat (.mk k n s ks)/\r=false/\st'=st):=by
   rcases he with ⟨h1,_⟩|⟨h1,_,_⟩|⟨_,_,h1⟩|⟨_,h1,_⟩
   ·exact absurd h1 hk1
   ·exact absurd h1 hk1
   ·exact h1
   ·exact absurd hk2 h1
  obtain ⟨hn0,hnN,_⟩:=hob.1.var hk2
  have hfb:=hfb hk2
  simp only [T.n] at hn0 hnN hfb
  obtain ⟨j,rfl⟩:∃ j:Nat,n'=j:=⟨n'.toNat,by omega⟩
  rw [Int.toNat_natCast] at hfb hend
  refine ar hI 1 rfl bn bg rfl ?_
  refine aO hI 0 ag rfl rfl ?_
  refine Run.callE (A:=[_,_]) mp mr hI (zp hg hfb (by omega) hoa.1 hcs hkm (by omega)) fun v' I' S' w'=>?_
  rintro ⟨eS,hres⟩ _ hI
  rw [eS] at hI
  have hun:=sB st j (.mk k n s ks) hfb
  rcases hend with ⟨h1,rfl,rfl⟩|⟨h1,rfl,rfl⟩
  ·rcases hres with ⟨_,rfl,es2,ck2,tv2,rfl,hm2⟩|⟨h2,_⟩
   ·exact ⟨_,_,_,rfl,hI.sub (List.sublist_append_right [_,_] _),Ext.refl _ _ _,rfl,rfl,es2,ck2,tv2,_,rfl,hm2,by simp; omega⟩
   ·exact absurd h2 h1
  ·rcases hres with ⟨h2,_⟩|⟨_,rfl,rfl⟩
   ·exact absurd h1 h2
   ·exact ⟨_,_,_,rfl,hI.sub (List.sublist_append_right [_,_] _),Ext.refl _ _ _,rfl,rfl,es,ck,tv,tr,rfl,hkm,htr⟩
 have hend:(jk (.mk k n s ks) (.mk k' n' s' ks')=false/\r=false/\st'=st) ∨ (jk (.mk k n s ks) (.mk k' n' s' ks')=true/\Chain UI st ks ks' r st'):=by
  rcases he with ⟨h1,_⟩|⟨h1,_,_⟩|⟨_,h1,_⟩|⟨_,_,h1⟩
  ·exact absurd h1 hk1
  ·exact absurd h1 hk1
  ·exact absurd h1 hk2
  ·exact h1
 refine ⟨fun q w'=>q=.bool (!jk (.mk k n s ks) (.mk k' n' s' ks'))/\Inv w X ([.blk b1 (.cells #[.int .i64 k,.int .i64 n,.string s,kv] ab),.blk b2 (.cells #[.int .i64 k',.int .i64 n',.string s',kv'] ab)]++cL sb mb es ck tv tr) S w',?_,?_⟩
 ·refine ar hI 0 rfl bv bg rfl ?_
  refine ar hI 1 rfl bv bg rfl ?_
  refine iD ?_
  by_cases e1:k=k'
  ·rw [decide_eq_true e1]
   repeat (first|refine ae ?_|refine ah (by decide) ?_|refine ad ?_|refine al ?_|refine aj ?_)
   refine ar hI 0 rfl bn bg rfl ?_
   refine ar hI 1 rfl bn bg rfl ?_
   refine iD ?_
   by_cases e2:n=n'
   ·rw [decide_eq_true e2]
    repeat (first|refine ae ?_|refine ah (by decide) ?_|refine ad ?_|refine al ?_|refine aj ?_)
    refine ar hI 0 rfl bH bz rfl ?_
    refine ar hI 1 rfl bH bz rfl ?_
    refine Cl ?_
    by_cases e3:s=s'
    ·rw [decide_eq_true e3]
     repeat (first|refine ae ?_|refine ah (by decide) ?_|refine ad ?_|refine al ?_|refine aj ?_)
     refine ar hI 0 rfl aP aL rfl ?_
     refine bm hks aG ?_
     refine ar hI 1 rfl aP aL rfl ?_
     refine bm hks' aG ?_
     refine iD ?_
     repeat (first|refine ae ?_|refine ah (by decide) ?_|refine ad ?_|refine al ?_|refine aj ?_)
     exact ⟨by rw [gy,decide_eq_true e1,decide_eq_true e2,decide_eq_true e3,JP]; rfl,hI⟩
    ·rw [decide_eq_false e3]
     repeat (first|refine ae ?_|refine ah (by decide) ?_|refine ad ?_|refine al ?_|refine aj ?_)
     exact ⟨by rw [gy,decide_eq_true e1,decide_eq_true e2,decide_eq_false e3]; rfl,hI⟩
   ·rw [decide_eq_false e2]
    repeat (first|refine ae ?_|refine ah (by decide) ?_|refine ad ?_|refine al ?_|refine aj ?_)
    exact ⟨by rw [gy,decide_eq_true e1,decide_eq_false e2]; rfl,hI⟩
  ·rw [decide_eq_false e1]
   repeat (first|refine ae ?_|refine ah (by decide) ?_|refine ad ?_|refine al ?_|refine aj ?_)
   exact ⟨by rw [gy,decide_eq_false e1]; rfl,hI⟩
 intro q _ _ _ _ _ _ _ _ _ _ _ _ _ _ _ _ _ _ _ _ _ _ _ _ _ _ _ _ w'
 rintro ⟨rfl,hI⟩
 cases hd:jk (.mk k n s ks) (.mk k' n' s' ks')
 ·refine a7 (fun _=>?_) (fun hb=>by cases hb)
  have:r=false/\st'=st:=by
   rcases hend with ⟨_,h1⟩|⟨h1,_⟩
   ·exact h1
   ·rw [hd] at h1; cases h1
  obtain ⟨rfl,rfl⟩:=this
  exact ⟨_,_,_,rfl,hI.sub (List.sublist_append_right [_,_] _),Ext.refl _ _ _,rfl,rfl,es,ck,tv,tr,rfl,hkm,htr⟩
 refine a7 (fun hb=>by cases hb) (fun _=>?_)
 have hle2:ks.length=ks'.length:=nq hd
 have hch:Chain UI st ks ks' r st':=by
  rcases hend with ⟨h1,_⟩|⟨_,h1⟩
  ·rw [hd] at h1; cases h1
  ·exact h1
 refine ar hI 0 rfl aP aL rfl ?_
 refine bm hks aG ?_
 refine ⟨fun i w'=>∃ (j:Nat) (st1:bu) (es1:Array MapEntry) (ck1:Nat) (tv1:Value) (tr1:List Int),j<=ks.length/\i=.int .i64 j/\Chain UI st1 (ks.drop j) (ks'.drop j) r st'/\KnownM S es1 st1/\tr1.length+unb st1<=1000000/\Inv w X ([.blk b1 (.cells #[.int .i64 k,.int .i64 n,.string s,kv] ab),.blk b2 (.cells #[.int .i64 k',.int .i64 n',.string s',kv'] ab)]++cL sb mb es1 ck1 tv1 tr1) S w',fun i _=>ks.length - (intOf i).toNat,⟨0,st,es,ck,tv,tr,Nat.zero_le _,rfl,hch,hkm,htr,hI⟩,?_⟩
 intro t80 _ _ _ _ _ _ _ _ _ _ _ _ _ _ _ _ _ _ w'
 rintro ⟨j,st1,es1,ck1,tv1,tr1,hj,rfl,hrel,hkm1,htr1,hI⟩
 refine cF ?_
 refine bF (fun hji=>?_) (fun hji=>?_)
 ·have hj1:j<ks.length:=by omega
  have hj2:j<ks'.length:=by omega
  obtain ⟨c1,o1,cap1,a1,E1,fz1,rfl,hS1,hR1⟩:=hks.at_ hj1
  obtain ⟨c2,o2,cap2,a2,E2,fz2,rfl,hS2,hR2⟩:=hks'.at_ hj2
  rw [List.drop_eq_getElem_cons hj1,List.drop_eq_getElem_cons hj2] at hrel
  obtain ⟨r1,st2,hcall,hno,hyes⟩:=hrel.head
  have hcall:=hcall S _ _ sb mb ck1 es1 tv1 tr1 hR1 hR2 hkm1 htr1
  refine ⟨fun D qi pY qK qA fB fq fC fA fw fl fy fm gU w_=>(D 0=true->gU=.pointer (some ⟨sb,0,none⟩))/\(D 1=true->fm=.pointer (some ⟨b1,3,none⟩))/\(D 2=true->fy=.slice (some ⟨c1,o1,none⟩) ks.length cap1)/\(D 3=true->fl=.int .i64 j)/\(D 4=true->fw=.pointer (some ⟨c1,o1+j * 4,none⟩))/\(D 5=true->fA=.agg (bJ a1 (o1+j * 4) 4).toArray)/\(D 6=true->fC=.pointer (some ⟨b2,3,none⟩))/\(D 7=true->fq=.slice (some ⟨c2,o2,none⟩) ks'.length cap2)/\(D 8=true->fB=.int .i64 j)/\(D 9=true->qA=.pointer (some ⟨c2,o2+j * 4,none⟩))/\(D 10=true->qK=.agg (bJ a2 (o2+j * 4) 4).toArray)/\(D 11=true->pY=.bool r1)/\(D 12=true->qi=.bool (!r1))/\(D 11=false->Inv w X ([.blk b1 (.cells #[.int .i64 k,.int .i64 n,.string s,.slice (some ⟨c1,o1,none⟩) ks.length cap1] ab),.blk b2 (.cells #[.int .i64 k',.int .i64 n',.string s',.slice (some ⟨c2,o2,none⟩) ks'.length cap2] ab)]++cL sb mb es1 ck1 tv1 tr1) S w_)/\(D 11=true->∃ es2 ck2 tv2 tr2,KnownM S es2 st2/\tr2.length+unb st2<=1000000/\Inv w X ([.blk b1 (.cells #[.int .i64 k,.int .i64 n,.string s,.slice (some ⟨c1,o1,none⟩) ks.length cap1] ab),.blk b2 (.cells #[.int .i64 k',.int .i64 n',.string s',.slice (some ⟨c2,o2,none⟩) ks'.length cap2] ab)]++cL sb mb es2 ck2 tv2 tr2) S w_)/\∃ es3 ck3 tv3 tr3,Inv w X ([.blk b1 (.cells #[.int .i64 k,.int .i64 n,.string s,.slice (some ⟨c1,o1,none⟩) ks.length cap1] ab),.blk b2 (.cells #[.int .i64 k',.int .i64 n',.string s',.slice (some ⟨c2,o2,none⟩) ks'.length cap2] ab)]++cL sb mb es3 ck3 tv3 tr3) S w_,⟨af,af,af,af,af,af,af,af,af,af,af,af,af,⟨fun _=>hI.draw,af,es1,ck1,tv1,tr1,hI.draw⟩⟩,⟨?_,?_,?_,?_,?_,?_,?_,?_,?_,?_,?_,?_,?_,trivial⟩,?_⟩
  ·intro D aS  qi pY qK qA fB fq fC fA fw fl fy fm gU w_
   rintro ⟨aA,az,aB,ax,aD,aC,aw,aJ,aN,aR,aq,au,aH,⟨hI0,hI1,es3,ck3,tv3,tr3,hI⟩⟩
   exact ⟨fun _=>rfl,az,aB,ax,aD,aC,aw,aJ,aN,aR,aq,au,aH,⟨hI0,hI1,es3,ck3,tv3,tr3,hI⟩⟩
  ·intro D aS  qi pY qK qA fB fq fC fA fw fl fy fm gU w_
   rintro ⟨aA,az,aB,ax,aD,aC,aw,aJ,aN,aR,aq,au,aH,⟨hI0,hI1,es3,ck3,tv3,tr3,hI⟩⟩
   refine bj aP ?_
   exact ⟨aA,fun _=>rfl,aB,ax,aD,aC,aw,aJ,aN,aR,aq,au,aH,⟨hI0,hI1,es3,ck3,tv3,tr3,hI⟩⟩
  ·intro D aS dB qi pY qK qA fB fq fC fA fw fl fy fm gU w_
   rintro ⟨aA,az,aB,ax,aD,aC,aw,aJ,aN,aR,aq,au,aH,⟨hI0,hI1,es3,ck3,tv3,tr3,hI⟩⟩
   obtain rfl:=az dB
   refine bB hI 0 aL rfl rfl ?_
   exact ⟨aA,az,fun _=>rfl,ax,aD,aC,aw,aJ,aN,aR,aq,au,aH,⟨hI0,hI1,es3,ck3,tv3,tr3,hI⟩⟩
  ·intro D aS  qi pY qK qA fB fq fC fA fw fl fy fm gU w_
   rintro ⟨aA,az,aB,ax,aD,aC,aw,aJ,aN,aR,aq,au,aH,⟨hI0,hI1,es3,ck3,tv3,tr3,hI⟩⟩
   exact ⟨aA,az,aB,fun _=>rfl,aD,aC,aw,aJ,aN,aR,aq,au,aH,⟨hI0,hI1,es3,ck3,tv3,tr3,hI⟩⟩
  ·intro D aS cM o0 qi pY qK qA fB fq fC fA fw fl fy fm gU w_
   rintro ⟨aA,az,aB,ax,aD,aC,aw,aJ,aN,aR,aq,au,aH,⟨hI0,hI1,es3,ck3,tv3,tr3,hI⟩⟩
   obtain rfl:=aB cM
   obtain rfl:=ax o0
   refine bq aG hj1 ?_
   exact ⟨aA,az,aB,ax,fun _=>rfl,aC,aw,aJ,aN,aR,aq,au,aH,⟨hI0,hI1,es3,ck3,tv3,tr3,hI⟩⟩
  ·intro D aS fO qi pY qK qA fB fq fC fA fw fl fy fm gU w_
   rintro ⟨aA,az,aB,ax,aD,aC,aw,aJ,aN,aR,aq,au,aH,⟨hI0,hI1,es3,ck3,tv3,tr3,hI⟩⟩
   obtain rfl:=aD fO
   refine dF ag hR1.length (fun j v hj=>by rw [hI.cellS hS1]; exact bx rfl j v hj) ?_
   exact ⟨aA,az,aB,ax,aD,fun _=>rfl,aw,aJ,aN,aR,aq,au,aH,⟨hI0,hI1,es3,ck3,tv3,tr3,hI⟩⟩
  ·intro D aS  qi pY qK qA fB fq fC fA fw fl fy fm gU w_
   rintro ⟨aA,az,aB,ax,aD,aC,aw,aJ,aN,aR,aq,au,aH,⟨hI0,hI1,es3,ck3,tv3,tr3,hI⟩⟩
   refine bj aP ?_
   exact ⟨aA,az,aB,ax,aD,aC,fun _=>rfl,aJ,aN,aR,aq,au,aH,⟨hI0,hI1,es3,ck3,tv3,tr3,hI⟩⟩
  ·intro D aS bW qi pY qK qA fB fq fC fA fw fl fy fm gU w_
   rintro ⟨aA,az,aB,ax,aD,aC,aw,aJ,aN,aR,aq,au,aH,⟨hI0,hI1,es3,ck3,tv3,tr3,hI⟩⟩
   obtain rfl:=aw bW
   refine bB hI 1 aL rfl rfl ?_
   exact ⟨aA,az,aB,ax,aD,aC,aw,fun _=>rfl,aN,aR,aq,au,aH,⟨hI0,hI1,es3,ck3,tv3,tr3,hI⟩⟩
  ·intro D aS  qi pY qK qA fB fq fC fA fw fl fy fm gU w_
   rintro ⟨aA,az,aB,ax,aD,aC,aw,aJ,aN,aR,aq,au,aH,⟨hI0,hI1,es3,ck3,tv3,tr3,hI⟩⟩
   exact ⟨aA,az,aB,ax,aD,aC,aw,aJ,fun _=>rfl,aR,aq,au,aH,⟨hI0,hI1,es3,ck3,tv3,tr3,hI⟩⟩
  ·intro D aS eo fT qi pY qK qA fB fq fC fA fw fl fy fm gU w_
   rintro ⟨aA,az,aB,ax,aD,aC,aw,aJ,aN,aR,aq,au,aH,⟨hI0,hI1,es3,ck3,tv3,tr3,hI⟩⟩
   obtain rfl:=aJ eo
   obtain rfl:=aN fT
   refine bq aG hj2 ?_
   exact ⟨aA,az,aB,ax,aD,aC,aw,aJ,aN,fun _=>rfl,aq,au,aH,⟨hI0,hI1,es3,ck3,tv3,tr3,hI⟩⟩
  ·intro D aS o3 qi pY qK qA fB fq fC fA fw fl fy fm gU w_
   rintro ⟨aA,az,aB,ax,aD,aC,aw,aJ,aN,aR,aq,au,aH,⟨hI0,hI1,es3,ck3,tv3,tr3,hI⟩⟩
   obtain rfl:=aR o3
   refine dF ag hR2.length (fun j v hj=>by rw [hI.cellS hS2]; exact bx rfl j v hj) ?_
   exact ⟨aA,az,aB,ax,aD,aC,aw,aJ,aN,aR,fun _=>rfl,au,aH,⟨hI0,hI1,es3,ck3,tv3,tr3,hI⟩⟩
  ·intro D aS cA eF vX qi pY qK qA fB fq fC fA fw fl fy fm gU w_
   rintro ⟨aA,az,aB,ax,aD,aC,aw,aJ,aN,aR,aq,au,aH,⟨hI0,hI1,es3,ck3,tv3,tr3,hI⟩⟩
   obtain rfl:=aA cA
   obtain rfl:=aC eF
   obtain rfl:=aq vX
   refine Run.callE (A:=[_,_]) lk kV (hI0 aS) hcall fun v' I' S' w_=>?_
   rintro ⟨eS,rfl,es2,ck2,tv2,tr2,rfl,hm2,htr2⟩ _ hI
   rw [eS] at hI
   have hI0:=fun (h:ao D 11 11=false)=>(Bool.noConfusion h:Inv w X ([.blk b1 (.cells #[.int .i64 k,.int .i64 n,.string s,.slice (some ⟨c1,o1,none⟩) ks.length cap1] ab),.blk b2 (.cells #[.int .i64 k',.int .i64 n',.string s',.slice (some ⟨c2,o2,none⟩) ks'.length cap2] ab)]++cL sb mb es1 ck1 tv1 tr1) S w_)
   have hI1:=fun (_:ao D 11 11=true)=>(⟨es2,ck2,tv2,tr2,hm2,htr2,hI⟩:∃ es2 ck2 tv2 tr2,KnownM S es2 st2/\tr2.length+unb st2<=1000000/\Inv w X ([.blk b1 (.cells #[.int .i64 k,.int .i64 n,.string s,.slice (some ⟨c1,o1,none⟩) ks.length cap1] ab),.blk b2 (.cells #[.int .i64 k',.int .i64 n',.string s',.slice (some ⟨c2,o2,none⟩) ks'.length cap2] ab)]++cL sb mb es2 ck2 tv2 tr2) S w_)
   obtain ⟨es3,ck3,tv3,tr3,hI⟩:∃ es3 ck3 tv3 tr3,Inv w X ([.blk b1 (.cells #[.int .i64 k,.int .i64 n,.string s,.slice (some ⟨c1,o1,none⟩) ks.length cap1] ab),.blk b2 (.cells #[.int .i64 k',.int .i64 n',.string s',.slice (some ⟨c2,o2,none⟩) ks'.length cap2] ab)]++cL sb mb es3 ck3 tv3 tr3) S w_:=⟨es2,ck2,tv2,tr2,hI⟩
   exact ⟨aA,az,aB,ax,aD,aC,aw,aJ,aN,aR,aq,fun _=>rfl,aH,⟨hI0,hI1,es3,ck3,tv3,tr3,hI⟩⟩
  ·intro D aS j0 qi pY qK qA fB fq fC fA fw fl fy fm gU w_
   rintro ⟨aA,az,aB,ax,aD,aC,aw,aJ,aN,aR,aq,au,aH,⟨hI0,hI1,es3,ck3,tv3,tr3,hI⟩⟩
   obtain rfl:=au j0
   refine cN ?_
   exact ⟨aA,az,aB,ax,aD,aC,aw,aJ,aN,aR,aq,au,fun _=>rfl,⟨hI0,hI1,es3,ck3,tv3,tr3,hI⟩⟩
  intro D jV gw fg jA g7 gc fj ft fL fX fM fP fY qi pY qK qA fB fq fC fA fw fl fy fm gU w_
  rintro ⟨aA,az,aB,ax,aD,aC,aw,aJ,aN,aR,aq,au,aH,⟨hI0,hI1,es3,ck3,tv3,tr3,hI⟩⟩
  obtain rfl:=aH jV
  obtain rfl:=au gw
  obtain rfl:=aq fg
  obtain rfl:=aR jA
  obtain rfl:=aN g7
  obtain rfl:=aJ gc
  obtain rfl:=aw fj
  obtain rfl:=aC ft
  obtain rfl:=aD fL
  obtain rfl:=ax fX
  obtain rfl:=aB fM
  obtain rfl:=az fP
  obtain rfl:=aA fY
  clear aA az aB ax aD aC aw aJ aN aR aq au aH
  obtain ⟨es2,ck2,tv2,tr2,hm2,htr2,hI⟩:=hI1 gw
  clear hI0 hI1
  refine a7 (fun hne=>?_) (fun he'=>?_)
  ·simp only [Bool.not_eq_true'] at hne
   obtain ⟨rfl,rfl⟩:=hno hne
   exact ⟨_,_,_,rfl,hI.sub (List.sublist_append_right [_,_] _),Ext.refl _ _ _,rfl,rfl,es2,ck2,tv2,tr2,rfl,hm2,htr2⟩
  ·simp only [Bool.not_eq_false'] at he'
   refine bR (by omega) ?_
   exact ⟨⟨j+1,st2,es2,ck2,tv2,tr2,hj1,rfl,hyes he',hm2,htr2,hI⟩,by simp [intOf]; omega⟩
 ·have:j=ks.length:=by omega
  subst this
  rw [List.drop_length,hle2,List.drop_length] at hrel
  obtain ⟨rfl,rfl⟩:=hrel.done
  exact ⟨_,_,_,rfl,hI.sub (List.sublist_append_right [_,_] _),Ext.refl _ _ _,rfl,rfl,es1,ck1,tv1,tr1,rfl,hkm1,htr1⟩
theorem AN {N:Nat} (hN:N<=1000000) {st st':bu} {a b:T} {r:Bool} (hg:Good N st) (hj:okJ N (.one a b)) (hu:Uni st (.one a b) r st'):UI st a b r st':=
 Uni.calls (N:=N) (Call:=UI) (fun _ _ _ _ _ _ _ hg hj hwa hwb he=>Cm hN hg hj hwa hwb he) hu hg hj
end

end Go.Proofs.YtnmnddpdikghhaaGreat

/- impl: resolved terms, if they are small. -/
namespace Go.Proofs.YtnmnddpdikghhaaGreat
open Go Go.RowKit
theorem KnownM.up {S S':ay} {es:Array MapEntry} {st:bu} (h:KnownM S es st) (hs:Sle S S'):KnownM S' es st:=
 ⟨fun e he=>by
  obtain ⟨n,t,cs,h1,h2,h3,h4⟩:=h.1 e he
  exact ⟨n,t,cs,h1,h2,h3.mono hs,h4⟩,h.2⟩
theorem StS.up {S S':ay} {sb:Nat} {st:bu} (h:StS S S sb st) (hs:Sle S S'):StS S' S' sb st:=by
 obtain ⟨mb,tv,es,ck,E,h1,h2,h3⟩:=h
 exact ⟨mb,tv,es,ck,E,hs _ _ h1,hs _ _ h2,h3.up hs⟩
def okR (u:T) (deep count:Int):Bool:=decide (count+dQ u<=120) && nU u (31 - deep)
def RC (st:bu) (sb:Nat) (t u:T):Prop:=∀ (S:ay) (cs:List Value) (cb:Nat) (deep count:Int),RdT S cs t->StS S S sb st->1<=deep->deep<=1000000->0<=count->count<=1000000->
 Tri Tryz.prog oT [.pointer (some ⟨sb,0,none⟩),.agg cs.toArray,.int .i64 deep,.pointer (some ⟨cb,0,none⟩)] [.blk cb (.cells #[.int .i64 count] dw)] S fun q I' S'=>
  ∃ (cs':List Value) (c':Int),q=.tuple #[.agg cs'.toArray,.bool (okR u deep count)]/\I'=[.blk cb (.cells #[.int .i64 c'] dw)]/\cs'.length=4/\(∀ x∈cs',x.oneCell'=true)/\(okR u deep count=true->c'=count+dQ u/\RdT S' cs' u)
section
attribute [local irreducible] Run CondV ai a4
theorem zG {N:Nat} {st:bu} {sb:Nat} {t v:T} {us:List T} (hg:Good N st) (hwv:dy st t v) (hot:okU N t/\wT t<=1048576) (hlu:us.length=v.kids.length)
  (hk:∀ i (h:i<us.length) (h':i<v.kids.length),RC st sb v.kids[i] us[i]):RC st sb t (.mk v.kind v.n v.name us):=by
 intro S cs cb deep count h hst hd0 hd1 hc0 hc1 w hI
 have hlc:=h.length
 have hov:=eG hg hwv hot
 obtain ⟨X,hX⟩:∃ X,X=bS [Item.blk cb (.cells #[.int .i64 count] dw)]:=⟨_,rfl⟩
 rw [<- hX] at hI ⊢
 have hcu:=dS us
 have hokd:okR (.mk v.kind v.n v.name us) deep count=(decide (count+(1+cZ us)<=120) && (if 31 - deep<1 then false else Ji us (31 - deep - 1))):=by
  rw [okR,kA,nU]
 refine kZ ?_
 unfold ja
 refine bN hI fun b5 w' hI=>?_
 refine a9 hI bt fun b8 w' hI=>?_
 have hI:Inv w X ([.blk b5 (.cells cs.toArray ab),.blk b8 (.cells #[.int .i64 0,.int .i64 0,.string ⟨#[]⟩,.slice none 0 0] ab)]++[.blk cb (.cells #[.int .i64 count] dw)]) S w':=hI.perm (List.perm_append_comm (l₁:=[_,_]) (l₂:=[_]))
 refine aO hI 0 ag rfl (by simpa using hlc) ?_
 refine Run.call0 gT gQ hI (jw hg hwv hot.1 hst h) fun v' I' S' w'=>?_
 rintro ⟨eS,rfl,cs',rfl,hcs'⟩ _ hI
 rw [eS] at hI
 clear eS
 refine aM hI 0 rfl ag (by simpa using hcs'.length) (by simpa using hlc) (by simpa using hcs'.one) fun w' hI=>?_
 obtain ⟨kv,rfl,hi1,hi2,hs,hks⟩:=RdT.iff.1 hcs'
 have hI:Inv w X [.blk b5 (.cells #[.int .i64 v.kind,.int .i64 v.n,.string v.name,kv] ab),.blk b8 (.cells #[.int .i64 0,.int .i64 0,.string ⟨#[]⟩,.slice none 0 0] ab),.blk cb (.cells #[.int .i64 count] dw)] S w':=hI
 have hlen:=hks.le
 have hkl:v.kids.length<=1048576:=by
  have:=hov.2
  cases v
  simp only [wT] at this
  simp only [T.kids]
  omega
 refine cG ?_
 refine bB hI 2 bg rfl rfl ?_
 refine bR (by omega) ?_
 refine cG ?_
 refine ei hI 2 (n:=1) rfl (by decide +kernel) rfl (by simp) (by simp [Value.cells,Value.oneCell']) fun w' hI=>?_
 have hI:Inv w X [.blk b5 (.cells #[.int .i64 v.kind,.int .i64 v.n,.string v.name,kv] ab),.blk b8 (.cells #[.int .i64 0,.int .i64 0,.string ⟨#[]⟩,.slice none 0 0] ab),.blk cb (.cells #[.int .i64 (count+1)] dw)] S w':=hI
 refine ⟨fun q w'=>q=.bool (decide (120<count+1 ∨ 30<deep))/\Inv w X [.blk b5 (.cells #[.int .i64 v.kind,.int .i64 v.n,.string v.name,kv] ab),.blk b8 (.cells #[.int .i64 0,.int .i64 0,.string ⟨#[]⟩,.slice none 0 0] ab),.blk cb (.cells #[.int .i64 (count+1)] dw)] S w',?_,?_⟩
 ·refine cG ?_
  refine bB hI 2 bg rfl rfl ?_
  refine ff ?_
  by_cases e1:120<count+1
  ·rw [decide_eq_true e1]
   repeat (first|refine ae ?_|refine ah (by decide) ?_|refine ad ?_|refine al ?_|refine aj ?_)
   exact ⟨by rw [decide_eq_true (Or.inl e1)],hI⟩
  ·rw [decide_eq_false e1]
   repeat (first|refine ae ?_|refine ah (by decide) ?_|refine ad ?_|refine al ?_|refine aj ?_)
   refine ff ?_
   repeat (first|refine ae ?_|refine ah (by decide) ?_|refine ad ?_|refine al ?_|refine aj ?_)
   refine ⟨?_,hI⟩
   congr 1
   rw [Bool.eq_iff_iff,decide_eq_true_eq,decide_eq_true_eq]
   omega
 intro q _ _ _ _ _ _ _ w'
 rintro ⟨rfl,hI⟩
 refine bF (fun hbad=>?_) (fun hgood=>?_)
 ·have hno:okR (.mk v.kind v.n v.name us) deep count=false:=by
   rw [hokd]
   rcases hbad with e|e
   ·rw [decide_eq_false (by omega),Bool.false_and]
   ·rw [if_pos (by omega),Bool.and_false]
  refine l0 ?_
  refine aM hI 1 rfl ag rfl rfl lw fun w' hI=>?_
  refine bA hI 1 ag rfl rfl ?_
  exact ⟨_,_,_,rfl,hI.pick [false,false,true],Ext.refl _ _ _,[.int .i64 0,.int .i64 0,.string ⟨#[]⟩,.slice none 0 0],count+1,by rw [hno],rfl,rfl,lw,fun h=>by rw [hno] at h; cases h⟩
 have hg1:count+1<=120:=by omega
 have hg2:deep<=30:=by omega
 rw [if_neg (by omega)] at hokd
 refine ar hI 0 rfl bv bg rfl ?_
 refine ar hI 0 rfl bn bg rfl ?_
 refine ar hI 0 rfl bH bz rfl ?_
 refine g6 ?_
 refine a9 hI bt fun b10 w' hI=>?_
 have hI:Inv w X [.blk b5 (.cells #[.int .i64 v.kind,.int .i64 v.n,.string v.name,kv] ab),.blk b8 (.cells #[.int .i64 0,.int .i64 0,.string ⟨#[]⟩,.slice none 0 0] ab),.blk b10 _,.blk cb (.cells #[.int .i64 (count+1)] dw)] S w':=hI.perm (((List.perm_append_comm (l₁:=[_]) (l₂:=[_])).cons _).cons _)
 refine aM hI 2 rfl ag rfl rfl (by simp [Value.oneCell']) fun w' hI=>?_
 have hI:=hI.rowNil ab 4
 have hI:Inv w X [.blk b5 (.cells #[.int .i64 v.kind,.int .i64 v.n,.string v.name,kv] ab),.blk b8 (.cells #[.int .i64 0,.int .i64 0,.string ⟨#[]⟩,.slice none 0 0] ab),.blk b10 (.cells #[.int .i64 v.kind,.int .i64 v.n,.string v.name,.slice none 0 0] ab),a5 (.slice none 0 0) ab 4 [],.blk cb (.cells #[.int .i64 (count+1)] dw)] S w':=hI.perm ((((List.perm_append_comm (l₁:=[_]) (l₂:=[_])).cons _).cons _).cons _)
 refine ar hI 0 rfl aP aL rfl ?_
 refine bm hks aG ?_
 refine ⟨fun i w'=>∃ (j:Nat) (c:Int) (kvc:Value) (css:List (List Value)) (S1:ay),j<=us.length/\i=.int .i64 j/\Ext w.heap.size X S S1/\c=count+1+cZ (us.take j)/\c<=120/\(∀ k (_:k<us.length),k<j->nU us[k] (31 - deep - 1)=true)/\Rows 4 (RdT S1) css (us.take j)/\
   Inv w X [.blk b5 (.cells #[.int .i64 v.kind,.int .i64 v.n,.string v.name,kv] ab),.blk b8 (.cells #[.int .i64 0,.int .i64 0,.string ⟨#[]⟩,.slice none 0 0] ab),.blk b10 (.cells #[.int .i64 v.kind,.int .i64 v.n,.string v.name,kvc] ab),a5 kvc ab 4 css,.blk cb (.cells #[.int .i64 c] dw)] S1 w',
  fun i _=>us.length - (intOf i).toNat,⟨0,count+1,_,[],S,Nat.zero_le _,rfl,Ext.refl _ _ _,by simp [cZ],hg1,fun k _ h=>by omega,Rows.nil _ _,hI⟩,?_⟩
 intro t42 _ _ _ _ _ _ _ _ _ _ _ _ _ _ _ _ _ _ _ _ _ _ _ _ _ _ w'
 rintro ⟨j,c,kvc,css,S1,hj,rfl,hE,hc,hc120,hdep,hR,hI⟩
 have hpos:=dS (us.take j)
 refine cF ?_
 refine bF (fun hji=>?_) (fun hji=>?_)
 ·have hj1:j<us.length:=by omega
  have hj2:j<v.kids.length:=by omega
  have hcl:=hR.hc
  rw [List.length_take] at hcl
  refine dN hI (hks.monoT hE.1) aG ag hj2 (fun _ _=>RdT.length) fun cs0 hcs0=>?_
  have hlc0:=hcs0.length
  refine a9 hI bt fun b12 w' hI=>?_
  have hI:=hI.perm (M:=.blk b12 _::[.blk b5 (.cells #[.int .i64 v.kind,.int .i64 v.n,.string v.name,kv] ab),.blk b8 (.cells #[.int .i64 0,.int .i64 0,.string ⟨#[]⟩,.slice none 0 0] ab),.blk b10 (.cells #[.int .i64 v.kind,.int .i64 v.n,.string v.name,kvc] ab),a5 kvc ab 4 css,.blk cb (.cells #[.int .i64 c] dw)]) (List.perm_append_comm (l₁:=[_]))
  refine aM hI 0 rfl ag (by simpa using hlc0) rfl (by simpa using hcs0.one) fun w' hI=>?_
  refine aO hI 0 ag rfl (by simpa using hlc0) ?_
  refine bR (by omega) ?_
  have hI:Inv w X ([.blk b5 (.cells #[.int .i64 v.kind,.int .i64 v.n,.string v.name,kv] ab),.blk b8 (.cells #[.int .i64 0,.int .i64 0,.string ⟨#[]⟩,.slice none 0 0] ab),.blk b10 (.cells #[.int .i64 v.kind,.int .i64 v.n,.string v.name,kvc] ab),a5 kvc ab 4 css]++[.blk cb (.cells #[.int .i64 c] dw)]) S1 w':=hI.pick [false,true,true,true,true,true]
  refine Run.callE i4 i7 hI (hk j hj1 hj2 S1 cs0 cb (deep+1) c hcs0 (hst.up hE.1) (by omega) (by omega) (by omega) (by omega)) fun v' I' S2 w'=>?_
  rintro ⟨cs2,c2,rfl,rfl,hl4,ho4,hrd⟩ hE2 hI
  refine aT rfl ?_
  refine aT rfl ?_
  refine a9 hI bt fun b13 w' hI=>?_
  have hI:=hI.perm (M:=.blk b13 _::[.blk b5 (.cells #[.int .i64 v.kind,.int .i64 v.n,.string v.name,kv] ab),.blk b8 (.cells #[.int .i64 0,.int .i64 0,.string ⟨#[]⟩,.slice none 0 0] ab),.blk b10 (.cells #[.int .i64 v.kind,.int .i64 v.n,.string v.name,kvc] ab),a5 kvc ab 4 css,.blk cb (.cells #[.int .i64 c2] dw)]) (List.perm_append_comm (l₁:=[_]))
  refine aM hI 0 rfl ag (by simpa using hl4) rfl (by simpa using ho4) fun w' hI=>?_
  refine cN ?_
  have hct:=Bq us j hj1
  have hcle:=s5 us (j+1)
  refine a7 (fun hb=>?_) (fun hb=>?_)
  ·have hb':okR us[j] (deep+1) c=false:=by simpa using hb
   have hno:okR (.mk v.kind v.n v.name us) deep count=false:=by
    rw [hokd]
    rw [okR,Bool.and_eq_false_iff] at hb'
    rcases hb' with e|e
    ·have e:=of_decide_eq_false e
     rw [decide_eq_false (by omega),Bool.false_and]
    ·have:Ji us (31 - deep - 1)=false:=by
      rw [r8,List.all_eq_false]
      exact ⟨us[j],List.getElem_mem hj1,by rw [show 31 - deep - 1=31 - (deep+1) by omega,e]; decide⟩
     rw [this,Bool.and_false]
   refine l0 ?_
   have hI:Inv w X [.blk b13 (.cells cs2.toArray ab),.blk b5 (.cells #[.int .i64 v.kind,.int .i64 v.n,.string v.name,kv] ab),.blk b8 (.cells #[.int .i64 0,.int .i64 0,.string ⟨#[]⟩,.slice none 0 0] ab),.blk b10 (.cells #[.int .i64 v.kind,.int .i64 v.n,.string v.name,kvc] ab),a5 kvc ab 4 css,.blk cb (.cells #[.int .i64 c2] dw)] S2 w':=hI
   refine aM hI 2 rfl ag rfl rfl lw fun w' hI=>?_
   refine bA hI 2 ag rfl rfl ?_
   exact ⟨_,_,_,rfl,hI.pick [false,false,false,false,false,true],hE.trans hE2,[.int .i64 0,.int .i64 0,.string ⟨#[]⟩,.slice none 0 0],c2,by rw [hno],rfl,rfl,lw,fun h=>by rw [hno] at h; cases h⟩
  ·have hb':okR us[j] (deep+1) c=true:=by simpa using hb
   obtain ⟨hc2,hR2⟩:=hrd hb'
   rw [okR,Bool.and_eq_true,decide_eq_true_eq] at hb'
   refine ar (b:=b10) (c:=#[.int .i64 v.kind,.int .i64 v.n,.string v.name,kvc]) hI 3 rfl aP aL rfl ?_
   refine aO hI 0 ag rfl (by simpa using hl4) ?_
   refine eL hI 4 cs2 bC (by omega) (by omega) rfl hl4 ho4 (by omega) (by omega) fun kvc2 w' hI=>?_
   have hkv2:=l5 (hI.its (a5 kvc2 ab 4 (css++[cs2])) (by simp))
   refine eM (b:=b10) (c:=#[.int .i64 v.kind,.int .i64 v.n,.string v.name,kvc]) hI 3 rfl aP aL rfl hkv2.1 hkv2.2 fun w' hI=>?_
   have hI:Inv w X [.blk b5 (.cells #[.int .i64 v.kind,.int .i64 v.n,.string v.name,kv] ab),.blk b8 (.cells #[.int .i64 0,.int .i64 0,.string ⟨#[]⟩,.slice none 0 0] ab),.blk b10 (.cells #[.int .i64 v.kind,.int .i64 v.n,.string v.name,kvc2] ab),a5 kvc2 ab 4 (css++[cs2]),.blk cb (.cells #[.int .i64 c2] dw)] S2 w':=hI.pick [false,true,true,true,true,true]
   refine bR (by omega) ?_
   refine ⟨⟨j+1,c2,kvc2,css++[cs2],S2,hj1,rfl,hE.trans hE2,by omega,by omega,fun k hk2 hkj=>?_,?_,hI⟩,by simp [intOf]; omega⟩
   ·by_cases e:k=j
    ·subst e
     rw [show 31 - deep - 1=31 - (deep+1) by omega]
     exact hb'.2
    ·exact hdep k hk2 (by omega)
   ·rw [List.take_succ_eq_append_getElem hj1]
    exact (hR.monoR fun _ _ h=>RdT.mono hE2.1 h).snoc hR2 hl4
 ·have hje:j=us.length:=by omega
  subst hje
  rw [List.take_length] at hR hc
  have hyes:okR (.mk v.kind v.n v.name us) deep count=true:=by
   rw [hokd,decide_eq_true (by omega),Bool.true_and,r8,List.all_eq_true]
   intro x hx
   obtain ⟨k,hk2,rfl⟩:=List.mem_iff_getElem.1 hx
   exact hdep k hk2 hk2
  refine aO (b:=b10) (c:=#[.int .i64 v.kind,.int .i64 v.n,.string v.name,kvc]) hI 2 ag rfl rfl ?_
  have hkv2:=l5 (hI.its (a5 kvc ab 4 css) (by simp))
  have hone:∀ x∈([.int .i64 v.kind,.int .i64 v.n,.string v.name,kvc]:List Value),x.oneCell'=true:=by
   intro x hx
   simp at hx
   rcases hx with rfl|rfl|rfl|rfl <;> first|rfl|exact hkv2.2
  refine aM hI 1 rfl ag rfl rfl hone fun w' hI=>?_
  refine bA (c:=#[.int .i64 v.kind,.int .i64 v.n,.string v.name,kvc]) hI 1 ag rfl rfl ?_
  have hI:Inv w X ([.blk cb (.cells #[.int .i64 c] dw)]++[a5 kvc ab 4 css]) S1 w':=(hI.pick [false,false,false,true,true]).perm (List.Perm.swap ..)
  obtain ⟨S3,hE3,hrd,hI⟩:=hI.lendExt
  have hrr:=RowRd.rows (hR.monoR fun _ _ h=>RdT.mono hE3.1 h) hrd
  exact ⟨_,_,_,rfl,hI,hE.trans hE3,[.int .i64 v.kind,.int .i64 v.n,.string v.name,kvc],c,by rw [hyes],rfl,rfl,hone,fun _=>⟨by rw [kA]; omega,RdT.iff.2 ⟨kvc,rfl,hi1,hi2,hs,hrr⟩⟩⟩
theorem wW {N:Nat} {st:bu} (sb:Nat) (hg:Good N st) {j:Jg} (hr:Res st j):match j with
  | .one t u=>(okU N t/\wT t<=1048576)->RC st sb t u
  | .list ts us=>(∀ t∈ts,okU N t/\wT t<=1048576)->us.length=ts.length/\∀ i (h:i<us.length) (h':i<ts.length),RC st sb ts[i] us[i]:=by
 induction hr with
 | one hw _ ih=>
  intro ho
  have h1:=ih (ky (eG hg hw ho))
  exact zG hg hw ho h1.1 h1.2
 | nil=>exact fun _=>⟨rfl,fun i h _=>by simp at h⟩
 | cons _ _ ih1 ih2=>
  intro ho
  obtain ⟨h1,h2⟩:=ih2 fun t ht=>ho t (List.mem_cons_of_mem _ ht)
  refine ⟨by simp [h1],fun i h h'=>?_⟩
  cases i with
  | zero=>exact ih1 (ho _ (List.mem_cons_self ..))
  | succ i=>exact h2 i (by simpa using h) (by simpa using h')
theorem Ae {N:Nat} {st:bu} (hg:Good N st) {t u:T} (hr:Res st (.one t u)) (ho:okU N t/\wT t<=1048576) {S:ay} {cs:List Value} {sb:Nat} (h:RdT S cs t) (hst:StS S S sb st) :
  Tri Tryz.prog sn [.pointer (some ⟨sb,0,none⟩),.agg cs.toArray] [] S fun q I' S'=>I'=[]/\∃ cs':List Value,cs'.length=4/\(∀ x∈cs',x.oneCell'=true)/\q=.tuple #[.agg cs'.toArray,.bool (dO u)]/\(dO u=true->RdT S' cs' u):=by
 intro w hI
 have hlc:=h.length
 have hI:Inv w [] [] S w:=hI
 have hrc:RC st sb t u:=wW sb hg hr ho
 have e:okR u 1 0=dO u:=by rw [okR,dO,Int.zero_add]; rfl
 refine mM ?_
 unfold jM
 refine bN hI fun b3 w' hI=>?_
 refine a9 hI bt fun b4 w' hI=>?_
 have hz:iJ Tryz.prog dw=some (.int .i64 0):=by kernel_rfl
 refine a9 hI hz fun b6 w' hI=>?_
 refine ei hI 2 (n:=1) rfl (by decide +kernel) rfl (by simp [Value.cells]) (by simp [Value.cells,Value.oneCell']) fun w' hI=>?_
 have hI:Inv w [] ([.blk b3 (.cells cs.toArray ab),.blk b4 (.cells #[.int .i64 0,.int .i64 0,.string ⟨#[]⟩,.slice none 0 0] ab)]++[.blk b6 (.cells #[.int .i64 0] dw)]) S w':=hI
 refine aO hI 0 ag rfl (by simpa using hlc) ?_
 refine Run.callE i4 i7 hI (hrc S cs b6 1 0 h hst (by omega) (by omega) (by omega) (by omega)) fun v' I' S2 w'=>?_
 rintro ⟨cs2,c2,rfl,rfl,hl4,ho4,hrd⟩ hE2 hI
 rw [e] at hrd ⊢
 refine aT rfl ?_
 refine aT rfl ?_
 have hI:Inv w [] [.blk b3 (.cells cs.toArray ab),.blk b4 (.cells #[.int .i64 0,.int .i64 0,.string ⟨#[]⟩,.slice none 0 0] ab),.blk b6 (.cells #[.int .i64 c2] dw)] S2 w':=hI
 refine aM hI 1 rfl ag (by simpa using hl4) rfl (by simpa using ho4) fun w' hI=>?_
 refine bA hI 1 ag rfl (by simpa using hl4) ?_
 exact ⟨_,_,_,rfl,hI.nil,hE2,rfl,cs2,hl4,ho4,rfl,fun h=>(hrd h).2⟩
end

end Go.Proofs.YtnmnddpdikghhaaGreat

/- The standard order of terms: a total order on well-formed terms. -/
namespace Go.Proofs.YtnmnddpdikghhaaGreat
open Go Go.RowKit

theorem y9:∀ (a b c:List UInt8),Op.bytesLess a b=true->Op.bytesLess b c=true->Op.bytesLess a c=true
 | _,[],_,h,_=>by simp [Op.bytesLess] at h
 | _,_::_,[],_,h=>by simp [Op.bytesLess] at h
 | [],_::_,_::_,_,_=>by simp [Op.bytesLess]
 | x::a,y::b,z::c,h,h'=>by
  simp only [Op.bytesLess,Bool.or_eq_true,decide_eq_true_eq,Bool.and_eq_true,beq_iff_eq] at h h' ⊢
  rcases h with h|⟨rfl,h⟩
  ·rcases h' with h'|⟨rfl,h'⟩
   ·left; exact UInt8.lt_trans h h'
   ·left; exact h
  ·rcases h' with h'|⟨rfl,h'⟩
   ·left; exact h'
   ·right; exact ⟨rfl,y9 a b c h h'⟩
theorem Bi:∀ a:List UInt8,Op.bytesLess a a=false
 | []=>by simp [Op.bytesLess]
 | x::a=>by
  simp only [Op.bytesLess,Bi a,Bool.and_false,Bool.or_false,decide_eq_false_iff_not]
  exact UInt8.lt_irrefl x
theorem Dy:∀ a b:List UInt8,a≠b->Op.bytesLess a b=true ∨ Op.bytesLess b a=true
 | [],[],h=>absurd rfl h
 | [],_::_,_=>.inl (by simp [Op.bytesLess])
 | _::_,[],_=>.inr (by simp [Op.bytesLess])
 | x::a,y::b,h=>by
  simp only [Op.bytesLess,Bool.or_eq_true,decide_eq_true_eq,Bool.and_eq_true,beq_iff_eq]
  by_cases e:x=y
  ·subst e
   rcases Dy a b (fun e=>h (by rw [e])) with h1|h1
   ·exact .inl (.inr ⟨rfl,h1⟩)
   ·exact .inr (.inr ⟨rfl,h1⟩)
  ·rcases UInt8.lt_or_lt_of_ne e with h1|h1
   ·exact .inl (.inl h1)
   ·exact .inr (.inl h1)
def bls (a b:ByteArray):Bool:=Op.bytesLess a.toList b.toList
def mD (a b:Int):Int:=if a<b then -1 else if b<a then 1 else 0
def gC (a b:ByteArray):Int:=if bls a b=true then -1 else if bls b a=true then 1 else 0
def rkS (t:T):Int:=if t.kind=3/\0<t.kids.length then 4 else t.kind
def wK (a b:Int):Int:=if a≠0 then a else b
/- the head of a term: all but its kids -/
def hdC (t u:T):Int:=wK (mD (rkS t) (rkS u)) (wK (mD t.n u.n) (wK (mD t.kids.length u.kids.length) (gC t.name u.name)))
mutual
def uc:T->T->Int
 | .mk k n s ks,u=>wK (hdC (.mk k n s ks) u) (ia ks u.kids)
def ia:List T->List T->Int
 | [],[]=>0
 | [],_::_=>-1
 | _::_,[]=>1
 | t::ts,u::us=>wK (uc t u) (ia ts us)
end
theorem jc (a b:Int):(a<b/\mD a b=-1) ∨ (b<a/\mD a b=1) ∨ (a=b/\mD a b=0):=by
 unfold mD
 by_cases h:a<b
 ·exact .inl ⟨h,if_pos h⟩
 ·by_cases h':b<a
  ·exact .inr (.inl ⟨h',by rw [if_neg h,if_pos h']⟩)
  ·exact .inr (.inr ⟨by omega,by rw [if_neg h,if_neg h']⟩)
theorem toList_inj {a b:ByteArray} (h:a.toList=b.toList):a=b:=by
 have:=yH a b
 rw [beq_iff_eq.2 h] at this
 exact of_decide_eq_true this.symm
theorem gP (a b:ByteArray):(bls a b=true/\gC a b=-1) ∨ (bls b a=true/\bls a b=false/\gC a b=1) ∨ (a=b/\gC a b=0):=by
 unfold gC
 cases h:bls a b with
 | true=>exact .inl ⟨rfl,if_pos rfl⟩
 | false=>
  cases h':bls b a with
  | true=>exact .inr (.inl ⟨rfl,rfl,by simp⟩)
  | false=>
   refine .inr (.inr ⟨?_,by simp⟩)
   refine toList_inj (Decidable.byContradiction fun e=>?_)
   rcases Dy _ _ e with h1|h1
   ·rw [bls,h1] at h; cases h
   ·rw [bls,h1] at h'; cases h'
theorem JX {a b:ByteArray} (h:bls a b=true):bls b a=false:=by
 cases h':bls b a with
 | false=>rfl
 | true=>
  have:=y9 _ _ _ h h'
  rw [Bi] at this
  cases this

/- how three comparisons fit -/
structure TC (a b c:Int):Prop where
 lt:a=-1->b=-1->c=-1
 e1:a=0->c=b
 e2:b=0->c=a
theorem TC.lex {a b c a' b' c':Int} (h:TC a b c) (h':TC a' b' c'):TC (wK a a') (wK b b') (wK c c'):=by
 obtain ⟨h1,h2,h3⟩:=h
 obtain ⟨h4,h5,h6⟩:=h'
 unfold wK
 refine ⟨fun x y=>?_,fun x=>?_,fun x=>?_⟩
 ·by_cases ea:a=0
  ·rw [if_neg (by omega)] at x
   by_cases eb:b=0
   ·rw [if_neg (by omega)] at y
    rw [if_neg (by have:=h2 ea; omega)]
    exact h4 x y
   ·rw [if_pos (by omega)] at y
    have:=h2 ea
    rw [if_pos (by omega)]; omega
  ·rw [if_pos (by omega)] at x
   by_cases eb:b=0
   ·have:=h3 eb
    rw [if_pos (by omega)]; omega
   ·rw [if_pos (by omega)] at y
    have:=h1 x y
    rw [if_pos (by omega)]; omega
 ·by_cases ea:a=0
  ·rw [if_neg (by omega)] at x
   rw [h2 ea,h5 x]
  ·rw [if_pos (by omega)] at x; omega
 ·by_cases eb:b=0
  ·rw [if_neg (by omega)] at x
   rw [h3 eb,h6 x]
  ·rw [if_pos (by omega)] at x; omega
theorem TC.zero:TC 0 0 0:=⟨fun h=>by omega,fun _=>rfl,fun _=>rfl⟩
theorem TC.int (a b c:Int):TC (mD a b) (mD b c) (mD a c):=by
 have h1:=jc a b
 have h2:=jc b c
 have h3:=jc a c
 exact ⟨fun _ _=>by omega,fun _=>by omega,fun _=>by omega⟩
theorem TC.str (a b c:ByteArray):TC (gC a b) (gC b c) (gC a c):=by
 refine ⟨fun x y=>?_,fun x=>?_,fun x=>?_⟩
 ·rcases gP a b with h|h|h
  ·rcases gP b c with h'|h'|h'
   ·have:=y9 _ _ _ h.1 h'.1
    unfold gC
    rw [if_pos (show bls a c=true from this)]
   ·omega
   ·omega
  ·omega
  ·omega
 ·rcases gP a b with h|h|h
  ·omega
  ·omega
  ·rw [h.1]
 ·rcases gP b c with h|h|h
  ·omega
  ·omega
  ·rw [h.1]
theorem TC.hd (t u v:T):TC (hdC t u) (hdC u v) (hdC t v):=(TC.int _ _ _).lex ((TC.int _ _ _).lex ((TC.int _ _ _).lex (TC.str _ _ _)))
mutual
theorem TC.term:∀ t u v:T,TC (uc t u) (uc u v) (uc t v)
 | .mk k n s ks,.mk k' n' s' ks',v=>by
  rw [uc,uc,uc]
  exact (TC.hd _ _ _).lex (TC.list ks ks' v.kids)
theorem TC.list:∀ t u v:List T,TC (ia t u) (ia u v) (ia t v)
 | [],[],[]=>by simpa [ia] using TC.zero
 | [],[],_::_=>by rw [ia,ia]; exact ⟨fun h=>by omega,fun _=>rfl,fun h=>by omega⟩
 | [],_::_,[]=>by rw [ia,ia,ia]; exact ⟨fun _ h=>by omega,fun h=>by omega,fun h=>by omega⟩
 | [],_::_,_::_=>by rw [ia,ia]; exact ⟨fun h _=>h,fun h=>by omega,fun h=>rfl⟩
 | _::_,[],[]=>by rw [ia,ia]; exact ⟨fun h _=>h,fun h=>by omega,fun h=>rfl⟩
 | _::_,[],_::_=>by rw [ia,ia]; exact ⟨fun h _=>by omega,fun h=>by omega,fun h=>by omega⟩
 | _::_,_::_,[]=>by rw [ia,ia]; exact ⟨fun _ h=>by omega,fun h=>rfl,fun h=>by omega⟩
 | t::ts,u::us,v::vs=>by
  rw [ia,ia,ia]
  exact (TC.term t u v).lex (TC.list ts us vs)
end
theorem mS (a b:Int):-(wK a b)=wK (-a) (-b):=by
 unfold wK
 by_cases h:a=0
 ·subst h; simp
 ·rw [if_pos h,if_pos (by omega)]
theorem pZ (a b:Int):mD b a=-mD a b:=by
 have:=jc a b
 have:=jc b a
 omega
theorem BT (a b:ByteArray):gC b a=-gC a b:=by
 rcases gP a b with h|h|h
 ·rw [h.2]
  have:=JX h.1
  unfold gC
  rw [this,if_neg (by decide),if_pos h.1]; rfl
 ·rw [h.2.2]
  unfold gC
  rw [if_pos h.1]
 ·rw [h.2]
  obtain rfl:=h.1
  rw [h.2]; rfl
theorem Kx (t u:T):hdC u t=-hdC t u:=by
 rw [hdC,hdC,mS,mS,mS,pZ (rkS t),pZ t.n,pZ t.kids.length,BT t.name]
mutual
theorem BE:∀ t u:T,uc u t=-uc t u
 | .mk k n s ks,.mk k' n' s' ks'=>by
  rw [uc,uc,mS,Kx (.mk k n s ks)]
  congr 1
  exact AV ks ks'
theorem AV:∀ t u:List T,ia u t=-ia t u
 | [],[]=>by simp [ia]
 | [],_::_=>by simp [ia]
 | _::_,[]=>by simp [ia]
 | t::ts,u::us=>by rw [ia,ia,mS,BE t u,AV ts us]
end
theorem Iq (t:T):uc t t=0:=by
 have:=BE t t
 omega
/- facts in order, each once -/
def Sorted:List T->Prop
 | []=>True
 | x::xs=>(∀ y∈xs,uc x y<0)/\Sorted xs
theorem Sorted.nodup:∀ {l:List T},Sorted l->l.Nodup
 | [],_=>List.nodup_nil
 | x::xs,h=>by
  rw [List.nodup_cons]
  refine ⟨fun hx=>?_,Sorted.nodup h.2⟩
  have:=h.1 x hx
  rw [Iq] at this
  omega

end Go.Proofs.YtnmnddpdikghhaaGreat

/- spec.l1Compare. -/
namespace Go.Proofs.YtnmnddpdikghhaaGreat
open Go Go.RowKit
section
variable {P:Program} {w:World} {K:Value->World->Prop}
attribute [local irreducible] Run
end
section
attribute [local irreducible] Run CondV ai a4
end

end Go.Proofs.YtnmnddpdikghhaaGreat

/- spec.l16Put, l16Has. -/
namespace Go.Proofs.YtnmnddpdikghhaaGreat
open Go Go.RowKit
section
attribute [local irreducible] Run CondV ai a4
end

end Go.Proofs.YtnmnddpdikghhaaGreat

/- spec.l16Has, l16Match, l16Full. -/
namespace Go.Proofs.YtnmnddpdikghhaaGreat
open Go Go.RowKit
def HT:T:=.mk 0 0 ⟨#[]⟩ []
theorem RdT.zero (S:ay):RdT S tw HT:=RdT.iff.2 ⟨_,rfl,by simp [inI,T.kind,HT],by simp [inI,T.n,HT],by rw [HT,T.name]; decide +kernel,none,0,rfl,Nat.le_refl _,Nat.zero_le _,.inl rfl⟩
/- what is known, as a row of optional terms -/
def KRel (S:ay) (cs:List Value) (o:Option T):Prop:=cs.length=4/\(o=none->cs=tw)/\∀ t,o=some t->RdT S cs t
theorem KRel.one {S:ay} {cs:List Value} {o:Option T} (h:KRel S cs o):∀ u∈cs,u.oneCell'=true:=by
 cases o with
 | none=>rw [h.2.1 rfl]; simp [tw,Value.oneCell']
 | some t=>exact (h.2.2 t rfl).one
theorem KnownC.rd {S:ay} {kb kp:Nat} {kc:Array Value} {st:bu} {E:TypeId} (hS:S kb=some (.cells kc E)) (h:KnownC S kc st) (hst:st.length=26) (hkp:26<=kp) (hkm:kp<=maxLen):RdSl S 4 (KRel S) (kvn kb kp) st:=by
 refine ⟨some ⟨kb,0,none⟩,kp,by rw [hst],by omega,hkm,.inr ⟨kb,0,kc,E,(0,0),rfl,hS,fun i hi=>?_⟩⟩
 obtain ⟨h1,h2⟩:=h.2 i hi
 rw [Nat.zero_add]
 refine ⟨?_,h1,h2⟩
 have:=h.1
 rw [bJ,List.length_take,List.length_drop,Array.length_toList]
 omega
section
attribute [local irreducible] Run CondV ai a4
theorem KnownC.mono {S S':ay} {kc:Array Value} {st:bu} (h:KnownC S kc st) (hs:Sle S S'):KnownC S' kc st:=
 ⟨h.1,fun i hi=>⟨(h.2 i hi).1,fun t ht=>((h.2 i hi).2 t ht).mono hs⟩⟩
end

end Go.Proofs.YtnmnddpdikghhaaGreat

/- impl.mapVars with a function that only reads: the result is published. -/
namespace Go.Proofs.YtnmnddpdikghhaaGreat
open Go Go.RowKit
mutual
def Au (φ:Int->T):T->T
 | .mk k n s ks=>if k=1 then φ n else .mk k n s (tj φ ks)
def tj (φ:Int->T):List T->List T
 | []=>[]
 | t::ts=>Au φ t::tj φ ts
end
theorem oP (φ:Int->T):∀ ts:List T,tj φ ts=ts.map (Au φ)
 | []=>rfl
 | t::ts=>by rw [tj,oP φ ts]; rfl
theorem G7 (φ:Int->T) (ks:List T) (j:Nat) (h:j<ks.length):tj φ (ks.take (j+1))=tj φ (ks.take j)++[Au φ ks[j]]:=by
 rw [oP,oP,List.take_succ_eq_append_getElem h,List.map_append]; rfl
/- a function from numbers to terms that only reads -/
def Fun (f:FuncId) (cap:List Value) (S:ay) (φ:Int->T):Prop:=∀ S',Sle S S'->∀ n:Int,0<=n->n<=25->∃ cs,RdT S' cs (φ n)/\Pure Tryz.prog f (.int .i64 n::cap) S' (.agg cs.toArray)
theorem Fun.mono {f:FuncId} {cap:List Value} {S S':ay} {φ:Int->T} (h:Fun f cap S φ) (hs:Sle S S'):Fun f cap S' φ:=fun S2 h2=>h S2 (hs.trans h2)
abbrev L5 (t:T):Value->List Item->ay->Prop:=fun v I' S'=>I'=[]/\∃ cs,v=.agg cs.toArray/\RdT S' cs t
section
attribute [local irreducible] Run CondV ai a4
theorem xE {f:FuncId} {fn:Func} (cap:List Value) (φ:Int->T) (hf:Tryz.prog.funcs[f]?=some fn) (hn:(fn.name == "runtime.NumGoroutine" || fn.body.isNone)=false) :
  ∀ (t:T) (S:ay) (cs:List Value),RdT S cs t->okV t->wT t<=1048576->Fun f cap S φ->Tri Tryz.prog nZ [.agg cs.toArray,fv f cap] [] S (L5 (Au φ t)):=by
 refine T.ind fun k n s ks ih S cs h hv hw hφ=>?_
 intro w hI
 obtain ⟨kv,rfl,h1,h2,hs,hks⟩:=RdT.iff.1 h
 simp only [T.name,T.kids,T.kind,T.n] at h1 h2 hs hks ⊢
 simp only [wT] at hw
 rw [okV] at hv
 have hvk:=hv.2
 refine mH ?_
 unfold l6
 refine bN hI fun b2 w' hI=>?_
 refine a9 hI bt fun b4 w' hI=>?_
 refine ar hI 0 rfl bv bg rfl ?_
 refine bO ?_
 rw [Au]
 refine bF (fun hk1=>?_) (fun hk1=>?_)
 ·rw [if_pos hk1]
  obtain ⟨hn0,hn25⟩:=hv.1 hk1
  refine ar hI 0 rfl bn bg rfl ?_
  obtain ⟨ds,hds,hp⟩:=hφ S (Sle.refl S) n hn0 hn25
  refine Run.callVPure hf hn hI hp fun w' hI=>?_
  refine aM hI 1 rfl ag (by simpa using hds.length) rfl (by simpa using hds.one) fun w' hI=>?_
  refine bA hI 1 ag rfl (by simpa using hds.length) ?_
  exact ⟨_,_,_,rfl,hI.pick [false,false],Ext.refl _ _ _,rfl,ds,rfl,hds⟩
 rw [if_neg hk1]
 refine ar hI 0 rfl aP aL rfl ?_
 refine eM hI 0 rfl aP aL rfl rfl rfl fun w' hI=>?_
 refine bm hks aG ?_
 have hI:Inv w [] [.blk b4 (.cells #[.int .i64 0,.int .i64 0,.string ⟨#[]⟩,.slice none 0 0] ab),.blk b2 (.cells #[.int .i64 k,.int .i64 n,.string s,.slice none 0 0] ab)] S w':=hI.perm (List.Perm.swap _ _ _)
 have hI:=hI.rowNil ab 4
 refine ⟨fun i w'=>∃ (j:Nat) (kvc:Value) (css:List (List Value)) (S1:ay),j<=ks.length/\i=.int .i64 j/\Ext w.heap.size [] S S1/\Rows 4 (RdT S1) css (tj φ (ks.take j))/\
   Inv w [] [.blk b4 (.cells #[.int .i64 0,.int .i64 0,.string ⟨#[]⟩,.slice none 0 0] ab),.blk b2 (.cells #[.int .i64 k,.int .i64 n,.string s,kvc] ab),a5 kvc ab 4 css] S1 w',
  fun i _=>ks.length - (intOf i).toNat,⟨0,_,[],S,Nat.zero_le _,rfl,Ext.refl _ _ _,Rows.nil _ _,hI⟩,?_⟩
 intro t20 _ _ _ _ _ _ _ _ _ _ _ _ _ w'
 rintro ⟨j,kvc,css,S1,hj,rfl,hE,hg,hI⟩
 refine cF ?_
 refine bF (fun hji=>?_) (fun hji=>?_)
 ·have hj':j<ks.length:=by omega
  have hjl:(ks.take j).length=j:=by simp; omega
  have hcl:=hg.hc
  rw [oP,List.length_map] at hcl
  have hm:=List.getElem_mem hj'
  have hwm:=gF hm
  refine dN hI (hks.monoT hE.1) aG ag hj' (fun _ _=>RdT.length) fun cs0 hcs0=>?_
  refine a9 hI bt fun b7 w' hI=>?_
  have hI:=hI.perm (M:=.blk b7 _::[.blk b4 (.cells #[.int .i64 0,.int .i64 0,.string ⟨#[]⟩,.slice none 0 0] ab),.blk b2 (.cells #[.int .i64 k,.int .i64 n,.string s,kvc] ab),a5 kvc ab 4 css]) (List.perm_append_comm (l₁:=[_]))
  refine aM hI 0 rfl ag (by simpa using hcs0.length) rfl (by simpa using hcs0.one) fun w' hI=>?_
  refine ⟨fun D fc dx c4 db c7 cB bV cJ w_=>(D 0=true->cJ=.pointer (some ⟨b2,3,none⟩))/\(D 1=true->bV=kvc)/\(D 2=true->cB=.agg cs0.toArray)/\(D 3=true->c7=fv f cap)/\(D 4=true->True)/\(D 5=true->True)/\(D 6=true->True)/\(D 7=true->fc=.pointer (some ⟨b2,3,none⟩))/\(D 8=true->True)/\∃ SN cs7 b8,Ext w.heap.size [] S1 SN/\(D 4=true->db=.agg cs7.toArray/\RdT SN cs7 (Au φ ks[j]))/\(D 5=true->c4=.slice (some ⟨b8,0,none⟩) 1 1)/\(D 5=true->D 4=true)/\(D 6=true->D 5=true)/\(D 8=true->D 6=true)/\(D 8=true->D 1=true)/\Inv w [] (bi (.blk b7 (.cells cs0.toArray ab)) (.blk b4 (.cells #[.int .i64 0,.int .i64 0,.string ⟨#[]⟩,.slice none 0 0] ab)) (.blk b2 (.cells #[.int .i64 k,.int .i64 n,.string s,kvc] ab)) (.blk b2 (.cells #[.int .i64 k,.int .i64 n,.string s,dx] ab)) (a5 kvc ab 4 css) (a5 dx ab 4 (css++[cs7])) [] [] (.blk b8 (.cells cs7.toArray ab)) false (D 5) (D 6) (D 8)) SN w_,⟨af,af,af,af,af,af,af,af,af,⟨S1,[],0,Ext.refl _ _ _,af,af,af,af,af,af,by simpa [bi] using hI.draw⟩⟩,⟨?_,?_,?_,?_,?_,?_,?_,?_,?_,trivial⟩,?_⟩
  ·intro D aS  fc dx c4 db c7 cB bV cJ w_
   rintro ⟨aA,az,aB,ax,aD,aC,aw,aJ,aN,⟨SN,cs7,b8,hN,e7,e8,k8,k9,k11,k1,hI⟩⟩
   refine bj aP ?_
   exact ⟨fun _=>rfl,az,aB,ax,aD,aC,aw,aJ,aN,⟨SN,cs7,b8,hN,e7,e8,k8,k9,k11,k1,hI⟩⟩
  ·intro D aS cA fc dx c4 db c7 cB bV cJ w_
   rintro ⟨aA,az,aB,ax,aD,aC,aw,aJ,aN,⟨SN,cs7,b8,hN,e7,e8,k8,k9,k11,k1,hI⟩⟩
   obtain rfl:=aA cA
   have f11:D 8=false:=Bool.eq_false_iff.2 fun h=>by rw [k1 h] at aS; cases aS
   refine bB (b:=b2) hI 2 (c:=(#[.int .i64 k,.int .i64 n,.string s,kvc])) aL (by rw [f11]; rfl) rfl ?_
   have k1:=fun (_:ao D 1 8=true)=>(rfl:ao D 1 1=true)
   exact ⟨aA,fun _=>rfl,aB,ax,aD,aC,aw,aJ,aN,⟨SN,cs7,b8,hN,e7,e8,k8,k9,k11,k1,hI⟩⟩
  ·intro D aS  fc dx c4 db c7 cB bV cJ w_
   rintro ⟨aA,az,aB,ax,aD,aC,aw,aJ,aN,⟨SN,cs7,b8,hN,e7,e8,k8,k9,k11,k1,hI⟩⟩
   refine aO hI 0 ag rfl (by simpa using hcs0.length) ?_
   exact ⟨aA,az,fun _=>rfl,ax,aD,aC,aw,aJ,aN,⟨SN,cs7,b8,hN,e7,e8,k8,k9,k11,k1,hI⟩⟩
  ·intro D aS  fc dx c4 db c7 cB bV cJ w_
   rintro ⟨aA,az,aB,ax,aD,aC,aw,aJ,aN,⟨SN,cs7,b8,hN,e7,e8,k8,k9,k11,k1,hI⟩⟩
   exact ⟨aA,az,aB,fun _=>rfl,aD,aC,aw,aJ,aN,⟨SN,cs7,b8,hN,e7,e8,k8,k9,k11,k1,hI⟩⟩
  ·intro D aS cM o0 fc dx c4 db c7 cB bV cJ w_
   rintro ⟨aA,az,aB,ax,aD,aC,aw,aJ,aN,⟨SN,cs7,b8,hN,e7,e8,k8,k9,k11,k1,hI⟩⟩
   obtain rfl:=aB cM
   obtain rfl:=ax o0
   have f8:D 5=false:=Bool.eq_false_iff.2 fun h=>by rw [k8 h] at aS; cases aS
   have f9:D 6=false:=Bool.eq_false_iff.2 fun h=>by rw [k9 h] at f8; cases f8
   have f11:D 8=false:=Bool.eq_false_iff.2 fun h=>by rw [k11 h] at f9; cases f9
   rw [f8,f9,f11] at hI
   refine Run.callE (I:=[]) il h8 (by simpa using hI) (ih _ (List.getElem_mem hj') SN cs0 (hcs0.mono hN.1) (xF hvk _ (List.getElem_mem hj')) (by omega) ((hφ.mono hE.1).mono hN.1)) fun v' I' SN w_=>?_
   rintro ⟨rfl,cs7,rfl,hT⟩ hE2 hI
   have hN:=hN.trans hE2
   have e7:ao D 4 4=true->Value.agg cs7.toArray=Value.agg cs7.toArray/\RdT SN cs7 (Au φ ks[j]):=fun _=>⟨rfl,hT⟩
   have k8:=fun (_:ao D 4 5=true)=>(rfl:ao D 4 4=true)
   have hI:Inv w [] (bi (.blk b7 (.cells cs0.toArray ab)) (.blk b4 (.cells #[.int .i64 0,.int .i64 0,.string ⟨#[]⟩,.slice none 0 0] ab)) (.blk b2 (.cells #[.int .i64 k,.int .i64 n,.string s,kvc] ab)) (.blk b2 (.cells #[.int .i64 k,.int .i64 n,.string s,dx] ab)) (a5 kvc ab 4 css) (a5 dx ab 4 (css++[cs7])) [] [] (.blk b8 (.cells cs7.toArray ab)) false (D 5) (D 6) (D 8)) SN w_:=by
    rw [f8,f9,f11]
    simpa [bi] using hI
   exact ⟨aA,az,aB,ax,fun _=>by first|assumption|trivial,aC,aw,aJ,aN,⟨SN,cs7,b8,hN,e7,e8,k8,k9,k11,k1,hI⟩⟩
  ·intro D aS fO fc dx c4 db c7 cB bV cJ w_
   rintro ⟨aA,az,aB,ax,aD,aC,aw,aJ,aN,⟨SN,cs7,b8,hN,e7,e8,k8,k9,k11,k1,hI⟩⟩
   have Dl:=aD fO
   have f9:D 6=false:=Bool.eq_false_iff.2 fun h=>by rw [k9 h] at aS; cases aS
   have f11:D 8=false:=Bool.eq_false_iff.2 fun h=>by rw [k11 h] at f9; cases f9
   obtain ⟨q7,hT⟩:=e7 fO
   subst q7
   rw [aS,f9,f11] at hI
   refine dJ hI bC (by simp [Value.cells,hT.length]) (by omega) (by omega) fun b8 w_ hI=>?_
   have e7:ao D 5 4=true->Value.agg cs7.toArray=Value.agg cs7.toArray/\RdT SN cs7 (Au φ ks[j]):=fun _=>⟨rfl,hT⟩
   have e8:=fun (_:ao D 5 5=true)=>(rfl:Value.slice (some ⟨b8,0,none⟩) 1 1=_)
   have k8:=fun (_:ao D 5 5=true)=>fO
   have k9:=fun (_:ao D 5 6=true)=>(rfl:ao D 5 5=true)
   have hI:Inv w [] (bi (.blk b7 (.cells cs0.toArray ab)) (.blk b4 (.cells #[.int .i64 0,.int .i64 0,.string ⟨#[]⟩,.slice none 0 0] ab)) (.blk b2 (.cells #[.int .i64 k,.int .i64 n,.string s,kvc] ab)) (.blk b2 (.cells #[.int .i64 k,.int .i64 n,.string s,dx] ab)) (a5 kvc ab 4 css) (a5 dx ab 4 (css++[cs7])) [] [] (.blk b8 (.cells cs7.toArray ab)) false true (D 6) (D 8)) SN w_:=by
    rw [f9,f11]
    simpa [bi,Value.cells] using hI
   exact ⟨aA,az,aB,ax,aD,fun _=>by first|assumption|trivial,aw,aJ,aN,⟨SN,cs7,b8,hN,e7,e8,k8,k9,k11,k1,hI⟩⟩
  ·intro D aS dB eF DA fc dx c4 db c7 cB bV cJ w_
   rintro ⟨aA,az,aB,ax,aD,aC,aw,aJ,aN,⟨SN,cs7,b8,hN,e7,e8,k8,k9,k11,k1,hI⟩⟩
   obtain rfl:=az dB
   have zK:=aC eF
   have f11:D 8=false:=Bool.eq_false_iff.2 fun h=>by rw [k11 h] at aS; cases aS
   have q8:=e8 eF
   subst q8
   obtain ⟨_,hT⟩:=e7 DA
   rw [eF,aS,f11] at hI
   have hblk:((bi (.blk b7 (.cells cs0.toArray ab)) (.blk b4 (.cells #[.int .i64 0,.int .i64 0,.string ⟨#[]⟩,.slice none 0 0] ab)) (.blk b2 (.cells #[.int .i64 k,.int .i64 n,.string s,bV] ab)) (.blk b2 (.cells #[.int .i64 k,.int .i64 n,.string s,dx] ab)) (a5 bV ab 4 css) (a5 dx ab 4 (css++[cs7])) [] [] (.blk b8 (.cells cs7.toArray ab)) false true false false))[4]?=some (.blk b8 (.cells cs7.toArray ab)):=rfl
   refine ev hI 3 cs7 bC (by omega) rfl (by rw [hT.length]) (m:=1) (o:=0) ?_ hT.one (by omega) (by omega) fun v' w_ hI=>?_
   ·intro i u hi
    rw [hI.cellL hblk,Nat.zero_add]
    simpa using hi
   rw [eN] at hI
   have k9:=fun (_:ao D 6 6=true)=>eF
   have k11:=fun (_:ao D 6 8=true)=>(rfl:ao D 6 6=true)
   have hI:Inv w [] (bi (.blk b7 (.cells cs0.toArray ab)) (.blk b4 (.cells #[.int .i64 0,.int .i64 0,.string ⟨#[]⟩,.slice none 0 0] ab)) (.blk b2 (.cells #[.int .i64 k,.int .i64 n,.string s,bV] ab)) (.blk b2 (.cells #[.int .i64 k,.int .i64 n,.string s,v'] ab)) (a5 bV ab 4 css) (a5 v' ab 4 (css++[cs7])) [] [] (.blk b8 (.cells cs7.toArray ab)) false (D 5) true (D 8)) SN w_:=by
    rw [eF,f11]
    exact hI
   exact ⟨aA,az,aB,ax,aD,aC,fun _=>by first|assumption|trivial,aJ,aN,⟨SN,cs7,b8,hN,e7,e8,k8,k9,k11,k1,hI⟩⟩
  ·intro D aS cA iz qD xd uq AH zT fc dx c4 db c7 cB bV cJ w_
   rintro ⟨aA,az,aB,ax,aD,aC,aw,aJ,aN,⟨SN,cs7,b8,hN,e7,e8,k8,k9,k11,k1,hI⟩⟩
   refine bj aP ?_
   exact ⟨aA,az,aB,ax,aD,aC,aw,fun _=>rfl,aN,⟨SN,cs7,b8,hN,e7,e8,k8,k9,k11,k1,hI⟩⟩
  ·intro D aS eo iL kK tP i8 uJ uE qF qJ zY fc dx c4 db c7 cB bV cJ w_
   rintro ⟨aA,az,aB,ax,aD,aC,aw,aJ,aN,⟨SN,cs7,b8,hN,e7,e8,k8,k9,k11,k1,hI⟩⟩
   obtain rfl:=aJ eo
   have Fw:=aw iL
   rw [qJ,iL,aS] at hI
   obtain ⟨va,vn,vc,hv9⟩:=Inv.rowSlice hI 3 rfl
   refine ei hI 2 (n:=1) (by rw [hv9]; rfl) (by decide +kernel) rfl (by simp) (by rw [hv9]; simp [Value.cells,Value.oneCell']) fun w_ hI=>?_
   have hcl9:Value.cells dx=#[dx]:=by rw [hv9]; rfl
   rw [hcl9] at hI
   have k1:=fun (_:ao D 8 8=true)=>i8
   have k11:=fun (_:ao D 8 8=true)=>iL
   have hI:Inv w [] (bi (.blk b7 (.cells cs0.toArray ab)) (.blk b4 (.cells #[.int .i64 0,.int .i64 0,.string ⟨#[]⟩,.slice none 0 0] ab)) (.blk b2 (.cells #[.int .i64 k,.int .i64 n,.string s,kvc] ab)) (.blk b2 (.cells #[.int .i64 k,.int .i64 n,.string s,dx] ab)) (a5 kvc ab 4 css) (a5 dx ab 4 (css++[cs7])) [] [] (.blk b8 (.cells cs7.toArray ab)) false (D 5) (D 6) true) SN w_:=by
    rw [qJ,iL]
    exact hI
   exact ⟨aA,az,aB,ax,aD,aC,aw,aJ,fun _=>trivial,⟨SN,cs7,b8,hN,e7,e8,k8,k9,k11,k1,hI⟩⟩
  intro D g7 gc fj ft fL fX fM fP fY fc dx c4 db c7 cB bV cJ w_
  rintro ⟨aA,az,aB,ax,aD,aC,aw,aJ,aN,⟨SN,cs7,b8,hN,e7,e8,k8,k9,k11,k1,hI⟩⟩
  obtain rfl:=aJ gc
  have Fw:=aw fj
  have zK:=aC ft
  have Dl:=aD fL
  obtain rfl:=ax fX
  obtain rfl:=aB fM
  obtain rfl:=az fP
  obtain rfl:=aA fY
  clear aA az aB ax aD aC aw aJ aN
  obtain ⟨_,hT⟩:=e7 fL
  rw [ft,fj,g7] at hI
  refine bR (by omega) ?_
  refine ⟨⟨j+1,dx,css++[cs7],SN,hj',rfl,hE.trans hN,?_,?_⟩,by simp [intOf]; omega⟩
  ·rw [G7 φ ks j hj']
   exact (Rows.monoR hg fun _ _ h=>h.mono hN.1).snoc hT hT.length
  ·refine hI.sub ?_
   simp only [bi]
   exact ((((List.nil_sublist _).cons_cons _).cons_cons _).cons_cons _).cons _
 ·have:j=ks.length:=by omega
  subst this
  rw [List.take_length] at hg
  obtain ⟨va,vn,vc,hvk'⟩:=hI.rowSlice 2 rfl
  have hv1:kvc.oneCell'=true:=by rw [hvk']; rfl
  refine aO hI 1 ag rfl rfl ?_
  refine aM hI 0 rfl ag rfl rfl ?_ fun w' hI=>?_
  ·intro u hu
   have hu':u∈([.int .i64 k,.int .i64 n,.string s,kvc]:List Value):=hu
   simp at hu'
   rcases hu' with rfl|rfl|rfl|rfl <;> first|rfl|exact hv1
  refine bA hI 0 ag rfl rfl ?_
  have hI:Inv w [] ([]++[a5 kvc ab 4 css]) S1 w':=hI.sub (List.sublist_append_right [_,_] _)
  obtain ⟨S2,hE2,hrd,hI⟩:=hI.lendExt
  exact ⟨_,_,_,rfl,hI,hE.trans hE2,rfl,_,rfl,RdT.iff.2 ⟨kvc,rfl,h1,h2,hs,(RowRd.rows hg hrd).mono (Sle.refl _) fun _ _ h=>h.mono hE2.1⟩⟩
end

end Go.Proofs.YtnmnddpdikghhaaGreat
