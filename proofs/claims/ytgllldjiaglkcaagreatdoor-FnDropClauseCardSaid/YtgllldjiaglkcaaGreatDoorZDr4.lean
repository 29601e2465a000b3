/- impl.mapVars with a function that only reads: the result is published. -/
import Derived.Test.YtgllldjiaglkcaaGreatDoorZDr3
import Derived.Test.YtgllldjiaglkcaaGreatDoorZDr1
namespace Go.Proofs.YtgllldjiaglkcaaGreatDoor
section
open Go Go.RowKit
mutual
def Br (φ:Int->T):T->T
 | .mk k n s ks=>if k=1 then φ n else .mk k n s (sX φ ks)
def sX (φ:Int->T):List T->List T
 | []=>[]
 | t::ts=>Br φ t::sX φ ts
end
theorem pL (φ:Int->T):∀ ts:List T,sX φ ts=ts.map (Br φ)
 | []=>rfl
 | t::ts=>by rw [sX,pL φ ts]; rfl
theorem H5 (φ:Int->T) (ks:List T) (j:Nat) (h:j<ks.length):sX φ (ks.take (j+1))=sX φ (ks.take j)++[Br φ ks[j]]:=by
 rw [pL,pL,List.take_succ_eq_append_getElem h,List.map_append]; rfl
def Fun (f:FuncId) (cap:List Value) (S:ad) (φ:Int->T):Prop:=∀ S',Sle S S'->∀ n:Int,0<=n->n<=25->∃ cs,RdT S' cs (φ n)/\Pure Tryz.prog f (.int .i64 n::cap) S' (.agg cs.toArray)
theorem Fun.mono {f:FuncId} {cap:List Value} {S S':ad} {φ:Int->T} (h:Fun f cap S φ) (hs:Sle S S'):Fun f cap S' φ:=fun S2 h2=>h S2 (hs.trans h2)
abbrev QQ (t:T):Value->List Item->ad->Prop:=fun v I' S'=>I'=[]/\∃ cs,v=.agg cs.toArray/\RdT S' cs t
section
attribute [local irreducible] Run CondV ai az
theorem zu {f:FuncId} {fn:Func} (cap:List Value) (φ:Int->T) (hf:Tryz.prog.funcs[f]?=some fn) (hn:(fn.name == "runtime.NumGoroutine" || fn.body.isNone)=false) :
  ∀ (t:T) (S:ad) (cs:List Value),RdT S cs t->okV t->wT t<=1048576->Fun f cap S φ->Tri Tryz.prog oM [.agg cs.toArray,fv f cap] [] S (QQ (Br φ t)):=by
 refine T.ind fun k n s ks ih S cs h hv hw hφ=>?_
 intro w hI
 obtain ⟨kv,rfl,h1,h2,hs,hks⟩:=RdT.iff.1 h
 simp only [T.name,T.kids,T.kind,T.n] at h1 h2 hs hks ⊢
 simp only [wT] at hw
 rw [okV] at hv
 have hvk:=hv.2
 refine iQ.2 ?_
 dsimp only[iQ,aX]
 refine bt hI fun b2 w' hI=>?_
 refine aM hI aU fun b4 w' hI=>?_
 refine ae hI 0 rfl aQ aE rfl ?_
 refine aZ ?_
 rw [Br]
 refine aI (fun hk1=>?_) (fun hk1=>?_)
 ·rw [if_pos hk1]
  obtain ⟨hn0,hn25⟩:=hv.1 hk1
  refine ae hI 0 rfl ba aE rfl ?_
  obtain ⟨ds,hds,hp⟩:=hφ S (Sle.refl S) n hn0 hn25
  refine Run.callVPure hf hn hI hp fun w' hI=>?_
  refine av hI 1 rfl ac (by simpa using hds.length) rfl (by simpa using hds.one) fun w' hI=>?_
  refine bl hI 1 ac rfl (by simpa using hds.length) ?_
  exact ⟨_,_,_,rfl,hI.pick [false,false],Ext.refl _ _ _,rfl,ds,rfl,hds⟩
 rw [if_neg hk1]
 refine ae hI 0 rfl au aj rfl ?_
 refine cn hI 0 rfl au aj rfl rfl rfl fun w' hI=>?_
 refine aG hks ah ?_
 have hI:Inv w [] [.blk b4 (.cells #[.int .i64 0,.int .i64 0,.string ⟨#[]⟩,.slice none 0 0] ab),.blk b2 (.cells #[.int .i64 k,.int .i64 n,.string s,.slice none 0 0] ab)] S w':=hI.perm (List.Perm.swap _ _ _)
 have hI:=hI.rowNil ab 4
 refine ⟨fun i w'=>∃ (j:Nat) (kvc:Value) (css:List (List Value)) (S1:ad),j<=ks.length/\i=.int .i64 j/\Ext w.heap.size [] S S1/\Rows 4 (RdT S1) css (sX φ (ks.take j))/\
   Inv w [] [.blk b4 (.cells #[.int .i64 0,.int .i64 0,.string ⟨#[]⟩,.slice none 0 0] ab),.blk b2 (.cells #[.int .i64 k,.int .i64 n,.string s,kvc] ab),aC kvc ab 4 css] S1 w',
  fun i _=>ks.length - (intOf i).toNat,⟨0,_,[],S,Nat.zero_le _,rfl,Ext.refl _ _ _,Rows.nil _ _,hI⟩,?_⟩
 intro t20 _ _ _ _ _ _ _ _ _ _ _ _ _ w'
 rintro ⟨j,kvc,css,S1,hj,rfl,hE,hg,hI⟩
 refine bI ?_
 refine aI (fun hji=>?_) (fun hji=>?_)
 ·have hj':j<ks.length:=by omega
  have hjl:(ks.take j).length=j:=by simp; omega
  have hcl:=hg.hc
  rw [pL,List.length_map] at hcl
  have hm:=List.getElem_mem hj'
  have hwm:=iv hm
  refine ci hI (hks.monoT hE.1) ah ac hj' (fun _ _=>RdT.length) fun cs0 hcs0=>?_
  refine aM hI aU fun b7 w' hI=>?_
  have hI:=hI.perm (M:=.blk b7 _::[.blk b4 (.cells #[.int .i64 0,.int .i64 0,.string ⟨#[]⟩,.slice none 0 0] ab),.blk b2 (.cells #[.int .i64 k,.int .i64 n,.string s,kvc] ab),aC kvc ab 4 css]) (List.perm_append_comm (l₁:=[_]))
  refine av hI 0 rfl ac (by simpa using hcs0.length) rfl (by simpa using hcs0.one) fun w' hI=>?_
  refine ⟨fun D zx g6 np jo ww nf eV lO w_=>Fx D 0 [lO=.pointer (some ⟨b2,3,none⟩),eV=kvc,nf=.agg cs0.toArray,ww=fv f cap,True,True,True,zx=.pointer (some ⟨b2,3,none⟩),True]/\∃ SN cs7 b8,Ext w.heap.size [] S1 SN/\(D 4=true->jo=.agg cs7.toArray/\RdT SN cs7 (Br φ ks[j]))/\(D 5=true->np=.slice (some ⟨b8,0,none⟩) 1 1)/\(D 5=true->D 4=true)/\(D 6=true->D 5=true)/\(D 8=true->D 6=true)/\(D 8=true->D 1=true)/\Inv w [] (aT (.blk b7 (.cells cs0.toArray ab)) (.blk b4 (.cells #[.int .i64 0,.int .i64 0,.string ⟨#[]⟩,.slice none 0 0] ab)) (.blk b2 (.cells #[.int .i64 k,.int .i64 n,.string s,kvc] ab)) (.blk b2 (.cells #[.int .i64 k,.int .i64 n,.string s,g6] ab)) (aC kvc ab 4 css) (aC g6 ab 4 (css++[cs7])) [] [] (.blk b8 (.cells cs7.toArray ab)) false (D 5) (D 6) (D 8)) SN w_,⟨Fx.nil _ _,⟨S1,[],0,Ext.refl _ _ _,aK,aK,aK,aK,aK,aK,by simpa [aT] using hI.draw⟩⟩,⟨?_,?_,?_,?_,?_,?_,?_,?_,?_,trivial⟩,?_⟩
  all_goals (intro D bx; intros; rename_i zx g6 np jo ww nf eV lO w_ hA_; have hF_:=hA_.1; obtain ⟨⟨cr,cq,ct,cu,cz,cB,bP,cT,dw,_⟩,⟨SN,cs7,b8,hN,e7,e8,k8,k9,k11,k1,hI⟩⟩:=hA_)
  ·refine aB au ?_
   exact ⟨hF_.set 0 rfl,⟨SN,cs7,b8,hN,e7,e8,k8,k9,k11,k1,hI⟩⟩
  ·obtain rfl:=cr ‹_›
   have f11:D 8=false:=Bool.eq_false_iff.2 fun h=>by rw [k1 h] at bx; cases bx
   refine aS (b:=b2) hI 2 (c:=(#[.int .i64 k,.int .i64 n,.string s,kvc])) aj (by rw [f11]; rfl) rfl ?_
   have k1:=fun (_:ar D 1 8=true)=>(rfl:ar D 1 1=true)
   exact ⟨hF_.set 1 rfl,⟨SN,cs7,b8,hN,e7,e8,k8,k9,k11,k1,hI⟩⟩
  ·refine aA hI 0 ac rfl (by simpa using hcs0.length) ?_
   exact ⟨hF_.set 2 rfl,⟨SN,cs7,b8,hN,e7,e8,k8,k9,k11,k1,hI⟩⟩
  ·exact ⟨hF_.set 3 rfl,⟨SN,cs7,b8,hN,e7,e8,k8,k9,k11,k1,hI⟩⟩
  ·obtain rfl:=ct ‹_›
   obtain rfl:=cu ‹_›
   have f8:D 5=false:=Bool.eq_false_iff.2 fun h=>by rw [k8 h] at bx; cases bx
   have f9:D 6=false:=Bool.eq_false_iff.2 fun h=>by rw [k9 h] at f8; cases f8
   have f11:D 8=false:=Bool.eq_false_iff.2 fun h=>by rw [k11 h] at f9; cases f9
   rw [f8,f9,f11] at hI
   refine Run.callE (I:=[]) gn fZ (by simpa using hI) (ih _ (List.getElem_mem hj') SN cs0 (hcs0.mono hN.1) (Fi hvk _ (List.getElem_mem hj')) (by omega) ((hφ.mono hE.1).mono hN.1)) fun v' I' SN w_=>?_
   rintro ⟨rfl,cs7,rfl,hT⟩ hE2 hI
   have hN:=hN.trans hE2
   have e7:ar D 4 4=true->Value.agg cs7.toArray=Value.agg cs7.toArray/\RdT SN cs7 (Br φ ks[j]):=fun _=>⟨rfl,hT⟩
   have k8:=fun (_:ar D 4 5=true)=>(rfl:ar D 4 4=true)
   have hI:Inv w [] (aT (.blk b7 (.cells cs0.toArray ab)) (.blk b4 (.cells #[.int .i64 0,.int .i64 0,.string ⟨#[]⟩,.slice none 0 0] ab)) (.blk b2 (.cells #[.int .i64 k,.int .i64 n,.string s,kvc] ab)) (.blk b2 (.cells #[.int .i64 k,.int .i64 n,.string s,g6] ab)) (aC kvc ab 4 css) (aC g6 ab 4 (css++[cs7])) [] [] (.blk b8 (.cells cs7.toArray ab)) false (D 5) (D 6) (D 8)) SN w_:=by
    rw [f8,f9,f11]
    simpa [aT] using hI
   exact ⟨hF_.set 4 (by first|assumption|trivial),⟨SN,cs7,b8,hN,e7,e8,k8,k9,k11,k1,hI⟩⟩
  ·have FF:=cz ‹_›
   have f9:D 6=false:=Bool.eq_false_iff.2 fun h=>by rw [k9 h] at bx; cases bx
   have f11:D 8=false:=Bool.eq_false_iff.2 fun h=>by rw [k11 h] at f9; cases f9
   obtain ⟨q7,hT⟩:=e7 ‹D 4=true›
   subst q7
   rw [bx,f9,f11] at hI
   refine dD hI bu (by simp [Value.cells,hT.length]) (by omega) (by omega) fun b8 w_ hI=>?_
   have e7:ar D 5 4=true->Value.agg cs7.toArray=Value.agg cs7.toArray/\RdT SN cs7 (Br φ ks[j]):=fun _=>⟨rfl,hT⟩
   have e8:=fun (_:ar D 5 5=true)=>(rfl:Value.slice (some ⟨b8,0,none⟩) 1 1=_)
   have k8:=fun (_:ar D 5 5=true)=>‹D 4=true›
   have k9:=fun (_:ar D 5 6=true)=>(rfl:ar D 5 5=true)
   have hI:Inv w [] (aT (.blk b7 (.cells cs0.toArray ab)) (.blk b4 (.cells #[.int .i64 0,.int .i64 0,.string ⟨#[]⟩,.slice none 0 0] ab)) (.blk b2 (.cells #[.int .i64 k,.int .i64 n,.string s,kvc] ab)) (.blk b2 (.cells #[.int .i64 k,.int .i64 n,.string s,g6] ab)) (aC kvc ab 4 css) (aC g6 ab 4 (css++[cs7])) [] [] (.blk b8 (.cells cs7.toArray ab)) false true (D 6) (D 8)) SN w_:=by
    rw [f9,f11]
    simpa [aT,Value.cells] using hI
   exact ⟨hF_.set 5 (by first|assumption|trivial),⟨SN,cs7,b8,hN,e7,e8,k8,k9,k11,k1,hI⟩⟩
  ·obtain rfl:=cq ‹_›
   have I7:=cB ‹_›
   have f11:D 8=false:=Bool.eq_false_iff.2 fun h=>by rw [k11 h] at bx; cases bx
   have q8:=e8 ‹D 5=true›
   subst q8
   obtain ⟨_,hT⟩:=e7 ‹D 4=true›
   rw [‹D 5=true›,bx,f11] at hI
   have hblk:((aT (.blk b7 (.cells cs0.toArray ab)) (.blk b4 (.cells #[.int .i64 0,.int .i64 0,.string ⟨#[]⟩,.slice none 0 0] ab)) (.blk b2 (.cells #[.int .i64 k,.int .i64 n,.string s,eV] ab)) (.blk b2 (.cells #[.int .i64 k,.int .i64 n,.string s,g6] ab)) (aC eV ab 4 css) (aC g6 ab 4 (css++[cs7])) [] [] (.blk b8 (.cells cs7.toArray ab)) false true false false))[4]?=some (.blk b8 (.cells cs7.toArray ab)):=rfl
   refine dn hI 3 cs7 bu (by omega) rfl (by rw [hT.length]) (m:=1) (o:=0) ?_ hT.one (by omega) (by omega) fun v' w_ hI=>?_
   ·intro i u hi
    rw [hI.cellL hblk,Nat.zero_add]
    simpa using hi
   rw [dP] at hI
   have k9:=fun (_:ar D 6 6=true)=>‹D 5=true›
   have k11:=fun (_:ar D 6 8=true)=>(rfl:ar D 6 6=true)
   have hI:Inv w [] (aT (.blk b7 (.cells cs0.toArray ab)) (.blk b4 (.cells #[.int .i64 0,.int .i64 0,.string ⟨#[]⟩,.slice none 0 0] ab)) (.blk b2 (.cells #[.int .i64 k,.int .i64 n,.string s,eV] ab)) (.blk b2 (.cells #[.int .i64 k,.int .i64 n,.string s,v'] ab)) (aC eV ab 4 css) (aC v' ab 4 (css++[cs7])) [] [] (.blk b8 (.cells cs7.toArray ab)) false (D 5) true (D 8)) SN w_:=by
    rw [‹D 5=true›,f11]
    exact hI
   exact ⟨hF_.set 6 (by first|assumption|trivial),⟨SN,cs7,b8,hN,e7,e8,k8,k9,k11,k1,hI⟩⟩
  ·refine aB au ?_
   exact ⟨hF_.set 7 rfl,⟨SN,cs7,b8,hN,e7,e8,k8,k9,k11,k1,hI⟩⟩
  ·obtain rfl:=cT ‹_›
   have IU:=bP ‹_›
   rw [‹D 5=true›,‹D 6=true›,bx] at hI
   obtain ⟨va,vn,vc,hv9⟩:=Inv.rowSlice hI 3 rfl
   refine cw hI 2 (n:=1) (by rw [hv9]; rfl) (by decide +kernel) rfl (by simp) (by rw [hv9]; simp [Value.cells,Value.oneCell']) fun w_ hI=>?_
   have hcl9:Value.cells g6=#[g6]:=by rw [hv9]; rfl
   rw [hcl9] at hI
   have k1:=fun (_:ar D 8 8=true)=>‹D 1=true›
   have k11:=fun (_:ar D 8 8=true)=>‹D 6=true›
   have hI:Inv w [] (aT (.blk b7 (.cells cs0.toArray ab)) (.blk b4 (.cells #[.int .i64 0,.int .i64 0,.string ⟨#[]⟩,.slice none 0 0] ab)) (.blk b2 (.cells #[.int .i64 k,.int .i64 n,.string s,kvc] ab)) (.blk b2 (.cells #[.int .i64 k,.int .i64 n,.string s,g6] ab)) (aC kvc ab 4 css) (aC g6 ab 4 (css++[cs7])) [] [] (.blk b8 (.cells cs7.toArray ab)) false (D 5) (D 6) true) SN w_:=by
    rw [‹D 5=true›,‹D 6=true›]
    exact hI
   exact ⟨hF_.set 8 trivial,⟨SN,cs7,b8,hN,e7,e8,k8,k9,k11,k1,hI⟩⟩
  obtain ⟨rfl,rfl,rfl,rfl,FF,I7,IU,rfl,_,_⟩:=hF_.all
  have RE:D 4=true:=by assumption
  have Ou:D 5=true:=by assumption
  have KW:D 6=true:=by assumption
  have LZ:D 8=true:=by assumption
  clear hF_ cr cq ct cu cz cB bP cT dw
  obtain ⟨_,hT⟩:=e7 RE
  rw [Ou,KW,LZ] at hI
  refine bq (by omega) ?_
  refine ⟨⟨j+1,g6,css++[cs7],SN,hj',rfl,hE.trans hN,?_,?_⟩,by simp [intOf]; omega⟩
  ·rw [H5 φ ks j hj']
   exact (Rows.monoR hg fun _ _ h=>h.mono hN.1).snoc hT hT.length
  ·refine hI.sub ?_
   simp only [aT]
   exact ((((List.nil_sublist _).cons_cons _).cons_cons _).cons_cons _).cons _
 ·have:j=ks.length:=by omega
  subst this
  rw [List.take_length] at hg
  obtain ⟨va,vn,vc,hvk'⟩:=hI.rowSlice 2 rfl
  have hv1:kvc.oneCell'=true:=by rw [hvk']; rfl
  refine aA hI 1 ac rfl rfl ?_
  refine av hI 0 rfl ac rfl rfl ?_ fun w' hI=>?_
  ·intro u hu
   have hu':u∈([.int .i64 k,.int .i64 n,.string s,kvc]:List Value):=hu
   simp at hu'
   rcases hu' with rfl|rfl|rfl|rfl <;> first|rfl|exact hv1
  refine bl hI 0 ac rfl rfl ?_
  have hI:Inv w [] ([]++[aC kvc ab 4 css]) S1 w':=hI.sub (List.sublist_append_right [_,_] _)
  obtain ⟨S2,hE2,hrd,hI⟩:=hI.lendExt
  exact ⟨_,_,_,rfl,hI,hE.trans hE2,rfl,_,rfl,RdT.iff.2 ⟨kvc,rfl,h1,h2,hs,(RowRd.rows hg hrd).mono (Sle.refl _) fun _ _ h=>h.mono hE2.1⟩⟩
end
end
section
open Go Go.RowKit

def KnownM (S:ad) (es:Array MapEntry) (st:ag):Prop:=
 (∀ e∈es.toList,∃ (n:Nat) (t:T) (cs:List Value),e.key=.int .i64 n/\e.val=.agg cs.toArray/\RdT S cs t/\st[n]?=some (some t))/\(∀ (n:Nat) (t:T),st[n]?=some (some t)->∃ e∈es.toList,e.key=.int .i64 n)/\(es.toList.map (·.key)).Nodup
theorem KnownM.find {S:ad} {es:Array MapEntry} {st:ag} (h:KnownM S es st) (n:Nat) :
  (∃ j v t cs,Instr.findNow (.int .i64) (.int .i64 n) es.toList 0=some (some (j,v))/\v=.agg cs.toArray/\RdT S cs t/\st[n]?=some (some t)) ∨
  ((∀ t,st[n]?≠some (some t))/\Instr.findNow (.int .i64) (.int .i64 n) es.toList 0=some none):=by
 rcases pl (n:=n) es.toList 0 (fun e he=>by obtain ⟨m,_,_,hk,_⟩:=h.1 e he; exact ⟨m,hk⟩) with ⟨j,e,he,hk,hf⟩|⟨hk,hf⟩
 ·obtain ⟨m,t,cs,hk2,hv,hR,hs⟩:=h.1 e he
  rw [hk] at hk2
  simp only [Value.int.injEq,true_and] at hk2
  have:n=m:=by omega
  subst this
  exact .inl ⟨j,e.val,t,cs,hf,hv,hR,hs⟩
 ·refine .inr ⟨fun t ht=>?_,hf⟩
  obtain ⟨e,he,hk2⟩:=h.2.1 n t ht
  exact hk e he hk2
theorem KnownM.push {S:ad} {es:Array MapEntry} {st:ag} (h:KnownM S es st) {n:Nat} (hn:n<st.length) (hno:∀ t,st[n]?≠some (some t)) {cs:List Value} {u:T} (hu:RdT S cs u) (ck:Nat) :
  KnownM S (es.push { key:=.int .i64 n,val:=.agg cs.toArray,born:=ck }) (st.set n (some u)):=by
 refine ⟨fun e he=>?_,fun m t ht=>?_,?_⟩
 ·rw [Array.toList_push] at he
  rcases List.mem_append.1 he with he|he
  ·obtain ⟨m,t,cs',hk,hv,hR,hs⟩:=h.1 e he
   refine ⟨m,t,cs',hk,hv,hR,?_⟩
   have:n≠m:=fun e=>hno t (by rw [e]; exact hs)
   rw [List.getElem?_set_ne this]
   exact hs
  ·simp at he
   subst he
   exact ⟨n,u,cs,rfl,rfl,hu,by rw [List.getElem?_set_self hn]⟩
 ·rw [Array.toList_push]
  by_cases e:n=m
  ·exact ⟨_,List.mem_append_right _ (List.mem_singleton.2 rfl),by rw [e]⟩
  ·rw [List.getElem?_set_ne e] at ht
   obtain ⟨x,hx,hk⟩:=h.2.1 m t ht
   exact ⟨x,List.mem_append_left _ hx,hk⟩
 ·rw [Array.toList_push,List.map_append,List.nodup_append]
  refine ⟨h.2.2,by simp,fun a ha b hb e=>?_⟩
  simp only [List.map_cons,List.map_nil,List.mem_singleton] at hb
  subst hb
  obtain ⟨x,hx,rfl⟩:=List.mem_map.1 ha
  obtain ⟨m,t,cs',hk,_,_,hs⟩:=h.1 x hx
  rw [hk] at e
  simp only [Value.int.injEq,true_and] at e
  have:m=n:=by omega
  subst this
  exact hno t hs
section
attribute [local irreducible] Run CondV ai az
end
end
section
open Go Go.RowKit
section
variable {P:Program} {w w0:World} {X:List Nat} {L:List Item} {S:ad} {K:Value->World->Prop}
attribute [local irreducible] Run CondV ai az
end
section
attribute [local irreducible] Run CondV ai az
end
end
section
open Go Go.RowKit

def st0:ag:=List.replicate 26 none
theorem KnownM.empty (S:ad):KnownM S #[] st0:=by
 refine ⟨by simp,fun n t ht=>?_,by simp⟩
 rw [st0,List.getElem?_replicate] at ht
 split at ht <;> cases ht
theorem DR:∀ {ts:List T},(∀ t∈ts,okV t)->uR ts
 | [],_=>by simp [uR]
 | t::ts,h=>by rw [uR]; exact ⟨h t (List.mem_cons_self ..),DR fun u hu=>h u (List.mem_cons_of_mem _ hu)⟩
theorem JF:∀ {ts:List T},(∀ t∈ts,okK t)->Hm ts
 | [],_=>by simp [Hm]
 | t::ts,h=>by rw [Hm]; exact ⟨h t (List.mem_cons_self ..),JF fun u hu=>h u (List.mem_cons_of_mem _ hu)⟩
section
variable {P:Program} {w w0:World} {X:List Nat} {L:List Item} {S:ad} {K:Value->World->Prop}
attribute [local irreducible] Run CondV ai az
end
section
attribute [local irreducible] Run CondV ai az
end
end
section
open Go Go.RowKit

def OU (y:T):Prop:=cX y=true/\y.kids=[]/\y.kind≠1
def Fct (x:T):Prop:=x.kind=3/\cX x=true/\∀ y∈x.kids,OU y
def Gl (g:T):Prop:=g.kind=3/\cX g=true/\∀ y∈g.kids,cX y=true/\y.kids=[]
def StF (st:ag):Prop:=st.length=26/\∀ t,some t∈st->OU t
def bnd (st:ag) (n:Int):Prop:=∃ t,st[n.toNat]?=some (some t)
theorem G4 {s:ByteArray} (h:iH s=true):s.size<=6:=by
 rw [iH,Bool.or_eq_true] at h
 rcases h with h|h
 ·rw [jh] at h
  simp only [Bool.and_eq_true,decide_eq_true_eq] at h
  exact h.2.2
 ·simp only [List.any_eq_true,decide_eq_true_eq] at h
  obtain ⟨x,hx,rfl⟩:=h
  have:∀ y∈signs,y.size<=6:=by decide +kernel
  exact this x hx
theorem BT {t:T} (h:cX t=true):t.name.size<=6/\t.kids.length<=4:=by
 unfold cX at h
 have he:emptyB.size=0:=by decide +kernel
 by_cases e1:t.kind=1
 ·rw [if_pos e1] at h
  simp only [Bool.and_eq_true,decide_eq_true_eq] at h
  rw [h.2.2.1]; omega
 ·rw [if_neg e1] at h
  by_cases e2:t.kind=2
  ·rw [if_pos e2] at h
   simp only [Bool.and_eq_true,decide_eq_true_eq] at h
   rw [h.2.2.1]; omega
  ·rw [if_neg e2] at h
   by_cases e3:t.kind=3
   ·rw [if_pos e3] at h
    simp only [Bool.and_eq_true,decide_eq_true_eq] at h
    exact ⟨G4 h.2.1,h.2.2⟩
   ·rw [if_neg e3] at h
    cases h
theorem My (t:T):wT t=t.name.size+t.kids.length+wL t.kids:=by cases t; rw [wT]; rfl
theorem JJ (t:T):okV t↔(t.kind=1->0<=t.n/\t.n<=25)/\uR t.kids:=by cases t; rw [okV]; rfl
theorem Jv (t:T):okK t↔t.kind≠0/\Hm t.kids:=by cases t; rw [okK]; rfl
theorem Jx (t:T):okO t↔(((t.kind=1 ∨ t.kind=2)/\t.name=emptyB/\t.kids=[]) ∨ (t.kind=3/\t.n=0))/\II t.kids:=by cases t; rw [okO]; rfl
theorem IZ:∀ {ts:List T},(∀ t∈ts,okO t)->II ts
 | [],_=>by simp [II]
 | t::ts,h=>by rw [II]; exact ⟨h t (List.mem_cons_self ..),IZ fun u hu=>h u (List.mem_cons_of_mem _ hu)⟩
theorem Dq {y:T} (h:cX y=true) (hk:y.kids=[]):okV y/\okK y/\okO y/\wT y<=6:=by
 have h1:=GZ h
 have h2:=FV h
 have h3:=BT h
 refine ⟨(JJ y).2 ⟨h1.1,by rw [hk]; simp [uR]⟩,(Jv y).2 ⟨h1.2,by rw [hk]; simp [Hm]⟩,(Jx y).2 ⟨h2,by rw [hk]; simp [II]⟩,?_⟩
 rw [My,hk]
 simp only [List.length_nil,wL]
 omega
theorem At:∀ (ts:List T) (b:Nat),(∀ t∈ts,wT t<=b)->wL ts<=ts.length * b
 | [],b,_=>by simp [wL]
 | t::ts,b,h=>by
  rw [wL,List.length_cons,Nat.succ_mul]
  have h1:=h t (List.mem_cons_self ..)
  have h2:=At ts b fun u hu=>h u (List.mem_cons_of_mem _ hu)
  omega
theorem node_ok {x:T} (ho:cX x=true) (hk:∀ y∈x.kids,cX y=true/\y.kids=[]):okV x/\okK x/\okO x/\wT x<=34:=by
 have h1:=GZ ho
 have h2:=FV ho
 have h3:=BT ho
 have hl:=fun y hy=>Dq (hk y hy).1 (hk y hy).2
 refine ⟨(JJ x).2 ⟨h1.1,DR fun y hy=>(hl y hy).1⟩,(Jv x).2 ⟨h1.2,JF fun y hy=>(hl y hy).2.1⟩,(Jx x).2 ⟨h2,IZ fun y hy=>(hl y hy).2.2.1⟩,?_⟩
 have h4:=At x.kids 6 fun y hy=>(hl y hy).2.2.2
 have h5:x.kids.length * 6<=4 * 6:=Nat.mul_le_mul_right 6 h3.2
 rw [My]
 omega
theorem Fct.ok {x:T} (h:Fct x):okV x/\okK x/\okO x/\wT x<=34:=node_ok h.2.1 fun y hy=>⟨(h.2.2 y hy).1,(h.2.2 y hy).2.1⟩
theorem Gl.ok {x:T} (h:Gl x):okV x/\okK x/\okO x/\wT x<=34:=node_ok h.2.1 h.2.2
theorem StF.ok {st:ag} (h:StF st):RI st/\stW st:=⟨⟨h.1,fun t ht=>(Dq (h.2 t ht).1 (h.2 t ht).2.1).2.1⟩,fun t ht=>by have:=(Dq (h.2 t ht).1 (h.2 t ht).2.1).2.2.2; omega⟩
def PA (hd:T) (gs:List T) (st:ag):Prop:=∀ y∈hd.kids,y.kind=1->bnd st y.n ∨ ∃ g∈gs,∃ z∈g.kids,z.kind=1/\z.n=y.n
end
section
open Go Go.RowKit
def IsM (S:ad) (v:Value) (r:Bool × ag):Prop:=∃ kb kp kc,v=.tuple #[kvn kb kp,.bool r.1]/\26<=kp/\kp<=maxLen/\S kb=some (.cells kc ab)/\KnownC S kc r.2
def IsKn (S:ad) (v:Value) (st:ag):Prop:=∃ kb kp kc,v=kvn kb kp/\26<=kp/\kp<=maxLen/\S kb=some (.cells kc ab)/\KnownC S kc st
theorem IsM.mono {S S':ad} {v:Value} {r:Bool × ag} (h:IsM S v r) (hs:Sle S S'):IsM S' v r:=by
 obtain ⟨kb,kp,kc,h1,h2,h3,h4,h5⟩:=h
 exact ⟨kb,kp,kc,h1,h2,h3,hs _ _ h4,h5.mono hs⟩
theorem IsKn.mono {S S':ad} {v:Value} {st:ag} (h:IsKn S v st) (hs:Sle S S'):IsKn S' v st:=by
 obtain ⟨kb,kp,kc,h1,h2,h3,h4,h5⟩:=h
 exact ⟨kb,kp,kc,h1,h2,h3,hs _ _ h4,h5.mono hs⟩
theorem IsM.parts {S:ad} {v:Value} {r:Bool × ag} (h:IsM S v r):∃ u,v=.tuple #[u,.bool r.1]/\IsKn S u r.2:=by
 obtain ⟨kb,kp,kc,h1,h2⟩:=h
 exact ⟨_,h1,kb,kp,kc,rfl,h2⟩
section
attribute [local irreducible] Run CondV ai az
end
end
section
open Go Go.RowKit
section
attribute [local irreducible] Run CondV ai az
end
end
section
open Go Go.RowKit
theorem KnownM.mono {S S':ad} {es:Array MapEntry} {st:ag} (h:KnownM S es st) (hs:Sle S S'):KnownM S' es st:=
 ⟨fun e he=>by
  obtain ⟨n,t,cs,h1,h2,h3,h4⟩:=h.1 e he
  exact ⟨n,t,cs,h1,h2,h3.mono hs,h4⟩,h.2⟩
structure Tell (f:FuncId) (fn:Func) (cap:List Value) {σ:Type} (It:σ->ad->List Item->Prop) (can:σ->Nat->Prop) (step:σ->T->σ) (S0:ad):Prop where
 hf:Tryz.prog.funcs[f]?=some fn
 hn:(fn.name == "runtime.NumGoroutine" || fn.body.isNone)=false
 up:∀ (s:σ) (S S':ad) (I:List Item),Sle S S'->It s S I->It s S' I
 down:∀ (s:σ) (x:T) (n:Nat),Fct x->can s (n+1)->can (step s x) n
 call:∀ (S:ad) (s:σ) (x:T) (cs:List Value) (I:List Item) (n:Nat),Sle S0 S->Fct x->RdT S cs x->It s S I->can s (n+1)->Tri Tryz.prog f (.agg cs.toArray::cap) I S fun r I' S'=>r=.tuple #[]/\It (step s x) S' I'
theorem Tell.mono {f:FuncId} {fn:Func} {cap:List Value} {σ:Type} {It:σ->ad->List Item->Prop} {can:σ->Nat->Prop} {step:σ->T->σ} {S0 S1:ad} (h:Tell f fn cap It can step S0) (hs:Sle S0 S1):Tell f fn cap It can step S1:=
 ⟨h.hf,h.hn,h.up,h.down,fun S s x cs I n h1=>h.call S s x cs I n (hs.trans h1)⟩
section
attribute [local irreducible] Run CondV ai az
end
end
section
open Go Go.RowKit
structure Fs (f:List T):Prop where
 sorted:Sorted f
 fct:∀ x∈f,Fct x
theorem Fs.nil:Fs []:=⟨trivial,by simp⟩
theorem Fs.okO {f:List T} (h:Fs f):∀ x∈f,okO x:=fun x hx=>(h.fct x hx).ok.2.2.1
structure Pf (p:List C):Prop where
 len:p.length<=20
 parts:∀ c∈p,Gl c.head/\(∀ g∈c.body,Gl g)/\PA c.head c.body st0
 three:∀ c∈p,c.body.length<=3
theorem Pf.take {p:List C} (h:Pf p) (j:Nat):Pf (p.take j):=⟨by have:=h.len; rw [List.length_take]; omega,fun c hc=>h.parts c (List.mem_of_mem_take hc),fun c hc=>h.three c (List.mem_of_mem_take hc)⟩
theorem Fs.w {f:List T} (h:Fs f):wL f<=f.length * 34:=At f 34 fun t ht=>(h.fct t ht).ok.2.2.2
end
section
open Go Go.RowKit
theorem Rows.insert {α:Type} {k:Nat} {R:List Value->α->Prop} {css:List (List Value)} {ys:List α} (h:Rows k R css ys) {cs:List Value} {y:α} (hR:R cs y) (hl:cs.length=k) (i:Nat) :
  Rows k R (css.take i++cs::css.drop i) (ys.take i++y::ys.drop i):=by
 have h1:Rows k R (css.take i) (ys.take i):=⟨by simp [h.hc],fun c hc=>h.hk c (List.mem_of_mem_take hc),fun j h2 h3=>by
  rw [List.getElem_take,List.getElem_take]
  exact h.hR j _ _⟩
 have h2:Rows k R (css.drop i) (ys.drop i):=⟨by simp [h.hc],fun c hc=>h.hk c (List.mem_of_mem_drop hc),fun j h2 h3=>by
  rw [List.getElem_drop,List.getElem_drop]
  exact h.hR (i+j) _ _⟩
 have:=(h1.append (Rows.one hR hl)).append h2
 simpa using this
section
attribute [local irreducible] Run CondV ai az
end
end
section
open Go Go.RowKit
section
attribute [local irreducible] Run CondV ai az
end
end
section
open Go Go.RowKit
section
attribute [local irreducible] Run CondV ai az
end
end
section
open Go Go.RowKit
section
attribute [local irreducible] Run CondV ai az
end
end
section
open Go Go.RowKit

abbrev Bs:=List UInt8
abbrev bs (s:ByteArray):Bs:=s.data.toList
abbrev st (l:Bs):ByteArray:=⟨l.toArray⟩
theorem B7 (l:Bs):bs (st l)=l:=by simp [bs]
theorem jR (l:Bs):(st l).size=l.length:=by simp [ByteArray.size]

def sgn (s:Bs) (i:Nat) (c:Nat):Bool:=match s[i]? with
 | some b=>decide (b.toNat=c)
 | none=>false
def btw (s:Bs) (i:Nat) (a b:Nat):Bool:=match s[i]? with
 | some x=>decide (a<=x.toNat) && decide (x.toNat<=b)
 | none=>false
def sml (s:Bs) (i:Nat):Bool:=btw s i 97 122
def dig (s:Bs) (i:Nat):Bool:=btw s i 48 57
def upp (s:Bs) (i:Nat):Bool:=btw s i 65 90
def cut (s:Bs) (a b:Nat):Bs:=(s.take b).drop a

def xk (s:Bs):Nat->Nat->Nat
 | 0,e=>e
 | n+1,e=>if sml s e=true then xk s n (e+1) else e
def gA (s:Bs) (i:Nat):List ByteArray->Bs->Bs
 | [],b=>b
 | x::l,b=>gA s i l (if decide (i+x.size<=s.length)=true/\cut s i (i+x.size)=bs x/\b.length<x.size then bs x else b)
def rZ (s:Bs) (i:Nat):Option (Bs × Nat):=
 let e:=xk s (s.length - i) i
 if i+6<e then none else if i<e then some (cut s i e,e) else
  let b:=gA s i signs []
  if b=[] then none else some (b,i+b.length)
def pP (s:Bs):Nat->Nat->Nat
 | 0,e=>e
 | n+1,e=>if dig s e=true then pP s n (e+1) else e
def Bw:Bs->Nat->Nat
 | [],n=>n
 | b::l,n=>Bw l (n * 10+(b.toNat - 48))
def L7 (s:Bs) (i:Nat):Option (T × Nat):=
 let from_:=if sgn s i 45=true then i+1 else i
 let e:=pP s 4 from_
 let d:=cut s from_ e
 let n:=Bw d 0
 if d=[] ∨ (sgn d 0 48=true/\1<d.length) ∨ (i<from_/\n=0) ∨ 999<n then none
 else some (.mk 2 (if i<from_ then -(n:Int) else n) emptyB [],e)
def FS (name:Bs) (kids:List T):T:=.mk 3 0 (st name) kids
def PI:T:=FS [91,93] []
def EQ (a b:T):T:=FS [46] [a,b]
def gO:List T->T->T
 | [],t=>t
 | a::l,t=>EQ a (gO l t)
def opF (s:Bs) (i:Nat):Option (Bs × Nat):=
 let from_:=if sgn s i 32=true then i+1 else i
 if s.length<=from_ then none else match rZ s from_ with
  | none=>none
  | some (name,next)=>
   let word:=decide (name=[105,115]) || decide (name=[109,111,100])
   if bD (st name)=0 ∨ word≠decide (i<from_) ∨ (word=true/\sgn s next 32=false) then none
   else some (name,if word=true then next+1 else next)
mutual
def hH:Nat->Bs->Nat->Nat->Nat->Option (T × Nat)
 | 0,_,_,_,_=>none
 | f+1,s,i,d,0=>ru f s i d
 | f+1,s,i,d,l+1=>match hH f s i d l with
  | none=>none
  | some (t,n)=>EV f s n d l t
def EV:Nat->Bs->Nat->Nat->Nat->T->Option (T × Nat)
 | 0,_,_,_,_,_=>none
 | f+1,s,i,d,l,t=>match opF s i with
  | none=>some (t,i)
  | some (name,after)=>if bD (st name)=((l+1:Nat):Int) then match hH f s after d l with
    | none=>none
    | some (r,e)=>if l=2 then some (FS name [t,r],e) else EV f s e d l (FS name [t,r])
   else some (t,i)
def ru:Nat->Bs->Nat->Nat->Option (T × Nat)
 | 0,_,_,_=>none
 | f+1,s,i,d=>if d=0 ∨ s.length<=i then none else if sgn s i 40=true then match hH f s (i+1) d 3 with
    | none=>none
    | some (t,n)=>if sgn s n 41=true then some (t,n+1) else none
  else if sgn s i 91=true/\sgn s (i+1) 93=false then match fX f s (i+1) (d - 1) 93 124 [] with
    | none=>none
    | some (ts,n)=>if sgn s n 93=true then some (gO ts PI,n+1) else match hH f s (n+1) (d - 1) 3 with
     | none=>none
     | some (t,e)=>if sgn s e 93=true then some (gO ts t,e+1) else none
  else if upp s i=true then some (.mk 1 ((s.getD i 0).toNat - 65) emptyB [],i+1)
  else if dig s i=true ∨ (sgn s i 45=true/\dig s (i+1)=true) then L7 s i
  else match rZ s i with
   | none=>none
   | some (name,n)=>if sgn s n 40=false then some (FS name [],n) else match fX f s (n+1) (d - 1) 41 41 [] with
    | none=>none
    | some (ts,e)=>some (FS name ts,e+1)
def fX:Nat->Bs->Nat->Nat->Nat->Nat->List T->Option (List T × Nat)
 | 0,_,_,_,_,_,_=>none
 | f+1,s,i,d,e,o,acc=>match hH f s i d 3 with
  | none=>none
  | some (t,n)=>if sgn s n e=true ∨ sgn s n o=true then some (acc++[t],n) else if sgn s n 44=true then fX f s (n+1) d e o (acc++[t]) else none
end

def lV (t:T):Bool:=decide (t.kind=3) && (decide (t.kids.length=2) && decide (0<bD t.name))
def zd (t:T):Bool:=decide (t.kind=3) && (decide (t.name=st [46]) && decide (t.kids.length=2))
def Mx (t:T):Bool:=decide (t.kind=3) && (decide (t.name=st [91,93]) && decide (t.kids.length=0))
def wD (t:T):Bool:=decide (t.kind=3) && (decide (t.kids.length=0) && decide (0<bD t.name))
def Db (s:Bs):Bool:=sml s 0 || (dig s 0 || (upp s 0 || (sgn s 0 91 || sgn s 0 40)))
def gj (n:Bs):Bs:=if n=[105,115] ∨ n=[109,111,100] then 32::(n++[32]) else n
def AF:Nat->Nat->Bs->Option Bs
 | 0,_,_=>none
 | f+1,n,out=>if 9<n then AF f (n / 10) (UInt8.ofNat (48+n % 10)::out) else some (UInt8.ofNat (48+n)::out)
def Ps (n:Int):Option Bs:=if n<0 then (AF 20 (-n).toNat []).map fun l=>45::l else AF 20 n.toNat []
def Ld (t:T):Option Bs:=if t.kind=1 then (if 0<=t.n/\t.n<=25 then some [UInt8.ofNat (65+t.n.toNat)] else none)
 else if t.kind=2 then (if -999<=t.n/\t.n<=999 then Ps t.n else none) else if t.kids.length=0 then some (bs t.name) else none
mutual
def D0:Nat->T->Option Bs
 | 0,_=>none
 | f+1,t=>if zd t=true then Cf f t [] else if lV t=true then match t.kids with
   | [a,b]=>match IV f a (if bD t.name=3 then 2 else bD t.name),DM f b (bD t.name - 1) with
    | some x,some y=>some (x++gj (bs t.name)++y)
    | _,_=>none
   | _=>none
  else if t.kind=3/\0<t.kids.length then match mX f t.kids [] with
   | some x=>some (bs t.name++[40]++x++[41])
   | none=>none
  else Ld t
def Cf:Nat->T->List T->Option Bs
 | 0,_,_=>none
 | f+1,t,items=>if zd t=true then match t.kids with
   | [a,b]=>Cf f b (items++[a])
   | _=>none
  else match mX f items [] with
   | none=>none
   | some x=>if Mx t=true then some ([91]++x++[93]) else match D0 f t with
    | none=>none
    | some y=>some ([91]++x++[124]++y++[93])
def mX:Nat->List T->Bs->Option Bs
 | 0,_,_=>none
 | _+1,[],out=>some out
 | f+1,t::l,out=>match D0 f t with
  | none=>none
  | some x=>mX f l (out++x++(if l=[] then [] else [44]))
def oO:Nat->T->Int->Option Bs
 | 0,_,_=>none
 | f+1,t,l=>match D0 f t with
  | none=>none
  | some x=>some (if lV t=true/\l<bD t.name then [40]++x++[41] else x)
def IV:Nat->T->Int->Option Bs
 | 0,_,_=>none
 | f+1,t,l=>if wD t=true then match D0 f t with
   | none=>none
   | some x=>some ([40]++x++[41])
  else oO f t l
def DM:Nat->T->Int->Option Bs
 | 0,_,_=>none
 | f+1,t,l=>match oO f t l with
  | none=>none
  | some x=>if x=[] then none else some (if wD t=true ∨ Db x=false then [40]++x++[41] else x)
end
def vr (f:Nat):List T->Bool->Bs->Option Bs
 | [],_,out=>some out
 | t::l,first,out=>match D0 f t with
  | none=>none
  | some x=>vr f l false (out++(if first=true then [58,45] else [44])++x)
def Js (f:Nat) (c:C):Option Bs:=match D0 f c.head with
 | none=>none
 | some x=>match vr f c.body true x with
  | none=>none
  | some y=>some (y++[46])

def mi (f:Nat):Nat->Bs->Nat->List T->Option (List T × Nat)
 | 0,_,_,_=>none
 | k+1,s,i,acc=>if 6<acc.length then none else match hH f s i 30 3 with
  | none=>none
  | some (t,n)=>if sgn s n 44=true then mi f k s (n+1) (acc++[t]) else some (acc++[t],n)
def KL (f:Nat) (s:Bs) (c:C) (n:Nat):Option C:=
 if n+1=s.length/\sgn s n 46=true/\bh c=true/\wC c<=200/\Js f c=some s then some c else none
def sV (f:Nat) (s:Bs):Option C:=if 1000<s.length then none else match hH f s 0 30 3 with
 | none=>none
 | some (h,n)=>if sgn s n 58=true/\sgn s (n+1) 45=true then match mi f 8 s (n+2) [] with
   | none=>none
   | some (b,n2)=>KL f s ⟨h,b⟩ n2
  else KL f s ⟨h,[]⟩ n
def Bp (s:Bs) (c:Nat):Nat->Nat->Nat->List Bs->List Bs
 | 0,i,from_,acc=>acc++[cut s from_ i]
 | n+1,i,from_,acc=>if sgn s i c=true then Bp s c n (i+1) (i+1) (acc++[cut s from_ i]) else Bp s c n (i+1) from_ acc
def MU (s:Bs):List Bs:=Bp s 10 s.length 0 0 []
def jn (f:Nat):List Bs->List C->Option (List C)
 | [],acc=>some acc
 | l::ls,acc=>match sV f l with
  | none=>none
  | some c=>jn f ls (acc++[c])
def JN (f:Nat) (s:Bs):Option (List C):=
 let ls:=MU s
 if 21<ls.length ∨ ls.getLast?≠some [] then none else jn f ls.dropLast []
def LU (s:Bs):Bool:=match JN 60 s with
 | some p=>decide (0<p.length) && (decide (p.length<=8) && p.all fun c=>bh c && decide (wC c<=200))
 | none=>false
end
section
open Go Go.RowKit
section
variable {P:Program} {w w0:World} {X:List Nat} {L:List Item} {S:ad} {K:Value->World->Prop}
theorem zR {T:TypeId} {cx cy:Bool} {k:IntKind} {a b:Int} (h:a<b) (hk:K (.bool true) w):Run P (bN .lss T cx cy (.int k a) (.int k b)) w K:=by
 refine bI ?_
 rw [decide_eq_true h]
 exact hk
theorem dG {T:TypeId} {cx cy:Bool} {k:IntKind} {a b:Int} (h:¬ (a<b)) (hk:K (.bool false) w):Run P (bN .lss T cx cy (.int k a) (.int k b)) w K:=by
 refine bI ?_
 rw [decide_eq_false h]
 exact hk
theorem CS {T:TypeId} {cx cy:Bool} {k:IntKind} {a b:Int} (h:a<=b) (hk:K (.bool true) w):Run P (bN .leq T cx cy (.int k a) (.int k b)) w K:=by
 refine dO ?_
 rw [decide_eq_true h]
 exact hk
theorem Lg {T:TypeId} {cx cy:Bool} {k:IntKind} {a b:Int} (h:¬ (a<=b)) (hk:K (.bool false) w):Run P (bN .leq T cx cy (.int k a) (.int k b)) w K:=by
 refine dO ?_
 rw [decide_eq_false h]
 exact hk
theorem Hk {T:TypeId} {cx cy:Bool} {k:IntKind} {a b:Int} (h:b<a) (hk:K (.bool true) w):Run P (bN .gtr T cx cy (.int k a) (.int k b)) w K:=by
 refine dB ?_
 rw [decide_eq_true h]
 exact hk
theorem jg {T:TypeId} {cx cy:Bool} {k:IntKind} {a b:Int} (h:¬ (b<a)) (hk:K (.bool false) w):Run P (bN .gtr T cx cy (.int k a) (.int k b)) w K:=by
 refine dB ?_
 rw [decide_eq_false h]
 exact hk
theorem ml {T:TypeId} {cx cy:Bool} {k:IntKind} {a b:Int} (h:b<=a) (hk:K (.bool true) w):Run P (bN .geq T cx cy (.int k a) (.int k b)) w K:=by
 refine j0 ?_
 rw [decide_eq_true h]
 exact hk
theorem ut {T:TypeId} {cx cy:Bool} {k:IntKind} {a b:Int} (h:¬ (b<=a)) (hk:K (.bool false) w):Run P (bN .geq T cx cy (.int k a) (.int k b)) w K:=by
 refine j0 ?_
 rw [decide_eq_false h]
 exact hk
theorem eC {T:TypeId} {cx cy:Bool} {k:IntKind} {a b:Int} (h:a=b) (hk:K (.bool true) w):Run P (bN .eql T cx cy (.int k a) (.int k b)) w K:=by
 refine aZ ?_
 rw [decide_eq_true h]
 exact hk
theorem du {T:TypeId} {cx cy:Bool} {k:IntKind} {a b:Int} (h:¬ (a=b)) (hk:K (.bool false) w):Run P (bN .eql T cx cy (.int k a) (.int k b)) w K:=by
 refine aZ ?_
 rw [decide_eq_false h]
 exact hk
theorem Aq {T:TypeId} {cx cy:Bool} {a b:Int} (hr:-9223372036854775808<=a * b/\a * b<=9223372036854775807) (hk:K (.int .i64 (a * b)) w):Run P (bN .mul T cx cy (.int .i64 a) (.int .i64 b)) w K:=
 Run.of (by simp [bN,bS,binOp,Op.intArith,IntWalk.i64_in _ hr]) hk
theorem Pr {T:TypeId} {cx cy:Bool} {a b:Nat} (hb:0<b) (ha:a<=9223372036854775807) (hk:K (.int .i64 ((a / b:Nat):Int)) w):Run P (bN .quo T cx cy (.int .i64 (a:Int)) (.int .i64 (b:Int))) w K:=by
 refine Run.of ?_ hk
 have h0:¬ ((b:Int)=0):=by omega
 have h1:IntKind.i64.wrap ((a:Int).tdiv b)=((a / b:Nat):Int):=by
  rw [IntWalk.i64_quo _ _ (by omega)]; rfl
 simp only [bN,bS,binOp,Op.intDiv,Sem.run_bind,Result.andThen_ok,if_neg h0,Sem.run_pure]
 exact congrArg (fun v=>Result.ok (Next.value (.int .i64 v)) w) h1
theorem HT {T:TypeId} {cx cy:Bool} {a b:Nat} (hb:0<b) (hk:K (.int .i64 ((a % b:Nat):Int)) w):Run P (bN .rem T cx cy (.int .i64 (a:Int)) (.int .i64 (b:Int))) w K:=by
 refine Run.of ?_ hk
 have h1:(a:Int).tmod b=((a % b:Nat):Int):=by
  rw [IntWalk.rem_in _ _ (by omega)]; rfl
 have h0:¬ ((b:Int)=0):=by omega
 simp only [bN,bS,binOp,Op.intDiv,Sem.run_bind,Result.andThen_ok,if_neg h0,Sem.run_pure]
 exact congrArg (fun v=>Result.ok (Next.value (.int .i64 v)) w) h1
theorem Pw {T:TypeId} {cx cy:Bool} {a b:Nat} (ha:a<4611686018427387904) (hb:b<4611686018427387904) (hk:K (.int .i64 ((a ^^^ b:Nat):Int)) w):Run P (bN .xor T cx cy (.int .i64 (a:Int)) (.int .i64 (b:Int))) w K:=by
 refine Run.of ?_ hk
 have hx:a ^^^ b<2 ^ 62:=Nat.xor_lt_two_pow (by simpa using ha) (by simpa using hb)
 have e1:(BitVec.ofInt 64 (a:Int)).toNat=a:=by rw [BitVec.toNat_ofInt]; omega
 have e2:(BitVec.ofInt 64 (b:Int)).toNat=b:=by rw [BitVec.toNat_ofInt]; omega
 have h1:IntKind.i64.wrap ((BitVec.ofInt 64 (a:Int) ^^^ BitVec.ofInt 64 (b:Int)).toNat:Int)=((a ^^^ b:Nat):Int):=by
  rw [BitVec.toNat_xor,e1,e2]
  exact IntWalk.i64_in _ (by omega)
 simp only [bN,bS,binOp,Op.intBits,Sem.run_bind,Result.andThen_ok,Sem.run_pure]
 exact congrArg (fun v=>Result.ok (Next.value (.int .i64 v)) w) h1
theorem Pa {T:TypeId} {cx cy:Bool} {k:IntKind} {a b c:Int} (hr:k.wrap (a+b)=c) (hk:K (.int k c) w):Run P (bN .add T cx cy (.int k a) (.int k b)) w K:=
 Run.of (by simp [bN,bS,binOp,Op.intArith,hr]) hk
theorem Mw {T:TypeId} {cx cy:Bool} {k:IntKind} {a b c:Int} (hr:k.wrap (a - b)=c) (hk:K (.int k c) w):Run P (bN .sub T cx cy (.int k a) (.int k b)) w K:=
 Run.of (by simp [bN,bS,binOp,Op.intArith,hr]) hk
theorem n9 {src dst ty:TypeId} {k k':IntKind} {n m:Int} {d:TypeDesc} (hs:P.underlying src=some d) (hd:P.underlying dst=some (.int k')) (hr:k'.wrap n=m) (hk:K (.int k' m) w) :
  Run P (sOp (.convert src dst (.const (.int k n))) ty) w K:=by
 refine Run.of ?_ hk
 simp [sOp,execOp,ev0,evE,convert,run_underlying hs,run_underlying hd,Conv.intToInt,hr]
theorem OZ {T ty:TypeId} {n:Int} (hr:-9223372036854775808<=-n/\-n<=9223372036854775807) (hk:K (.int .i64 (-n)) w):Run P (sOp (.unOp .neg T (.const (.int .i64 n))) ty) w K:=
 Run.of (by simp [sOp,execOp,ev0,evE,Op.unary,Op.intArith,Int.zero_sub,IntWalk.i64_in _ hr]) hk
theorem Pe (a b:Bs):st a++st b=st (a++b):=by
 apply ByteArray.ext
 simp [st]
theorem cP {T:TypeId} {cx cy:Bool} {a b:Bs} (hl:a.length+b.length<=9223372036854775807) (hk:K (.string (st (a++b))) w):Run P (bN .add T cx cy (.string (st a)) (.string (st b))) w K:=by
 refine Run.of ?_ hk
 have h1:¬ (9223372036854775807<(((st a).size+(st b).size:Nat):Int)):=by rw [jR,jR]; omega
 have h2:IntKind.i64.max=9223372036854775807:=by decide
 simp only [bN,binOp,Op.stringOp,Sem.run_bind,og,Result.andThen_ok,gt_iff_lt,h2,if_neg h1,Sem.run_pure,Pe]
theorem PG (s:Bs) (a b:Nat):(st s).extract a b=st (cut s a b):=by
 apply ByteArray.ext
 apply Array.toList_inj.1
 simp [cut,ByteArray.data_extract,List.drop_take]
theorem zj {T ty:TypeId} {s:Bs} {a b:Nat} (hu:P.underlying T=some .string) (hab:a<=b) (hb:b<=s.length) (hk:K (.string (st (cut s a b))) w) :
  Run P (sOp (.slice T (.const (.string (st s))) (some (.const (.int .i64 a))) (some (.const (.int .i64 b))) none) ty) w K:=by
 refine Run.of ?_ hk
 have hb':b<=(st s).size:=by rw [jR]; exact hb
 simp [sOp,execOp,ev0,evE,Instr.sliceAt,Instr.slice,Instr.sliceBounds,run_underlying hu,eZ hab,eZ hb',PG]
theorem dk {T ty:TypeId} {s:Bs} {i:Nat} (hu:P.underlying T=some .string) (hi:i<s.length) (hk:K (.int .u8 s[i].toNat) w) :
  Run P (sOp (.index T (.const (.string (st s))) (.const (.int .i64 i))) ty) w K:=by
 have hi':i<(st s).size:=by rw [jR]; exact hi
 refine jc hu hi' ?_
 have:(st s)[i]=s[i]:=by simp [st,ByteArray.getElem_eq_getElem_data]
 rw [this]
 exact hk
theorem ed {T ty:TypeId} {cs:List Bool} {s:Bs} (hu:P.underlying T=some .string) (hk:K (.int .i64 s.length) w):Run P (bp .len #[T] ty cs [.string (st s)]) w K:=by
 refine gf hu ?_
 rw [jR]
 exact hk
theorem yR {T:TypeId} {cx cy:Bool} {a b:Bs} (hk:K (.bool (decide (a=b))) w):Run P (bN .eql T cx cy (.string (st a)) (.string (st b))) w K:=by
 refine bg ?_
 have:decide (st a=st b)=decide (a=b):=by
  rw [decide_eq_decide]
  exact ⟨fun h=>by rw [<- B7 a,h,B7],fun h=>by rw [h]⟩
 rw [this]
 exact hk
theorem Ja {T:TypeId} {cx cy:Bool} {a b:Bs} (hk:K (.bool (!decide (a=b))) w):Run P (bN .neq T cx cy (.string (st a)) (.string (st b))) w K:=by
 refine MP ?_
 have:decide (st a=st b)=decide (a=b):=by
  rw [decide_eq_decide]
  exact ⟨fun h=>by rw [<- B7 a,h,B7],fun h=>by rw [h]⟩
 rw [this]
 exact hk
theorem yW (h:Inv w0 X L S w) {T T' D ty e:TypeId} {by_:Nat} {z:Value} {n:Nat} (hT:kz P T=some (e,1,by_,z)) (he:P.underlying T'=some (.slice e)) (hb:P.underlying e=some (.int .u8)) (hD:P.underlying D=some .string)
  {K:Value->Value->World->Prop} (hk:∀ w',Inv w0 X L S w'->K (.slice (some ⟨w.heap.size,0,none⟩) 1 1) (.string (st [UInt8.ofNat n])) w') :
  Run P (bo T 1 [(0,.int .u8 (n:Int))]) w fun u w'=>Run P (sOp (.convert T' D (.const u)) ty) w' (K u):=by
 refine pI h hT rfl (by omega) (by omega) fun w' hI=>?_
 have hi:(L++[Item.blk w.heap.size (.cells (Value.int .u8 (n:Int)).cells e)])[L.length]?=some (.blk w.heap.size (.cells (Value.int .u8 (n:Int)).cells e)):=by
  rw [List.getElem?_append_right (Nat.le_refl _),Nat.sub_self]; rfl
 have hc:w'.cell? ⟨w.heap.size,0,none⟩=some (.int .u8 (n:Int)):=by rw [hI.cellL hi]; rfl
 have hl:=run_loadCells_list (P:=P) (w:=w') ⟨w.heap.size,0,none⟩ [.int .u8 (n:Int)] (fun j v hj=>by
  match j with
  | 0=>simp only [List.getElem?_cons_zero,Option.some.injEq] at hj; subst hj; rw [gr]; exact hc
  | j+1=>simp at hj)
 simp only [List.length_cons,List.length_nil] at hl
 refine Run.of (w':=w') ?_ (hk _ (hI.sub (List.sublist_append_left _ _)))
 simp [sOp,execOp,ev0,evE,convert,run_underlying he,run_underlying hb,run_underlying hD,Conv.bytesToString,hl,st]
 rfl
end
end
end Go.Proofs.YtgllldjiaglkcaaGreatDoor
