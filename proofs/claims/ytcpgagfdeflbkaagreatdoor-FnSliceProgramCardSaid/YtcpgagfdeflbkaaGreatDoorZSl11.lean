/- impl: walks and occurrence. -/
import Derived.Test.YtcpgagfdeflbkaaGreatDoorZSl4
import Derived.Test.YtcpgagfdeflbkaaGreatDoorZSl3
namespace Go.Proofs.YtcpgagfdeflbkaaGreatDoor
section
open Go Go.RowKit
section
variable {P:Program} {w w0:World} {X:List Nat} {L:List Item} {S:ad} {K:Value->World->Prop}
attribute [local irreducible] Run CondV aq aK
theorem sV {T kt et ty:TypeId} {b clock:Nat} {es:Array MapEntry} {n:Int} {z v:Value} {ok c:Bool} (hb:w.heap[b]?=some (.map es clock)) (hT:P.underlying T=some (.map kt et)) (hkt:P.underlying kt=some (.int .i64))
  (hz:gQ P et=some z) (hf:(∃ j,Instr.findNow (.int .i64) (.int .i64 n) es.toList 0=some (some (j,v))/\ok=true) ∨ (Instr.findNow (.int .i64) (.int .i64 n) es.toList 0=some none/\v=z/\ok=false))
  (hk:K (cond c (.tuple #[v,.bool ok]) v) w):Run P (sOp (.lookup T (.const (.map (some b))) (.const (.int .i64 n)) c) ty) w K:=by
 have hck:∀ e,(Instr.checkKey e 10000 kt (.int .i64 n)).run P w=.ok () w:=fun e=>by
  rw [show (10000:Nat)=9999+1 from rfl,Instr.checkKey]
  simp [run_underlying hkt]
 obtain ⟨inf,hi1,hi2⟩:∃ inf,P.info? et=some inf/\inf.zero=some z:=by
  unfold gQ at hz
  cases hinf:P.info? et with
  | none=>rw [hinf] at hz; simp at hz
  | some inf=>rw [hinf] at hz; exact ⟨inf,rfl,by simpa using hz⟩
 have hzv:(zeroValue et).run P w=.ok z w:=by simp [zeroValue,typeInfo,hi1,hi2]
 refine Run.of ?_ hk
 have hg:(getObj b).run P w=.ok (.map es clock) w:=by simp [getObj,Sem.run,hb]
 rcases hf with ⟨j,hf,rfl⟩|⟨hf,rfl,rfl⟩
 ·have hfk:=jA (P:=P) (w:=w) hkt hf
  cases c <;> simp [sOp,execOp,ev0,evE,Instr.lookup,run_underlying hT,hg,hck,hfk]
 ·have hfk:=jA (P:=P) (w:=w) hkt hf
  cases c <;> simp [sOp,execOp,ev0,evE,Instr.lookup,run_underlying hT,hg,hck,hfk,hzv]
end
section
attribute [local irreducible] Run CondV aq aK
theorem CU {f:FuncId} {fn:Func} {cap:List Value} {S0 S:ad} {v:Value} {xs:List T} (hf:Tryz.prog.funcs[f]?=some fn) (hn:(fn.name == "runtime.NumGoroutine" || fn.body.isNone)=false) (hle:Sle S0 S)
  (h:RdSl S0 4 (RdT S0) v xs) {J:Nat->List Item->Prop} {Fin:List Item->Prop}
  (hcall:∀ i (_:i<xs.length) (cs:List Value) (I:List Item),RdT S0 cs xs[i]->J i I->Tri Tryz.prog f (.agg cs.toArray::cap) I S fun r I' S'=>S'=S/\∃ b,r=.bool b/\(b=true->Fin I')/\(b=false->J (i+1) I'))
  {I:List Item} (hJ:J 0 I):Tri Tryz.prog j9 [v,fv f cap] I S fun r I' S'=>S'=S/\∃ k:Int,r=.int .i64 k/\(0<=k->Fin I')/\(k<0->J xs.length I'):=by
 intro w hI
 have h:RdSl S 4 (RdT S0) v xs:=h.mono hle fun _ _ h=>h
 have hlen:=h.le
 simp only [maxLen] at hlen
 obtain ⟨X,hX⟩:∃ X,X=bu I:=⟨_,rfl⟩
 rw [<- hX] at hI ⊢
 refine eG.2 ?_
 dsimp only[eG,aO]
 refine aF h ah ?_
 refine ⟨fun i w'=>∃ (j:Nat) (I':List Item),j<=xs.length/\i=.int .i64 j/\J j I'/\Inv w X I' S w',fun i _=>xs.length - (intOf i).toNat,⟨0,I,aR _,rfl,hJ,hI⟩,?_⟩
 intro t8 _ _ _ _ _ _ _ _ _ _ _ _ w'
 rintro ⟨j,I',hj,rfl,hJ',hI⟩
 refine bL ?_
 refine aH (fun hji=>?_) (fun hji=>?_)
 ·have hj':j<xs.length:=by omega
  refine cj hI h ah ac hj' (fun _ _=>RdT.length) fun cs hcs=>?_
  have hI:Inv w X ([]++I') S w':=hI
  refine Run.callVE (A:=[]) hf hn hI (hcall j hj' cs I' hcs hJ') fun v' I2 S2 w'=>?_
  rintro ⟨eS,b,rfl,hb1,hb2⟩ _ hI
  rw [eS] at hI
  clear eS
  have hI:Inv w X I2 S w':=hI
  refine aw (fun hb=>?_) (fun hb=>?_)
  ·exact ⟨_,_,_,rfl,hI,Ext.refl _ _ _,rfl,j,rfl,fun _=>hb1 hb,fun h=>by omega⟩
  ·refine bn (by omega) ?_
   exact ⟨⟨j+1,I2,hj',rfl,hb2 hb,hI⟩,by simp [intOf]; omega⟩
 ·have:j=xs.length:=by omega
  subst this
  exact ⟨_,_,_,rfl,hI,Ext.refl _ _ _,rfl,-1,rfl,fun h=>by omega,fun _=>hJ'⟩
theorem wi {f:FuncId} {fn:Func} {cap:List Value} {S0 S:ad} {v:Value} {xs:List T} (hf:Tryz.prog.funcs[f]?=some fn) (hn:(fn.name == "runtime.NumGoroutine" || fn.body.isNone)=false) (hle:Sle S0 S)
  (h:RdSl S0 4 (RdT S0) v xs) {J:Nat->List Item->Prop} {Fin:List Item->Prop}
  (hcall:∀ i (_:i<xs.length) (cs:List Value) (I:List Item),RdT S0 cs xs[i]->J i I->Tri Tryz.prog f (.agg cs.toArray::cap) I S fun r I' S'=>S'=S/\∃ b,r=.bool b/\(b=true->Fin I')/\(b=false->J (i+1) I'))
  {I:List Item} (hJ:J 0 I):Tri Tryz.prog ie [v,fv f cap] I S fun r I' S'=>S'=S/\∃ b,r=.bool b/\(b=true->Fin I')/\(b=false->J xs.length I'):=by
 intro w hI
 obtain ⟨X,hX⟩:∃ X,X=bu I:=⟨_,rfl⟩
 rw [<- hX] at hI ⊢
 refine dO.2 ?_
 dsimp only[dO,aO]
 have hI:Inv w X ([]++I) S w:=hI
 refine Run.callE (A:=[]) jq jo hI (CU hf hn hle h hcall hJ) fun v' I2 S2 w'=>?_
 rintro ⟨eS,k,rfl,h1,h2⟩ _ hI
 rw [eS] at hI
 refine kX ?_
 exact ⟨_,_,_,rfl,hI,Ext.refl _ _ _,rfl,_,rfl,fun hb=>h1 (of_decide_eq_true hb),fun hb=>h2 (by have:=of_decide_eq_false hb; omega)⟩
def StS (S0 S:ad) (sb:Nat) (st:aj):Prop:=∃ mb tv es ck E,S sb=some (.cells #[.map (some mb),tv] E)/\S mb=some (.map es ck)/\KnownM S0 es st
theorem StS.mono {S0 S S':ad} {sb:Nat} {st:aj} (h:StS S0 S sb st) (hs:Sle S S'):StS S0 S' sb st:=by
 obtain ⟨mb,tv,es,ck,E,h1,h2,h3⟩:=h
 exact ⟨mb,tv,es,ck,E,hs _ _ h1,hs _ _ h2,h3⟩
theorem StS.find {S0 S:ad} {sb:Nat} {N:Nat} {st:aj} (h:StS S0 S sb st) {t:T} (hk:t.kind=1) (ht:okU N t):∃ mb tv es ck E vv ok,S sb=some (.cells #[.map (some mb),tv] E)/\S mb=some (.map es ck)/\
  ((∃ j,Instr.findNow (.int .i64) (.int .i64 t.n) es.toList 0=some (some (j,.agg (List.toArray vv)))/\ok=true) ∨ (Instr.findNow (.int .i64) (.int .i64 t.n) es.toList 0=some none/\(Value.agg (List.toArray vv))=.agg #[.int .i64 0,.int .i64 0,.string ⟨#[]⟩,.slice none 0 0]/\ok=false))/\
  vv.length=4/\(∀ x∈vv,x.oneCell'=true)/\(ok=true->∃ u,look st t=some u/\RdT S0 vv u)/\(ok=false->look st t=none):=by
 obtain ⟨mb,tv,es,ck,E,h1,h2,h3⟩:=h
 obtain ⟨hn0,_⟩:=ht.var hk
 obtain ⟨j,hj⟩:∃ j:Nat,t.n=j:=⟨t.n.toNat,by omega⟩
 have hlk:look st t=(st[j]?).join:=by rw [look,ai hk,hj,dF]
 rw [hj,hlk]
 rcases h3.find j with ⟨q,v,u,cs,hf,rfl,hR,hs⟩|⟨hno,hf⟩
 ·exact ⟨mb,tv,es,ck,E,cs,true,h1,h2,.inl ⟨q,hf,rfl⟩,hR.length,hR.one,fun _=>⟨u,by rw [hs]; rfl,hR⟩,fun h=>by cases h⟩
 ·refine ⟨mb,tv,es,ck,E,[.int .i64 0,.int .i64 0,.string ⟨#[]⟩,.slice none 0 0],false,h1,h2,.inr ⟨hf,rfl,rfl⟩,rfl,by simp [Value.oneCell'],fun h=>(by cases h),fun _=>?_⟩
  cases hs:st[j]? with
  | none=>rfl
  | some o=>
   cases o with
   | none=>rfl
   | some u=>exact absurd hs (hno u)
theorem jz {N:Nat} {st:aj} (hg:Good N st) {t v:T} (hw:dw st t v) (ht:okU N t) {S0 S:ad} {cs:List Value} {sb:Nat} (hst:StS S0 S sb st) (h:RdT S0 cs t) :
  Tri Tryz.prog AW [.pointer (some ⟨sb,0,none⟩),.agg cs.toArray] [] S fun r I' S'=>S'=S/\I'=[]/\∃ cs',r=.agg cs'.toArray/\RdT S0 cs' v:=by
 intro w hI
 have hI:Inv w [] [] S w:=hI
 obtain ⟨r,hr⟩:=hg.rk
 refine ot.2 ?_
 dsimp only[ot,aO]
 refine bp hI fun b3 w' hI=>?_
 refine aP hI aZ fun b4 w' hI=>?_
 have hI:Inv w [] [.blk b3 (.cells cs.toArray ab),.blk b4 (.cells #[.int .i64 0,.int .i64 0,.string ⟨#[]⟩,.slice none 0 0] ab)] S w':=hI
 refine ⟨fun w'=>∃ cs',RdT S0 cs' v/\Inv w [] [.blk b3 (.cells cs'.toArray ab),.blk b4 (.cells #[.int .i64 0,.int .i64 0,.string ⟨#[]⟩,.slice none 0 0] ab)] S w',?_,?_⟩
 ·refine ⟨fun w'=>∃ (t':T) (cs':List Value),dw st t' v/\okU N t'/\RdT S0 cs' t'/\Inv w [] [.blk b3 (.cells cs'.toArray ab),.blk b4 (.cells #[.int .i64 0,.int .i64 0,.string ⟨#[]⟩,.slice none 0 0] ab)] S w',
   fun w'=>HC b3 r st w',⟨t,cs,hw,ht,h,hI⟩,?_⟩
  intro _ _ _ t6 t5 t19 t18 t10 t17 t16 t15 t14 t13 t12 t11 _ _ _ w'
  rintro ⟨t',cs',hw',ht',hcs',hI⟩
  have hrank:=HD hI (i:=0) rfl hcs' r st
  have hcs0:=hcs'
  obtain ⟨kv,rfl,_⟩:=RdT.iff.1 hcs'
  refine ae hI 0 rfl aV aI rfl ?_
  refine bl ?_
  refine aH (fun hk1=>?_) (fun hk1=>?_)
  ·obtain ⟨mb,tv,es,ck,E,vv,ok,hsb,hmb,hfind,hvl,hvo,hyes,hno⟩:=hst.find hk1 ht'
   refine ⟨fun D x6 x5 pH BX Pl mZ vm Cq wb Em En Hn w_=>Fx D 0 [Hn=.pointer (some ⟨sb,0,none⟩),En=.pointer (some ⟨sb,0,none⟩),Em=.pointer (some ⟨sb,0,none⟩),wb=.map (some mb),Cq=.pointer (some ⟨b3,1,none⟩),vm=.int .i64 t'.n,mZ=.tuple #[.agg vv.toArray,.bool ok],Pl=.tuple #[.agg vv.toArray,.bool ok],BX=.agg vv.toArray,pH=.bool ok,True,True,x6=.bool ok]/\∃ b5,(D 10=true->x5=.pointer (some ⟨b5,0,none⟩))/\(D 11=true->D 10=true)/\Inv w [] ([.blk b3 (.cells #[.int .i64 t'.kind,.int .i64 t'.n,.string t'.name,kv] ab),.blk b4 (.cells #[.int .i64 0,.int .i64 0,.string ⟨#[]⟩,.slice none 0 0] ab)]++cond (D 10) [.blk b5 (.cells (cond (D 11) vv.toArray #[.int .i64 0,.int .i64 0,.string ⟨#[]⟩,.slice none 0 0]) ab)] []) S w_,⟨Fx.nil _ _,⟨0,aQ,aQ,hI.draw⟩⟩,⟨?_,?_,?_,?_,?_,?_,?_,?_,?_,?_,?_,?_,?_,trivial⟩,?_⟩
   all_goals (intro D bI; intros; rename_i x6 x5 pH BX Pl mZ vm Cq wb Em En Hn w_ hA_; have hF_:=hA_.1; obtain ⟨⟨cJ,cH,cK,cI,cN,cP,cz,dC,ek,fZ,dr,dM,fj,_⟩,⟨b5,e5,k11,hI⟩⟩:=hA_)
   ·exact ⟨hF_.set 0 rfl,⟨b5,e5,k11,hI⟩⟩
   ·obtain rfl:=cJ ‹_›
    refine ar ?_
    exact ⟨hF_.set 1 rfl,⟨b5,e5,k11,hI⟩⟩
   ·obtain rfl:=cH ‹_›
    refine aC qG ?_
    exact ⟨hF_.set 2 rfl,⟨b5,e5,k11,hI⟩⟩
   ·obtain rfl:=cK ‹_›
    refine cA (by decide +kernel) (by rw [hI.cellS hsb]; rfl) ?_
    exact ⟨hF_.set 3 rfl,⟨b5,e5,k11,hI⟩⟩
   ·refine aC bm ?_
    exact ⟨hF_.set 4 rfl,⟨b5,e5,k11,hI⟩⟩
   ·obtain rfl:=cN ‹_›
    refine bb hI 0 aI rfl rfl ?_
    exact ⟨hF_.set 5 rfl,⟨b5,e5,k11,hI⟩⟩
   ·obtain rfl:=cI ‹_›
    obtain rfl:=cP ‹_›
    refine sV (ok:=ok) (v:=.agg vv.toArray) (hI.pub _ _ hmb).1 iG gd aZ hfind ?_
    exact ⟨hF_.set 6 rfl,⟨b5,e5,k11,hI⟩⟩
   ·obtain rfl:=cz ‹_›
    exact ⟨hF_.set 7 rfl,⟨b5,e5,k11,hI⟩⟩
   ·obtain rfl:=dC ‹_›
    refine al rfl ?_
    exact ⟨hF_.set 8 rfl,⟨b5,e5,k11,hI⟩⟩
   ·obtain rfl:=dC ‹_›
    refine al rfl ?_
    exact ⟨hF_.set 9 rfl,⟨b5,e5,k11,hI⟩⟩
   ·have f11:D 11=false:=cq.2 fun h=>by rw [k11 h] at bI; cases bI
    rw [bI] at hI
    refine aP hI aZ fun b5 w_ hI=>?_
    have e5:=fun (_:aB D 10 10=true)=>(rfl:Value.pointer (some ⟨b5,0,none⟩)=_)
    have k11:=fun (_:aB D 10 11=true)=>(rfl:aB D 10 10=true)
    have hI:Inv w [] ([.blk b3 (.cells #[.int .i64 t'.kind,.int .i64 t'.n,.string t'.name,kv] ab),.blk b4 (.cells #[.int .i64 0,.int .i64 0,.string ⟨#[]⟩,.slice none 0 0] ab)]++cond true [.blk b5 (.cells (cond (D 11) vv.toArray #[.int .i64 0,.int .i64 0,.string ⟨#[]⟩,.slice none 0 0]) ab)] []) S w_:=by rw [f11]; exact hI
    exact ⟨hF_.set 10 (by first|assumption|trivial),⟨b5,e5,k11,hI⟩⟩
   ·have RD:=dr ‹_›
    obtain rfl:=ek ‹_›
    have q5:=e5 ‹D 10=true›
    subst q5
    rw [bI,‹D 10=true›] at hI
    refine aA hI 2 rfl ac (by simpa using hvl) rfl (by simpa using hvo) fun w_ hI=>?_
    have k11:=fun (_:aB D 11 11=true)=>‹D 10=true›
    have hI:Inv w [] ([.blk b3 (.cells #[.int .i64 t'.kind,.int .i64 t'.n,.string t'.name,kv] ab),.blk b4 (.cells #[.int .i64 0,.int .i64 0,.string ⟨#[]⟩,.slice none 0 0] ab)]++cond (D 10) [.blk b5 (.cells (cond true vv.toArray #[.int .i64 0,.int .i64 0,.string ⟨#[]⟩,.slice none 0 0]) ab)] []) S w_:=by rw [‹D 10=true›]; exact hI
    exact ⟨hF_.set 11 trivial,⟨b5,e5,k11,hI⟩⟩
   ·obtain rfl:=fZ ‹_›
    exact ⟨hF_.set 12 rfl,⟨b5,e5,k11,hI⟩⟩
   obtain ⟨rfl,rfl,rfl,rfl,rfl,rfl,rfl,rfl,rfl,rfl,RD,_,rfl,_⟩:=hF_.all
   have Uh:D 10=true:=by assumption
   have Cc:D 11=true:=by assumption
   clear hF_ cJ cH cK cI cN cP cz dC ek fZ dr dM fj
   have q5:=e5 Uh
   subst q5
   rw [Uh,Cc] at hI
   have hI:Inv w [] [.blk b3 (.cells #[.int .i64 t'.kind,.int .i64 t'.n,.string t'.name,kv] ab),.blk b4 (.cells #[.int .i64 0,.int .i64 0,.string ⟨#[]⟩,.slice none 0 0] ab),.blk b5 (.cells vv.toArray ab)] S w_:=hI
   refine ct ?_
   refine aw (fun hb=>?_) (fun hb=>?_)
   ·have hok:ok=false:=by simpa using hb
    have hl:=hno hok
    have hv:v=t':=by
     cases hw' with
     | stop _=>rfl
     | step h1 _=>rw [h1] at hl; cases hl
    subst hv
    exact ⟨_,hcs0,hI.pick [true,true,false]⟩
   ·have hok:ok=true:=by simpa using hb
    obtain ⟨u,hl,hRu⟩:=hyes hok
    have hwu:dw st u v:=by
     cases hw' with
     | stop h0=>rw [hl] at h0; cases h0
     | step h1 h2=>rw [hl,aT] at h1; rw [h1]; exact h2
    refine az hI 2 ac rfl (by simpa using hvl) ?_
    refine aA hI 0 rfl ac (by simpa using hvl) rfl (by simpa using hvo) fun w' hI=>?_
    have hI:Inv w [] [.blk b3 (.cells vv.toArray ab),.blk b4 (.cells #[.int .i64 0,.int .i64 0,.string ⟨#[]⟩,.slice none 0 0] ab)] S w':=hI.pick [true,true,false]
    refine ⟨⟨u,vv,hwu,(hg.look_ok hl).1,hRu,hI⟩,?_⟩
    have hrank2:=HD hI (i:=0) rfl hRu r st
    show HC b3 r st w'<HC b3 r st _
    have hl1:(look st t').isSome=true:=by rw [hl]; rfl
    rw [hrank,hrank2,ai hl1]
    split
    ·rename_i hl2
     obtain ⟨u2,hl2⟩:=Option.isSome_iff_exists.1 hl2
     have:=hr _ u (dc.1 hl).2 u.n.toNat (by rw [ja (dc.1 hl2).1]; exact bY.2 rfl)
     omega
    ·omega
  ·have hv:v=t':=by
    cases hw' with
    | stop _=>rfl
    | step h1 _=>exact absurd (dc.1 h1).1 hk1
   subst hv
   exact ⟨_,hcs0,hI⟩
 ·intro _ _ _ _ _ _ _ _ _ _ _ _ _ _ _ _ _ _ w'
  rintro ⟨cs',hcs',hI⟩
  have hlc:=hcs'.length
  refine az hI 0 ac rfl (by simpa using hlc) ?_
  refine aA hI 1 rfl ac (by simpa using hlc) rfl (by simpa using hcs'.one) fun w' hI=>?_
  refine bw hI 1 ac rfl (by simpa using hlc) ?_
  exact ⟨_,_,_,rfl,hI.nil,Ext.refl _ _ _,rfl,rfl,_,rfl,hcs'⟩
def MetM (es:Array MapEntry) (met:Nat->Prop):Prop:=(∀ e∈es.toList,∃ n:Nat,e.key=.int .i64 n/\e.val=.bool true/\met n)/\∀ n,met n->∃ e∈es.toList,e.key=.int .i64 (n:Nat)
theorem MetM.find {es:Array MapEntry} {met:Nat->Prop} (h:MetM es met) (n:Nat):(met n/\∃ j,Instr.findNow (.int .i64) (.int .i64 n) es.toList 0=some (some (j,.bool true))) ∨ (¬ met n/\Instr.findNow (.int .i64) (.int .i64 n) es.toList 0=some none):=by
 rcases qU (n:=n) es.toList 0 (fun e he=>by obtain ⟨m,hk,_⟩:=h.1 e he; exact ⟨m,hk⟩) with ⟨j,e,he,hk,hf⟩|⟨hk,hf⟩
 ·obtain ⟨m,hk2,hv,hm⟩:=h.1 e he
  rw [hk] at hk2
  simp only [Value.int.injEq,sy] at hk2
  have:n=m:=by omega
  subst this
  rw [hv] at hf
  exact .inl ⟨hm,j,hf⟩
 ·refine .inr ⟨fun hm=>?_,hf⟩
  obtain ⟨e,he,hk2⟩:=h.2 n hm
  exact hk e he hk2
theorem MetM.push {es:Array MapEntry} {met:Nat->Prop} (h:MetM es met) (n:Nat) (ck:Nat):MetM (es.push { key:=.int .i64 n,val:=.bool true,born:=ck }) (fun m=>met m ∨ m=n):=by
 refine ⟨fun e he=>?_,fun m hm=>?_⟩
 ·rw [OU] at he
  rcases cd.1 he with he|he
  ·obtain ⟨m,hk,hv,hm⟩:=h.1 e he
   exact ⟨m,hk,hv,.inl hm⟩
  ·simp at he
   subst he
   exact ⟨n,rfl,rfl,.inr rfl⟩
 ·rw [OU]
  rcases hm with hm|rfl
  ·obtain ⟨x,hx,hk⟩:=h.2 m hm
   exact ⟨x,eM _ hx,hk⟩
  ·exact ⟨_,kw _ (bY.2 rfl),rfl⟩
theorem MetM.empty:MetM #[] (fun _=>False):=⟨fun e he=>by simp at he,fun n h=>h.elim⟩
theorem Ej {st:aj} {r:Nat->Nat} (hr:∀ (n:Nat) (u:T),st[n]?=some (some u)->∀ m∈vT u,r m<r n) {t v:T} (hw:dw st t v):∀ u,look st t=some u->∀ y∈vT v,r y<r t.n.toNat:=by
 induction hw with
 | stop h=>intro u hu; rw [h] at hu; cases hu
 | step hl hw' ih=>
  rename_i t u v
  intro u' _ y hy
  have h1:=hr _ u (dc.1 hl).2
  cases hl2:look st u with
  | none=>
   have:v=u:=by
    cases hw' with
    | stop _=>rfl
    | step h3 _=>rw [h3] at hl2; cases hl2
   subst this
   exact h1 y hy
  | some u2=>
   have h2:=ih u2 hl2 y hy
   have h3:=h1 u.n.toNat (by rw [ja (dc.1 hl2).1]; exact bY.2 rfl)
   omega
theorem Ho {N:Nat} {st:aj} {t v:T} (h:Good N st) (hw:dw st t v) (ht:okU N t):okU N v:=by
 induction hw with
 | stop=>exact ht
 | step hl _ ih=>exact ih (h.look_ok hl).1
theorem OW {st:aj} {r:Nat->Nat} (hr:∀ (n:Nat) (u:T),st[n]?=some (some u)->∀ m∈vT u,r m<r n) {a c:Nat} (h:Rch st a c):r c<=r a:=by
 induction h with
 | refl=>exact aM _
 | step h1 h2 _ ih=>have:=hr _ _ h1 _ h2; omega
theorem Kj {st:aj} {t v:T} (hw:dw st t v):∀ u,look st t=some u->∀ y∈vT v,Rch st t.n.toNat y:=by
 induction hw with
 | stop h=>intro u hu; rw [h] at hu; cases hu
 | step hl hw' ih=>
  rename_i t u v
  intro u' _ y hy
  cases hl2:look st u with
  | none=>
   have:v=u:=by
    cases hw' with
    | stop _=>rfl
    | step h3 _=>rw [h3] at hl2; cases hl2
   subst this
   exact .step (dc.1 hl).2 hy (.refl y)
  | some u2=>exact .step (dc.1 hl).2 (by rw [ja (dc.1 hl2).1]; exact bY.2 rfl) (ih u2 hl2 y hy)
def OC (st:aj) (sb n:Nat) (t:T):Prop:=∀ (S0 S:ad) (cs:List Value) (mm ck:Nat) (es:Array MapEntry) (met:Nat->Prop),Sle S0 S->StS S0 S sb st->RdT S0 cs t->MetM es met->(∀ m,met m->(∃ x∈vT t,Rch st x m)->¬ Rch st m n)->
 Tri Tryz.prog wt [.pointer (some ⟨sb,0,none⟩),.int .i64 n,.agg cs.toArray,.map (some mm)] [.blk mm (.map es ck)] S fun r I' S'=>S'=S/\∃ es' ck',I'=[.blk mm (.map es' ck')]/\
  ((gF st n t/\r=.bool true) ∨ (¬ gF st n t/\r=.bool false/\∃ met',MetM es' met'/\(∀ m,met m->met' m)/\∀ m,met' m->met m ∨ ¬ Rch st m n))
theorem Aq {st:aj} {sb n:Nat} {t:T} (hoc:OC st sb n t) {S0 S:ad} {cs:List Value} {mm ck b4 b5 b7:Nat} {E4 E5 E7:TypeId} {es:Array MapEntry} {met:Nat->Prop} (hle:Sle S0 S) (hst:StS S0 S sb st) (h:RdT S0 cs t) (hm:MetM es met)
  (hpre:∀ m,met m->(∃ x∈vT t,Rch st x m)->¬ Rch st m n) (h4:S b4=some (.cells #[.pointer (some ⟨sb,0,none⟩)] E4)) (h5:S b5=some (.cells #[.int .i64 n] E5)) (h7:S b7=some (.cells #[.map (some mm)] E7)) :
  Tri Tryz.prog sX [.agg cs.toArray,.pointer (some ⟨b4,0,none⟩),.pointer (some ⟨b5,0,none⟩),.pointer (some ⟨b7,0,none⟩)] [.blk mm (.map es ck)] S fun r I' S'=>S'=S/\∃ es' ck',I'=[.blk mm (.map es' ck')]/\
  ((gF st n t/\r=.bool true) ∨ (¬ gF st n t/\r=.bool false/\∃ met',MetM es' met'/\(∀ m,met m->met' m)/\∀ m,met' m->met m ∨ ¬ Rch st m n)):=by
 intro w hI
 have hlc:=h.length
 obtain ⟨X,hX⟩:∃ X,X=bu [Item.blk mm (.map es ck)]:=⟨_,rfl⟩
 rw [<- hX] at hI ⊢
 refine js.2 ?_
 dsimp only[js,jr]
 refine bp hI fun b1 w' hI=>?_
 have hI:Inv w X ([.blk b1 (.cells cs.toArray ab)]++[.blk mm (.map es ck)]) S w':=hI.perm (List.Perm.swap ..)
 refine cA eE (by rw [hI.cellS h4]; rfl) ?_
 refine cA aI (by rw [hI.cellS h5]; rfl) ?_
 refine az hI 0 ac rfl (by simpa using hlc) ?_
 refine cA (by decide +kernel) (by rw [hI.cellS h7]; rfl) ?_
 refine Run.callE g6 gX hI (hoc S0 S cs mm ck es met hle hst h hm hpre) fun v' I' S' w'=>?_
 rintro ⟨eS,es',ck',rfl,hres⟩ _ hI
 rw [eS] at hI
 exact ⟨_,_,_,rfl,hI.pick [false,true],Ext.refl _ _ _,rfl,es',ck',rfl,hres⟩
theorem Hq {N:Nat} {st:aj} (hg:Good N st) {sb n:Nat} (hn:∀ u,st[n]?≠some (some u)) (hnN:n<1000000000) {t v:T} (ho:okU N t) (hwv:dw st t v)
  (hv:t.kind=1->v.kind≠1->OC st sb n v) (hk:t.kind≠1->∀ x∈t.kids,OC st sb n x):OC st sb n t:=by
 intro S0 S cs mm ck es met hle hst h hmet hpre w hI
 have hlc:=h.length
 obtain ⟨X,hX⟩:∃ X,X=bu [Item.blk mm (.map es ck)]:=⟨_,rfl⟩
 rw [<- hX] at hI ⊢
 have h0:=h
 obtain ⟨kv,rfl,_,_,_,hks⟩:=RdT.iff.1 h
 refine lf.2 ?_
 dsimp only[lf,jr]
 refine bp hI fun b4 w' hI=>?_
 refine bp hI fun b5 w' hI=>?_
 refine bp hI fun b6 w' hI=>?_
 refine bp hI fun b7 w' hI=>?_
 have hI:Inv w X [.blk mm (.map es ck),.blk b4 (.cells #[.pointer (some ⟨sb,0,none⟩)] jJ),.blk b5 (.cells #[.int .i64 n] b0),.blk b6 (.cells #[.int .i64 t.kind,.int .i64 t.n,.string t.name,kv] ab),.blk b7 (.cells #[.map (some mm)] gH)] S w':=hI
 refine ae hI 3 rfl aV aI rfl ?_
 refine bl ?_
 refine aH (fun hk1=>?_) (fun hk1=>?_)
 ·obtain ⟨hn0,_⟩:=ho.var hk1
  obtain ⟨j,hj⟩:∃ j:Nat,t.n=j:=⟨t.n.toNat,by omega⟩
  have hvt:vT t=[j]:=by rw [ja hk1,hj,dF]
  have hzb:gQ Tryz.prog Kv=some (.bool false):=by kernel_rfl
  have hun:Tryz.prog.underlying gH=some (.map b0 Kv):=by kernel_rfl
  refine bb hI 4 (by decide +kernel) rfl rfl ?_
  refine ae hI 3 rfl bm aI rfl ?_
  rw [hj] at hI ⊢
  rcases hmet.find j with ⟨hmj,q,hf⟩|⟨hmj,hf⟩
  ·refine sV (c:=false) (ok:=true) (v:=.bool true) (hI.its (.blk mm (.map es ck)) (by simp)) hun gd hzb (.inl ⟨q,hf,rfl⟩) ?_
   refine aw (fun _=>?_) (fun hb=>by cases hb)
   have hno:¬ gF st n t:=by
    rintro ⟨x,hx,hr⟩
    have hxj:=hx
    rw [hvt,bY] at hxj
    subst hxj
    exact hpre x hmj ⟨x,hx,.refl x⟩ hr
   exact ⟨_,_,_,rfl,hI.pick [true,false,false,false,false],Ext.refl _ _ _,rfl,es,ck,rfl,.inr ⟨hno,rfl,met,hmet,fun _ h=>h,fun _ h=>.inl h⟩⟩
  refine sV (c:=false) (ok:=false) (v:=.bool false) (hI.its (.blk mm (.map es ck)) (by simp)) hun gd hzb (.inr ⟨hf,rfl,rfl⟩) ?_
  refine aw (fun hb=>by cases hb) (fun _=>?_)
  refine bb hI 4 (by decide +kernel) rfl rfl ?_
  refine ae hI 3 rfl bm aI rfl ?_
  refine Io hI 0 hun gd rfl hf fun w' hI=>?_
  have hmet2:=hmet.push j ck
  generalize hes2:es.push { key:=.int .i64 (j:Int),val:=.bool true,born:=ck }=es2 at hmet2
  rw [hes2] at hI
  have hI:Inv w X [.blk mm (.map es2 (ck+1)),.blk b4 (.cells #[.pointer (some ⟨sb,0,none⟩)] jJ),.blk b5 (.cells #[.int .i64 n] b0),.blk b6 (.cells #[.int .i64 t.kind,.int .i64 j,.string t.name,kv] ab),.blk b7 (.cells #[.map (some mm)] gH)] S w':=hI
  refine bb hI 1 eE rfl rfl ?_
  refine az hI 3 ac rfl rfl ?_
  rw [hj] at h0
  refine Run.call0 gA gy hI (jz hg hwv ho hst h0) fun v' I' S' w'=>?_
  rintro ⟨eS,rfl,cs',rfl,hcs'⟩ _ hI
  rw [eS] at hI
  clear eS
  have hlc':=hcs'.length
  refine aP hI aZ fun b9 w' hI=>?_
  have hI:Inv w X [.blk mm (.map es2 (ck+1)),.blk b4 (.cells #[.pointer (some ⟨sb,0,none⟩)] jJ),.blk b5 (.cells #[.int .i64 n] b0),.blk b6 (.cells #[.int .i64 t.kind,.int .i64 j,.string t.name,kv] ab),.blk b7 (.cells #[.map (some mm)] gH),.blk b9 _] S w':=hI
  refine aA hI 5 rfl ac (by simpa using hlc') rfl (by simpa using hcs'.one) fun w' hI=>?_
  have hcs0:=hcs'
  obtain ⟨kv',rfl,_⟩:=RdT.iff.1 hcs'
  have hI:Inv w X [.blk mm (.map es2 (ck+1)),.blk b4 (.cells #[.pointer (some ⟨sb,0,none⟩)] jJ),.blk b5 (.cells #[.int .i64 n] b0),.blk b6 (.cells #[.int .i64 t.kind,.int .i64 j,.string t.name,kv] ab),.blk b7 (.cells #[.map (some mm)] gH),.blk b9 (.cells #[.int .i64 v.kind,.int .i64 v.n,.string v.name,kv'] ab)] S w':=hI
  have hocc:=Ov hwv hn
  have hmj2:∀ m,(met m ∨ m=j)->¬ gF st n t->met m ∨ ¬ Rch st m n:=by
   rintro m (hm|rfl) hno
   ·exact .inl hm
   ·exact .inr fun hr=>hno ⟨m,by rw [hvt]; exact bY.2 rfl,hr⟩
  refine ae hI 5 rfl aV aI rfl ?_
  refine bl ?_
  refine aH (fun hv1=>?_) (fun hv1=>?_)
  ·refine ae hI 5 rfl bm aI rfl ?_
   refine bb hI 2 aI rfl rfl ?_
   refine bl ?_
   have hiff:gF st n v↔v.n.toNat=n:=by
    have hfree:=EQ.1 (mP hwv) hv1
    constructor
    ·rintro ⟨x,hx,hr⟩
     rw [ja hv1,bY] at hx
     subst hx
     cases hr with
     | refl=>rfl
     | step h1 _ _=>
      rcases hfree with e|e
      ·rw [e] at h1; cases h1
      ·rw [e] at h1; cases h1
    ·intro e
     exact ⟨n,by rw [ja hv1,e]; exact bY.2 rfl,.refl n⟩
   have hvn0:0<=v.n:=by
    exact ((Ho hg hwv ho).var hv1).1
   have hres:decide (v.n=(n:Int))=decide (v.n.toNat=n):=by
    rw [oS,bC,bC]
    omega
   rw [hres]
   refine ⟨_,_,_,rfl,hI.pick [true,false,false,false,false,false],Ext.refl _ _ _,rfl,es2,ck+1,rfl,?_⟩
   by_cases e:v.n.toNat=n
   ·left
    exact ⟨hocc.2 (hiff.2 e),by rw [aS e]⟩
   ·right
    have hno:¬ gF st n t:=fun h=>e (hiff.1 (hocc.1 h))
    exact ⟨hno,by rw [bg e],_,hmet2,fun m hm=>.inl hm,fun m hm=>hmj2 m hm hno⟩
  ·refine bb hI 1 eE rfl rfl ?_
   refine bb hI 2 aI rfl rfl ?_
   refine az hI 5 ac rfl rfl ?_
   refine bb hI 4 (by decide +kernel) rfl rfl ?_
   have hI:Inv w X ([.blk b4 (.cells #[.pointer (some ⟨sb,0,none⟩)] jJ)]++[.blk mm (.map es2 (ck+1))]) S w':=(hI.pick [true,true,false,false,false,false]).perm (List.Perm.swap ..)
   have hlk:∃ u,look st t=some u:=by
    cases hl:look st t with
    | some u=>exact ⟨u,rfl⟩
    | none=>
     have:v=t:=by
      cases hwv with
      | stop _=>rfl
      | step h1 _=>rw [h1] at hl; cases hl
     rw [this] at hv1
     exact absurd hk1 hv1
   obtain ⟨u,hl⟩:=hlk
   obtain ⟨rk,hrk⟩:=hg.rk
   have hwr:=Ej hrk hwv u hl
   have hpre2:∀ m,(met m ∨ m=j)->(∃ x∈vT v,Rch st x m)->¬ Rch st m n:=by
    rintro m (hm|rfl) ⟨x,hx,hr⟩
    ·refine hpre m hm ⟨j,by rw [hvt]; exact bY.2 rfl,?_⟩
     have h1:=Kj hwv u hl x hx
     rw [hj,dF] at h1
     exact h1.trans hr
    ·exfalso
     have h1:=hwr x hx
     have h2:=OW hrk hr
     rw [hj,dF] at h1
     omega
   refine Run.callE g6 gX hI (hv hk1 hv1 S0 S _ mm (ck+1) es2 _ hle hst hcs0 hmet2 hpre2) fun v' I' S' w'=>?_
   rintro ⟨eS,es3,ck3,rfl,hres⟩ _ hI
   rw [eS] at hI
   refine ⟨_,_,_,rfl,hI.pick [false,true],Ext.refl _ _ _,rfl,es3,ck3,rfl,?_⟩
   rcases hres with ⟨h1,rfl⟩|⟨h1,rfl,met3,hm3,h2,h3⟩
   ·exact .inl ⟨hocc.2 h1,rfl⟩
   ·have hno:¬ gF st n t:=fun h=>h1 (hocc.1 h)
    refine .inr ⟨hno,rfl,met3,hm3,fun m hm=>h2 m (.inl hm),fun m hm=>?_⟩
    rcases h3 m hm with h4|h4
    ·exact hmj2 m h4 hno
    ·exact .inr h4
 ·refine ae hI 3 rfl av ao rfl ?_
  refine nT ?_
  have hvt:vT t=vTL t.kids:=zP hk1
  have hI:Inv w X ([.blk mm (.map es ck)]++bj [(b4,.cells #[.pointer (some ⟨sb,0,none⟩)] jJ),(b5,.cells #[.int .i64 n] b0),(b7,.cells #[.map (some mm)] gH)]) S w':=hI.pick [true,true,true,false,true]
  obtain ⟨S1,hle1,hins,hI1,hback⟩:=Inv.lendAll _ hI
  have h4:=hins _ (bq ..)
  have h5:=hins _ (bv _ (bq ..))
  have h7:=hins _ (bv _ (bv _ (bq ..)))
  have hI1:Inv w X ([]++[.blk mm (.map es ck)]) S1 w':=hI1
  refine Run.callE (A:=[]) eZ fg hI1 (wi ru rG (hle.trans hle1) hks
   (J:=fun i I=>∃ es' ck' met',I=[.blk mm (.map es' ck')]/\MetM es' met'/\(∀ m,met m->met' m)/\(∀ m,met' m->met m ∨ ¬ Rch st m n)/\∀ k (_:k<t.kids.length),k<i->¬ gF st n t.kids[k])
   (Fin:=fun I=>∃ es' ck',I=[.blk mm (.map es' ck')]/\gF st n t) ?_ ⟨es,ck,met,rfl,hmet,fun _ h=>h,fun _ h=>.inl h,fun k _ h=>by omega⟩) fun v' I2 S2 w'=>?_
  ·rintro i hi cs I hcs ⟨es',ck',met',rfl,hm',hsub,hnew,hdone⟩
   have hpre2:∀ m,met' m->(∃ x∈vT t.kids[i],Rch st x m)->¬ Rch st m n:=by
    rintro m hm ⟨x,hx,hr⟩
    rcases hnew m hm with h1|h1
    ·exact hpre m h1 ⟨x,by rw [hvt]; exact n9.2 ⟨_,bQ hi,hx⟩,hr⟩
    ·exact h1
   intro w1 hI1
   refine (Aq (hk hk1 _ (bQ hi)) (hle.trans hle1) (hst.mono hle1) hcs hm' hpre2 h4 h5 h7 w1 hI1).mono ?_
   rintro e w2 ⟨v',I',S',rfl,hI2,hE,hS,es3,ck3,rfl,hres⟩
   refine ⟨_,_,_,rfl,hI2,hE,hS,?_⟩
   rcases hres with ⟨h1,rfl⟩|⟨h1,rfl,met3,hm3,h2,h3⟩
   ·obtain ⟨x,hx,hr⟩:=h1
    exact ⟨true,rfl,fun _=>⟨es3,ck3,rfl,x,by rw [hvt]; exact n9.2 ⟨_,bQ hi,hx⟩,hr⟩,fun e=>by cases e⟩
   ·refine ⟨false,rfl,fun e=>(by cases e),fun _=>⟨es3,ck3,met3,rfl,hm3,fun m hm=>h2 m (hsub m hm),fun m hm=>?_,fun k hk2 hki=>?_⟩⟩
    ·rcases h3 m hm with h4|h4
     ·exact hnew m h4
     ·exact .inr h4
    ·by_cases e:k=i
     ·subst e; exact h1
     ·exact hdone k hk2 (by omega)
  rintro ⟨eS,b,rfl,hb1,hb2⟩ _ hI
  rw [eS] at hI
  have hI:Inv w X I2 S1 w':=hI
  have hI:=hback _ _ hI
  cases b with
  | true=>
   obtain ⟨es',ck',rfl,hocc⟩:=hb1 rfl
   exact ⟨_,_,_,rfl,hI.sub (dn _ _),Ext.refl _ _ _,rfl,es',ck',rfl,.inl ⟨hocc,rfl⟩⟩
  | false=>
   obtain ⟨es',ck',met',rfl,hm',hsub,hnew,hdone⟩:=hb2 rfl
   have hno:¬ gF st n t:=by
    rintro ⟨x,hx,hr⟩
    rw [hvt] at hx
    obtain ⟨y,hy,hx⟩:=n9.1 hx
    obtain ⟨k,hk2,rfl⟩:=Jy.1 hy
    exact hdone k hk2 hk2 ⟨x,hx,hr⟩
   exact ⟨_,_,_,rfl,hI.sub (dn _ _),Ext.refl _ _ _,rfl,es',ck',rfl,.inr ⟨hno,rfl,met',hm',hsub,hnew⟩⟩
theorem GY {N:Nat} {st:aj} (hg:Good N st) {sb n:Nat} (hn:∀ u,st[n]?≠some (some u)) (hnN:n<1000000000):∀ t:T,okU N t->OC st sb n t:=by
 obtain ⟨rk,hrk⟩:=hg.rk
 have hone:∀ (m:Nat) (a:T),(∀ x∈vT a,∀ u,st[x]?=some (some u)->rk x<m)->okU N a->OC st sb n a:=by
  intro m
  induction m using Nat.strongRecOn with
  | _ m ihm=>
   refine T.ind fun k n' s ks ih hr ho=>?_
   obtain ⟨v,hwv⟩:=MB hg (.mk k n' s ks)
   refine Hq hg hn hnN ho hwv (fun hk1 hv1=>?_) (fun hk1 x hx=>?_)
   ·cases hl:look st (.mk k n' s ks) with
    | none=>
     have:v=.mk k n' s ks:=by
      cases hwv with
      | stop _=>rfl
      | step h1 _=>rw [h1] at hl; cases hl
     rw [this] at hv1
     exact absurd hk1 hv1
    | some u=>
     have hs:=(dc.1 hl).2
     have hlt:=hr _ (by rw [ja hk1]; exact bY.2 rfl) u hs
     exact ihm _ hlt v (fun x hx _ _=>Ej hrk hwv u hl x hx) (Ho hg hwv ho)
   ·exact ih x hx (fun y hy u hs=>hr y (by rw [zP hk1]; exact n9.2 ⟨x,hx,hy⟩) u hs) (j8 ho.kids x hx)
 have hM:∀ l:List Nat,∃ M,∀ m∈l,rk m<M:=by
  intro l
  induction l with
  | nil=>exact ⟨0,by simp⟩
  | cons x l ih=>
   obtain ⟨M,hM⟩:=ih
   refine ⟨M+rk x+1,fun m hm=>?_⟩
   rcases cQ.1 hm with rfl|hm
   ·omega
   ·have:=hM m hm; omega
 intro t ho
 obtain ⟨M,hM⟩:=hM (vT t)
 exact hone M t (fun x hx _ _=>hM x hx) ho
end
end
section
open Go Go.RowKit
abbrev au (sb mb:Nat) (es:Array MapEntry) (ck:Nat) (tv:Value) (tr:List Int):List Item:=[.blk sb (.cells #[.map (some mb),tv] cD),.blk mb (.map es ck),dX tv tr]
section
attribute [local irreducible] Run CondV aq aK
theorem Cj {N:Nat} {st:aj} (hg:Good N st) {n:Nat} (hf:st[n]?=some none) (hnN:n<1000000000) {t:T} (ht:okU N t) {S:ad} {cs:List Value} {sb mb ck:Nat} {es:Array MapEntry} {tv:Value} {tr:List Int} (h:RdT S cs t) (hm:KnownM S es st) (htr:tr.length<=1000000) :
  Tri Tryz.prog Bo [.pointer (some ⟨sb,0,none⟩),.int .i64 n,.agg cs.toArray] (au sb mb es ck tv tr) S fun r I' S'=>S'=S/\
   ((¬ gF st n t/\r=.bool true/\∃ es' ck' tv',I'=au sb mb es' ck' tv' (tr++[(n:Int)])/\KnownM S es' (st.set n (some t))) ∨ (gF st n t/\r=.bool false/\I'=au sb mb es ck tv tr)):=by
 intro w hI
 have hlc:=h.length
 obtain ⟨X,hX⟩:∃ X,X=bu (au sb mb es ck tv tr):=⟨_,rfl⟩
 rw [<- hX] at hI ⊢
 have hn:∀ u,st[n]?≠some (some u):=fun u hu=>by rw [hf] at hu; cases hu
 have hnl:n<st.length:=(fu.1 hf).1
 refine oU.2 ?_
 dsimp only[oU,gM]
 refine bp hI fun b5 w' hI=>?_
 refine az hI 3 ac rfl (by simpa [Value.cells] using hlc) ?_
 refine D7 hI fun mm w' hI=>?_
 have hI:Inv w X ([.blk b5 (.cells cs.toArray ab),dX tv tr,.blk mm (.map #[] 0)]++bj [(sb,.cells #[.map (some mb),tv] cD),(mb,.map es ck)]) S w':=hI.perm (by
  refine (List.Perm.trans ?_ (co (l₁:=[.blk b5 (.cells cs.toArray ab),.blk mm (.map #[] 0)]) (l₂:=au sb mb es ck tv tr)))
  refine (List.Perm.cons _ (List.Perm.trans (List.Perm.swap _ _ _) (List.Perm.cons _ ?_)))
  exact co (l₁:=[dX tv tr]) (l₂:=bj [(sb,.cells #[.map (some mb),tv] cD),(mb,.map es ck)]))
 obtain ⟨S1,hle,hins,hI1,hback⟩:=Inv.lendAll _ hI
 have hst:StS S S1 sb st:=⟨mb,tv,es,ck,cD,hins _ (bq ..),hins _ (bv _ (bq ..)),hm⟩
 have hI1:Inv w X ([.blk b5 (.cells cs.toArray ab),dX tv tr]++[.blk mm (.map #[] 0)]) S1 w':=hI1
 refine Run.callE g6 gX hI1 (GY hg hn hnN t ht S S1 cs mm 0 #[] _ hle hst h MetM.empty (fun m hm=>hm.elim)) fun v' I' S' w'=>?_
 rintro ⟨eS,es2,ck2,rfl,hres⟩ _ hI1
 rw [eS] at hI1
 have hI:=hback _ _ hI1
 have hI:Inv w X ([.blk b5 (.cells cs.toArray ab)]++au sb mb es ck tv tr) S w':=(hI.pick [true,true,false,true,true]).perm (List.Perm.cons _ (co (l₁:=bj [(sb,.cells #[.map (some mb),tv] cD),(mb,.map es ck)]) (l₂:=[dX tv tr])))
 rcases hres with ⟨hocc,rfl⟩|⟨hocc,rfl,_⟩
 ·refine aw (fun _=>?_) (fun hb=>by cases hb)
  exact ⟨_,_,_,rfl,hI.sub (gk _ _),Ext.refl _ _ _,rfl,.inr ⟨hocc,rfl,rfl⟩⟩
 refine aw (fun hb=>by cases hb) (fun _=>?_)
 have hfind:Instr.findNow (.int .i64) (.int .i64 n) es.toList 0=some none:=by
  rcases hm.find n with ⟨_,_,u,_,_,_,_,hu⟩|⟨_,hf⟩
  ·exact absurd hu (hn u)
  ·exact hf
 have hm2:=hm.push hnl hn h ck
 generalize hes2:es.push { key:=.int .i64 n,val:=.agg cs.toArray,born:=ck }=es2 at hm2
 have hI:Inv w X [.blk b5 (.cells cs.toArray ab),.blk sb (.cells #[.map (some mb),tv] cD),.blk mb (.map es ck),dX tv tr] S w':=hI
 refine ⟨fun D mZ vm Cq wb Em En w_=>Fx D 0 [En=.pointer (some ⟨sb,0,none⟩),Em=.pointer (some ⟨sb,0,none⟩),wb=.pointer (some ⟨sb,0,none⟩),Cq=.map (some mb),vm=.int .i64 n,mZ=.agg cs.toArray,True]/\Inv w X [.blk b5 (.cells cs.toArray ab),.blk sb (.cells #[.map (some mb),tv] cD),.blk mb (cond (D 6) (.map es2 (ck+1)) (.map es ck)),dX tv tr] S w_,⟨Fx.nil _ _,hI.draw⟩,⟨?_,?_,?_,?_,?_,?_,?_,trivial⟩,?_⟩
 all_goals (intro D bI; intros; rename_i mZ vm Cq wb Em En w_ hA_; have hF_:=hA_.1; obtain ⟨⟨cJ,cH,cK,cI,cN,cP,cz,_⟩,hI⟩:=hA_)
 ·exact ⟨hF_.set 0 rfl,hI⟩
 ·obtain rfl:=cJ ‹_›
  refine ar ?_
  exact ⟨hF_.set 1 rfl,hI⟩
 ·obtain rfl:=cH ‹_›
  refine aC qG ?_
  exact ⟨hF_.set 2 rfl,hI⟩
 ·obtain rfl:=cK ‹_›
  refine bb hI 1 (by decide +kernel) rfl rfl ?_
  exact ⟨hF_.set 3 rfl,hI⟩
 ·exact ⟨hF_.set 4 rfl,hI⟩
 ·refine az hI 0 ac rfl (by simpa using hlc) ?_
  exact ⟨hF_.set 5 rfl,hI⟩
 ·obtain rfl:=cI ‹_›
  obtain rfl:=cN ‹_›
  obtain rfl:=cP ‹_›
  rw [bI] at hI
  refine Io hI 2 iG gd rfl hfind fun w_ hI=>?_
  rw [hes2] at hI
  exact ⟨hF_.set 6 trivial,hI⟩
 obtain ⟨rfl,rfl,rfl,rfl,rfl,rfl,_,_⟩:=hF_.all
 have M6:D 6=true:=by assumption
 clear hF_ cJ cH cK cI cN cP cz
 rw [M6] at hI
 have hI:Inv w X [.blk b5 (.cells cs.toArray ab),.blk sb (.cells #[.map (some mb),tv] cD),.blk mb (.map es2 (ck+1)),dX tv tr] S w_:=hI
 obtain ⟨va,vn,vc,hv9⟩:=hI.rowSlice 3 rfl
 refine ar ?_
 refine aC eO ?_
 refine bb hI 1 gW rfl rfl ?_
 refine d6 hI ra rfl (by omega) (by omega) fun b w' hI=>?_
 refine dy hI 3 (k:=1) (o:=0) (m:=1) [.int .i64 n] ra (by omega) rfl rfl ?_ (by simp [Value.oneCell']) (by omega) (by omega) fun tv2 w' hI=>?_
 ·intro j u hj
  rw [hI.cellL (i:=4) rfl]
  match j with
  | 0=>simpa [Value.cells] using hj
  | j+1=>simp at hj
 rw [wK] at hI
 have hI:Inv w X [.blk b5 (.cells cs.toArray ab),.blk sb (.cells #[.map (some mb),tv] cD),.blk mb (.map es2 (ck+1)),dX tv2 (tr++[(n:Int)]),.blk b (.cells #[.int .i64 n] b0)] S w':=by
  have e:Item.row tv2 b0 1 (tr.length+1) (ints (tr++[(n:Int)]))=dX tv2 (tr++[(n:Int)]):=by simp [dX]
  rw [<- e]
  exact hI
 obtain ⟨va2,vn2,vc2,hv2⟩:=hI.rowSlice 3 rfl
 refine ar ?_
 refine cT hI 1 rfl eO gW rfl (by rw [hv2]; rfl) (by rw [hv2]; rfl) fun w' hI=>?_
 have hI:Inv w X ([.blk b5 (.cells cs.toArray ab)]++(au sb mb es2 (ck+1) tv2 (tr++[(n:Int)])++[.blk b (.cells #[.int .i64 n] b0)])) S w':=hI
 exact ⟨_,_,_,rfl,(hI.sub (dz [_] _)).sub (dn _ _),Ext.refl _ _ _,rfl,.inl ⟨hocc,rfl,es2,ck+1,tv2,rfl,hm2⟩⟩
def ec:aj->List Int->aj
 | st,[]=>st
 | st,n::ns=>(ec st ns).set n.toNat none
theorem qs (st:aj):∀ a b:List Int,ec st (a++b)=ec (ec st b) a
 | [],_=>rfl
 | n::a,b=>by rw [gt,ec,ec,qs st a b]
theorem mp (st:aj):∀ (ns:List Int) (i:Nat),(ec st ns)[i]?=if (∃ n∈ns,n.toNat=i) then st[i]?.map (fun _=>none) else st[i]?
 | [],i=>by rw [ec,af (by simp)]
 | n::ns,i=>by
  rw [ec,yb,mp st ns]
  have hl:(ec st ns).length=st.length:=by
   clear i
   induction ns with
   | nil=>rfl
   | cons m ns ih=>rw [ec,oI,ih]
  by_cases h1:n.toNat=i
  ·subst h1
   have h3:∃ m∈n::ns,m.toNat=n.toNat:=⟨n,by simp,rfl⟩
   by_cases h2:n.toNat<st.length
   ·rw [ai rfl,hl,ai h2,ai h3,iR h2]; rfl
   ·rw [ai rfl,hl,af h2,ai h3,O4 (by omega)]; rfl
  ·rw [af h1]
   by_cases h2:∃ m∈ns,m.toNat=i
   ·obtain ⟨m,h3,h4⟩:=h2
    rw [ai ⟨m,h3,h4⟩,ai ⟨m,bv _ h3,h4⟩]
   ·rw [af h2,af]
    rintro ⟨m,h3,h4⟩
    rcases cQ.1 h3 with rfl|h3
    ·exact h1 h4
    ·exact h2 ⟨m,h3,h4⟩
def Tr (st st':aj) (tr tr':List Int):Prop:=∃ ns,tr'=tr++ns/\ec st' ns=st/\(∀ n∈ns,∃ j:Nat,n=(j:Int)/\st[j]?=some none)/\ns.length+unb st'<=unb st
theorem Tr.refl (st:aj) (tr:List Int):Tr st st tr tr:=⟨[],(cX _).symm,rfl,by simp,by simp⟩
theorem Tr.bind {st:aj} {tr:List Int} {n:Nat} {t:T} (h:st[n]?=some none):Tr st (st.set n (some t)) tr (tr++[(n:Int)]):=by
 refine ⟨[(n:Int)],rfl,?_,fun m hm=>⟨n,bY.1 hm,h⟩,by have:=rf st n t h; simp only [bk,bG]; omega⟩
 rw [ec,ec,dF,List.set_set]
 apply tk
 intro i
 rw [yb]
 by_cases e:n=i
 ·subst e
  rw [ai rfl,h,ai (fu.1 h).1]
 ·rw [af e]
theorem Tr.trans {a b c:aj} {x y z:List Int} (h:Tr a b x y) (h':Tr b c y z):Tr a c x z:=by
 obtain ⟨ns,rfl,rfl,h3,h6⟩:=h
 obtain ⟨ms,rfl,rfl,h5,h7⟩:=h'
 refine ⟨ns++ms,by rw [eI],by rw [qs],fun n hn=>?_,by rw [bh]; omega⟩
 rcases cd.1 hn with hn|hn
 ·exact h3 n hn
 ·obtain ⟨j,rfl,hj⟩:=h5 n hn
  refine ⟨j,rfl,?_⟩
  rw [mp]
  split
  ·rw [hj]; rfl
  ·exact hj
def UI (st:aj) (a b:T) (r:Bool) (st':aj):Prop:=∀ (S:ad) (cs ds:List Value) (sb mb ck:Nat) (es:Array MapEntry) (tv:Value) (tr:List Int),RdT S cs a->RdT S ds b->KnownM S es st->tr.length+unb st<=1000000->
 Tri Tryz.prog zv [.pointer (some ⟨sb,0,none⟩),.agg cs.toArray,.agg ds.toArray] (au sb mb es ck tv tr) S fun q I' S'=>S'=S/\q=.bool r/\∃ es' ck' tv' tr',I'=au sb mb es' ck' tv' tr'/\KnownM S es' st'/\tr'.length+unb st'<=1000000/\Tr st st' tr tr'
set_option maxHeartbeats 1000000 in
theorem G0 {N:Nat} (hN:N<=1000000) {st st':aj} {a b a' b':T} {r:Bool} (hg:Good N st) (hj:okJ N (.one a b)) (hwa:dw st a a') (hwb:dw st b b') (he:RW UI st a' b' r st'):UI st a b r st':=by
 intro S cs ds sb mb ck es tv tr h h' hkm htr w hI
 have hlc:=h.length
 have hld:=h'.length
 have hoa:=fS hg hwa hj.1
 have hob:=fS hg hwb hj.2
 obtain ⟨X,hX⟩:∃ X,X=bu (au sb mb es ck tv tr):=⟨_,rfl⟩
 rw [<- hX] at hI ⊢
 refine l9.2 ?_
 dsimp only[l9,gM]
 refine bp hI fun b1 w' hI=>?_
 refine bp hI fun b2 w' hI=>?_
 have hI:Inv w X ([.blk b1 (.cells cs.toArray ab),.blk b2 (.cells ds.toArray ab),dX tv tr]++bj [(sb,.cells #[.map (some mb),tv] cD),(mb,.map es ck)]) S w':=hI.perm (by
  refine (List.Perm.trans ?_ (co (l₁:=[.blk b1 (.cells cs.toArray ab),.blk b2 (.cells ds.toArray ab)]) (l₂:=au sb mb es ck tv tr)))
  exact List.Perm.cons _ (List.Perm.cons _ (co (l₁:=[dX tv tr]) (l₂:=bj [(sb,.cells #[.map (some mb),tv] cD),(mb,.map es ck)]))))
 obtain ⟨S1,hle,hins,hI,hback⟩:=Inv.lendAll _ hI
 have hst:StS S S1 sb st:=⟨mb,tv,es,ck,cD,hins _ (bq ..),hins _ (bv _ (bq ..)),hkm⟩
 refine ⟨fun D Em En Hn Pl x9 x8 w_=>Fx D 0 [x8=.pointer (some ⟨sb,0,none⟩),x9=.agg cs.toArray,True,Hn=.pointer (some ⟨sb,0,none⟩),En=.agg ds.toArray,True,True,True]/\∃ cs' ds',(D 2=true->Pl=.agg (List.toArray cs')/\RdT S cs' a')/\(D 5=true->Em=.agg (List.toArray ds')/\RdT S ds' b')/\(D 6=true->D 1=true/\D 2=true)/\(D 7=true->D 4=true/\D 5=true)/\Inv w X [.blk b1 (.cells (cond (D 6) (List.toArray cs') cs.toArray) ab),.blk b2 (.cells (cond (D 7) (List.toArray ds') ds.toArray) ab),dX tv tr] S1 w_,⟨Fx.nil _ _,⟨[],[],aQ,aQ,aQ,aQ,hI.draw⟩⟩,⟨?_,?_,?_,?_,?_,?_,?_,?_,trivial⟩,?_⟩
 all_goals (intro D bI; intros; rename_i Em En Hn Pl x9 x8 w_ hA_; have hF_:=hA_.1; obtain ⟨⟨cJ,cH,cK,cI,cN,cP,cz,dC,_⟩,⟨cs',ds',e2,e5,k6,k7,hI⟩⟩:=hA_)
 ·exact ⟨hF_.set 0 rfl,⟨cs',ds',e2,e5,k6,k7,hI⟩⟩
 ·have f6:D 6=false:=cq.2 fun h=>by rw [(k6 h).1] at bI; cases bI
  refine az (c:=cs.toArray) hI 0 ac (by rw [f6]; rfl) (by simpa using hlc) ?_
  have k6:=fun (h:aB D 1 6=true)=>(⟨rfl,(k6 h).2⟩:aB D 1 1=true/\aB D 1 2=true)
  exact ⟨hF_.set 1 rfl,⟨cs',ds',e2,e5,k6,k7,hI⟩⟩
 ·obtain rfl:=cJ ‹_›
  obtain rfl:=cH ‹_›
  have f6:D 6=false:=cq.2 fun h=>by rw [(k6 h).2] at bI; cases bI
  refine Run.call0 gA gy hI (jz hg hwa hj.1.1 hst h) fun v' I' S' w_=>?_
  rintro ⟨eS,rfl,cs',rfl,hcs'⟩ _ hI
  rw [eS] at hI
  have e2:=fun (_:aB D 2 2=true)=>(⟨rfl,hcs'⟩:Value.agg (List.toArray cs')=Value.agg (List.toArray cs')/\RdT S cs' a')
  have k6:=fun (h:aB D 2 6=true)=>(⟨(k6 h).1,rfl⟩:aB D 2 1=true/\aB D 2 2=true)
  have hI:Inv w X [.blk b1 (.cells (cond (D 6) (List.toArray cs') cs.toArray) ab),.blk b2 (.cells (cond (D 7) (List.toArray ds') ds.toArray) ab),dX tv tr] S1 w_:=by rw [f6] at hI ⊢; simpa using hI
  exact ⟨hF_.set 2 (by first|assumption|trivial),⟨cs',ds',e2,e5,k6,k7,hI⟩⟩
 ·exact ⟨hF_.set 3 rfl,⟨cs',ds',e2,e5,k6,k7,hI⟩⟩
 ·have f7:D 7=false:=cq.2 fun h=>by rw [(k7 h).1] at bI; cases bI
  refine az (c:=ds.toArray) hI 1 ac (by rw [f7]; rfl) (by simpa using hld) ?_
  have k7:=fun (h:aB D 4 7=true)=>(⟨rfl,(k7 h).2⟩:aB D 4 4=true/\aB D 4 5=true)
  exact ⟨hF_.set 4 rfl,⟨cs',ds',e2,e5,k6,k7,hI⟩⟩
 ·obtain rfl:=cI ‹_›
  obtain rfl:=cN ‹_›
  have f7:D 7=false:=cq.2 fun h=>by rw [(k7 h).2] at bI; cases bI
  refine Run.call0 gA gy hI (jz hg hwb hj.2.1 hst h') fun v' I' S' w_=>?_
  rintro ⟨eS,rfl,ds',rfl,hds'⟩ _ hI
  rw [eS] at hI
  have e5:=fun (_:aB D 5 5=true)=>(⟨rfl,hds'⟩:Value.agg (List.toArray ds')=Value.agg (List.toArray ds')/\RdT S ds' b')
  have k7:=fun (h:aB D 5 7=true)=>(⟨(k7 h).1,rfl⟩:aB D 5 4=true/\aB D 5 5=true)
  have hI:Inv w X [.blk b1 (.cells (cond (D 6) (List.toArray cs') cs.toArray) ab),.blk b2 (.cells (cond (D 7) (List.toArray ds') ds.toArray) ab),dX tv tr] S1 w_:=by rw [f7] at hI ⊢; simpa using hI
  exact ⟨hF_.set 5 (by first|assumption|trivial),⟨cs',ds',e2,e5,k6,k7,hI⟩⟩
 ·have RV:=cK ‹_›
  obtain ⟨q2,hR2⟩:=e2 ‹D 2=true›
  rw [bI] at hI
  subst q2
  refine aA hI 0 rfl ac (by simpa using hR2.length) (by simpa using hlc) (by simpa using hR2.one) fun w_ hI=>?_
  have k6:=fun (_:aB D 6 6=true)=>(⟨‹D 1=true›,‹D 2=true›⟩:aB D 6 1=true/\aB D 6 2=true)
  exact ⟨hF_.set 6 trivial,⟨cs',ds',e2,e5,k6,k7,hI⟩⟩
 ·have NN:=cP ‹_›
  obtain ⟨q5,hR5⟩:=e5 ‹D 5=true›
  rw [bI] at hI
  subst q5
  refine aA hI 1 rfl ac (by simpa using hR5.length) (by simpa using hld) (by simpa using hR5.one) fun w_ hI=>?_
  have k7:=fun (_:aB D 7 7=true)=>(⟨‹D 4=true›,‹D 5=true›⟩:aB D 7 4=true/\aB D 7 5=true)
  exact ⟨hF_.set 7 trivial,⟨cs',ds',e2,e5,k6,k7,hI⟩⟩
 obtain ⟨rfl,rfl,RV,rfl,rfl,NN,_,_,_⟩:=hF_.all
 have Um:D 2=true:=by assumption
 have PS:D 5=true:=by assumption
 have M6:D 6=true:=by assumption
 have C5:D 7=true:=by assumption
 clear hF_ cJ cH cK cI cN cP cz dC
 obtain ⟨_,hcs'⟩:=e2 Um
 obtain ⟨_,hds'⟩:=e5 PS
 rw [M6,C5] at hI
 clear e2 e5 k6 k7
 have hI:=hback _ _ hI
 have hI:Inv w X ([.blk b1 (.cells cs'.toArray ab),.blk b2 (.cells ds'.toArray ab)]++au sb mb es ck tv tr) S w_:=hI.perm (List.Perm.cons _ (List.Perm.cons _ (co (l₁:=bj [(sb,.cells #[.map (some mb),tv] cD),(mb,.map es ck)]) (l₂:=[dX tv tr]))))
 have hcs:=hcs'
 have hds:=hds'
 obtain ⟨kv,rfl,_,_,_,hks⟩:=RdT.iff.1 hcs'
 obtain ⟨kv',rfl,_,_,_,hks'⟩:=RdT.iff.1 hds'
 obtain ⟨k,n,s,ks⟩:=a'
 obtain ⟨k',n',s',ks'⟩:=b'
 unfold RW at he
 simp only [T.name,T.kids,T.kind,T.n] at hks hks' hI he ⊢
 have hlen:=hks.le
 simp only [maxLen] at hlen
 have hfa:=fun h=>um hg h (mP hwa) hoa.1
 have hfb:=fun h=>um hg h (mP hwb) hob.1
 have hlN:=hg.len
 refine ⟨fun q w'=>q=.bool (decide (k=1/\k'=1/\n=n'))/\Inv w X ([.blk b1 (.cells #[.int .i64 k,.int .i64 n,.string s,kv] ab),.blk b2 (.cells #[.int .i64 k',.int .i64 n',.string s',kv'] ab)]++au sb mb es ck tv tr) S w',?_,?_⟩
 ·refine ae hI 0 rfl aV aI rfl ?_
  refine bl ?_
  by_cases e1:k=1
  ·rw [aS e1]
   refine rpG ?_
   refine ae hI 1 rfl aV aI rfl ?_
   refine bl ?_
   by_cases e2:k'=1
   ·rw [aS e2]
    refine rpG ?_
    refine ae hI 0 rfl bm aI rfl ?_
    refine ae hI 1 rfl bm aI rfl ?_
    refine bl ?_
    refine rpG ?_
    exact ⟨by simp [e1,e2],hI⟩
   ·rw [bg e2]
    refine rpG ?_
    exact ⟨by simp [e2],hI⟩
  ·rw [bg e1]
   refine rpG ?_
   exact ⟨by simp [e1],hI⟩
 intro q _ _ _ _ _ _ _ _ _ _ _ _ _ _ _ w'
 rintro ⟨rfl,hI⟩
 refine aH (fun hsame=>?_) (fun hsame=>?_)
 ·have:r=true/\st'=st:=by
   rcases he with ⟨_,_,_,h1,h2⟩|⟨_,h1,_⟩|⟨h1,_,_⟩|⟨h1,_,_⟩
   ·exact ⟨h1,h2⟩
   ·exact absurd hsame.2 h1
   ·exact absurd hsame.1 h1
   ·exact absurd hsame.1 h1
  obtain ⟨rfl,rfl⟩:=this
  exact ⟨_,_,_,rfl,hI.sub (dz [_,_] _),Ext.refl _ _ _,rfl,rfl,es,ck,tv,tr,rfl,hkm,htr,Tr.refl _ _⟩
 refine ae hI 0 rfl aV aI rfl ?_
 refine bl ?_
 refine aH (fun hk1=>?_) (fun hk1=>?_)
 ·have hend:(¬ gF st n.toNat (.mk k' n' s' ks')/\r=true/\st'=st.set n.toNat (some (.mk k' n' s' ks'))) ∨ (gF st n.toNat (.mk k' n' s' ks')/\r=false/\st'=st):=by
   rcases he with ⟨h1,h2,h3,_⟩|⟨_,_,h1⟩|⟨h1,_,_⟩|⟨h1,_,_⟩
   ·exact absurd ⟨h1,h2,h3⟩ hsame
   ·exact h1
   ·exact absurd hk1 h1
   ·exact absurd hk1 h1
  obtain ⟨hn0,hnN,_⟩:=hoa.1.var hk1
  have hfa:=hfa hk1
  simp only [T.n] at hn0 hnN hfa
  obtain ⟨j,rfl⟩:∃ j:Nat,n=j:=⟨n.toNat,by omega⟩
  rw [dF] at hfa hend
  refine ae hI 0 rfl bm aI rfl ?_
  refine az hI 1 ac rfl rfl ?_
  refine Run.callE (A:=[_,_]) oM oo hI (Cj hg hfa (by omega) hob.1 hds hkm (by omega)) fun v' I' S' w'=>?_
  rintro ⟨eS,hres⟩ _ hI
  rw [eS] at hI
  have hun:=rf st j (.mk k' n' s' ks') hfa
  rcases hend with ⟨h1,rfl,rfl⟩|⟨h1,rfl,rfl⟩
  ·rcases hres with ⟨_,rfl,es2,ck2,tv2,rfl,hm2⟩|⟨h2,_⟩
   ·exact ⟨_,_,_,rfl,hI.sub (dz [_,_] _),Ext.refl _ _ _,rfl,rfl,es2,ck2,tv2,_,rfl,hm2,by simp; omega,Tr.bind (by assumption)⟩
   ·exact absurd h2 h1
  ·rcases hres with ⟨h2,_⟩|⟨_,rfl,rfl⟩
   ·exact absurd h1 h2
   ·exact ⟨_,_,_,rfl,hI.sub (dz [_,_] _),Ext.refl _ _ _,rfl,rfl,es,ck,tv,tr,rfl,hkm,htr,Tr.refl _ _⟩
 refine ae hI 1 rfl aV aI rfl ?_
 refine bl ?_
 refine aH (fun hk2=>?_) (fun hk2=>?_)
 ·have hend:(¬ gF st n'.toNat (.mk k n s ks)/\r=true/\st'=st.set n'.toNat (some (.mk k n s ks))) ∨ (gF st n'.toNat (.mk k n s ks)/\r=false/\st'=st):=by
   rcases he with ⟨h1,_⟩|⟨h1,_,_⟩|⟨_,_,h1⟩|⟨_,h1,_⟩
   ·exact absurd h1 hk1
   ·exact absurd h1 hk1
   ·exact h1
   ·exact absurd hk2 h1
  obtain ⟨hn0,hnN,_⟩:=hob.1.var hk2
  have hfb:=hfb hk2
  simp only [T.n] at hn0 hnN hfb
  obtain ⟨j,rfl⟩:∃ j:Nat,n'=j:=⟨n'.toNat,by omega⟩
  rw [dF] at hfb hend
  refine ae hI 1 rfl bm aI rfl ?_
  refine az hI 0 ac rfl rfl ?_
  refine Run.callE (A:=[_,_]) oM oo hI (Cj hg hfb (by omega) hoa.1 hcs hkm (by omega)) fun v' I' S' w'=>?_
  rintro ⟨eS,hres⟩ _ hI
  rw [eS] at hI
  have hun:=rf st j (.mk k n s ks) hfb
  rcases hend with ⟨h1,rfl,rfl⟩|⟨h1,rfl,rfl⟩
  ·rcases hres with ⟨_,rfl,es2,ck2,tv2,rfl,hm2⟩|⟨h2,_⟩
   ·exact ⟨_,_,_,rfl,hI.sub (dz [_,_] _),Ext.refl _ _ _,rfl,rfl,es2,ck2,tv2,_,rfl,hm2,by simp; omega,Tr.bind (by assumption)⟩
   ·exact absurd h2 h1
  ·rcases hres with ⟨h2,_⟩|⟨_,rfl,rfl⟩
   ·exact absurd h1 h2
   ·exact ⟨_,_,_,rfl,hI.sub (dz [_,_] _),Ext.refl _ _ _,rfl,rfl,es,ck,tv,tr,rfl,hkm,htr,Tr.refl _ _⟩
 have hend:(ws (.mk k n s ks) (.mk k' n' s' ks')=false/\r=false/\st'=st) ∨ (ws (.mk k n s ks) (.mk k' n' s' ks')=true/\Chain UI st ks ks' r st'):=by
  rcases he with ⟨h1,_⟩|⟨h1,_,_⟩|⟨_,h1,_⟩|⟨_,_,h1⟩
  ·exact absurd h1 hk1
  ·exact absurd h1 hk1
  ·exact absurd h1 hk2
  ·exact h1
 refine ⟨fun q w'=>q=.bool (!ws (.mk k n s ks) (.mk k' n' s' ks'))/\Inv w X ([.blk b1 (.cells #[.int .i64 k,.int .i64 n,.string s,kv] ab),.blk b2 (.cells #[.int .i64 k',.int .i64 n',.string s',kv'] ab)]++au sb mb es ck tv tr) S w',?_,?_⟩
 ·refine ae hI 0 rfl aV aI rfl ?_
  refine ae hI 1 rfl aV aI rfl ?_
  refine gV ?_
  by_cases e1:k=k'
  ·rw [aS e1]
   refine rpG ?_
   refine ae hI 0 rfl bm aI rfl ?_
   refine ae hI 1 rfl bm aI rfl ?_
   refine gV ?_
   by_cases e2:n=n'
   ·rw [aS e2]
    refine rpG ?_
    refine ae hI 0 rfl aW aN rfl ?_
    refine ae hI 1 rfl aW aN rfl ?_
    refine Pn ?_
    by_cases e3:s=s'
    ·rw [aS e3]
     refine rpG ?_
     refine ae hI 0 rfl av ao rfl ?_
     refine aF hks ah ?_
     refine ae hI 1 rfl av ao rfl ?_
     refine aF hks' ah ?_
     refine gV ?_
     refine rpG ?_
     exact ⟨by rw [zS,aS e1,aS e2,aS e3,SV]; rfl,hI⟩
    ·rw [bg e3]
     refine rpG ?_
     exact ⟨by rw [zS,aS e1,aS e2,bg e3]; rfl,hI⟩
   ·rw [bg e2]
    refine rpG ?_
    exact ⟨by rw [zS,aS e1,bg e2]; rfl,hI⟩
  ·rw [bg e1]
   refine rpG ?_
   exact ⟨by rw [zS,bg e1]; rfl,hI⟩
 intro q _ _ _ _ _ _ _ _ _ _ _ _ _ _ _ _ _ _ _ _ _ _ _ _ _ _ _ _ w'
 rintro ⟨rfl,hI⟩
 cases hd:ws (.mk k n s ks) (.mk k' n' s' ks')
 ·refine aw (fun _=>?_) (fun hb=>by cases hb)
  have:r=false/\st'=st:=by
   rcases hend with ⟨_,h1⟩|⟨h1,_⟩
   ·exact h1
   ·rw [hd] at h1; cases h1
  obtain ⟨rfl,rfl⟩:=this
  exact ⟨_,_,_,rfl,hI.sub (dz [_,_] _),Ext.refl _ _ _,rfl,rfl,es,ck,tv,tr,rfl,hkm,htr,Tr.refl _ _⟩
 refine aw (fun hb=>by cases hb) (fun _=>?_)
 have hle2:ks.length=ks'.length:=uY hd
 have hch:Chain UI st ks ks' r st':=by
  rcases hend with ⟨h1,_⟩|⟨_,h1⟩
  ·rw [hd] at h1; cases h1
  ·exact h1
 refine ae hI 0 rfl av ao rfl ?_
 refine aF hks ah ?_
 refine ⟨fun i w'=>∃ (j:Nat) (st1:aj) (es1:Array MapEntry) (ck1:Nat) (tv1:Value) (tr1:List Int),j<=ks.length/\i=.int .i64 j/\Chain UI st1 (ks.drop j) (ks'.drop j) r st'/\KnownM S es1 st1/\tr1.length+unb st1<=1000000/\Tr st st1 tr tr1/\Inv w X ([.blk b1 (.cells #[.int .i64 k,.int .i64 n,.string s,kv] ab),.blk b2 (.cells #[.int .i64 k',.int .i64 n',.string s',kv'] ab)]++au sb mb es1 ck1 tv1 tr1) S w',fun i _=>ks.length - (intOf i).toNat,⟨0,st,es,ck,tv,tr,aR _,rfl,hch,hkm,htr,Tr.refl _ _,hI⟩,?_⟩
 intro t80 _ _ _ _ _ _ _ _ _ _ _ _ _ _ _ _ _ _ w'
 rintro ⟨j,st1,es1,ck1,tv1,tr1,hj,rfl,hrel,hkm1,htr1,hT1,hI⟩
 refine bL ?_
 refine aH (fun hji=>?_) (fun hji=>?_)
 ·have hj1:j<ks.length:=by omega
  have hj2:j<ks'.length:=by omega
  obtain ⟨c1,o1,cap1,a1,E1,fz1,rfl,hS1,hR1⟩:=hks.at_ hj1
  obtain ⟨c2,o2,cap2,a2,E2,fz2,rfl,hS2,hR2⟩:=hks'.at_ hj2
  rw [di hj1,di hj2] at hrel
  obtain ⟨r1,st2,hcall,hno,hyes⟩:=hrel.head
  have hcall:=hcall S _ _ sb mb ck1 es1 tv1 tr1 hR1 hR2 hkm1 htr1
  refine ⟨fun D Rj Rf Rn Rq Q6 Rh Rc Q1 Rm QY QX Q8 Ok w_=>Fx D 0 [Ok=.pointer (some ⟨sb,0,none⟩),Q8=.pointer (some ⟨b1,3,none⟩),QX=.slice (some ⟨c1,o1,none⟩) ks.length cap1,QY=.int .i64 j,Rm=.pointer (some ⟨c1,o1+j * 4,none⟩),Q1=.agg (ba a1 (o1+j * 4) 4).toArray,Rc=.pointer (some ⟨b2,3,none⟩),Rh=.slice (some ⟨c2,o2,none⟩) ks'.length cap2,Q6=.int .i64 j,Rq=.pointer (some ⟨c2,o2+j * 4,none⟩),Rn=.agg (ba a2 (o2+j * 4) 4).toArray,Rf=.bool r1,Rj=.bool (!r1)]/\(D 11=false->Inv w X ([.blk b1 (.cells #[.int .i64 k,.int .i64 n,.string s,.slice (some ⟨c1,o1,none⟩) ks.length cap1] ab),.blk b2 (.cells #[.int .i64 k',.int .i64 n',.string s',.slice (some ⟨c2,o2,none⟩) ks'.length cap2] ab)]++au sb mb es1 ck1 tv1 tr1) S w_)/\(D 11=true->∃ es2 ck2 tv2 tr2,KnownM S es2 st2/\tr2.length+unb st2<=1000000/\Tr st1 st2 tr1 tr2/\Inv w X ([.blk b1 (.cells #[.int .i64 k,.int .i64 n,.string s,.slice (some ⟨c1,o1,none⟩) ks.length cap1] ab),.blk b2 (.cells #[.int .i64 k',.int .i64 n',.string s',.slice (some ⟨c2,o2,none⟩) ks'.length cap2] ab)]++au sb mb es2 ck2 tv2 tr2) S w_)/\∃ es3 ck3 tv3 tr3,Inv w X ([.blk b1 (.cells #[.int .i64 k,.int .i64 n,.string s,.slice (some ⟨c1,o1,none⟩) ks.length cap1] ab),.blk b2 (.cells #[.int .i64 k',.int .i64 n',.string s',.slice (some ⟨c2,o2,none⟩) ks'.length cap2] ab)]++au sb mb es3 ck3 tv3 tr3) S w_,⟨Fx.nil _ _,⟨fun _=>hI.draw,aQ,es1,ck1,tv1,tr1,hI.draw⟩⟩,⟨?_,?_,?_,?_,?_,?_,?_,?_,?_,?_,?_,?_,?_,trivial⟩,?_⟩
  all_goals (intro D bI; intros; rename_i Rj Rf Rn Rq Q6 Rh Rc Q1 Rm QY QX Q8 Ok w_ hA_; have hF_:=hA_.1; obtain ⟨⟨cJ,cH,cK,cI,cN,cP,cz,dC,ek,fZ,dr,dM,fj,_⟩,⟨hI0,hI1,es3,ck3,tv3,tr3,hI⟩⟩:=hA_)
  ·exact ⟨hF_.set 0 rfl,⟨hI0,hI1,es3,ck3,tv3,tr3,hI⟩⟩
  ·refine aC av ?_
   exact ⟨hF_.set 1 rfl,⟨hI0,hI1,es3,ck3,tv3,tr3,hI⟩⟩
  ·obtain rfl:=cH ‹_›
   refine bb hI 0 ao rfl rfl ?_
   exact ⟨hF_.set 2 rfl,⟨hI0,hI1,es3,ck3,tv3,tr3,hI⟩⟩
  ·exact ⟨hF_.set 3 rfl,⟨hI0,hI1,es3,ck3,tv3,tr3,hI⟩⟩
  ·obtain rfl:=cK ‹_›
   obtain rfl:=cI ‹_›
   refine aD ah hj1 ?_
   exact ⟨hF_.set 4 rfl,⟨hI0,hI1,es3,ck3,tv3,tr3,hI⟩⟩
  ·obtain rfl:=cN ‹_›
   refine cm ac hR1.length (fun j v hj=>by rw [hI.cellS hS1]; exact aL rfl j v hj) ?_
   exact ⟨hF_.set 5 rfl,⟨hI0,hI1,es3,ck3,tv3,tr3,hI⟩⟩
  ·refine aC av ?_
   exact ⟨hF_.set 6 rfl,⟨hI0,hI1,es3,ck3,tv3,tr3,hI⟩⟩
  ·obtain rfl:=cz ‹_›
   refine bb hI 1 ao rfl rfl ?_
   exact ⟨hF_.set 7 rfl,⟨hI0,hI1,es3,ck3,tv3,tr3,hI⟩⟩
  ·exact ⟨hF_.set 8 rfl,⟨hI0,hI1,es3,ck3,tv3,tr3,hI⟩⟩
  ·obtain rfl:=dC ‹_›
   obtain rfl:=ek ‹_›
   refine aD ah hj2 ?_
   exact ⟨hF_.set 9 rfl,⟨hI0,hI1,es3,ck3,tv3,tr3,hI⟩⟩
  ·obtain rfl:=fZ ‹_›
   refine cm ac hR2.length (fun j v hj=>by rw [hI.cellS hS2]; exact aL rfl j v hj) ?_
   exact ⟨hF_.set 10 rfl,⟨hI0,hI1,es3,ck3,tv3,tr3,hI⟩⟩
  ·obtain rfl:=cJ ‹_›
   obtain rfl:=cP ‹_›
   obtain rfl:=dr ‹_›
   refine Run.callE (A:=[_,_]) dT dQ (hI0 bI) hcall fun v' I' S' w_=>?_
   rintro ⟨eS,rfl,es2,ck2,tv2,tr2,rfl,hm2,htr2,hT2⟩ _ hI
   rw [eS] at hI
   have hI0:=fun (h:aB D 11 11=false)=>(Bool.noConfusion h:Inv w X ([.blk b1 (.cells #[.int .i64 k,.int .i64 n,.string s,.slice (some ⟨c1,o1,none⟩) ks.length cap1] ab),.blk b2 (.cells #[.int .i64 k',.int .i64 n',.string s',.slice (some ⟨c2,o2,none⟩) ks'.length cap2] ab)]++au sb mb es1 ck1 tv1 tr1) S w_)
   have hI1:=fun (_:aB D 11 11=true)=>(⟨es2,ck2,tv2,tr2,hm2,htr2,hT2,hI⟩:∃ es2 ck2 tv2 tr2,KnownM S es2 st2/\tr2.length+unb st2<=1000000/\Tr st1 st2 tr1 tr2/\Inv w X ([.blk b1 (.cells #[.int .i64 k,.int .i64 n,.string s,.slice (some ⟨c1,o1,none⟩) ks.length cap1] ab),.blk b2 (.cells #[.int .i64 k',.int .i64 n',.string s',.slice (some ⟨c2,o2,none⟩) ks'.length cap2] ab)]++au sb mb es2 ck2 tv2 tr2) S w_)
   obtain ⟨es3,ck3,tv3,tr3,hI⟩:∃ es3 ck3 tv3 tr3,Inv w X ([.blk b1 (.cells #[.int .i64 k,.int .i64 n,.string s,.slice (some ⟨c1,o1,none⟩) ks.length cap1] ab),.blk b2 (.cells #[.int .i64 k',.int .i64 n',.string s',.slice (some ⟨c2,o2,none⟩) ks'.length cap2] ab)]++au sb mb es3 ck3 tv3 tr3) S w_:=⟨es2,ck2,tv2,tr2,hI⟩
   exact ⟨hF_.set 11 rfl,⟨hI0,hI1,es3,ck3,tv3,tr3,hI⟩⟩
  ·obtain rfl:=dM ‹_›
   refine ct ?_
   exact ⟨hF_.set 12 rfl,⟨hI0,hI1,es3,ck3,tv3,tr3,hI⟩⟩
  obtain ⟨rfl,rfl,rfl,rfl,rfl,rfl,rfl,rfl,rfl,rfl,rfl,rfl,rfl,_⟩:=hF_.all
  have Cc:D 11=true:=by assumption
  clear hF_ cJ cH cK cI cN cP cz dC ek fZ dr dM fj
  obtain ⟨es2,ck2,tv2,tr2,hm2,htr2,hT2,hI⟩:=hI1 Cc
  clear hI0 hI1
  refine aw (fun hne=>?_) (fun he'=>?_)
  ·simp only [oN] at hne
   obtain ⟨rfl,rfl⟩:=hno hne
   exact ⟨_,_,_,rfl,hI.sub (dz [_,_] _),Ext.refl _ _ _,rfl,rfl,es2,ck2,tv2,tr2,rfl,hm2,htr2,hT1.trans hT2⟩
  ·simp only [OI] at he'
   refine bn (by omega) ?_
   exact ⟨⟨j+1,st2,es2,ck2,tv2,tr2,hj1,rfl,hyes he',hm2,htr2,hT1.trans hT2,hI⟩,by simp [intOf]; omega⟩
 ·have:j=ks.length:=by omega
  subst this
  rw [dP,hle2,dP] at hrel
  obtain ⟨rfl,rfl⟩:=hrel.done
  exact ⟨_,_,_,rfl,hI.sub (dz [_,_] _),Ext.refl _ _ _,rfl,rfl,es1,ck1,tv1,tr1,rfl,hkm1,htr1,hT1⟩
theorem gr {N:Nat} (hN:N<=1000000) {st st':aj} {a b:T} {r:Bool} (hg:Good N st) (hj:okJ N (.one a b)) (hu:Uni st (.one a b) r st'):UI st a b r st':=
 Uni.calls (N:=N) (Call:=UI) (fun _ _ _ _ _ _ _ hg hj hwa hwb he=>G0 hN hg hj hwa hwb he) hu hg hj
end
end
end Go.Proofs.YtcpgagfdeflbkaaGreatDoor
