/- impl: walks and occurrence. -/
import Derived.Test.YtgllldjiaglkcaaGreatDoorZUf6
namespace Go.Proofs.YtgllldjiaglkcaaGreatDoor
section
open Go Go.RowKit
section
variable {P:Program} {w w0:World} {X:List Nat} {L:List Item} {S:ae} {K:Value->World->Prop}
attribute [local irreducible] Run CondV aq aK
theorem wB {T r l ty:TypeId} {b a:Nat} {q:Array MapEntry} {n:Int} {z v:Value} {ok c:Bool} (M:w.heap[b]?=some (.map q a)) (G:P.underlying T=some (.map r l)) (h:P.underlying r=some (.int .i64))
  (m:iI P l=some z) (hf:(∃ j,Instr.findNow (.int .i64) (.int .i64 n) q.toList 0=some (some (j,v))/\ok=true) ∨ (Instr.findNow (.int .i64) (.int .i64 n) q.toList 0=some none/\v=z/\ok=false))
  (hk:K (cond c (.tuple #[v,.bool ok]) v) w):Run P (sOp (.lookup T (.const (.map (some b))) (.const (.int .i64 n)) c) ty) w K:=by
 have o:∀ e,(Instr.checkKey e 10000 r (.int .i64 n)).run P w=.ok () w:=fun e=>by
  rw [show (10000:Nat)=9999+1 from rfl,Instr.checkKey];simp [run_underlying h]
 obtain ⟨f,t,B⟩:∃ f,P.info? l=some f/\f.zero=some z:=by
  unfold iI at m;cases g:P.info? l with
  | none=>rw [g] at m; simp at m
  | some f=>rw [g] at m; exact ⟨f,rfl,by simpa using m⟩
 have D:(zeroValue l).run P w=.ok z w:=by simp [zeroValue,typeInfo,t,B]
 refine Run.of ?_ hk;have J:(getObj b).run P w=.ok (.map q a) w:=by simp [getObj,Sem.run,M]
 rcases hf with ⟨j,hf,rfl⟩|⟨hf,rfl,rfl⟩
 ·have i:=l6 (P:=P) (w:=w) h hf;cases c <;> simp [sOp,execOp,ev0,evE,Instr.lookup,run_underlying G,J,o,i]
 ·have i:=l6 (P:=P) (w:=w) h hf;cases c <;> simp [sOp,execOp,ev0,evE,Instr.lookup,run_underlying G,J,o,i,D]
end
section
attribute [local irreducible] Run CondV aq aK
theorem HD {f:FuncId} {fn:Func} {cap:List Value} {S0 S:ae} {v:Value} {xs:List T} (hf:Tryz.prog.funcs[f]?=some fn) (hn:(fn.name == "runtime.NumGoroutine" || fn.body.isNone)=false) (q:Sle S0 S)
  (h:RdSl S0 4 (RdT S0) v xs) {J:Nat->List Item->Prop} {Fin:List Item->Prop}
  (g:∀ i (_:i<xs.length) (cs:List Value) (I:List Item),RdT S0 cs xs[i]->J i I->Tri Tryz.prog f (.agg cs.toArray::cap) I S fun r I' S'=>S'=S/\∃ b,r=.bool b/\(b=true->Fin I')/\(b=false->J (i+1) I'))
  {I:List Item} (O:J 0 I):Tri Tryz.prog mn [v,fv f cap] I S fun r I' S'=>S'=S/\∃ k:Int,r=.int .i64 k/\(0<=k->Fin I')/\(k<0->J xs.length I'):=by
 intro w a;have h:RdSl S 4 (RdT S0) v xs:=h.mono q fun _ _ h=>h;have o:=h.le;simp only [maxLen] at o;obtain ⟨X,U⟩:∃ X,X=bP I:=⟨_,rfl⟩
 rw [<- U] at a ⊢;refine fG.2 ?_;dsimp only[fG,bm];refine aJ h ah ?_;refine ⟨fun i w'=>∃ (j:Nat) (I':List Item),j<=xs.length/\i=.int .i64 j/\J j I'/\Inv w X I' S w',fun i _=>xs.length - (intOf i).toNat,⟨0,I,bk _,rfl,O,a⟩,?_⟩;intro V _ _ _ _ _ _ _ _ _ _ _ _ w';rintro ⟨j,I',Y,rfl,m,a⟩;refine bS ?_;refine aL (fun D=>?_) (fun D=>?_)
 ·have l:j<xs.length:=by omega
  refine co a h ah ad l (fun _ _=>RdT.length) fun cs G=>?_;have a:Inv w X ([]++I') S w':=a;refine Run.callVE (A:=[]) hf hn a (g j l cs I' G m) fun Z I2 S2 w'=>?_;rintro ⟨N,b,rfl,t,B⟩ _ a;rw [N] at a;clear N;have a:Inv w X I2 S w':=a;refine aD (fun M=>?_) (fun M=>?_)
  ·exact ⟨_,_,_,rfl,a,Ext.refl _ _ _,rfl,j,rfl,fun _=>t M,fun h=>by omega⟩
  ·refine bC (by omega) ?_;exact ⟨⟨j+1,I2,l,rfl,B M,a⟩,by simp [intOf]; omega⟩
 ·have:j=xs.length:=by omega
  subst this;exact ⟨_,_,_,rfl,a,Ext.refl _ _ _,rfl,-1,rfl,fun h=>by omega,fun _=>m⟩
theorem Bu {f:FuncId} {fn:Func} {cap:List Value} {S0 S:ae} {v:Value} {xs:List T} (hf:Tryz.prog.funcs[f]?=some fn) (hn:(fn.name == "runtime.NumGoroutine" || fn.body.isNone)=false) (l:Sle S0 S)
  (h:RdSl S0 4 (RdT S0) v xs) {J:Nat->List Item->Prop} {Fin:List Item->Prop}
  (a:∀ i (_:i<xs.length) (cs:List Value) (I:List Item),RdT S0 cs xs[i]->J i I->Tri Tryz.prog f (.agg cs.toArray::cap) I S fun r I' S'=>S'=S/\∃ b,r=.bool b/\(b=true->Fin I')/\(b=false->J (i+1) I'))
  {I:List Item} (o:J 0 I):Tri Tryz.prog jN [v,fv f cap] I S fun r I' S'=>S'=S/\∃ b,r=.bool b/\(b=true->Fin I')/\(b=false->J xs.length I'):=by
 intro w g;obtain ⟨X,D⟩:∃ X,X=bP I:=⟨_,rfl⟩
 rw [<- D] at g ⊢;refine eM.2 ?_;dsimp only[eM,bm];have g:Inv w X ([]++I) S w:=g;refine Run.callE (A:=[]) lF lH g (HD hf hn l h a o) fun G I2 S2 w'=>?_;rintro ⟨q,k,rfl,t,B⟩ _ g;rw [q] at g;refine jM ?_;exact ⟨_,_,_,rfl,g,Ext.refl _ _ _,rfl,_,rfl,fun m=>t (of_decide_eq_true m),fun m=>B (by have:=of_decide_eq_false m; omega)⟩
def StS (S0 S:ae) (sb:Nat) (st:aj):Prop:=∃ mb tv es ck E,S sb=some (.cells #[.map (some mb),tv] E)/\S mb=some (.map es ck)/\KnownM S0 es st
theorem StS.mono {S0 S S':ae} {sb:Nat} {st:aj} (h:StS S0 S sb st) (a:Sle S S'):StS S0 S' sb st:=by
 obtain ⟨mb,tv,f,ck,E,g,i,l⟩:=h;exact ⟨mb,tv,f,ck,E,a _ _ g,a _ _ i,l⟩
theorem StS.find {S0 S:ae} {sb:Nat} {N:Nat} {st:aj} (h:StS S0 S sb st) {t:T} (hk:t.kind=1) (D:okU N t):∃ mb tv a ck E f ok,S sb=some (.cells #[.map (some mb),tv] E)/\S mb=some (.map a ck)/\
  ((∃ j,Instr.findNow (.int .i64) (.int .i64 t.n) a.toList 0=some (some (j,.agg (List.toArray f)))/\ok=true) ∨ (Instr.findNow (.int .i64) (.int .i64 t.n) a.toList 0=some none/\(Value.agg (List.toArray f))=.agg #[.int .i64 0,.int .i64 0,.string ⟨#[]⟩,.slice none 0 0]/\ok=false))/\
  f.length=4/\(∀ x∈f,x.oneCell'=true)/\(ok=true->∃ u,look st t=some u/\RdT S0 f u)/\(ok=false->look st t=none):=by
 obtain ⟨mb,tv,a,ck,E,m,r,G⟩:=h;obtain ⟨J,_⟩:=D.var hk;obtain ⟨j,B⟩:∃ j:Nat,t.n=j:=⟨t.n.toNat,by omega⟩
 have g:look st t=(st[j]?).join:=by rw [look,ai hk,B,cu]
 rw [B,g];rcases G.find j with ⟨q,v,u,cs,hf,rfl,hR,i⟩|⟨l,hf⟩
 ·exact ⟨mb,tv,a,ck,E,cs,true,m,r,.inl ⟨q,hf,rfl⟩,hR.length,hR.one,fun _=>⟨u,by rw [i]; rfl,hR⟩,fun h=>by cases h⟩
 ·refine ⟨mb,tv,a,ck,E,[.int .i64 0,.int .i64 0,.string ⟨#[]⟩,.slice none 0 0],false,m,r,.inr ⟨hf,rfl,rfl⟩,rfl,by simp [Value.oneCell'],fun h=>(by cases h),fun _=>?_⟩;cases i:st[j]? with
  | none=>rfl
  | some o=>
   cases o with
   | none=>rfl
   | some u=>exact absurd i (l u)
theorem lU {N:Nat} {st:aj} (hg:Good N st) {t v:T} (hw:dr st t v) (ht:okU N t) {S0 S:ae} {cs:List Value} {sb:Nat} (a9:StS S0 S sb st) (h:RdT S0 cs t) :
  Tri Tryz.prog Fo [.pointer (some ⟨sb,0,none⟩),.agg cs.toArray] [] S fun r I' S'=>S'=S/\I'=[]/\∃ m,r=.agg m.toArray/\RdT S0 m v:=by
 intro w a;have a:Inv w [] [] S w:=a;obtain ⟨r,hr⟩:=hg.rk;refine rq.2 ?_;dsimp only[rq,bm];refine bJ a fun b3 w' a=>?_;refine aQ a bj fun M w' a=>?_;have a:Inv w [] [.blk b3 (.cells cs.toArray ab),.blk M (.cells #[.int .i64 0,.int .i64 0,.string ⟨#[]⟩,.slice none 0 0] ab)] S w':=a;refine ⟨fun w'=>∃ m,RdT S0 m v/\Inv w [] [.blk b3 (.cells m.toArray ab),.blk M (.cells #[.int .i64 0,.int .i64 0,.string ⟨#[]⟩,.slice none 0 0] ab)] S w',?_,?_⟩
 ·refine ⟨fun w'=>∃ (q:T) (m:List Value),dr st q v/\okU N q/\RdT S0 m q/\Inv w [] [.blk b3 (.cells m.toArray ab),.blk M (.cells #[.int .i64 0,.int .i64 0,.string ⟨#[]⟩,.slice none 0 0] ab)] S w',
   fun w'=>CB b3 r st w',⟨t,cs,hw,ht,h,a⟩,?_⟩
  intro _ _ _ t6 t5 c0 c1 c2 c3 c4 c5 c6 c7 c8 c9 _ _ _ w';rintro ⟨q,m,U,b0,l,a⟩;have a2:=y7 a (i:=0) rfl l r st;have O:=l;obtain ⟨kv,rfl,_⟩:=RdT.iff.1 l;refine af a 0 rfl aW aG rfl ?_;refine bw ?_;refine aL (fun Z=>?_) (fun Z=>?_)
  ·obtain ⟨mb,tv,es,ck,E,G,ok,b1,b2,a0,a1,a6,a7,b6⟩:=a9.find Z b0;refine ⟨fun D x6 x5 kZ rF Mh jX rb wt Hi Rn Sv Io V=>Fx D 0 [Io=.pointer (some ⟨sb,0,none⟩),Sv=.pointer (some ⟨sb,0,none⟩),Rn=.pointer (some ⟨sb,0,none⟩),Hi=.map (some mb),wt=.pointer (some ⟨b3,1,none⟩),rb=.int .i64 q.n,jX=.tuple #[.agg G.toArray,.bool ok],Mh=.tuple #[.agg G.toArray,.bool ok],rF=.agg G.toArray,kZ=.bool ok,True,True,x6=.bool ok]/\∃ o,(D 10=true->x5=.pointer (some ⟨o,0,none⟩))/\(D 11=true->D 10=true)/\Inv w [] ([.blk b3 (.cells #[.int .i64 q.kind,.int .i64 q.n,.string q.name,kv] ab),.blk M (.cells #[.int .i64 0,.int .i64 0,.string ⟨#[]⟩,.slice none 0 0] ab)]++cond (D 10) [.blk o (.cells (cond (D 11) G.toArray #[.int .i64 0,.int .i64 0,.string ⟨#[]⟩,.slice none 0 0]) ab)] []) S V,⟨Fx.nil _ _,⟨0,aI,aI,a.draw⟩⟩,⟨?_,?_,?_,?_,?_,?_,?_,?_,?_,?_,?_,?_,?_,trivial⟩,?_⟩;all_goals (intro D bH; intros; rename_i x6 x5 kZ rF Mh jX rb wt Hi Rn Sv Io V a5; have g:=a5.1; obtain ⟨⟨cI,cJ,cH,cD,cL,cN,cq,dg,dG,dL,cT,dn,dN,_⟩,⟨o,B,f,a⟩⟩:=a5)
   ·exact ⟨g.set 0 rfl,⟨o,B,f,a⟩⟩
   ·obtain rfl:=cI ‹_›;refine aE ?_;exact ⟨g.set 1 rfl,⟨o,B,f,a⟩⟩
   ·obtain rfl:=cJ ‹_›;refine aw tP ?_;exact ⟨g.set 2 rfl,⟨o,B,f,a⟩⟩
   ·obtain rfl:=cH ‹_›;refine cQ (by decide +kernel) (by rw [a.cellS b1]; rfl) ?_;exact ⟨g.set 3 rfl,⟨o,B,f,a⟩⟩
   ·refine aw bi ?_;exact ⟨g.set 4 rfl,⟨o,B,f,a⟩⟩
   ·obtain rfl:=cL ‹_›;refine aT a 0 aG rfl rfl ?_;exact ⟨g.set 5 rfl,⟨o,B,f,a⟩⟩
   ·obtain rfl:=cD ‹_›;obtain rfl:=cN ‹_›;refine wB (ok:=ok) (v:=.agg G.toArray) (a.pub _ _ b2).1 kH iK bj a0 ?_;exact ⟨g.set 6 rfl,⟨o,B,f,a⟩⟩
   ·obtain rfl:=cq ‹_›;exact ⟨g.set 7 rfl,⟨o,B,f,a⟩⟩
   ·obtain rfl:=dg ‹_›;refine av rfl ?_;exact ⟨g.set 8 rfl,⟨o,B,f,a⟩⟩
   ·obtain rfl:=dg ‹_›;refine av rfl ?_;exact ⟨g.set 9 rfl,⟨o,B,f,a⟩⟩
   ·have b7:D 11=false:=bx.2 fun h=>by rw [f h] at bH; cases bH
    rw [bH] at a;refine aQ a bj fun o V a=>?_;have B:=fun (_:ao D 10 10=true)=>(rfl:Value.pointer (some ⟨o,0,none⟩)=_)
    have f:=fun (_:ao D 10 11=true)=>(rfl:ao D 10 10=true)
    have a:Inv w [] ([.blk b3 (.cells #[.int .i64 q.kind,.int .i64 q.n,.string q.name,kv] ab),.blk M (.cells #[.int .i64 0,.int .i64 0,.string ⟨#[]⟩,.slice none 0 0] ab)]++cond true [.blk o (.cells (cond (D 11) G.toArray #[.int .i64 0,.int .i64 0,.string ⟨#[]⟩,.slice none 0 0]) ab)] []) S V:=by rw [b7]; exact a
    exact ⟨g.set 10 (by first|assumption|trivial),⟨o,B,f,a⟩⟩
   ·have AB:=cT ‹_›;obtain rfl:=dG ‹_›;have q5:=B ‹D 10=true›;subst q5;rw [bH,‹D 10=true›] at a;refine au a 2 rfl ad (by simpa using a1) rfl (by simpa using a6) fun V a=>?_;have f:=fun (_:ao D 11 11=true)=>‹D 10=true›;have a:Inv w [] ([.blk b3 (.cells #[.int .i64 q.kind,.int .i64 q.n,.string q.name,kv] ab),.blk M (.cells #[.int .i64 0,.int .i64 0,.string ⟨#[]⟩,.slice none 0 0] ab)]++cond (D 10) [.blk o (.cells (cond true G.toArray #[.int .i64 0,.int .i64 0,.string ⟨#[]⟩,.slice none 0 0]) ab)] []) S V:=by rw [‹D 10=true›]; exact a
    exact ⟨g.set 11 trivial,⟨o,B,f,a⟩⟩
   ·obtain rfl:=dL ‹_›;exact ⟨g.set 12 rfl,⟨o,B,f,a⟩⟩
   obtain ⟨rfl,rfl,rfl,rfl,rfl,rfl,rfl,rfl,rfl,rfl,AB,_,rfl,_⟩:=g.all;have Dy:D 10=true:=by assumption
   have Ai:D 11=true:=by assumption
   clear g cI cJ cH cD cL cN cq dg dG dL cT dn dN;have q5:=B Dy;subst q5;rw [Dy,Ai] at a;have a:Inv w [] [.blk b3 (.cells #[.int .i64 q.kind,.int .i64 q.n,.string q.name,kv] ab),.blk M (.cells #[.int .i64 0,.int .i64 0,.string ⟨#[]⟩,.slice none 0 0] ab),.blk o (.cells G.toArray ab)] S V:=a;refine cw ?_;refine aD (fun hb=>?_) (fun hb=>?_)
   ·have a3:ok=false:=by simpa using hb
    have hl:=b6 a3;have hv:v=q:=by
     cases U with
     | stop _=>rfl
     | step h1 _=>rw [h1] at hl; cases hl
    subst hv;exact ⟨_,O,a.pick [true,true,false]⟩
   ·have a3:ok=true:=by simpa using hb
    obtain ⟨u,hl,a8⟩:=a7 a3;have b8:dr st u v:=by
     cases U with
     | stop h0=>rw [hl] at h0; cases h0
     | step h1 h2=>rw [hl,aY] at h1; rw [h1]; exact h2
    refine aC a 2 ad rfl (by simpa using a1) ?_;refine au a 0 rfl ad (by simpa using a1) rfl (by simpa using a6) fun w' a=>?_;have a:Inv w [] [.blk b3 (.cells G.toArray ab),.blk M (.cells #[.int .i64 0,.int .i64 0,.string ⟨#[]⟩,.slice none 0 0] ab)] S w':=a.pick [true,true,false];refine ⟨⟨u,G,b8,(hg.look_ok hl).1,a8,a⟩,?_⟩;have J:=y7 a (i:=0) rfl a8 r st;show CB b3 r st w'<CB b3 r st _;have b9:(look st q).isSome=true:=by rw [hl]; rfl
    rw [a2,J,ai b9];split
    ·rename_i Y
     obtain ⟨u2,Y⟩:=Pp.1 Y;have:=hr _ u (dh.1 hl).2 u.n.toNat (by rw [jB (dh.1 Y).1]; exact bK.2 rfl);omega
    ·omega
  ·have hv:v=q:=by
    cases U with
    | stop _=>rfl
    | step h1 _=>exact absurd (dh.1 h1).1 Z
   subst hv;exact ⟨_,O,a⟩
 ·intro _ _ _ _ _ _ _ _ _ _ _ _ _ _ _ _ _ _ w';rintro ⟨m,l,a⟩;have a4:=l.length;refine aC a 0 ad rfl (by simpa using a4) ?_;refine au a 1 rfl ad (by simpa using a4) rfl (by simpa using l.one) fun w' a=>?_;refine bB a 1 ad rfl (by simpa using a4) ?_;exact ⟨_,_,_,rfl,a.nil,Ext.refl _ _ _,rfl,rfl,_,rfl,l⟩
def MetM (es:Array MapEntry) (met:Nat->Prop):Prop:=(∀ e∈es.toList,∃ n:Nat,e.key=.int .i64 n/\e.val=.bool true/\met n)/\∀ n,met n->∃ e∈es.toList,e.key=.int .i64 (n:Nat)
theorem MetM.find {i:Array MapEntry} {f:Nat->Prop} (h:MetM i f) (n:Nat):(f n/\∃ j,Instr.findNow (.int .i64) (.int .i64 n) i.toList 0=some (some (j,.bool true))) ∨ (¬ f n/\Instr.findNow (.int .i64) (.int .i64 n) i.toList 0=some none):=by
 rcases tG (n:=n) i.toList 0 (fun e g=>by obtain ⟨m,hk,_⟩:=h.1 e g; exact ⟨m,hk⟩) with ⟨j,e,g,hk,hf⟩|⟨hk,hf⟩
 ·obtain ⟨m,a,o,l⟩:=h.1 e g;rw [hk] at a;simp only [Value.int.injEq,i7] at a;have:n=m:=by omega
  subst this;rw [o] at hf;exact .inl ⟨l,j,hf⟩
 ·refine .inr ⟨fun l=>?_,hf⟩;obtain ⟨e,g,a⟩:=h.2 n l;exact hk e g a
theorem MetM.push {i:Array MapEntry} {f:Nat->Prop} (h:MetM i f) (n:Nat) (ck:Nat):MetM (i.push { key:=.int .i64 n,val:=.bool true,born:=ck }) (fun m=>f m ∨ m=n):=by
 refine ⟨fun e a=>?_,fun m g=>?_⟩
 ·rw [Vq] at a;rcases bF.1 a with a|a
  ·obtain ⟨m,hk,l,g⟩:=h.1 e a;exact ⟨m,hk,l,.inl g⟩
  ·simp at a;subst a;exact ⟨n,rfl,rfl,.inr rfl⟩
 ·rw [Vq];rcases g with g|rfl
  ·obtain ⟨x,o,hk⟩:=h.2 m g;exact ⟨x,cZ _ o,hk⟩
  ·exact ⟨_,fb _ (bK.2 rfl),rfl⟩
theorem MetM.empty:MetM #[] (fun _=>False):=⟨fun e a=>by simp at a,fun n h=>h.elim⟩
theorem Iz {st:aj} {r:Nat->Nat} (q:∀ (n:Nat) (u:T),st[n]?=some (some u)->∀ m∈vT u,r m<r n) {t v:T} (B:dr st t v):∀ u,look st t=some u->∀ y∈vT v,r y<r t.n.toNat:=by
 induction B with
 | stop h=>intro u g; rw [h] at g; cases g
 | step hl f D=>
  rename_i t u v
  intro J _ y i;have l:=q _ u (dh.1 hl).2;cases a:look st u with
  | none=>
   have:v=u:=by
    cases f with
    | stop _=>rfl
    | step o _=>rw [o] at a; cases a
   subst this;exact l y i
  | some G=>
   have M:=D G a y i;have o:=l u.n.toNat (by rw [jB (dh.1 a).1]; exact bK.2 rfl);omega
theorem NS {N:Nat} {st:aj} {t v:T} (h:Good N st) (a:dr st t v) (f:okU N t):okU N v:=by
 induction a with
 | stop=>exact f
 | step hl _ g=>exact g (h.look_ok hl).1
theorem Wr {st:aj} {r:Nat->Nat} (f:∀ (n:Nat) (u:T),st[n]?=some (some u)->∀ m∈vT u,r m<r n) {a c:Nat} (h:Rch st a c):r c<=r a:=by
 induction h with
 | refl=>exact aS _
 | step g i _ l=>have:=f _ _ g _ i; omega
theorem P3 {st:aj} {t v:T} (l:dr st t v):∀ u,look st t=some u->∀ y∈vT v,Rch st t.n.toNat y:=by
 induction l with
 | stop h=>intro u g; rw [h] at g; cases g
 | step hl f m=>
  rename_i t u v
  intro r _ y i;cases a:look st u with
  | none=>
   have:v=u:=by
    cases f with
    | stop _=>rfl
    | step o _=>rw [o] at a; cases a
   subst this;exact .step (dh.1 hl).2 i (.refl y)
  | some q=>exact .step (dh.1 hl).2 (by rw [jB (dh.1 a).1]; exact bK.2 rfl) (m q a y i)
def OC (st:aj) (sb n:Nat) (t:T):Prop:=∀ (S0 S:ae) (cs:List Value) (mm ck:Nat) (es:Array MapEntry) (met:Nat->Prop),Sle S0 S->StS S0 S sb st->RdT S0 cs t->MetM es met->(∀ m,met m->(∃ x∈vT t,Rch st x m)->¬ Rch st m n)->
 Tri Tryz.prog Bj [.pointer (some ⟨sb,0,none⟩),.int .i64 n,.agg cs.toArray,.map (some mm)] [.blk mm (.map es ck)] S fun r I' S'=>S'=S/\∃ es' ck',I'=[.blk mm (.map es' ck')]/\
  ((fD st n t/\r=.bool true) ∨ (¬ fD st n t/\r=.bool false/\∃ met',MetM es' met'/\(∀ m,met m->met' m)/\∀ m,met' m->met m ∨ ¬ Rch st m n))
theorem FH {st:aj} {sb n:Nat} {t:T} (G:OC st sb n t) {S0 S:ae} {cs:List Value} {o ck O U V:Nat} {E4 E5 E7:TypeId} {q:Array MapEntry} {f:Nat->Prop} (J:Sle S0 S) (M:StS S0 S sb st) (h:RdT S0 cs t) (Y:MetM q f)
  (B:∀ m,f m->(∃ x∈vT t,Rch st x m)->¬ Rch st m n) (Z:S O=some (.cells #[.pointer (some ⟨sb,0,none⟩)] E4)) (h5:S U=some (.cells #[.int .i64 n] E5)) (h7:S V=some (.cells #[.map (some o)] E7)) :
  Tri Tryz.prog wU [.agg cs.toArray,.pointer (some ⟨O,0,none⟩),.pointer (some ⟨U,0,none⟩),.pointer (some ⟨V,0,none⟩)] [.blk o (.map q ck)] S fun r I' S'=>S'=S/\∃ i l,I'=[.blk o (.map i l)]/\
  ((fD st n t/\r=.bool true) ∨ (¬ fD st n t/\r=.bool false/\∃ g,MetM i g/\(∀ m,f m->g m)/\∀ m,g m->f m ∨ ¬ Rch st m n)):=by
 intro w a;have N:=h.length;obtain ⟨X,hX⟩:∃ X,X=bP [Item.blk o (.map q ck)]:=⟨_,rfl⟩
 rw [<- hX] at a ⊢;refine lG.2 ?_;dsimp only[lG,lK];refine bJ a fun b1 w' a=>?_;have a:Inv w X ([.blk b1 (.cells cs.toArray ab)]++[.blk o (.map q ck)]) S w':=a.perm (List.Perm.swap ..);refine cQ fu (by rw [a.cellS Z]; rfl) ?_;refine cQ aG (by rw [a.cellS h5]; rfl) ?_;refine aC a 0 ad rfl (by simpa using N) ?_;refine cQ (by decide +kernel) (by rw [a.cellS h7]; rfl) ?_;refine Run.callE jq jl a (G S0 S cs o ck q f J M h Y B) fun v' I' S' w'=>?_;rintro ⟨eS,i,l,rfl,D⟩ _ a;rw [eS] at a;exact ⟨_,_,_,rfl,a.pick [false,true],Ext.refl _ _ _,rfl,i,l,rfl,D⟩
theorem NN {N:Nat} {st:aj} (hg:Good N st) {sb n:Nat} (hn:∀ u,st[n]?≠some (some u)) (e8:n<1000000000) {t v:T} (ho:okU N t) (V:dr st t v)
  (hv:t.kind=1->v.kind≠1->OC st sb n v) (hk:t.kind≠1->∀ x∈t.kids,OC st sb n x):OC st sb n t:=by
 intro S0 S cs B ck es Y c3 c4 h a4 a7 w a;have f2:=h.length;obtain ⟨X,hX⟩:∃ X,X=bP [Item.blk B (.map es ck)]:=⟨_,rfl⟩
 rw [<- hX] at a ⊢;have h0:=h;obtain ⟨kv,rfl,_,_,_,e3⟩:=RdT.iff.1 h;refine mZ.2 ?_;dsimp only[mZ,lK];refine bJ a fun b4 w' a=>?_;refine bJ a fun b5 w' a=>?_;refine bJ a fun b6 w' a=>?_;refine bJ a fun b7 w' a=>?_;have a:Inv w X [.blk B (.map es ck),.blk b4 (.cells #[.pointer (some ⟨sb,0,none⟩)] mg),.blk b5 (.cells #[.int .i64 n] cO),.blk b6 (.cells #[.int .i64 t.kind,.int .i64 t.n,.string t.name,kv] ab),.blk b7 (.cells #[.map (some B)] jg)] S w':=a;refine af a 3 rfl aW aG rfl ?_;refine bw ?_;refine aL (fun a0=>?_) (fun a0=>?_)
 ·obtain ⟨f1,_⟩:=ho.var a0;obtain ⟨j,hj⟩:∃ j:Nat,t.n=j:=⟨t.n.toNat,by omega⟩
  have a1:vT t=[j]:=by rw [jB a0,hj,cu]
  have d1:iI Tryz.prog QD=some (.bool false):=by kernel_rfl
  have c7:Tryz.prog.underlying jg=some (.map cO QD):=by kernel_rfl
  refine aT a 4 (by decide +kernel) rfl rfl ?_;refine af a 3 rfl bi aG rfl ?_;rw [hj] at a ⊢;rcases a4.find j with ⟨d6,q,hf⟩|⟨d6,hf⟩
  ·refine wB (c:=false) (ok:=true) (v:=.bool true) (a.its (.blk B (.map es ck)) (by simp)) c7 iK d1 (.inl ⟨q,hf,rfl⟩) ?_;refine aD (fun _=>?_) (fun hb=>by cases hb);have g:¬ fD st n t:=by
    rintro ⟨x,D,hr⟩;have d2:=D;rw [a1,bK] at d2;subst d2;exact a7 x d6 ⟨x,D,.refl x⟩ hr
   exact ⟨_,_,_,rfl,a.pick [true,false,false,false,false],Ext.refl _ _ _,rfl,es,ck,rfl,.inr ⟨g,rfl,Y,a4,fun _ h=>h,fun _ h=>.inl h⟩⟩
  refine wB (c:=false) (ok:=false) (v:=.bool false) (a.its (.blk B (.map es ck)) (by simp)) c7 iK d1 (.inr ⟨hf,rfl,rfl⟩) ?_;refine aD (fun hb=>by cases hb) (fun _=>?_);refine aT a 4 (by decide +kernel) rfl rfl ?_;refine af a 3 rfl bi aG rfl ?_;refine OD a 0 c7 iK rfl hf fun w' a=>?_;have a2:=a4.push j ck;generalize d7:es.push { key:=.int .i64 (j:Int),val:=.bool true,born:=ck }=es2 at a2;rw [d7] at a;have a:Inv w X [.blk B (.map es2 (ck+1)),.blk b4 (.cells #[.pointer (some ⟨sb,0,none⟩)] mg),.blk b5 (.cells #[.int .i64 n] cO),.blk b6 (.cells #[.int .i64 t.kind,.int .i64 j,.string t.name,kv] ab),.blk b7 (.cells #[.map (some B)] jg)] S w':=a;refine aT a 1 fu rfl rfl ?_;refine aC a 3 ad rfl rfl ?_;rw [hj] at h0;refine Run.call0 iT iS a (lU hg V ho c4 h0) fun v' I' S' w'=>?_;rintro ⟨eS,rfl,e9,rfl,a5⟩ _ a;rw [eS] at a;clear eS;have d3:=a5.length;refine aQ a bj fun b9 w' a=>?_;have a:Inv w X [.blk B (.map es2 (ck+1)),.blk b4 (.cells #[.pointer (some ⟨sb,0,none⟩)] mg),.blk b5 (.cells #[.int .i64 n] cO),.blk b6 (.cells #[.int .i64 t.kind,.int .i64 j,.string t.name,kv] ab),.blk b7 (.cells #[.map (some B)] jg),.blk b9 _] S w':=a;refine au a 5 rfl ad (by simpa using d3) rfl (by simpa using a5.one) fun w' a=>?_;have d4:=a5;obtain ⟨e4,rfl,_⟩:=RdT.iff.1 a5;have a:Inv w X [.blk B (.map es2 (ck+1)),.blk b4 (.cells #[.pointer (some ⟨sb,0,none⟩)] mg),.blk b5 (.cells #[.int .i64 n] cO),.blk b6 (.cells #[.int .i64 t.kind,.int .i64 j,.string t.name,kv] ab),.blk b7 (.cells #[.map (some B)] jg),.blk b9 (.cells #[.int .i64 v.kind,.int .i64 v.n,.string v.name,e4] ab)] S w':=a;have o:=UR V hn;have c1:∀ m,(Y m ∨ m=j)->¬ fD st n t->Y m ∨ ¬ Rch st m n:=by
   rintro m (G|rfl) g
   ·exact .inl G
   ·exact .inr fun hr=>g ⟨m,by rw [a1]; exact bK.2 rfl,hr⟩
  refine af a 5 rfl aW aG rfl ?_;refine bw ?_;refine aL (fun U=>?_) (fun U=>?_)
  ·refine af a 5 rfl bi aG rfl ?_;refine aT a 2 aG rfl rfl ?_;refine bw ?_;have c2:fD st n v↔v.n.toNat=n:=by
    have c8:=u7.1 (gI V) U;constructor
    ·rintro ⟨x,D,hr⟩;rw [jB U,bK] at D;subst D;cases hr with
     | refl=>rfl
     | step l _ _=>
      rcases c8 with e|e
      ·rw [e] at l; cases l
      ·rw [e] at l; cases l
    ·intro e;exact ⟨n,by rw [jB U,e]; exact bK.2 rfl,.refl n⟩
   have e7:0<=v.n:=by
    exact ((NS hg V ho).var U).1
   have M:decide (v.n=(n:Int))=decide (v.n.toNat=n):=by
    rw [nZ,bD,bD];omega
   rw [M];refine ⟨_,_,_,rfl,a.pick [true,false,false,false,false,false],Ext.refl _ _ _,rfl,es2,ck+1,rfl,?_⟩;by_cases e:v.n.toNat=n
   ·left;exact ⟨o.2 (c2.2 e),by rw [aN e]⟩
   ·right;have g:¬ fD st n t:=fun h=>e (c2.1 (o.1 h));exact ⟨g,by rw [ba e],_,a2,fun m G=>.inl G,fun m G=>c1 m G g⟩
  ·refine aT a 1 fu rfl rfl ?_;refine aT a 2 aG rfl rfl ?_;refine aC a 5 ad rfl rfl ?_;refine aT a 4 (by decide +kernel) rfl rfl ?_;have a:Inv w X ([.blk b4 (.cells #[.pointer (some ⟨sb,0,none⟩)] mg)]++[.blk B (.map es2 (ck+1))]) S w':=(a.pick [true,true,false,false,false,false]).perm (List.Perm.swap ..);have e5:∃ u,look st t=some u:=by
    cases hl:look st t with
    | some u=>exact ⟨u,rfl⟩
    | none=>
     have:v=t:=by
      cases V with
      | stop _=>rfl
      | step l _=>rw [l] at hl; cases hl
     rw [this] at U;exact absurd a0 U
   obtain ⟨u,hl⟩:=e5;obtain ⟨rk,d0⟩:=hg.rk;have e6:=Iz d0 V u hl;have a3:∀ m,(Y m ∨ m=j)->(∃ x∈vT v,Rch st x m)->¬ Rch st m n:=by
    rintro m (G|rfl) ⟨x,D,hr⟩
    ·refine a7 m G ⟨j,by rw [a1]; exact bK.2 rfl,?_⟩;have l:=P3 V u hl x D;rw [hj,cu] at l;exact l.trans hr
    ·exfalso;have l:=e6 x D;have h2:=Wr d0 hr;rw [hj,cu] at l;omega
   refine Run.callE jq jl a (hv a0 U S0 S _ B (ck+1) es2 _ c3 c4 d4 a2 a3) fun v' I' S' w'=>?_;rintro ⟨eS,b3,b8,rfl,M⟩ _ a;rw [eS] at a;refine ⟨_,_,_,rfl,a.pick [false,true],Ext.refl _ _ _,rfl,b3,b8,rfl,?_⟩;rcases M with ⟨l,rfl⟩|⟨l,rfl,b2,c9,h2,h3⟩
   ·exact .inl ⟨o.2 l,rfl⟩
   ·have g:¬ fD st n t:=fun h=>l (o.1 h);refine .inr ⟨g,rfl,b2,c9,fun m G=>h2 m (.inl G),fun m G=>?_⟩;rcases h3 m G with h4|h4
    ·exact c1 m h4 g
    ·exact .inr h4
 ·refine af a 3 rfl ar al rfl ?_;refine mP ?_;have a1:vT t=vTL t.kids:=xE a0;have a:Inv w X ([.blk B (.map es ck)]++aV [(b4,.cells #[.pointer (some ⟨sb,0,none⟩)] mg),(b5,.cells #[.int .i64 n] cO),(b7,.cells #[.map (some B)] jg)]) S w':=a.pick [true,true,true,false,true];obtain ⟨S1,b0,b1,a9,c6⟩:=Inv.lendAll _ a;have h4:=b1 _ (aM ..);have h5:=b1 _ (aR _ (aM ..));have h7:=b1 _ (aR _ (aR _ (aM ..)));have a9:Inv w X ([]++[.blk B (.map es ck)]) S1 w':=a9;refine Run.callE (A:=[]) eJ eL a9 (Bu vg vk (c3.trans b0) e3
   (J:=fun i I=>∃ r O f,I=[.blk B (.map r O)]/\MetM r f/\(∀ m,Y m->f m)/\(∀ m,f m->Y m ∨ ¬ Rch st m n)/\∀ k (_:k<t.kids.length),k<i->¬ fD st n t.kids[k])
   (Fin:=fun I=>∃ r O,I=[.blk B (.map r O)]/\fD st n t) ?_ ⟨es,ck,Y,rfl,a4,fun _ h=>h,fun _ h=>.inl h,fun k _ h=>by omega⟩) fun v' I2 S2 w'=>?_
  ·rintro i hi cs I d9 ⟨r,O,f,rfl,c5,a8,a6,Z⟩;have a3:∀ m,f m->(∃ x∈vT t.kids[i],Rch st x m)->¬ Rch st m n:=by
    rintro m G ⟨x,D,hr⟩;rcases a6 m G with l|l
    ·exact a7 m l ⟨x,by rw [a1]; exact nQ.2 ⟨_,bG hi,D⟩,hr⟩
    ·exact l
   intro w1 a9;refine (FH (hk a0 _ (bG hi)) (c3.trans b0) (c4.mono b0) d9 c5 a3 h4 h5 h7 w1 a9).mono ?_;rintro e w2 ⟨v',I',S',rfl,e0,hE,hS,b3,b8,rfl,M⟩;refine ⟨_,_,_,rfl,e0,hE,hS,?_⟩;rcases M with ⟨l,rfl⟩|⟨l,rfl,b2,c9,h2,h3⟩
   ·obtain ⟨x,D,hr⟩:=l;exact ⟨true,rfl,fun _=>⟨b3,b8,rfl,x,by rw [a1]; exact nQ.2 ⟨_,bG hi,D⟩,hr⟩,fun e=>by cases e⟩
   ·refine ⟨false,rfl,fun e=>(by cases e),fun _=>⟨b3,b8,b2,rfl,c9,fun m G=>h2 m (a8 m G),fun m G=>?_,fun k c0 f0=>?_⟩⟩
    ·rcases h3 m G with h4|h4
     ·exact a6 m h4
     ·exact .inr h4
    ·by_cases e:k=i
     ·subst e; exact l
     ·exact Z k c0 (by omega)
  rintro ⟨eS,b,rfl,e1,e2⟩ _ a;rw [eS] at a;have a:Inv w X I2 S1 w':=a;have a:=c6 _ _ a;cases b with
  | true=>
   obtain ⟨r,O,rfl,o⟩:=e1 rfl;exact ⟨_,_,_,rfl,a.sub (dt _ _),Ext.refl _ _ _,rfl,r,O,rfl,.inl ⟨o,rfl⟩⟩
  | false=>
   obtain ⟨r,O,f,rfl,c5,a8,a6,Z⟩:=e2 rfl;have g:¬ fD st n t:=by
    rintro ⟨x,D,hr⟩;rw [a1] at D;obtain ⟨y,hy,D⟩:=nQ.1 D;obtain ⟨k,c0,rfl⟩:=mT.1 hy;exact Z k c0 c0 ⟨x,D,hr⟩
   exact ⟨_,_,_,rfl,a.sub (dt _ _),Ext.refl _ _ _,rfl,r,O,rfl,.inr ⟨g,rfl,f,c5,a8,a6⟩⟩
theorem KV {N:Nat} {st:aj} (B:Good N st) {sb n:Nat} (hn:∀ u,st[n]?≠some (some u)) (D:n<1000000000):∀ t:T,okU N t->OC st sb n t:=by
 obtain ⟨rk,U⟩:=B.rk;have r:∀ (m:Nat) (a:T),(∀ x∈vT a,∀ u,st[x]?=some (some u)->rk x<m)->okU N a->OC st sb n a:=by
  intro m;induction m using Nat.strongRecOn with
  | _ m Y=>
   refine T.ind fun k n' s ks G Z i=>?_;obtain ⟨v,g⟩:=RX B (.mk k n' s ks);refine NN B hn D i g (fun f o=>?_) (fun f x h=>?_)
   ·cases hl:look st (.mk k n' s ks) with
    | none=>
     have:v=.mk k n' s ks:=by
      cases g with
      | stop _=>rfl
      | step h1 _=>rw [h1] at hl; cases hl
     rw [this] at o;exact absurd f o
    | some u=>
     have J:=(dh.1 hl).2;have V:=Z _ (by rw [jB f]; exact bK.2 rfl) u J;exact Y _ V v (fun x h _ _=>Iz U g u hl x h) (NS B g i)
   ·exact G x h (fun y hy u J=>Z y (by rw [xE f]; exact nQ.2 ⟨x,h,hy⟩) u J) (fM i.kids x h)
 have q:∀ l:List Nat,∃ M,∀ m∈l,rk m<M:=by
  intro l;induction l with
  | nil=>exact ⟨0,by simp⟩
  | cons x l G=>
   obtain ⟨M,q⟩:=G;refine ⟨M+rk x+1,fun m O=>?_⟩;rcases bY.1 O with rfl|O
   ·omega
   ·have:=q m O; omega
 intro t i;obtain ⟨M,q⟩:=q (vT t);exact r M t (fun x h _ _=>q x h) i
end
end
section
open Go Go.RowKit
abbrev aB (sb mb:Nat) (es:Array MapEntry) (ck:Nat) (tv:Value) (tr:List Int):List Item:=[.blk sb (.cells #[.map (some mb),tv] c5),.blk mb (.map es ck),dk tv tr]
section
attribute [local irreducible] Run CondV aq aK
theorem GN {N:Nat} {st:aj} (hg:Good N st) {n:Nat} (hf:st[n]?=some none) (a5:n<1000000000) {t:T} (ht:okU N t) {S:ae} {cs:List Value} {sb mb ck:Nat} {g:Array MapEntry} {tv:Value} {tr:List Int} (h:RdT S cs t) (V:KnownM S g st) (b1:tr.length<=1000000) :
  Tri Tryz.prog EC [.pointer (some ⟨sb,0,none⟩),.int .i64 n,.agg cs.toArray] (aB sb mb g ck tv tr) S fun r I' S'=>S'=S/\
   ((¬ fD st n t/\r=.bool true/\∃ a3 a9 b0,I'=aB sb mb a3 a9 b0 (tr++[(n:Int)])/\KnownM S a3 (st.set n (some t))) ∨ (fD st n t/\r=.bool false/\I'=aB sb mb g ck tv tr)):=by
 intro w a;have a1:=h.length;obtain ⟨X,hX⟩:∃ X,X=bP (aB sb mb g ck tv tr):=⟨_,rfl⟩
 rw [<- hX] at a ⊢;have hn:∀ u,st[n]?≠some (some u):=fun u hu=>by rw [hf] at hu; cases hu
 have a7:n<st.length:=(fa.1 hf).1;refine rH.2 ?_;dsimp only[rH,fQ];refine bJ a fun J w' a=>?_;refine aC a 3 ad rfl (by simpa [Value.cells] using a1) ?_;refine JN a fun mm w' a=>?_;have a:Inv w X ([.blk J (.cells cs.toArray ab),dk tv tr,.blk mm (.map #[] 0)]++aV [(sb,.cells #[.map (some mb),tv] c5),(mb,.map g ck)]) S w':=a.perm (by
  refine (List.Perm.trans ?_ (cj (l₁:=[.blk J (.cells cs.toArray ab),.blk mm (.map #[] 0)]) (l₂:=aB sb mb g ck tv tr)));refine (List.Perm.cons _ (List.Perm.trans (List.Perm.swap _ _ _) (List.Perm.cons _ ?_)));exact cj (l₁:=[dk tv tr]) (l₂:=aV [(sb,.cells #[.map (some mb),tv] c5),(mb,.map g ck)]))
 obtain ⟨S1,a6,M,q,O⟩:=Inv.lendAll _ a;have a8:StS S S1 sb st:=⟨mb,tv,g,ck,c5,M _ (aM ..),M _ (aR _ (aM ..)),V⟩
 have q:Inv w X ([.blk J (.cells cs.toArray ab),dk tv tr]++[.blk mm (.map #[] 0)]) S1 w':=q;refine Run.callE jq jl q (KV hg hn a5 t ht S S1 cs mm 0 #[] _ a6 a8 h MetM.empty (fun m V=>V.elim)) fun v' I' S' w'=>?_;rintro ⟨eS,l,b2,rfl,Y⟩ _ q;rw [eS] at q;have a:=O _ _ q;have a:Inv w X ([.blk J (.cells cs.toArray ab)]++aB sb mb g ck tv tr) S w':=(a.pick [true,true,false,true,true]).perm (List.Perm.cons _ (cj (l₁:=aV [(sb,.cells #[.map (some mb),tv] c5),(mb,.map g ck)]) (l₂:=[dk tv tr])));rcases Y with ⟨G,rfl⟩|⟨G,rfl,_⟩
 ·refine aD (fun _=>?_) (fun hb=>by cases hb);exact ⟨_,_,_,rfl,a.sub (fH _ _),Ext.refl _ _ _,rfl,.inr ⟨G,rfl,rfl⟩⟩
 refine aD (fun hb=>by cases hb) (fun _=>?_);have U:Instr.findNow (.int .i64) (.int .i64 n) g.toList 0=some none:=by
  rcases V.find n with ⟨_,_,u,_,_,_,_,hu⟩|⟨_,hf⟩
  ·exact absurd hu (hn u)
  ·exact hf
 have a2:=V.push a7 hn h ck;generalize a4:g.push { key:=.int .i64 n,val:=.agg cs.toArray,born:=ck }=l at a2;have a:Inv w X [.blk J (.cells cs.toArray ab),.blk sb (.cells #[.map (some mb),tv] c5),.blk mb (.map g ck),dk tv tr] S w':=a;refine ⟨fun D jX rb wt Hi Rn Sv w_=>Fx D 0 [Sv=.pointer (some ⟨sb,0,none⟩),Rn=.pointer (some ⟨sb,0,none⟩),Hi=.pointer (some ⟨sb,0,none⟩),wt=.map (some mb),rb=.int .i64 n,jX=.agg cs.toArray,True]/\Inv w X [.blk J (.cells cs.toArray ab),.blk sb (.cells #[.map (some mb),tv] c5),.blk mb (cond (D 6) (.map l (ck+1)) (.map g ck)),dk tv tr] S w_,⟨Fx.nil _ _,a.draw⟩,⟨?_,?_,?_,?_,?_,?_,?_,trivial⟩,?_⟩;all_goals (intro D bH; intros; rename_i jX rb wt Hi Rn Sv w_ Z; have f:=Z.1; obtain ⟨⟨cI,cJ,cH,cD,cL,cN,cq,_⟩,a⟩:=Z)
 ·exact ⟨f.set 0 rfl,a⟩
 ·obtain rfl:=cI ‹_›;refine aE ?_;exact ⟨f.set 1 rfl,a⟩
 ·obtain rfl:=cJ ‹_›;refine aw tP ?_;exact ⟨f.set 2 rfl,a⟩
 ·obtain rfl:=cH ‹_›;refine aT a 1 (by decide +kernel) rfl rfl ?_;exact ⟨f.set 3 rfl,a⟩
 ·exact ⟨f.set 4 rfl,a⟩
 ·refine aC a 0 ad rfl (by simpa using a1) ?_;exact ⟨f.set 5 rfl,a⟩
 ·obtain rfl:=cD ‹_›;obtain rfl:=cL ‹_›;obtain rfl:=cN ‹_›;rw [bH] at a;refine OD a 2 kH iK rfl U fun w_ a=>?_;rw [a4] at a;exact ⟨f.set 6 trivial,a⟩
 obtain ⟨rfl,rfl,rfl,rfl,rfl,rfl,_,_⟩:=f.all;have OQ:D 6=true:=by assumption
 clear f cI cJ cH cD cL cN cq;rw [OQ] at a;have a:Inv w X [.blk J (.cells cs.toArray ab),.blk sb (.cells #[.map (some mb),tv] c5),.blk mb (.map l (ck+1)),dk tv tr] S w_:=a;obtain ⟨va,vn,vc,b3⟩:=a.rowSlice 3 rfl;refine aE ?_;refine aw fX ?_;refine aT a 1 jy rfl rfl ?_;refine dB a iV rfl (by omega) (by omega) fun b w' a=>?_;refine dE a 3 (k:=1) (o:=0) (m:=1) [.int .i64 n] iV (by omega) rfl rfl ?_ (by simp [Value.oneCell']) (by omega) (by omega) fun B w' a=>?_
 ·intro j u hj;rw [a.cellL (i:=4) rfl]
  match j with
  | 0=>simpa [Value.cells] using hj
  | j+1=>simp at hj
 rw [pZ] at a;have a:Inv w X [.blk J (.cells cs.toArray ab),.blk sb (.cells #[.map (some mb),tv] c5),.blk mb (.map l (ck+1)),dk B (tr++[(n:Int)]),.blk b (.cells #[.int .i64 n] cO)] S w':=by
  have e:Item.row B cO 1 (tr.length+1) (ints (tr++[(n:Int)]))=dk B (tr++[(n:Int)]):=by simp [dk]
  rw [<- e];exact a
 obtain ⟨b4,b6,b7,a0⟩:=a.rowSlice 3 rfl;refine aE ?_;refine dj a 1 rfl fX jy rfl (by rw [a0]; rfl) (by rw [a0]; rfl) fun w' a=>?_;have a:Inv w X ([.blk J (.cells cs.toArray ab)]++(aB sb mb l (ck+1) B (tr++[(n:Int)])++[.blk b (.cells #[.int .i64 n] cO)])) S w':=a;exact ⟨_,_,_,rfl,(a.sub (dH [_] _)).sub (dt _ _),Ext.refl _ _ _,rfl,.inl ⟨G,rfl,l,ck+1,B,rfl,a2⟩⟩
def eX:aj->List Int->aj
 | st,[]=>st
 | st,n::ns=>(eX st ns).set n.toNat none
theorem tC (st:aj):∀ a b:List Int,eX st (a++b)=eX (eX st b) a
 | [],_=>rfl
 | n::a,b=>by rw [dS,eX,eX,tC st a b]
theorem pI (st:aj):∀ (ns:List Int) (i:Nat),(eX st ns)[i]?=if (∃ n∈ns,n.toNat=i) then st[i]?.map (fun _=>none) else st[i]?
 | [],i=>by rw [eX,ag (by simp)]
 | n::ns,i=>by
  rw [eX,Dk,pI st ns];have hl:(eX st ns).length=st.length:=by
   clear i;induction ns with
   | nil=>rfl
   | cons m ns l=>rw [eX,ly,l]
  by_cases h:n.toNat=i
  ·subst h;have a:∃ m∈n::ns,m.toNat=n.toNat:=⟨n,by simp,rfl⟩
   by_cases f:n.toNat<st.length
   ·rw [ai rfl,hl,ai f,ai a,ew f]; rfl
   ·rw [ai rfl,hl,ag f,ai a,Mi (by omega)]; rfl
  ·rw [ag h];by_cases f:∃ m∈ns,m.toNat=i
   ·obtain ⟨m,a,g⟩:=f;rw [ai ⟨m,a,g⟩,ai ⟨m,aR _ a,g⟩]
   ·rw [ag f,ag];rintro ⟨m,a,g⟩;rcases bY.1 a with rfl|a
    ·exact h g
    ·exact f ⟨m,a,g⟩
def Tr (st st':aj) (tr tr':List Int):Prop:=∃ ns,tr'=tr++ns/\eX st' ns=st/\(∀ n∈ns,∃ j:Nat,n=(j:Int)/\st[j]?=some none)/\ns.length+unb st'<=unb st
theorem Tr.refl (st:aj) (tr:List Int):Tr st st tr tr:=⟨[],(bV _).symm,rfl,by simp,by simp⟩
theorem Tr.bind {st:aj} {tr:List Int} {n:Nat} {t:T} (h:st[n]?=some none):Tr st (st.set n (some t)) tr (tr++[(n:Int)]):=by
 refine ⟨[(n:Int)],rfl,?_,fun m a=>⟨n,bK.1 a,h⟩,by have:=uX st n t h; simp only [bq,bW]; omega⟩;rw [eX,eX,cu,List.set_set];apply vO;intro i;rw [Dk];by_cases e:n=i
 ·subst e;rw [ai rfl,h,ai (fa.1 h).1]
 ·rw [ag e]
theorem Tr.trans {a b c:aj} {x y z:List Int} (h:Tr a b x y) (g:Tr b c y z):Tr a c x z:=by
 obtain ⟨ns,rfl,rfl,i,o⟩:=h;obtain ⟨l,rfl,rfl,m,q⟩:=g;refine ⟨ns++l,by rw [dx],by rw [tC],fun n hn=>?_,by rw [bA]; omega⟩;rcases bF.1 hn with hn|hn
 ·exact i n hn
 ·obtain ⟨j,rfl,f⟩:=m n hn;refine ⟨j,rfl,?_⟩;rw [pI];split
  ·rw [f]; rfl
  ·exact f
def UI (st:aj) (a b:T) (r:Bool) (st':aj):Prop:=∀ (S:ae) (cs ds:List Value) (sb mb ck:Nat) (es:Array MapEntry) (tv:Value) (tr:List Int),RdT S cs a->RdT S ds b->KnownM S es st->tr.length+unb st<=1000000->
 Tri Tryz.prog DS [.pointer (some ⟨sb,0,none⟩),.agg cs.toArray,.agg ds.toArray] (aB sb mb es ck tv tr) S fun q I' S'=>S'=S/\q=.bool r/\∃ es' ck' tv' tr',I'=aB sb mb es' ck' tv' tr'/\KnownM S es' st'/\tr'.length+unb st'<=1000000/\Tr st st' tr tr'
set_option maxHeartbeats 1000000 in
theorem LD {N:Nat} (hN:N<=1000000) {st a4:aj} {a b a' b':T} {r:Bool} (hg:Good N st) (hj:okJ N (.one a b)) (e7:dr st a a') (e8:dr st b b') (he:VT UI st a' b' r a4):UI st a b r a4:=by
 intro S cs ds sb mb ck es tv tr h h' b3 d0 w f;have g4:=h.length;have g5:=h'.length;have f4:=dz hg e7 hj.1;have f5:=dz hg e8 hj.2;obtain ⟨X,hX⟩:∃ X,X=bP (aB sb mb es ck tv tr):=⟨_,rfl⟩
 rw [<- hX] at f ⊢;refine pA.2 ?_;dsimp only[pA,fQ];refine bJ f fun b1 w' f=>?_;refine bJ f fun b2 w' f=>?_;have f:Inv w X ([.blk b1 (.cells cs.toArray ab),.blk b2 (.cells ds.toArray ab),dk tv tr]++aV [(sb,.cells #[.map (some mb),tv] c5),(mb,.map es ck)]) S w':=f.perm (by
  refine (List.Perm.trans ?_ (cj (l₁:=[.blk b1 (.cells cs.toArray ab),.blk b2 (.cells ds.toArray ab)]) (l₂:=aB sb mb es ck tv tr)));exact List.Perm.cons _ (List.Perm.cons _ (cj (l₁:=[dk tv tr]) (l₂:=aV [(sb,.cells #[.map (some mb),tv] c5),(mb,.map es ck)]))))
 obtain ⟨S1,i2,e6,f,f0⟩:=Inv.lendAll _ f;have g6:StS S S1 sb st:=⟨mb,tv,es,ck,c5,e6 _ (aM ..),e6 _ (aR _ (aM ..)),b3⟩
 refine ⟨fun D Rn Sv Io Mh x9 x8 w_=>Fx D 0 [x8=.pointer (some ⟨sb,0,none⟩),x9=.agg cs.toArray,True,Io=.pointer (some ⟨sb,0,none⟩),Sv=.agg ds.toArray,True,True,True]/\∃ o t,(D 2=true->Mh=.agg (List.toArray o)/\RdT S o a')/\(D 5=true->Rn=.agg (List.toArray t)/\RdT S t b')/\(D 6=true->D 1=true/\D 2=true)/\(D 7=true->D 4=true/\D 5=true)/\Inv w X [.blk b1 (.cells (cond (D 6) (List.toArray o) cs.toArray) ab),.blk b2 (.cells (cond (D 7) (List.toArray t) ds.toArray) ab),dk tv tr] S1 w_,⟨Fx.nil _ _,⟨[],[],aI,aI,aI,aI,f.draw⟩⟩,⟨?_,?_,?_,?_,?_,?_,?_,?_,trivial⟩,?_⟩;all_goals (intro D bH; intros; rename_i Rn Sv Io Mh x9 x8 w_ d1; have g:=d1.1; obtain ⟨⟨cI,cJ,cH,cD,cL,cN,cq,dg,_⟩,⟨o,t,e2,e5,k6,k7,f⟩⟩:=d1)
 ·exact ⟨g.set 0 rfl,⟨o,t,e2,e5,k6,k7,f⟩⟩
 ·have f6:D 6=false:=bx.2 fun h=>by rw [(k6 h).1] at bH; cases bH
  refine aC (c:=cs.toArray) f 0 ad (by rw [f6]; rfl) (by simpa using g4) ?_;have k6:=fun (h:ao D 1 6=true)=>(⟨rfl,(k6 h).2⟩:ao D 1 1=true/\ao D 1 2=true)
  exact ⟨g.set 1 rfl,⟨o,t,e2,e5,k6,k7,f⟩⟩
 ·obtain rfl:=cI ‹_›;obtain rfl:=cJ ‹_›;have f6:D 6=false:=bx.2 fun h=>by rw [(k6 h).2] at bH; cases bH
  refine Run.call0 iT iS f (lU hg e7 hj.1.1 g6 h) fun v' I' S' w_=>?_;rintro ⟨eS,rfl,o,rfl,c3⟩ _ f;rw [eS] at f;have e2:=fun (_:ao D 2 2=true)=>(⟨rfl,c3⟩:Value.agg (List.toArray o)=Value.agg (List.toArray o)/\RdT S o a')
  have k6:=fun (h:ao D 2 6=true)=>(⟨(k6 h).1,rfl⟩:ao D 2 1=true/\ao D 2 2=true)
  have f:Inv w X [.blk b1 (.cells (cond (D 6) (List.toArray o) cs.toArray) ab),.blk b2 (.cells (cond (D 7) (List.toArray t) ds.toArray) ab),dk tv tr] S1 w_:=by rw [f6] at f ⊢; simpa using f
  exact ⟨g.set 2 (by first|assumption|trivial),⟨o,t,e2,e5,k6,k7,f⟩⟩
 ·exact ⟨g.set 3 rfl,⟨o,t,e2,e5,k6,k7,f⟩⟩
 ·have f7:D 7=false:=bx.2 fun h=>by rw [(k7 h).1] at bH; cases bH
  refine aC (c:=ds.toArray) f 1 ad (by rw [f7]; rfl) (by simpa using g5) ?_;have k7:=fun (h:ao D 4 7=true)=>(⟨rfl,(k7 h).2⟩:ao D 4 4=true/\ao D 4 5=true)
  exact ⟨g.set 4 rfl,⟨o,t,e2,e5,k6,k7,f⟩⟩
 ·obtain rfl:=cD ‹_›;obtain rfl:=cL ‹_›;have f7:D 7=false:=bx.2 fun h=>by rw [(k7 h).2] at bH; cases bH
  refine Run.call0 iT iS f (lU hg e8 hj.2.1 g6 h') fun v' I' S' w_=>?_;rintro ⟨eS,rfl,t,rfl,c4⟩ _ f;rw [eS] at f;have e5:=fun (_:ao D 5 5=true)=>(⟨rfl,c4⟩:Value.agg (List.toArray t)=Value.agg (List.toArray t)/\RdT S t b')
  have k7:=fun (h:ao D 5 7=true)=>(⟨(k7 h).1,rfl⟩:ao D 5 4=true/\ao D 5 5=true)
  have f:Inv w X [.blk b1 (.cells (cond (D 6) (List.toArray o) cs.toArray) ab),.blk b2 (.cells (cond (D 7) (List.toArray t) ds.toArray) ab),dk tv tr] S1 w_:=by rw [f7] at f ⊢; simpa using f
  exact ⟨g.set 5 (by first|assumption|trivial),⟨o,t,e2,e5,k6,k7,f⟩⟩
 ·have YE:=cH ‹_›;obtain ⟨q2,d3⟩:=e2 ‹D 2=true›;rw [bH] at f;subst q2;refine au f 0 rfl ad (by simpa using d3.length) (by simpa using g4) (by simpa using d3.one) fun w_ f=>?_;have k6:=fun (_:ao D 6 6=true)=>(⟨‹D 1=true›,‹D 2=true›⟩:ao D 6 1=true/\ao D 6 2=true)
  exact ⟨g.set 6 trivial,⟨o,t,e2,e5,k6,k7,f⟩⟩
 ·have Hj:=cN ‹_›;obtain ⟨q5,g1⟩:=e5 ‹D 5=true›;rw [bH] at f;subst q5;refine au f 1 rfl ad (by simpa using g1.length) (by simpa using g5) (by simpa using g1.one) fun w_ f=>?_;have k7:=fun (_:ao D 7 7=true)=>(⟨‹D 4=true›,‹D 5=true›⟩:ao D 7 4=true/\ao D 7 5=true)
  exact ⟨g.set 7 trivial,⟨o,t,e2,e5,k6,k7,f⟩⟩
 obtain ⟨rfl,rfl,YE,rfl,rfl,Hj,_,_,_⟩:=g.all;have h6:D 2=true:=by assumption
 have Yf:D 5=true:=by assumption
 have OQ:D 6=true:=by assumption
 have vm:D 7=true:=by assumption
 clear g cI cJ cH cD cL cN cq dg;obtain ⟨_,c3⟩:=e2 h6;obtain ⟨_,c4⟩:=e5 Yf;rw [OQ,vm] at f;clear e2 e5 k6 k7;have f:=f0 _ _ f;have f:Inv w X ([.blk b1 (.cells o.toArray ab),.blk b2 (.cells t.toArray ab)]++aB sb mb es ck tv tr) S w_:=f.perm (List.Perm.cons _ (List.Perm.cons _ (cj (l₁:=aV [(sb,.cells #[.map (some mb),tv] c5),(mb,.map es ck)]) (l₂:=[dk tv tr]))));have h7:=c3;have h8:=c4;obtain ⟨kv,rfl,_,_,_,d4⟩:=RdT.iff.1 c3;obtain ⟨f1,rfl,_,_,_,d6⟩:=RdT.iff.1 c4;obtain ⟨k,n,s,ks⟩:=a';obtain ⟨k',n',s',m⟩:=b';unfold VT at he;simp only [T.name,T.kids,T.kind,T.n] at d4 d6 f he ⊢;have g7:=d4.le;simp only [maxLen] at g7;have c8:=fun h=>p7 hg h (gI e7) f4.1;have c9:=fun h=>p7 hg h (gI e8) f5.1;have i5:=hg.len;refine ⟨fun q w'=>q=.bool (decide (k=1/\k'=1/\n=n'))/\Inv w X ([.blk b1 (.cells #[.int .i64 k,.int .i64 n,.string s,kv] ab),.blk b2 (.cells #[.int .i64 k',.int .i64 n',.string s',f1] ab)]++aB sb mb es ck tv tr) S w',?_,?_⟩
 ·refine af f 0 rfl aW aG rfl ?_;refine bw ?_;by_cases e1:k=1
  ·rw [aN e1];refine rpG ?_;refine af f 1 rfl aW aG rfl ?_;refine bw ?_;by_cases e2:k'=1
   ·rw [aN e2];refine rpG ?_;refine af f 0 rfl bi aG rfl ?_;refine af f 1 rfl bi aG rfl ?_;refine bw ?_;refine rpG ?_;exact ⟨by simp [e1,e2],f⟩
   ·rw [ba e2];refine rpG ?_;exact ⟨by simp [e2],f⟩
  ·rw [ba e1];refine rpG ?_;exact ⟨by simp [e1],f⟩
 intro q _ _ _ _ _ _ _ _ _ _ _ _ _ _ _ w';rintro ⟨rfl,f⟩;refine aL (fun a6=>?_) (fun a6=>?_)
 ·have:r=true/\a4=st:=by
   rcases he with ⟨_,_,_,l,h2⟩|⟨_,l,_⟩|⟨l,_,_⟩|⟨l,_,_⟩
   ·exact ⟨l,h2⟩
   ·exact absurd a6.2 l
   ·exact absurd a6.1 l
   ·exact absurd a6.1 l
  obtain ⟨rfl,rfl⟩:=this;exact ⟨_,_,_,rfl,f.sub (dH [_,_] _),Ext.refl _ _ _,rfl,rfl,es,ck,tv,tr,rfl,b3,d0,Tr.refl _ _⟩
 refine af f 0 rfl aW aG rfl ?_;refine bw ?_;refine aL (fun a9=>?_) (fun a9=>?_)
 ·have a3:(¬ fD st n.toNat (.mk k' n' s' m)/\r=true/\a4=st.set n.toNat (some (.mk k' n' s' m))) ∨ (fD st n.toNat (.mk k' n' s' m)/\r=false/\a4=st):=by
   rcases he with ⟨l,h2,h3,_⟩|⟨_,_,l⟩|⟨l,_,_⟩|⟨l,_,_⟩
   ·exact absurd ⟨l,h2,h3⟩ a6
   ·exact l
   ·exact absurd a9 l
   ·exact absurd a9 l
  obtain ⟨f2,f3,_⟩:=f4.1.var a9;have c8:=c8 a9;simp only [T.n] at f2 f3 c8;obtain ⟨j,rfl⟩:∃ j:Nat,n=j:=⟨n.toNat,by omega⟩
  rw [cu] at c8 a3;refine af f 0 rfl bi aG rfl ?_;refine aC f 1 ad rfl rfl ?_;refine Run.callE (A:=[_,_]) sa rB f (GN hg c8 (by omega) f5.1 h8 b3 (by omega)) fun v' I' S' w'=>?_;rintro ⟨eS,b4⟩ _ f;rw [eS] at f;have h9:=uX st j (.mk k' n' s' m) c8;rcases a3 with ⟨l,rfl,rfl⟩|⟨l,rfl,rfl⟩
  ·rcases b4 with ⟨_,rfl,V,Y,Z,rfl,b5⟩|⟨h2,_⟩
   ·exact ⟨_,_,_,rfl,f.sub (dH [_,_] _),Ext.refl _ _ _,rfl,rfl,V,Y,Z,_,rfl,b5,by simp; omega,Tr.bind (by assumption)⟩
   ·exact absurd h2 l
  ·rcases b4 with ⟨h2,_⟩|⟨_,rfl,rfl⟩
   ·exact absurd l h2
   ·exact ⟨_,_,_,rfl,f.sub (dH [_,_] _),Ext.refl _ _ _,rfl,rfl,es,ck,tv,tr,rfl,b3,d0,Tr.refl _ _⟩
 refine af f 1 rfl aW aG rfl ?_;refine bw ?_;refine aL (fun d2=>?_) (fun d2=>?_)
 ·have a3:(¬ fD st n'.toNat (.mk k n s ks)/\r=true/\a4=st.set n'.toNat (some (.mk k n s ks))) ∨ (fD st n'.toNat (.mk k n s ks)/\r=false/\a4=st):=by
   rcases he with ⟨l,_⟩|⟨l,_,_⟩|⟨_,_,l⟩|⟨_,l,_⟩
   ·exact absurd l a9
   ·exact absurd l a9
   ·exact l
   ·exact absurd d2 l
  obtain ⟨f2,f3,_⟩:=f5.1.var d2;have c9:=c9 d2;simp only [T.n] at f2 f3 c9;obtain ⟨j,rfl⟩:∃ j:Nat,n'=j:=⟨n'.toNat,by omega⟩
  rw [cu] at c9 a3;refine af f 1 rfl bi aG rfl ?_;refine aC f 0 ad rfl rfl ?_;refine Run.callE (A:=[_,_]) sa rB f (GN hg c9 (by omega) f4.1 h7 b3 (by omega)) fun v' I' S' w'=>?_;rintro ⟨eS,b4⟩ _ f;rw [eS] at f;have h9:=uX st j (.mk k n s ks) c9;rcases a3 with ⟨l,rfl,rfl⟩|⟨l,rfl,rfl⟩
  ·rcases b4 with ⟨_,rfl,V,Y,Z,rfl,b5⟩|⟨h2,_⟩
   ·exact ⟨_,_,_,rfl,f.sub (dH [_,_] _),Ext.refl _ _ _,rfl,rfl,V,Y,Z,_,rfl,b5,by simp; omega,Tr.bind (by assumption)⟩
   ·exact absurd h2 l
  ·rcases b4 with ⟨h2,_⟩|⟨_,rfl,rfl⟩
   ·exact absurd l h2
   ·exact ⟨_,_,_,rfl,f.sub (dH [_,_] _),Ext.refl _ _ _,rfl,rfl,es,ck,tv,tr,rfl,b3,d0,Tr.refl _ _⟩
 have a3:(py (.mk k n s ks) (.mk k' n' s' m)=false/\r=false/\a4=st) ∨ (py (.mk k n s ks) (.mk k' n' s' m)=true/\Chain UI st ks m r a4):=by
  rcases he with ⟨l,_⟩|⟨l,_,_⟩|⟨_,l,_⟩|⟨_,_,l⟩
  ·exact absurd l a9
  ·exact absurd l a9
  ·exact absurd l d2
  ·exact l
 refine ⟨fun q w'=>q=.bool (!py (.mk k n s ks) (.mk k' n' s' m))/\Inv w X ([.blk b1 (.cells #[.int .i64 k,.int .i64 n,.string s,kv] ab),.blk b2 (.cells #[.int .i64 k',.int .i64 n',.string s',f1] ab)]++aB sb mb es ck tv tr) S w',?_,?_⟩
 ·refine af f 0 rfl aW aG rfl ?_;refine af f 1 rfl aW aG rfl ?_;refine fW ?_;by_cases e1:k=k'
  ·rw [aN e1];refine rpG ?_;refine af f 0 rfl bi aG rfl ?_;refine af f 1 rfl bi aG rfl ?_;refine fW ?_;by_cases e2:n=n'
   ·rw [aN e2];refine rpG ?_;refine af f 0 rfl bl be rfl ?_;refine af f 1 rfl bl be rfl ?_;refine Ql ?_;by_cases e3:s=s'
    ·rw [aN e3];refine rpG ?_;refine af f 0 rfl ar al rfl ?_;refine aJ d4 ah ?_;refine af f 1 rfl ar al rfl ?_;refine aJ d6 ah ?_;refine fW ?_;refine rpG ?_;exact ⟨by rw [od,aN e1,aN e2,aN e3,X9]; rfl,f⟩
    ·rw [ba e3];refine rpG ?_;exact ⟨by rw [od,aN e1,aN e2,ba e3]; rfl,f⟩
   ·rw [ba e2];refine rpG ?_;exact ⟨by rw [od,aN e1,ba e2]; rfl,f⟩
  ·rw [ba e1];refine rpG ?_;exact ⟨by rw [od,ba e1]; rfl,f⟩
 intro q _ _ _ _ _ _ _ _ _ _ _ _ _ _ _ _ _ _ _ _ _ _ _ _ _ _ _ _ w';rintro ⟨rfl,f⟩;cases hd:py (.mk k n s ks) (.mk k' n' s' m)
 ·refine aD (fun _=>?_) (fun hb=>by cases hb);have:r=false/\a4=st:=by
   rcases a3 with ⟨_,l⟩|⟨l,_⟩
   ·exact l
   ·rw [hd] at l; cases l
  obtain ⟨rfl,rfl⟩:=this;exact ⟨_,_,_,rfl,f.sub (dH [_,_] _),Ext.refl _ _ _,rfl,rfl,es,ck,tv,tr,rfl,b3,d0,Tr.refl _ _⟩
 refine aD (fun hb=>by cases hb) (fun _=>?_);have g8:ks.length=m.length:=pM hd;have i0:Chain UI st ks m r a4:=by
  rcases a3 with ⟨l,_⟩|⟨_,l⟩
  ·rw [hd] at l; cases l
  ·exact l
 refine af f 0 rfl ar al rfl ?_;refine aJ d4 ah ?_;refine ⟨fun i w'=>∃ (j:Nat) (b6:aj) (b0:Array MapEntry) (b7:Nat) (b8:Value) (a5:List Int),j<=ks.length/\i=.int .i64 j/\Chain UI b6 (ks.drop j) (m.drop j) r a4/\KnownM S b0 b6/\a5.length+unb b6<=1000000/\Tr st b6 tr a5/\Inv w X ([.blk b1 (.cells #[.int .i64 k,.int .i64 n,.string s,kv] ab),.blk b2 (.cells #[.int .i64 k',.int .i64 n',.string s',f1] ab)]++aB sb mb b0 b7 b8 a5) S w',fun i _=>ks.length - (intOf i).toNat,⟨0,st,es,ck,tv,tr,bk _,rfl,i0,b3,d0,Tr.refl _ _,f⟩,?_⟩;intro i1 _ _ _ _ _ _ _ _ _ _ _ _ _ _ _ _ _ _ w';rintro ⟨j,b6,b0,b7,b8,a5,hj,rfl,c6,e0,e4,e9,f⟩;refine bS ?_;refine aL (fun g9=>?_) (fun g9=>?_)
 ·have d9:j<ks.length:=by omega
  have f8:j<m.length:=by omega
  obtain ⟨c1,o1,a7,a1,E1,i3,rfl,h0,g2⟩:=d4.at_ d9;obtain ⟨c2,o2,a8,a2,E2,i4,rfl,h4,d3⟩:=d6.at_ f8;rw [dY d9,dY f8] at c6;obtain ⟨r1,b9,c0,h5,g3⟩:=c6.head;have c0:=c0 S _ _ sb mb b7 b0 b8 a5 g2 d3 e0 e4;refine ⟨fun D V3 TQ U3 TW T6 U4 Vu VJ Vb T7 Uj UW Vt w_=>Fx D 0 [Vt=.pointer (some ⟨sb,0,none⟩),UW=.pointer (some ⟨b1,3,none⟩),Uj=.slice (some ⟨c1,o1,none⟩) ks.length a7,T7=.int .i64 j,Vb=.pointer (some ⟨c1,o1+j * 4,none⟩),VJ=.agg (aX a1 (o1+j * 4) 4).toArray,Vu=.pointer (some ⟨b2,3,none⟩),U4=.slice (some ⟨c2,o2,none⟩) m.length a8,T6=.int .i64 j,TW=.pointer (some ⟨c2,o2+j * 4,none⟩),U3=.agg (aX a2 (o2+j * 4) 4).toArray,TQ=.bool r1,V3=.bool (!r1)]/\(D 11=false->Inv w X ([.blk b1 (.cells #[.int .i64 k,.int .i64 n,.string s,.slice (some ⟨c1,o1,none⟩) ks.length a7] ab),.blk b2 (.cells #[.int .i64 k',.int .i64 n',.string s',.slice (some ⟨c2,o2,none⟩) m.length a8] ab)]++aB sb mb b0 b7 b8 a5) S w_)/\(D 11=true->∃ V Y Z a0,KnownM S V b9/\a0.length+unb b9<=1000000/\Tr b6 b9 a5 a0/\Inv w X ([.blk b1 (.cells #[.int .i64 k,.int .i64 n,.string s,.slice (some ⟨c1,o1,none⟩) ks.length a7] ab),.blk b2 (.cells #[.int .i64 k',.int .i64 n',.string s',.slice (some ⟨c2,o2,none⟩) m.length a8] ab)]++aB sb mb V Y Z a0) S w_)/\∃ B G J M,Inv w X ([.blk b1 (.cells #[.int .i64 k,.int .i64 n,.string s,.slice (some ⟨c1,o1,none⟩) ks.length a7] ab),.blk b2 (.cells #[.int .i64 k',.int .i64 n',.string s',.slice (some ⟨c2,o2,none⟩) m.length a8] ab)]++aB sb mb B G J M) S w_,⟨Fx.nil _ _,⟨fun _=>f.draw,aI,b0,b7,b8,a5,f.draw⟩⟩,⟨?_,?_,?_,?_,?_,?_,?_,?_,?_,?_,?_,?_,?_,trivial⟩,?_⟩;all_goals (intro D bH; intros; rename_i V3 TQ U3 TW T6 U4 Vu VJ Vb T7 Uj UW Vt w_ d1; have g:=d1.1; obtain ⟨⟨cI,cJ,cH,cD,cL,cN,cq,dg,dG,dL,cT,dn,dN,_⟩,⟨O,U,B,G,J,M,f⟩⟩:=d1)
  ·exact ⟨g.set 0 rfl,⟨O,U,B,G,J,M,f⟩⟩
  ·refine aw ar ?_;exact ⟨g.set 1 rfl,⟨O,U,B,G,J,M,f⟩⟩
  ·obtain rfl:=cJ ‹_›;refine aT f 0 al rfl rfl ?_;exact ⟨g.set 2 rfl,⟨O,U,B,G,J,M,f⟩⟩
  ·exact ⟨g.set 3 rfl,⟨O,U,B,G,J,M,f⟩⟩
  ·obtain rfl:=cH ‹_›;obtain rfl:=cD ‹_›;refine az ah d9 ?_;exact ⟨g.set 4 rfl,⟨O,U,B,G,J,M,f⟩⟩
  ·obtain rfl:=cL ‹_›;refine ci ad g2.length (fun j v hj=>by rw [f.cellS h0]; exact aF rfl j v hj) ?_;exact ⟨g.set 5 rfl,⟨O,U,B,G,J,M,f⟩⟩
  ·refine aw ar ?_;exact ⟨g.set 6 rfl,⟨O,U,B,G,J,M,f⟩⟩
  ·obtain rfl:=cq ‹_›;refine aT f 1 al rfl rfl ?_;exact ⟨g.set 7 rfl,⟨O,U,B,G,J,M,f⟩⟩
  ·exact ⟨g.set 8 rfl,⟨O,U,B,G,J,M,f⟩⟩
  ·obtain rfl:=dg ‹_›;obtain rfl:=dG ‹_›;refine az ah f8 ?_;exact ⟨g.set 9 rfl,⟨O,U,B,G,J,M,f⟩⟩
  ·obtain rfl:=dL ‹_›;refine ci ad d3.length (fun j v hj=>by rw [f.cellS h4]; exact aF rfl j v hj) ?_;exact ⟨g.set 10 rfl,⟨O,U,B,G,J,M,f⟩⟩
  ·obtain rfl:=cI ‹_›;obtain rfl:=cN ‹_›;obtain rfl:=cT ‹_›;refine Run.callE (A:=[_,_]) eq eo (O bH) c0 fun v' I' S' w_=>?_;rintro ⟨eS,rfl,V,Y,Z,a0,rfl,b5,c7,d7⟩ _ f;rw [eS] at f;have O:=fun (h:ao D 11 11=false)=>(Bool.noConfusion h:Inv w X ([.blk b1 (.cells #[.int .i64 k,.int .i64 n,.string s,.slice (some ⟨c1,o1,none⟩) ks.length a7] ab),.blk b2 (.cells #[.int .i64 k',.int .i64 n',.string s',.slice (some ⟨c2,o2,none⟩) m.length a8] ab)]++aB sb mb b0 b7 b8 a5) S w_)
   have U:=fun (_:ao D 11 11=true)=>(⟨V,Y,Z,a0,b5,c7,d7,f⟩:∃ V Y Z a0,KnownM S V b9/\a0.length+unb b9<=1000000/\Tr b6 b9 a5 a0/\Inv w X ([.blk b1 (.cells #[.int .i64 k,.int .i64 n,.string s,.slice (some ⟨c1,o1,none⟩) ks.length a7] ab),.blk b2 (.cells #[.int .i64 k',.int .i64 n',.string s',.slice (some ⟨c2,o2,none⟩) m.length a8] ab)]++aB sb mb V Y Z a0) S w_)
   obtain ⟨B,G,J,M,f⟩:∃ B G J M,Inv w X ([.blk b1 (.cells #[.int .i64 k,.int .i64 n,.string s,.slice (some ⟨c1,o1,none⟩) ks.length a7] ab),.blk b2 (.cells #[.int .i64 k',.int .i64 n',.string s',.slice (some ⟨c2,o2,none⟩) m.length a8] ab)]++aB sb mb B G J M) S w_:=⟨V,Y,Z,a0,f⟩
   exact ⟨g.set 11 rfl,⟨O,U,B,G,J,M,f⟩⟩
  ·obtain rfl:=dn ‹_›;refine cw ?_;exact ⟨g.set 12 rfl,⟨O,U,B,G,J,M,f⟩⟩
  obtain ⟨rfl,rfl,rfl,rfl,rfl,rfl,rfl,rfl,rfl,rfl,rfl,rfl,rfl,_⟩:=g.all;have Ai:D 11=true:=by assumption
  clear g cI cJ cH cD cL cN cq dg dG dL cT dn dN;obtain ⟨V,Y,Z,a0,b5,c7,d7,f⟩:=U Ai;clear O U;refine aD (fun f9=>?_) (fun g0=>?_)
  ·simp only [o6] at f9;obtain ⟨rfl,rfl⟩:=h5 f9;exact ⟨_,_,_,rfl,f.sub (dH [_,_] _),Ext.refl _ _ _,rfl,rfl,V,Y,Z,a0,rfl,b5,c7,e9.trans d7⟩
  ·simp only [Ru] at g0;refine bC (by omega) ?_;exact ⟨⟨j+1,b9,V,Y,Z,a0,d9,rfl,g3 g0,b5,c7,e9.trans d7,f⟩,by simp [intOf]; omega⟩
 ·have:j=ks.length:=by omega
  subst this;rw [eC,g8,eC] at c6;obtain ⟨rfl,rfl⟩:=c6.done;exact ⟨_,_,_,rfl,f.sub (dH [_,_] _),Ext.refl _ _ _,rfl,rfl,b0,b7,b8,a5,rfl,e0,e4,e9⟩
theorem gJ {N:Nat} (m:N<=1000000) {st f:aj} {a b:T} {r:Bool} (g:Good N st) (h:okJ N (.one a b)) (o:Uni st (.one a b) r f):UI st a b r f:=
 Uni.calls (N:=N) (Call:=UI) (fun _ _ _ _ _ _ _ g h i l q=>LD m g h i l q) o g h
end
end
end Go.Proofs.YtgllldjiaglkcaaGreatDoor
