/- impl's store: bindings are taken back. -/
import Derived.Test.YtgllldjiaglkcaaGreatDoorZUf15
import Derived.Test.YtgllldjiaglkcaaGreatDoorZUf14
namespace Go.Proofs.YtgllldjiaglkcaaGreatDoor
section
open Go Go.RowKit
theorem CV {n:Int}:∀ (l:List MapEntry) (i j:Nat) (v:Value),(∀ e∈l,∃ m,e.key=.int .i64 m)->Instr.findNow (.int .i64) (.int .i64 n) l i=some (some (j,v))->i<=j/\∃ e,l[j - i]?=some e/\e.key=.int .i64 n
 | [],i,j,v,_,h=>by simp [Instr.findNow] at h
 | e::l,i,j,v,hk,h=>by
  obtain ⟨m,f⟩:=hk e (aM ..);have t:Instr.sameNow (.int .i64) (.int .i64 n) e.key=some (n == m):=by rw [f]; rfl
  rw [Instr.findNow,t] at h;by_cases a:n=m
  ·subst a;simp only [PH,aY,cE] at h;obtain ⟨rfl,rfl⟩:=h;exact ⟨aS _,e,by simp,f⟩
  ·have B:(n == m)=false:=by simpa using a
   rw [B] at h;obtain ⟨D,o,q,r⟩:=CV l (i+1) j v (fun e g=>hk e (aR _ g)) h;refine ⟨by omega,o,?_,r⟩;have:j - i=(j - (i+1))+1:=by omega
   rw [this,kO];exact q
theorem KnownM.erase {S:ae} {a:Array MapEntry} {st:aj} (h:KnownM S a st) {n j:Nat} {v:Value} (hf:Instr.findNow (.int .i64) (.int .i64 n) a.toList 0=some (some (j,v))) :
  KnownM S (a.eraseIdxIfInBounds j) (st.set n none):=by
 obtain ⟨_,e,i,l⟩:=CV a.toList 0 j v (fun e i=>by obtain ⟨m,_,_,hk,_⟩:=h.1 e i; exact ⟨m,hk⟩) hf;rw [Nat.sub_zero] at i;have q:j<a.toList.length:=(fa.1 i).1;have r:a.toList[j]=e:=(fa.1 i).2;have B:List.Perm a.toList (e::a.toList.eraseIdx j):=by
  rw [U7];have e1:a.toList=a.toList.take j++e::a.toList.drop (j+1):=by
   conv=>lhs; rw [<- GA j a.toList,dY q,r]
  conv=>lhs; rw [e1]
  exact zal132
 have g:((e::a.toList.eraseIdx j).map (·.key)).Nodup:=(B.map _).nodup_iff.1 h.2.2;rw [lr,ED] at g;refine ⟨fun x f=>?_,fun m t o=>?_,?_⟩
 ·rw [Y4] at f;obtain ⟨m,t,cs,hk,G,hR,J⟩:=h.1 x (B.mem_iff.2 (aR _ f));refine ⟨m,t,cs,hk,G,hR,?_⟩;have:n≠m:=by
   rintro rfl;exact g.1 (dp.2 ⟨x,f,by rw [hk,l]⟩)
  rw [yb this];exact J
 ·rw [Y4];have D:n≠m:=by
   rintro rfl;rw [Dk] at o;simp at o
  rw [yb D] at o;obtain ⟨x,f,hk⟩:=h.2.1 m t o;rcases bY.1 (B.mem_iff.1 f) with rfl|f
  ·rw [l] at hk;simp only [Value.int.injEq,i7] at hk;exact absurd (by omega) D
  ·exact ⟨x,f,hk⟩
 ·rw [Y4];exact g.2
theorem KnownM.clear {S:ae} {f:Array MapEntry} {st:aj} (h:KnownM S f st) {n:Nat} (hn:∀ t,st[n]?≠some (some t)):KnownM S f (st.set n none):=by
 refine ⟨fun x i=>?_,fun m t a=>?_,h.2.2⟩
 ·obtain ⟨m,t,cs,hk,l,hR,g⟩:=h.1 x i;refine ⟨m,t,cs,hk,l,hR,?_⟩;have:n≠m:=by rintro rfl; exact hn t g
  rw [yb this];exact g
 ·have o:n≠m:=by
   rintro rfl;rw [Dk] at a;simp at a
  rw [yb o] at a;exact h.2.1 m t a
theorem BC (st:aj) (l:List Int) (n:Int):eX st (l++[n])=(eX st l).set n.toNat none:=by
 have hl:(eX st l).length=st.length:=by
  induction l with
  | nil=>rfl
  | cons m ns o=>rw [eX,ly,o]
 apply vO;intro i;rw [pI,Dk,pI,hl];by_cases h:n.toNat=i
 ·subst h;rw [ai ⟨n,by simp,rfl⟩,ai rfl];by_cases f:n.toNat<st.length
  ·rw [ai f,ew f]; rfl
  ·rw [ag f,Mi (by omega)]; rfl
 ·rw [ag h];by_cases f:∃ m∈l,m.toNat=i
  ·obtain ⟨m,a,g⟩:=f;rw [ai ⟨m,cZ _ a,g⟩,ai ⟨m,a,g⟩]
  ·rw [ag f,ag];rintro ⟨m,a,g⟩;rcases bF.1 a with a|a
   ·exact f ⟨m,a,g⟩
   ·rw [bK] at a;subst a;exact h g
section
variable {P:Program} {w w0:World} {X:List Nat} {L:List Item} {S:ae} {K:Value->World->Prop}
attribute [local irreducible] Run CondV aq aK
theorem NX (h:Inv w0 X L S w) {T B N ty U:TypeId} {cs:List Bool} {b a:Nat} {g:Array MapEntry} {n:Int} {o:Option (Nat × Value)} (i:Nat) (D:P.underlying T=some (.map B N)) (m:P.underlying B=some (.int .i64))
  (G:L[i]?=some (.blk b (.map g a))) (hf:Instr.findNow (.int .i64) (.int .i64 n) g.toList 0=some o)
  (hk:∀ w',Inv w0 X (L.set i (.blk b (.map (match o with|some (j,_)=>g.eraseIdxIfInBounds j|none=>g) a))) S w'->K (.tuple #[]) w') :
  Run P (cm .delete #[T,U] ty cs [.map (some b),.int .i64 n]) w K:=by
 have J:w.heap[b]?=some (.map g a):=h.its _ (cz G);have q:∀ e,(Instr.checkKey e 10000 B (.int .i64 n)).run P w=.ok () w:=fun e=>by
  rw [show (10000:Nat)=9999+1 from rfl,Instr.checkKey];simp [run_underlying m]
 have M:(getObj b).run P w=.ok (.map g a) w:=by simp [getObj,Sem.run,J]
 have r:=l6 (P:=P) (w:=w) m hf;obtain ⟨f,l⟩:∃ f,f=(match o with|some (j,_)=>g.eraseIdxIfInBounds j|none=>g):=⟨_,rfl⟩
 rw [<- l] at hk;have t:(setObj b (.map f a)).run P w=.ok () { w with heap:=w.heap.setIfInBounds b (.map f a) }:=by simp [setObj,Sem.run,J]
 refine Run.of (w':={ w with heap:=w.heap.setIfInBounds b (.map f a) }) ?_ (hk _ (h.setBlk G _ rfl));cases o with
 | none=>
  subst l;simp [cm,builtin,Builtin.delete_,run_underlying D,M,q,r,t]
 | some p=>
  obtain ⟨j,v⟩:=p;subst l;simp [cm,builtin,Builtin.delete_,run_underlying D,M,q,r,t]
end
section
attribute [local irreducible] Run CondV aq aK
theorem xh {st:aj} {S:ae} {sb mb ck mark:Nat} {M:Array MapEntry} {tv:Value} {tr:List Int} (V:KnownM S M st) (D:mark<=tr.length) (Y:∀ n∈tr.drop mark,0<=n) (a8:tr.length<=100000000) :
  Tri Tryz.prog GH [.pointer (some ⟨sb,0,none⟩),.int .i64 mark] (aB sb mb M ck tv tr) S fun q I' S'=>S'=S/\q=.tuple #[]/\∃ o a5,I'=aB sb mb o ck a5 (tr.take mark)/\KnownM S o (eX st (tr.drop mark)):=by
 intro w f;obtain ⟨X,hX⟩:∃ X,X=bP (aB sb mb M ck tv tr):=⟨_,rfl⟩
 rw [<- hX] at f ⊢;have a1:Inv w X ([.blk sb (.cells #[.map (some mb),tv] c5),.blk mb (.map M ck)]++[.row tv cO 1 tr.length (ints tr)]) S w:=f;refine rv.2 ?_;dsimp only[rv,bm];refine aE ?_;refine af f 0 rfl fX jy rfl ?_;obtain ⟨S1,a9,a0,f,J⟩:=Inv.lend a1;have a2:=a0.ints;refine fk cA a2 D fun v' N=>?_;refine aJ N cA ?_;refine ⟨fun i w'=>∃ (k:Nat) (o:Array MapEntry),k<=(tr.drop mark).length/\i=.int .i64 k/\KnownM S o (eX st ((tr.drop mark).take k))/\Inv w X [.blk sb (.cells #[.map (some mb),tv] c5),.blk mb (.map o ck)] S1 w',
  fun i _=>(tr.drop mark).length - (intOf i).toNat,⟨0,M,bk _,rfl,V,f⟩,?_⟩
 intro i _ _ _ _ _ _ _ _ _ _ w';rintro ⟨k,o,hk,rfl,h,f⟩;have b0:(tr.drop mark).length<=100000000:=by rw [mi]; omega
 refine bS ?_;refine aL (fun Z=>?_) (fun Z=>?_)
 ·have r:k<(tr.drop mark).length:=by omega
  have hm:=bG r;have h0:=Y _ hm;refine fg f N cA aG r (fun cs G=>G) ?_;refine aE ?_;refine af f 0 rfl tP Ii rfl ?_;obtain ⟨m,O⟩:∃ m:Nat,(tr.drop mark)[k]=(m:Int):=⟨((tr.drop mark)[k]).toNat,by omega⟩
  have B:eX st ((tr.drop mark).take (k+1))=(eX st ((tr.drop mark).take k)).set m none:=by
   rw [eV r,BC,O,cu]
  rw [O];rcases h.find m with ⟨j,v,t,cs,hf,_,_,_⟩|⟨a6,hf⟩
  ·refine NX f 1 kH iK rfl hf fun w' f=>?_;refine bC (by omega) ?_;exact ⟨⟨k+1,_,r,rfl,by rw [B]; exact h.erase hf,f⟩,by simp only [intOf]; omega⟩
  ·refine NX f 1 kH iK rfl hf fun w' f=>?_;refine bC (by omega) ?_;exact ⟨⟨k+1,_,r,rfl,by rw [B]; exact h.clear a6,f⟩,by simp only [intOf]; omega⟩
 ·have:k=(tr.drop mark).length:=by omega
  subst this;rw [d4] at h;have f:=J _ _ f;refine aE ?_;refine af f 0 rfl fX jy rfl ?_;obtain ⟨hl,ho⟩:=Inv.openRow f;have hit:(ints tr).take mark=ints (tr.take mark):=by
   have:∀ (l:List Int) (m:Nat),(ints l).take m=ints (l.take m):=by
    intro l;induction l with
    | nil=>intro m; simp [ints]
    | cons a l ih=>
     intro m;cases m with
     | zero=>simp [ints]
     | succ m=>have:=ih m; simp only [ints,rQ,tT,List.singleton_append] at *; rw [this]
   exact this tr mark
  have a3:(tr.take mark).length=mark:=by rw [cM]; omega
  rcases ho with ⟨rfl,h1⟩|⟨g,cap,U,rfl,b1,a7,G,ht,f⟩
  ·have a4:tr=[]:=gF h1;subst a4;obtain rfl:mark=0:=by simpa using D
   refine FP cA (aS _) ?_;refine aE ?_;refine dj f 0 rfl fX jy rfl rfl rfl fun w' f=>?_;exact ⟨_,_,S,rfl,f,Ext.refl _ _ _,rfl,rfl,o,_,rfl,h⟩
  ·refine FP cA (by omega) ?_;have e1:(if cap=0 then (some (⟨g,0,none⟩:Addr)) else (some (⟨g,0,none⟩:Addr)).map (·.add (0 * 1)))=some ⟨g,0,none⟩:=by
    split
    ·rfl
    ·simp [Addr.add]
   rw [e1];refine aE ?_;refine dj f 0 rfl fX jy rfl rfl rfl fun w' f=>?_;have f:Inv w X ([.blk sb (.cells #[.map (some mb),.slice (some ⟨g,0,none⟩) mark cap] c5),.blk mb (.map o ck)]++[.blk g (.cells U cO)]) S w':=f;have f:=Inv.closeRow (n:=mark) (k:=1) (cap:=cap) f (by omega) a7 G;have e2:U.toList.take (mark * 1)=ints (tr.take mark):=by
    rw [<- hit,<- ht,lD,Nat.mul_one,Nat.mul_one,lw D]
   rw [e2] at f;refine ⟨_,_,S,rfl,f,Ext.refl _ _ _,rfl,rfl,o,.slice (some ⟨g,0,none⟩) mark cap,?_,h⟩;simp only [aB,dk,a3];rfl
end
end
section
open Go Go.RowKit
theorem VN {k n:Int} {s:ByteArray} {ks:List T} (h:di s gD=true):gA (.mk k n s ks)=.done (WZ s (fe ks)):=by
 have i:=h;rw [di,Gd] at h;obtain ⟨x,g,hd⟩:=h;have hd:=of_decide_eq_true hd;subst hd;have a:∀ y∈([jH,lN,nEq,nNe,sM,nIs,GF]:List ByteArray),s≠y:=by
  intro y f;simp only [gD,bY,i6,i9] at g f;rcases g with rfl|rfl|rfl|rfl|rfl <;> rcases f with rfl|rfl|rfl|rfl|rfl|rfl|rfl <;> decide +kernel
 have l:(T.mk k n s ks).name=s:=rfl;rw [gA,l,ag (a _ (by simp)),ag (a _ (by simp)),ag (a _ (by simp)),ag (a _ (by simp)),ag (a _ (by simp)),ag (a _ (by simp)),ag (a _ (by simp)),ai i];rfl
theorem RdT.f0 {S:ae} {cs:List Value} {t:T} (h:RdT S cs t):cs[0]?=some (.int .i64 t.kind):=by
 obtain ⟨_,rfl,_⟩:=RdT.iff.1 h; rfl
theorem RdT.f1 {S:ae} {cs:List Value} {t:T} (h:RdT S cs t):cs[1]?=some (.int .i64 t.n):=by
 obtain ⟨_,rfl,_⟩:=RdT.iff.1 h; rfl
section
variable {w:World} {X:List Nat} {S:ae}
attribute [local irreducible] Run CondV aq aK
theorem uh (n:Int) (S:ae):Pure Tryz.prog QJ [.int .i64 n] S (.agg #[.int .i64 2,.int .i64 n,.string ⟨#[]⟩,.slice none 0 0]):=by
 intro w a;refine Cl.2 ?_;dsimp only[Cl,aO];refine aQ a bj fun b w' a=>?_;refine nC ?_;refine au a 0 rfl ad rfl rfl (by simp [Value.oneCell']) fun w' a=>?_;refine bB a 0 ad rfl rfl ?_;exact done a rfl
def Wm (sb mb:Nat) (S:ae) (st:aj) (tr:List Int) (code:Int) (st':aj):Value->List Item->ae->Prop:=fun q I' S'=>S'=S/\q=.int .i64 code/\
 ∃ es' ck' tv' tr',I'=aB sb mb es' ck' tv' tr'/\KnownM S es' st'/\tr'.length+unb st'<=1000000/\Tr st st' tr tr'
set_option maxHeartbeats 1000000 in
theorem Md {N:Nat} (hN:N<=1000000) {st a0:aj} {g:T} {code:Int} (hg:Good N st) (ho:okU N g/\wT g<=1048576) (hn:okN g) (hb:bU g=true) (hB:Blt st g code a0)
  {S:ae} {cs:List Value} {sb mb ck:Nat} {es:Array MapEntry} {tv:Value} {tr:List Int} (h:RdT S cs g) (b8:KnownM S es st) (b5:tr.length+unb st<=1000000) :
  Tri Tryz.prog Fu [.pointer (some ⟨sb,0,none⟩),.agg cs.toArray] (aB sb mb es ck tv tr) S (Wm sb mb S st tr code a0):=by
 intro w a;have c6:=h;obtain ⟨k,n,s,ks⟩:=g;obtain ⟨kv,rfl,_,_,_,a8⟩:=RdT.iff.1 h;have b1:=yG hb ho;rw [bU,bM] at hb;obtain ⟨e8,b0⟩:=hb;rw [okN] at hn;simp only [T.name,T.kids,T.kind,T.n] at a8 b0 c6 e8 ⊢;obtain ⟨X,hX⟩:∃ X,X=bP (aB sb mb es ck tv tr):=⟨_,rfl⟩
 rw [<- hX] at a ⊢;unfold Blt at hB;clear h;refine rC.2 ?_;dsimp only[rC,bm];refine bJ a fun b3 w' a=>?_;have a:Inv w X ([.blk b3 (.cells #[.int .i64 k,.int .i64 n,.string s,kv] ab)]++aB sb mb es ck tv tr) S w':=a.perm cj;have fin:∀ {w':World} {L:List Item} {j:BJ} (c:Int),j=.done c->BltJ st j code a0->Inv w X L S w'->List.Sublist (aB sb mb es ck tv tr) L->
   ∃ v' I' S',Ending.returned (.int .i64 c)=.returned v'/\Inv w X I' S' w'/\Ext w.heap.size X S S'/\Wm sb mb S st tr code a0 v' I' S':=by
  intro w' L j c hj hB a hs;subst hj;obtain ⟨rfl,rfl⟩:=hB;exact ⟨_,_,S,rfl,a.sub hs,Ext.refl _ _ _,rfl,rfl,es,ck,tv,tr,rfl,b8,b5,Tr.refl _ _⟩
 have a5:∀ it:Item,List.Sublist (aB sb mb es ck tv tr) ([it]++aB sb mb es ck tv tr):=fun it=>dH [it] _;refine aC a 0 ad rfl rfl ?_;refine Run.callPure HS Hw a (A0 c6) fun w' a=>?_;have g6:WF (.mk k n s ks)=(decide (ks.length=2) && di s gD):=by
  unfold WF;rw [show decide ((T.mk k n s ks).kind=3)=true from e8];rfl
 rw [g6];refine aD (fun hc=>?_) (fun hc=>?_)
 ·rw [bM,bD] at hc;refine aC a 0 ad rfl rfl ?_;refine Run.callPure HF H1 a (Am c6 hc.1 hn.2) fun w' a=>?_;exact fin _ (VN hc.2) hB a (a5 _)
 have b2:di s gD=false:=by
  cases hx:di s gD
  ·rfl
  ·have:=iv (Xx hx) b0;rw [hx,aN (show ks.length=2 by omega)] at hc;cases hc
 refine af a 0 rfl ar al rfl ?_;refine af a 0 rfl bl be rfl ?_;refine bQ ?_;refine aL (fun h=>fin 0 (by rw [gA,ai (show (T.mk k n s ks).name=jH from h)]) hB a (a5 _)) (fun h0=>?_);refine bQ ?_;refine aL (fun h=>fin 1 (by rw [gA,ag (show ¬ (T.mk k n s ks).name=jH from h0),ai (show (T.mk k n s ks).name=lN from h)]) hB a (a5 _)) (fun h1=>?_);refine bQ ?_;refine aL (fun h=>?_) (fun h2=>?_)
 ·obtain ⟨x,y,rfl⟩:=BK (l:=ks) (by have:=iv (by rw [h]; decide +kernel) b0; omega);have hj:gA (.mk k n s [x,y])=.uni x y:=by
   rw [gA,ag (show ¬ (T.mk k n s [x,y]).name=jH from h0),ag (show ¬ (T.mk k n s [x,y]).name=lN from h1),ai (show (T.mk k n s [x,y]).name=nEq from h)];rfl
  rw [hj] at hB b1;obtain ⟨b,o,cap,c,E,fz,rfl,a7,hR⟩:=a8.ptr (by simp);obtain ⟨r,hu,rfl⟩:=hB;have b4:okJ N (.one x y):=b1;refine ⟨fun D x4 CS sA ir ji jv pn kV fN lP w_=>Fx D 0 [lP=.pointer (some ⟨sb,0,none⟩),fN=.slice (some ⟨b,o,none⟩) [x,y].length cap,kV=.pointer (some ⟨b,o+0 * 4,none⟩),pn=.agg (aX c (o+0 * 4) 4).toArray,jv=.slice (some ⟨b,o,none⟩) [x,y].length cap,ji=.pointer (some ⟨b,o+1 * 4,none⟩),ir=.agg (aX c (o+1 * 4) 4).toArray,sA=.bool r,CS=.int .i64 (gO r),x4=.int .i64 (gO r)]/\(D 7=false->Inv w X ([.blk b3 (.cells #[.int .i64 k,.int .i64 n,.string s,.slice (some ⟨b,o,none⟩) [x,y].length cap] ab)]++aB sb mb es ck tv tr) S w_)/\(D 7=true->∃ O Y Z M,KnownM S O a0/\M.length+unb a0<=1000000/\Tr st a0 tr M/\Inv w X ([.blk b3 (.cells #[.int .i64 k,.int .i64 n,.string s,.slice (some ⟨b,o,none⟩) [x,y].length cap] ab)]++aB sb mb O Y Z M) S w_)/\∃ f t B G,Inv w X ([.blk b3 (.cells #[.int .i64 k,.int .i64 n,.string s,.slice (some ⟨b,o,none⟩) [x,y].length cap] ab)]++aB sb mb f t B G) S w_,⟨Fx.nil _ _,⟨fun _=>a.draw,aI,es,ck,tv,tr,a.draw⟩⟩,⟨?_,?_,?_,?_,?_,?_,?_,?_,?_,?_,trivial⟩,?_⟩;all_goals (intro D bH; intros; rename_i x4 CS sA ir ji jv pn kV fN lP w_ a6; have J:=a6.1; obtain ⟨⟨cI,cJ,cH,cD,cL,cN,cq,dg,dG,dL,_⟩,⟨V,U,f,t,B,G,a⟩⟩:=a6)
  ·exact ⟨J.set 0 rfl,⟨V,U,f,t,B,G,a⟩⟩
  ·exact ⟨J.set 1 rfl,⟨V,U,f,t,B,G,a⟩⟩
  ·obtain rfl:=cJ ‹_›;refine az (i:=0) ah (by simp) ?_;exact ⟨J.set 2 rfl,⟨V,U,f,t,B,G,a⟩⟩
  ·obtain rfl:=cH ‹_›;refine ci ad (RdT.length (hR 0 (by simp))) (fun j v hj=>by rw [a.cellS a7]; exact aF rfl j v hj) ?_;exact ⟨J.set 3 rfl,⟨V,U,f,t,B,G,a⟩⟩
  ·exact ⟨J.set 4 rfl,⟨V,U,f,t,B,G,a⟩⟩
  ·obtain rfl:=cL ‹_›;refine az (i:=1) ah (by simp) ?_;exact ⟨J.set 5 rfl,⟨V,U,f,t,B,G,a⟩⟩
  ·obtain rfl:=cN ‹_›;refine ci ad (RdT.length (hR 1 (by simp))) (fun j v hj=>by rw [a.cellS a7]; exact aF rfl j v hj) ?_;exact ⟨J.set 6 rfl,⟨V,U,f,t,B,G,a⟩⟩
  ·obtain rfl:=cI ‹_›;obtain rfl:=cD ‹_›;obtain rfl:=cq ‹_›;refine Run.callE (A:=[_]) eq eo (V bH) (gJ hN hg b4 hu S _ _ sb mb ck es tv tr (hR 0 (by simp)) (hR 1 (by simp)) b8 b5) fun v' I' S' w_=>?_;rintro ⟨eS,rfl,O,Y,Z,M,rfl,a3,a1,a4⟩ _ a;rw [eS] at a;have V:=fun (h:ao D 7 7=false)=>(Bool.noConfusion h:Inv w X ([.blk b3 (.cells #[.int .i64 k,.int .i64 n,.string s,.slice (some ⟨b,o,none⟩) [x,y].length cap] ab)]++aB sb mb es ck tv tr) S w_)
   have U:=fun (_:ao D 7 7=true)=>(⟨O,Y,Z,M,a3,a1,a4,a⟩:∃ O Y Z M,KnownM S O a0/\M.length+unb a0<=1000000/\Tr st a0 tr M/\Inv w X ([.blk b3 (.cells #[.int .i64 k,.int .i64 n,.string s,.slice (some ⟨b,o,none⟩) [x,y].length cap] ab)]++aB sb mb O Y Z M) S w_)
   obtain ⟨f,t,B,G,a⟩:∃ f t B G,Inv w X ([.blk b3 (.cells #[.int .i64 k,.int .i64 n,.string s,.slice (some ⟨b,o,none⟩) [x,y].length cap] ab)]++aB sb mb f t B G) S w_:=⟨O,Y,Z,M,a⟩
   exact ⟨J.set 7 rfl,⟨V,U,f,t,B,G,a⟩⟩
  ·obtain rfl:=dg ‹_›;obtain ⟨O,Y,Z,M,a3,a1,a4,a⟩:=U ‹D 7=true›;refine Run.callPure fn_i_holds nm_i_holds a (dO r S) fun w_ a=>?_;have V:=fun (h:ao D 8 7=false)=>(Bool.noConfusion (h.symm.trans (show ao D 8 7=true from ‹D 7=true›)):Inv w X ([.blk b3 (.cells #[.int .i64 k,.int .i64 n,.string s,.slice (some ⟨b,o,none⟩) [x,y].length cap] ab)]++aB sb mb es ck tv tr) S w_)
   have U:=fun (_:ao D 8 7=true)=>(⟨O,Y,Z,M,a3,a1,a4,a⟩:∃ O Y Z M,KnownM S O a0/\M.length+unb a0<=1000000/\Tr st a0 tr M/\Inv w X ([.blk b3 (.cells #[.int .i64 k,.int .i64 n,.string s,.slice (some ⟨b,o,none⟩) [x,y].length cap] ab)]++aB sb mb O Y Z M) S w_)
   obtain ⟨f,t,B,G,a⟩:∃ f t B G,Inv w X ([.blk b3 (.cells #[.int .i64 k,.int .i64 n,.string s,.slice (some ⟨b,o,none⟩) [x,y].length cap] ab)]++aB sb mb f t B G) S w_:=⟨O,Y,Z,M,a⟩
   exact ⟨J.set 8 rfl,⟨V,U,f,t,B,G,a⟩⟩
  ·obtain rfl:=dG ‹_›;exact ⟨J.set 9 rfl,⟨V,U,f,t,B,G,a⟩⟩
  obtain ⟨rfl,rfl,rfl,rfl,rfl,rfl,rfl,rfl,rfl,rfl,_⟩:=J.all;have vm:D 7=true:=by assumption
  clear J cI cJ cH cD cL cN cq dg dG dL;obtain ⟨O,Y,Z,M,a3,a1,a4,a⟩:=U vm;exact ⟨_,_,S,rfl,a.sub (dH [_] _),Ext.refl _ _ _,rfl,rfl,O,Y,Z,M,rfl,a3,a1,a4⟩
 refine bQ ?_;refine aL (fun h=>?_) (fun h3=>?_)
 ·obtain ⟨x,y,rfl⟩:=BK (l:=ks) (by have:=iv (by rw [h]; decide +kernel) b0; omega);have hj:gA (.mk k n s [x,y])=.not x y:=by
   rw [gA,ag (show ¬ (T.mk k n s [x,y]).name=jH from h0),ag (show ¬ (T.mk k n s [x,y]).name=lN from h1),ag (show ¬ (T.mk k n s [x,y]).name=nEq from h2),ai (show (T.mk k n s [x,y]).name=nNe from h)];rfl
  rw [hj] at hB b1;obtain ⟨b,o,cap,c,E,fz,rfl,a7,hR⟩:=a8.ptr (by simp);obtain ⟨rfl,r,b6,hu,rfl⟩:=hB;have b4:okJ N (.one x y):=b1;refine aE ?_;refine af a 1 rfl fX jy rfl ?_;obtain ⟨ta,tn,tc,c5⟩:=a.rowSlice 3 rfl;have g7:tn=tr.length:=by
   have hm:w'.ownsRow 0 cO 1 tv tr.length (ints tr):=a.its (dk tv tr) (by simp [aB]);rcases hm.2 with ⟨e1,e2⟩|⟨g1,c1,u1,e1,_⟩
   ·rw [c5] at e1; simp only [Value.slice.injEq] at e1; omega
   ·rw [c5] at e1; simp only [Value.slice.injEq] at e1; omega
  obtain rfl:=g7;rw [c5];refine iA cA ?_;refine ⟨fun D x7 sx F0 Aa Ea Ah FB tU xC w_=>Fx D 0 [xC=.pointer (some ⟨sb,0,none⟩),tU=.slice (some ⟨b,o,none⟩) [x,y].length cap,FB=.pointer (some ⟨b,o+0 * 4,none⟩),Ah=.agg (aX c (o+0 * 4) 4).toArray,Ea=.slice (some ⟨b,o,none⟩) [x,y].length cap,Aa=.pointer (some ⟨b,o+1 * 4,none⟩),F0=.agg (aX c (o+1 * 4) 4).toArray,sx=.bool r,x7=.bool r]/\(D 7=false->Inv w X ([.blk b3 (.cells #[.int .i64 k,.int .i64 n,.string s,.slice (some ⟨b,o,none⟩) [x,y].length cap] ab)]++aB sb mb es ck tv tr) S w_)/\(D 7=true->∃ O Y Z M,KnownM S O b6/\M.length+unb b6<=1000000/\Tr a0 b6 tr M/\Inv w X ([.blk b3 (.cells #[.int .i64 k,.int .i64 n,.string s,.slice (some ⟨b,o,none⟩) [x,y].length cap] ab)]++aB sb mb O Y Z M) S w_)/\∃ f t B G,Inv w X ([.blk b3 (.cells #[.int .i64 k,.int .i64 n,.string s,.slice (some ⟨b,o,none⟩) [x,y].length cap] ab)]++aB sb mb f t B G) S w_,⟨Fx.nil _ _,⟨fun _=>a.draw,aI,es,ck,tv,tr,a.draw⟩⟩,⟨?_,?_,?_,?_,?_,?_,?_,?_,?_,trivial⟩,?_⟩;all_goals (intro D bH; intros; rename_i x7 sx F0 Aa Ea Ah FB tU xC w_ a6; have J:=a6.1; obtain ⟨⟨cI,cJ,cH,cD,cL,cN,cq,dg,dG,_⟩,⟨V,U,f,t,B,G,a⟩⟩:=a6)
  ·exact ⟨J.set 0 rfl,⟨V,U,f,t,B,G,a⟩⟩
  ·exact ⟨J.set 1 rfl,⟨V,U,f,t,B,G,a⟩⟩
  ·obtain rfl:=cJ ‹_›;refine az (i:=0) ah (by simp) ?_;exact ⟨J.set 2 rfl,⟨V,U,f,t,B,G,a⟩⟩
  ·obtain rfl:=cH ‹_›;refine ci ad (RdT.length (hR 0 (by simp))) (fun j v hj=>by rw [a.cellS a7]; exact aF rfl j v hj) ?_;exact ⟨J.set 3 rfl,⟨V,U,f,t,B,G,a⟩⟩
  ·exact ⟨J.set 4 rfl,⟨V,U,f,t,B,G,a⟩⟩
  ·obtain rfl:=cL ‹_›;refine az (i:=1) ah (by simp) ?_;exact ⟨J.set 5 rfl,⟨V,U,f,t,B,G,a⟩⟩
  ·obtain rfl:=cN ‹_›;refine ci ad (RdT.length (hR 1 (by simp))) (fun j v hj=>by rw [a.cellS a7]; exact aF rfl j v hj) ?_;exact ⟨J.set 6 rfl,⟨V,U,f,t,B,G,a⟩⟩
  ·obtain rfl:=cI ‹_›;obtain rfl:=cD ‹_›;obtain rfl:=cq ‹_›;refine Run.callE (A:=[_]) eq eo (V bH) (gJ hN hg b4 hu S _ _ sb mb ck es tv tr (hR 0 (by simp)) (hR 1 (by simp)) b8 b5) fun v' I' S' w_=>?_;rintro ⟨eS,rfl,O,Y,Z,M,rfl,a3,a1,a4⟩ _ a;rw [eS] at a;have V:=fun (h:ao D 7 7=false)=>(Bool.noConfusion h:Inv w X ([.blk b3 (.cells #[.int .i64 k,.int .i64 n,.string s,.slice (some ⟨b,o,none⟩) [x,y].length cap] ab)]++aB sb mb es ck tv tr) S w_)
   have U:=fun (_:ao D 7 7=true)=>(⟨O,Y,Z,M,a3,a1,a4,a⟩:∃ O Y Z M,KnownM S O b6/\M.length+unb b6<=1000000/\Tr a0 b6 tr M/\Inv w X ([.blk b3 (.cells #[.int .i64 k,.int .i64 n,.string s,.slice (some ⟨b,o,none⟩) [x,y].length cap] ab)]++aB sb mb O Y Z M) S w_)
   obtain ⟨f,t,B,G,a⟩:∃ f t B G,Inv w X ([.blk b3 (.cells #[.int .i64 k,.int .i64 n,.string s,.slice (some ⟨b,o,none⟩) [x,y].length cap] ab)]++aB sb mb f t B G) S w_:=⟨O,Y,Z,M,a⟩
   exact ⟨J.set 7 rfl,⟨V,U,f,t,B,G,a⟩⟩
  ·obtain rfl:=dg ‹_›;exact ⟨J.set 8 rfl,⟨V,U,f,t,B,G,a⟩⟩
  obtain ⟨rfl,rfl,rfl,rfl,rfl,rfl,rfl,rfl,rfl,_⟩:=J.all;have vm:D 7=true:=by assumption
  clear J cI cJ cH cD cL cN cq dg dG;obtain ⟨O,Y,Z,M,a3,a1,⟨ns,rfl,f9,g0,_⟩,a⟩:=U vm;have f3:(tr++ns).drop tr.length=ns:=by rw [RP]
  have g8:(tr++ns).take tr.length=tr:=by rw [FZ]
  refine Run.callE (A:=[_]) lA lo a (xh (mark:=tr.length) a3 (by simp) (by rw [f3]; intro n hn; obtain ⟨j,rfl,_⟩:=g0 n hn; omega) (by omega)) fun v' I' S' w'=>?_;rintro ⟨eS,rfl,f7,f8,rfl,c8⟩ _ a;rw [eS] at a;rw [f3,f9] at c8;rw [g8] at a;refine cw ?_;refine Run.callPure fn_i_holds nm_i_holds a (dO (!r) S) fun w' a=>?_;exact ⟨_,_,S,rfl,a.sub (dH [_] _),Ext.refl _ _ _,rfl,rfl,f7,Y,f8,tr,rfl,c8,b5,Tr.refl _ _⟩
 refine bQ ?_;refine aL (fun h=>?_) (fun h4=>?_)
 ·obtain ⟨x,y,rfl⟩:=BK (l:=ks) (by have:=iv (by rw [h]; decide +kernel) b0; omega);have hj:gA (.mk k n s [x,y])=.done (gO (eqT x y)):=by
   rw [gA,ag (show ¬ (T.mk k n s [x,y]).name=jH from h0),ag (show ¬ (T.mk k n s [x,y]).name=lN from h1),ag (show ¬ (T.mk k n s [x,y]).name=nEq from h2),ag (show ¬ (T.mk k n s [x,y]).name=nNe from h3),ai (show (T.mk k n s [x,y]).name=sM from h)];rfl
  rw [hj] at hB b1;obtain ⟨b,o,cap,c,E,fz,rfl,a7,hR⟩:=a8.ptr (by simp);refine ⟨fun D x4 IK EQ Gi Eh Fa EG E3 GO w_=>Fx D 0 [GO=.slice (some ⟨b,o,none⟩) [x,y].length cap,E3=.pointer (some ⟨b,o+0 * 4,none⟩),EG=.agg (aX c (o+0 * 4) 4).toArray,Fa=.slice (some ⟨b,o,none⟩) [x,y].length cap,Eh=.pointer (some ⟨b,o+1 * 4,none⟩),Gi=.agg (aX c (o+1 * 4) 4).toArray,EQ=.bool (eqT x y),IK=.int .i64 (gO (eqT x y)),x4=.int .i64 (gO (eqT x y))]/\Inv w X ([.blk b3 (.cells #[.int .i64 k,.int .i64 n,.string s,.slice (some ⟨b,o,none⟩) [x,y].length cap] ab)]++aB sb mb es ck tv tr) S w_,⟨Fx.nil _ _,a.draw⟩,⟨?_,?_,?_,?_,?_,?_,?_,?_,?_,trivial⟩,?_⟩;all_goals (intro D bH; intros; rename_i x4 IK EQ Gi Eh Fa EG E3 GO w_ a6; have J:=a6.1; obtain ⟨⟨cI,cJ,cH,cD,cL,cN,cq,dg,dG,_⟩,a⟩:=a6)
  ·exact ⟨J.set 0 rfl,a⟩
  ·obtain rfl:=cI ‹_›;refine az (i:=0) ah (by simp) ?_;exact ⟨J.set 1 rfl,a⟩
  ·obtain rfl:=cJ ‹_›;refine ci ad (RdT.length (hR 0 (by simp))) (fun j v hj=>by rw [a.cellS a7]; exact aF rfl j v hj) ?_;exact ⟨J.set 2 rfl,a⟩
  ·exact ⟨J.set 3 rfl,a⟩
  ·obtain rfl:=cD ‹_›;refine az (i:=1) ah (by simp) ?_;exact ⟨J.set 4 rfl,a⟩
  ·obtain rfl:=cL ‹_›;refine ci ad (RdT.length (hR 1 (by simp))) (fun j v hj=>by rw [a.cellS a7]; exact aF rfl j v hj) ?_;exact ⟨J.set 5 rfl,a⟩
  ·obtain rfl:=cH ‹_›;obtain rfl:=cN ‹_›;refine Run.callPure oA oy a (ij x y S _ _ (hR 0 (by simp)) (hR 1 (by simp))) fun w_ a=>?_;exact ⟨J.set 6 rfl,a⟩
  ·obtain rfl:=cq ‹_›;refine Run.callPure fn_i_holds nm_i_holds a (dO _ S) fun w_ a=>?_;exact ⟨J.set 7 rfl,a⟩
  ·obtain rfl:=dg ‹_›;exact ⟨J.set 8 rfl,a⟩
  obtain ⟨rfl,rfl,rfl,rfl,rfl,rfl,rfl,rfl,rfl,_⟩:=J.all;clear J cI cJ cH cD cL cN cq dg dG;exact fin _ rfl hB a (a5 _)
 refine bQ ?_;refine aL (fun h=>?_) (fun h5=>?_)
 ·obtain ⟨x,y,rfl⟩:=BK (l:=ks) (by have:=iv (by rw [h]; decide +kernel) b0; omega);have hj:gA (.mk k n s [x,y])=if (du y).2≠0 then .done (du y).2 else .uni x (LP (du y).1):=by
   rw [gA,ag (show ¬ (T.mk k n s [x,y]).name=jH from h0),ag (show ¬ (T.mk k n s [x,y]).name=lN from h1),ag (show ¬ (T.mk k n s [x,y]).name=nEq from h2),ag (show ¬ (T.mk k n s [x,y]).name=nNe from h3),ag (show ¬ (T.mk k n s [x,y]).name=sM from h4),ai (show (T.mk k n s [x,y]).name=nIs from h)];rfl
  rw [hj] at hB b1;obtain ⟨b,o,cap,c,E,fz,rfl,a7,hR⟩:=a8.ptr (by simp);have ny:=kY hn.2 y (by simp);refine co (i:=1) a a8 ah ad (by simp) (fun _ _=>RdT.length) fun ds c4=>?_;refine Run.callPure mD mI a (oz y S ds c4 ny) fun w' a=>?_;refine av (v:=.int .i64 _) rfl ?_;refine av (v:=.int .i64 _) rfl ?_;refine fW ?_;refine aD (fun h6=>?_) (fun h6=>?_)
  ·simp at h6;exact fin _ (ai h6) hB a (a5 _)
  simp at h6;rw [ag (by simp [h6])] at hB b1;obtain ⟨r,hu,rfl⟩:=hB;have b4:okJ N (.one x (LP (du y).1)):=b1;have g9:=yn y ny;unfold Sm at g9;refine ⟨fun D x4 Vt Uu RZ RG T0 VB UU TO w_=>Fx D 0 [TO=.pointer (some ⟨sb,0,none⟩),UU=.slice (some ⟨b,o,none⟩) [x,y].length cap,VB=.pointer (some ⟨b,o+0 * 4,none⟩),T0=.agg (aX c (o+0 * 4) 4).toArray,RG=.int .i64 (du y).1,RZ=.agg #[.int .i64 2,.int .i64 (du y).1,.string ⟨#[]⟩,.slice none 0 0],Uu=.bool r,Vt=.int .i64 (gO r),x4=.int .i64 (gO r)]/\(D 6=false->Inv w X ([.blk b3 (.cells #[.int .i64 k,.int .i64 n,.string s,.slice (some ⟨b,o,none⟩) [x,y].length cap] ab)]++aB sb mb es ck tv tr) S w_)/\(D 6=true->∃ O Y Z M,KnownM S O a0/\M.length+unb a0<=1000000/\Tr st a0 tr M/\Inv w X ([.blk b3 (.cells #[.int .i64 k,.int .i64 n,.string s,.slice (some ⟨b,o,none⟩) [x,y].length cap] ab)]++aB sb mb O Y Z M) S w_)/\∃ f t B G,Inv w X ([.blk b3 (.cells #[.int .i64 k,.int .i64 n,.string s,.slice (some ⟨b,o,none⟩) [x,y].length cap] ab)]++aB sb mb f t B G) S w_,⟨Fx.nil _ _,⟨fun _=>a.draw,aI,es,ck,tv,tr,a.draw⟩⟩,⟨?_,?_,?_,?_,?_,?_,?_,?_,?_,trivial⟩,?_⟩;all_goals (intro D bH; intros; rename_i x4 Vt Uu RZ RG T0 VB UU TO w_ a6; have J:=a6.1; obtain ⟨⟨cI,cJ,cH,cD,cL,cN,cq,dg,dG,_⟩,⟨V,U,f,t,B,G,a⟩⟩:=a6)
  ·exact ⟨J.set 0 rfl,⟨V,U,f,t,B,G,a⟩⟩
  ·exact ⟨J.set 1 rfl,⟨V,U,f,t,B,G,a⟩⟩
  ·obtain rfl:=cJ ‹_›;refine az (i:=0) ah (by simp) ?_;exact ⟨J.set 2 rfl,⟨V,U,f,t,B,G,a⟩⟩
  ·obtain rfl:=cH ‹_›;refine ci ad (RdT.length (hR 0 (by simp))) (fun j v hj=>by rw [a.cellS a7]; exact aF rfl j v hj) ?_;exact ⟨J.set 3 rfl,⟨V,U,f,t,B,G,a⟩⟩
  ·exact ⟨J.set 4 rfl,⟨V,U,f,t,B,G,a⟩⟩
  ·obtain rfl:=cL ‹_›;have f6:D 6=D 6:=rfl;cases c3:D 6
   ·refine Run.callPure Cc Ci (V c3) (uh _ S) fun w_ a=>?_;have V:=fun (_:ao D 5 6=false)=>a;have U:=fun (h:ao D 5 6=true)=>(Bool.noConfusion (c3.symm.trans h):∃ O Y Z M,KnownM S O a0/\M.length+unb a0<=1000000/\Tr st a0 tr M/\Inv w X ([.blk b3 (.cells #[.int .i64 k,.int .i64 n,.string s,.slice (some ⟨b,o,none⟩) [x,y].length cap] ab)]++aB sb mb O Y Z M) S w_)
    obtain ⟨f,t,B,G,a⟩:∃ f t B G,Inv w X ([.blk b3 (.cells #[.int .i64 k,.int .i64 n,.string s,.slice (some ⟨b,o,none⟩) [x,y].length cap] ab)]++aB sb mb f t B G) S w_:=⟨es,ck,tv,tr,a⟩
    exact ⟨J.set 5 rfl,⟨V,U,f,t,B,G,a⟩⟩
   obtain ⟨O,Y,Z,M,a3,a1,a4,a⟩:=U c3;refine Run.callPure Cc Ci a (uh _ S) fun w_ a=>?_;have V:=fun (h:ao D 5 6=false)=>(Bool.noConfusion (h.symm.trans c3):Inv w X ([.blk b3 (.cells #[.int .i64 k,.int .i64 n,.string s,.slice (some ⟨b,o,none⟩) [x,y].length cap] ab)]++aB sb mb es ck tv tr) S w_)
   have U:=fun (_:ao D 5 6=true)=>(⟨O,Y,Z,M,a3,a1,a4,a⟩:∃ O Y Z M,KnownM S O a0/\M.length+unb a0<=1000000/\Tr st a0 tr M/\Inv w X ([.blk b3 (.cells #[.int .i64 k,.int .i64 n,.string s,.slice (some ⟨b,o,none⟩) [x,y].length cap] ab)]++aB sb mb O Y Z M) S w_)
   obtain ⟨f,t,B,G,a⟩:∃ f t B G,Inv w X ([.blk b3 (.cells #[.int .i64 k,.int .i64 n,.string s,.slice (some ⟨b,o,none⟩) [x,y].length cap] ab)]++aB sb mb f t B G) S w_:=⟨O,Y,Z,M,a⟩
   exact ⟨J.set 5 rfl,⟨V,U,f,t,B,G,a⟩⟩
  ·obtain rfl:=cI ‹_›;obtain rfl:=cD ‹_›;obtain rfl:=cN ‹_›;refine Run.callE (A:=[_]) eq eo (V bH) (gJ hN hg b4 hu S _ _ sb mb ck es tv tr (hR 0 (by simp)) (pu (by simp [inI]) (by simp only [inI]; omega)) b8 b5) fun v' I' S' w_=>?_;rintro ⟨eS,rfl,O,Y,Z,M,rfl,a3,a1,a4⟩ _ a;rw [eS] at a;have V:=fun (h:ao D 6 6=false)=>(Bool.noConfusion h:Inv w X ([.blk b3 (.cells #[.int .i64 k,.int .i64 n,.string s,.slice (some ⟨b,o,none⟩) [x,y].length cap] ab)]++aB sb mb es ck tv tr) S w_)
   have U:=fun (_:ao D 6 6=true)=>(⟨O,Y,Z,M,a3,a1,a4,a⟩:∃ O Y Z M,KnownM S O a0/\M.length+unb a0<=1000000/\Tr st a0 tr M/\Inv w X ([.blk b3 (.cells #[.int .i64 k,.int .i64 n,.string s,.slice (some ⟨b,o,none⟩) [x,y].length cap] ab)]++aB sb mb O Y Z M) S w_)
   obtain ⟨f,t,B,G,a⟩:∃ f t B G,Inv w X ([.blk b3 (.cells #[.int .i64 k,.int .i64 n,.string s,.slice (some ⟨b,o,none⟩) [x,y].length cap] ab)]++aB sb mb f t B G) S w_:=⟨O,Y,Z,M,a⟩
   exact ⟨J.set 6 rfl,⟨V,U,f,t,B,G,a⟩⟩
  ·obtain rfl:=cq ‹_›;obtain ⟨O,Y,Z,M,a3,a1,a4,a⟩:=U ‹D 6=true›;refine Run.callPure fn_i_holds nm_i_holds a (dO r S) fun w_ a=>?_;have V:=fun (h:ao D 7 6=false)=>(Bool.noConfusion (h.symm.trans (show ao D 7 6=true from ‹D 6=true›)):Inv w X ([.blk b3 (.cells #[.int .i64 k,.int .i64 n,.string s,.slice (some ⟨b,o,none⟩) [x,y].length cap] ab)]++aB sb mb es ck tv tr) S w_)
   have U:=fun (_:ao D 7 6=true)=>(⟨O,Y,Z,M,a3,a1,a4,a⟩:∃ O Y Z M,KnownM S O a0/\M.length+unb a0<=1000000/\Tr st a0 tr M/\Inv w X ([.blk b3 (.cells #[.int .i64 k,.int .i64 n,.string s,.slice (some ⟨b,o,none⟩) [x,y].length cap] ab)]++aB sb mb O Y Z M) S w_)
   obtain ⟨f,t,B,G,a⟩:∃ f t B G,Inv w X ([.blk b3 (.cells #[.int .i64 k,.int .i64 n,.string s,.slice (some ⟨b,o,none⟩) [x,y].length cap] ab)]++aB sb mb f t B G) S w_:=⟨O,Y,Z,M,a⟩
   exact ⟨J.set 7 rfl,⟨V,U,f,t,B,G,a⟩⟩
  ·obtain rfl:=dg ‹_›;exact ⟨J.set 8 rfl,⟨V,U,f,t,B,G,a⟩⟩
  obtain ⟨rfl,rfl,rfl,rfl,rfl,rfl,rfl,rfl,rfl,_⟩:=J.all;have OQ:D 6=true:=by assumption
  clear J cI cJ cH cD cL cN cq dg dG;obtain ⟨O,Y,Z,M,a3,a1,a4,a⟩:=U OQ;exact ⟨_,_,S,rfl,a.sub (dH [_] _),Ext.refl _ _ _,rfl,rfl,O,Y,Z,M,rfl,a3,a1,a4⟩
 refine bQ ?_;refine aL (fun h=>?_) (fun g1=>?_)
 ·obtain ⟨x,rfl⟩:=Kf (l:=ks) (by
    rcases uF b0 h0 h1 h2 h3 h4 h5 b2 with ⟨_,h⟩|⟨h',_⟩
    ·omega
    ·rw [h] at h'; exact absurd h' (by decide +kernel))
  have hj:gA (.mk k n s [x])=.done (gO (vQ s x)):=by
   rw [gA,ag (show ¬ (T.mk k n s [x]).name=jH from h0),ag (show ¬ (T.mk k n s [x]).name=lN from h1),ag (show ¬ (T.mk k n s [x]).name=nEq from h2),ag (show ¬ (T.mk k n s [x]).name=nNe from h3),ag (show ¬ (T.mk k n s [x]).name=sM from h4),ag (show ¬ (T.mk k n s [x]).name=nIs from h5),ag (show ¬ (T.mk k n s [x]).name=GF from by rw [show (T.mk k n s [x]).name=s from rfl,h]; decide +kernel),show (T.mk k n s [x]).name=s from rfl,b2,ag (by decide)];rfl
  rw [hj] at hB;have ht:vQ s x=decide (x.kind=1):=by rw [h]; rfl
  refine qO a a8 ah aW aG (i:=0) (by simp) (fun cs a9=>RdT.f0 a9) ?_;refine bw ?_;exact Run.callPure fn_i_holds nm_i_holds a (dO _ S) fun w' a=>fin _ (by rw [ht]; rfl) hB a (a5 _)
 refine bQ ?_;refine aL (fun h=>?_) (fun g2=>?_)
 ·obtain ⟨x,rfl⟩:=Kf (l:=ks) (by
    rcases uF b0 h0 h1 h2 h3 h4 h5 b2 with ⟨_,h⟩|⟨h',_⟩
    ·omega
    ·rw [h] at h'; exact absurd h' (by decide +kernel))
  have hj:gA (.mk k n s [x])=.done (gO (vQ s x)):=by
   rw [gA,ag (show ¬ (T.mk k n s [x]).name=jH from h0),ag (show ¬ (T.mk k n s [x]).name=lN from h1),ag (show ¬ (T.mk k n s [x]).name=nEq from h2),ag (show ¬ (T.mk k n s [x]).name=nNe from h3),ag (show ¬ (T.mk k n s [x]).name=sM from h4),ag (show ¬ (T.mk k n s [x]).name=nIs from h5),ag (show ¬ (T.mk k n s [x]).name=GF from by rw [show (T.mk k n s [x]).name=s from rfl,h]; decide +kernel),show (T.mk k n s [x]).name=s from rfl,b2,ag (by decide)];rfl
  rw [hj] at hB;have ht:vQ s x=!decide (x.kind=1):=by rw [h]; rfl
  refine qO a a8 ah aW aG (i:=0) (by simp) (fun cs a9=>RdT.f0 a9) ?_;refine fW ?_;exact Run.callPure fn_i_holds nm_i_holds a (dO _ S) fun w' a=>fin _ (by rw [ht]; rfl) hB a (a5 _)
 refine bQ ?_;refine aL (fun h=>?_) (fun g3=>?_)
 ·obtain ⟨x,rfl⟩:=Kf (l:=ks) (by
    rcases uF b0 h0 h1 h2 h3 h4 h5 b2 with ⟨_,h⟩|⟨h',_⟩
    ·omega
    ·rw [h] at h'; exact absurd h' (by decide +kernel))
  have hj:gA (.mk k n s [x])=.done (gO (vQ s x)):=by
   rw [gA,ag (show ¬ (T.mk k n s [x]).name=jH from h0),ag (show ¬ (T.mk k n s [x]).name=lN from h1),ag (show ¬ (T.mk k n s [x]).name=nEq from h2),ag (show ¬ (T.mk k n s [x]).name=nNe from h3),ag (show ¬ (T.mk k n s [x]).name=sM from h4),ag (show ¬ (T.mk k n s [x]).name=nIs from h5),ag (show ¬ (T.mk k n s [x]).name=GF from by rw [show (T.mk k n s [x]).name=s from rfl,h]; decide +kernel),show (T.mk k n s [x]).name=s from rfl,b2,ag (by decide)];rfl
  rw [hj] at hB;have ht:vQ s x=(decide (x.kind=3) && decide (x.kids.length=0)):=by rw [h]; rfl
  refine co (i:=0) a a8 ah ad (by simp) (fun _ _=>RdT.length) fun ds c4=>?_;refine Run.callPure Cn Dd a (zA c4) fun w' a=>?_;exact Run.callPure fn_i_holds nm_i_holds a (dO _ S) fun w' a=>fin _ (by rw [ht]; rfl) hB a (a5 _)
 refine bQ ?_;refine aL (fun h=>?_) (fun g4=>?_)
 ·obtain ⟨x,rfl⟩:=Kf (l:=ks) (by
    rcases uF b0 h0 h1 h2 h3 h4 h5 b2 with ⟨_,h⟩|⟨h',_⟩
    ·omega
    ·rw [h] at h'; exact absurd h' (by decide +kernel))
  have hj:gA (.mk k n s [x])=.done (gO (vQ s x)):=by
   rw [gA,ag (show ¬ (T.mk k n s [x]).name=jH from h0),ag (show ¬ (T.mk k n s [x]).name=lN from h1),ag (show ¬ (T.mk k n s [x]).name=nEq from h2),ag (show ¬ (T.mk k n s [x]).name=nNe from h3),ag (show ¬ (T.mk k n s [x]).name=sM from h4),ag (show ¬ (T.mk k n s [x]).name=nIs from h5),ag (show ¬ (T.mk k n s [x]).name=GF from by rw [show (T.mk k n s [x]).name=s from rfl,h]; decide +kernel),show (T.mk k n s [x]).name=s from rfl,b2,ag (by decide)];rfl
  rw [hj] at hB;have ht:vQ s x=decide (x.kind=2):=by rw [h]; rfl
  refine qO a a8 ah aW aG (i:=0) (by simp) (fun cs a9=>RdT.f0 a9) ?_;refine bw ?_;exact Run.callPure fn_i_holds nm_i_holds a (dO _ S) fun w' a=>fin _ (by rw [ht]; rfl) hB a (a5 _)
 have f4:s=GF/\ks.length=3:=by
  rcases uF b0 h0 h1 h2 h3 h4 h5 b2 with ⟨ht,_⟩|⟨h,hl⟩
  ·rw [di,Gd] at ht;obtain ⟨x,hx,hd⟩:=ht;have hd:=of_decide_eq_true hd;simp only [wz,bY,i6,i9] at hx;rcases hx with rfl|rfl|rfl|rfl
   ·exact absurd hd g1
   ·exact absurd hd g2
   ·exact absurd hd g3
   ·exact absurd hd g4
  ·exact ⟨h,by omega⟩
 obtain ⟨h,hl⟩:=f4;obtain ⟨x,y,z,rfl⟩:=V9 hl;have hj:gA (.mk k n s [x,y,z])=Ig x y z:=by
  rw [gA,ag (show ¬ (T.mk k n s [x,y,z]).name=jH from h0),ag (show ¬ (T.mk k n s [x,y,z]).name=lN from h1),ag (show ¬ (T.mk k n s [x,y,z]).name=nEq from h2),ag (show ¬ (T.mk k n s [x,y,z]).name=nNe from h3),ag (show ¬ (T.mk k n s [x,y,z]).name=sM from h4),ag (show ¬ (T.mk k n s [x,y,z]).name=nIs from h5),ai (show (T.mk k n s [x,y,z]).name=GF from h)];rfl
 rw [hj] at hB b1;obtain ⟨b,o,cap,c,E,fz,rfl,a7,hR⟩:=a8.ptr (by simp);have hx:=hR 0 (by simp);have hy:=hR 1 (by simp);have hz:=hR 2 (by simp);obtain ⟨kx,c0,_,e9,_,_⟩:=RdT.iff.1 hx;obtain ⟨ky,b9,_,_,_,b7⟩:=RdT.iff.1 hy;have hx:RdT S (aX c (o+0 * 4) 4) x:=hx;have hy:RdT S (aX c (o+1 * 4) 4) y:=hy;have c0:aX c (o+0 * 4) 4=[.int .i64 x.kind,.int .i64 x.n,.string x.name,kx]:=c0;have b9:aX c (o+1 * 4) 4=[.int .i64 y.kind,.int .i64 y.n,.string y.name,ky]:=b9;have b7:RdSl S 4 (RdT S) ky y.kids:=b7;have e9:inI x.n:=e9;have f5:=b7.le;simp only [maxLen] at f5;refine ⟨fun q w'=>q=.bool (decide (x.kind=1 ∨ y.kind=1))/\Inv w X ([.blk b3 (.cells #[.int .i64 k,.int .i64 n,.string s,.slice (some ⟨b,o,none⟩) [x,y,z].length cap] ab)]++aB sb mb es ck tv tr) S w',?_,?_⟩
 ·refine qO a a8 ah aW aG (i:=0) (by simp) (fun cs a9=>RdT.f0 a9) ?_;refine bw ?_;have e0:([x,y,z]:List T)[0]=x:=rfl;rw [e0];cases k1:decide (x.kind=1)
  ·refine rpG ?_;refine qO a a8 ah aW aG (i:=1) (by simp) (fun cs a9=>RdT.f0 a9) ?_;refine bw ?_;refine rpG ?_;have:=of_decide_eq_false k1;refine ⟨?_,a⟩;rw [Value.bool.injEq,gB];exact ⟨.inr,fun h=>h.resolve_left this⟩
  ·refine rpG ?_;exact ⟨by rw [aN (.inl (of_decide_eq_true k1))],a⟩
 intro q _ _ _ _ _ _ _ _ _ _ _ _ w';rintro ⟨rfl,a⟩;refine aL (fun k1=>fin 2 (by rw [Ig,ai k1]) hB a (a5 _)) (fun k1=>?_);have el:decide ((y.kids.length:Int)=0)=decide (y.kids.length=0):=by rw [gB]; omega
 refine ⟨fun q w'=>q=.bool (decide (x.kind≠2 ∨ y.kind≠3 ∨ y.kids.length=0))/\Inv w X ([.blk b3 (.cells #[.int .i64 k,.int .i64 n,.string s,.slice (some ⟨b,o,none⟩) [x,y,z].length cap] ab)]++aB sb mb es ck tv tr) S w',?_,?_⟩
 ·refine qO a a8 ah aW aG (i:=0) (by simp) (fun cs a9=>RdT.f0 a9) ?_;refine fW ?_;have e0:([x,y,z]:List T)[0]=x:=rfl;rw [e0];cases q2:decide (x.kind=2)
  ·refine rpG ?_;exact ⟨by rw [aN (.inl (of_decide_eq_false q2))],a⟩
  have q2:=of_decide_eq_true q2;refine rpG ?_;refine qO a a8 ah aW aG (i:=1) (by simp) (fun cs a9=>RdT.f0 a9) ?_;refine fW ?_;have e1:([x,y,z]:List T)[1]=y:=rfl;rw [e1];cases q3:decide (y.kind=3)
  ·refine rpG ?_;exact ⟨by rw [aN (.inr (.inl (of_decide_eq_false q3)))],a⟩
  have q3:=of_decide_eq_true q3;refine rpG ?_;refine az (i:=1) ah (by simp) ?_;refine aw ar ?_;refine cQ al (by rw [a.cellS a7]; exact aF b9 3 _ rfl) ?_;refine aJ b7 ah ?_;refine bw ?_;rw [el];refine rpG ?_;refine ⟨?_,a⟩;rw [Value.bool.injEq,gB];simp [q2,q3]
 intro q _ _ _ _ _ _ _ _ _ _ _ _ _ _ _ _ _ _ _ _ w';rintro ⟨rfl,a⟩;refine aL (fun k2=>fin 3 (by rw [Ig,ag k1,ai k2]) hB a (a5 _)) (fun k2=>?_);have h7:(decide (1<=x.n) && decide (x.n<=(y.kids.length:Int)))=!decide (x.n<1 ∨ (y.kids.length:Int)<x.n):=by
  by_cases h8:x.n<1
  ·simp [h8]; omega
  ·by_cases h9:(y.kids.length:Int)<x.n
   ·simp [h9]
   ·simp [h8,h9]; omega
 refine ⟨fun D Wg Zm c9 ZU ZQ d0 d1 ZA ZH Zw Vy We w_=>Fx D 0 [We=.slice (some ⟨b,o,none⟩) [x,y,z].length cap,Vy=.pointer (some ⟨b,o+0 * 4,none⟩),Zw=.pointer (some ⟨b,o+0 * 4+1,none⟩),ZH=.int .i64 x.n,ZA=.slice (some ⟨b,o,none⟩) [x,y,z].length cap,d1=.pointer (some ⟨b,o+1 * 4,none⟩),d0=.pointer (some ⟨b,o+1 * 4+3,none⟩),ZQ=ky,ZU=.int .i64 y.kids.length,c9=.bool (!decide (x.n<1 ∨ (y.kids.length:Int)<x.n)),Zm=.bool (decide (x.n<1 ∨ (y.kids.length:Int)<x.n)),Wg=.bool (decide (x.n<1 ∨ (y.kids.length:Int)<x.n))]/\Inv w X ([.blk b3 (.cells #[.int .i64 k,.int .i64 n,.string s,.slice (some ⟨b,o,none⟩) [x,y,z].length cap] ab)]++aB sb mb es ck tv tr) S w_,⟨Fx.nil _ _,a.draw⟩,⟨?_,?_,?_,?_,?_,?_,?_,?_,?_,?_,?_,?_,trivial⟩,?_⟩;all_goals (intro D bH; intros; rename_i Wg Zm c9 ZU ZQ d0 d1 ZA ZH Zw Vy We w_ a6; have J:=a6.1; obtain ⟨⟨cI,cJ,cH,cD,cL,cN,cq,dg,dG,dL,cT,dn,_⟩,a⟩:=a6)
 ·exact ⟨J.set 0 rfl,a⟩
 ·obtain rfl:=cI ‹_›;refine az (i:=0) ah (by simp) ?_;exact ⟨J.set 1 rfl,a⟩
 ·obtain rfl:=cJ ‹_›;refine aw bi ?_;exact ⟨J.set 2 rfl,a⟩
 ·obtain rfl:=cH ‹_›;refine cQ aG (by rw [a.cellS a7]; exact aF c0 1 _ rfl) ?_;exact ⟨J.set 3 rfl,a⟩
 ·exact ⟨J.set 4 rfl,a⟩
 ·obtain rfl:=cL ‹_›;refine az (i:=1) ah (by simp) ?_;exact ⟨J.set 5 rfl,a⟩
 ·obtain rfl:=cN ‹_›;refine aw ar ?_;exact ⟨J.set 6 rfl,a⟩
 ·obtain rfl:=cq ‹_›;refine cQ al (by rw [a.cellS a7]; exact aF b9 3 _ rfl) ?_;exact ⟨J.set 7 rfl,a⟩
 ·obtain rfl:=dg ‹_›;refine aJ b7 ah ?_;exact ⟨J.set 8 rfl,a⟩
 ·obtain rfl:=cD ‹_›;obtain rfl:=dG ‹_›;refine Run.callPure fS fT a (fi _ _ _ S) fun w_ a=>?_;rw [h7];exact ⟨J.set 9 rfl,a⟩
 ·obtain rfl:=dL ‹_›;refine cw ?_;rw [Bool.not_not];exact ⟨J.set 10 rfl,a⟩
 ·obtain rfl:=cT ‹_›;exact ⟨J.set 11 rfl,a⟩
 obtain ⟨rfl,rfl,rfl,rfl,rfl,rfl,rfl,rfl,rfl,rfl,rfl,rfl,_⟩:=J.all;clear J cI cJ cH cD cL cN cq dg dG dL cT dn;refine aL (fun k3=>fin 1 (by rw [Ig,ag k1,ag k2,ai k3]) hB a (a5 _)) (fun k3=>?_);obtain ⟨m,hm⟩:∃ m:Nat,x.n=(m:Int)+1:=⟨(x.n - 1).toNat,by omega⟩
 have c7:m<y.kids.length:=by omega
 have i0:kd y (x.n.toNat - 1)=y.kids[m]:=by
  have e1:x.n.toNat - 1=m:=by omega
  rw [e1,kd,x0,ew c7];rfl
 have i1:Ig x y z=.uni z y.kids[m]:=by rw [Ig,ag k1,ag k2,ag k3,i0]
 rw [i1] at hB b1;obtain ⟨r,hu,rfl⟩:=hB;have b4:okJ N (.one z y.kids[m]):=b1;obtain ⟨c2,o2,f1,a2,E2,i3,rfl,g5,f2⟩:=b7.at_ c7;refine ⟨fun D x4 d2 d3 Zn d4 Zp d6 d7 ZI Zj d9 Z2 Z6 e3 e4 e5 e6 e7 w_=>Fx D 0 [e7=.pointer (some ⟨sb,0,none⟩),e6=.slice (some ⟨b,o,none⟩) [x,y,z].length cap,e5=.pointer (some ⟨b,o+2 * 4,none⟩),e4=.agg (aX c (o+2 * 4) 4).toArray,e3=.slice (some ⟨b,o,none⟩) [x,y,z].length cap,Z6=.pointer (some ⟨b,o+1 * 4,none⟩),Z2=.pointer (some ⟨b,o+1 * 4+3,none⟩),d9=.slice (some ⟨c2,o2,none⟩) y.kids.length f1,Zj=.slice (some ⟨b,o,none⟩) [x,y,z].length cap,ZI=.pointer (some ⟨b,o+0 * 4,none⟩),d7=.pointer (some ⟨b,o+0 * 4+1,none⟩),d6=.int .i64 x.n,Zp=.int .i64 m,d4=.pointer (some ⟨c2,o2+m * 4,none⟩),Zn=.agg (aX a2 (o2+m * 4) 4).toArray,d3=.bool r,d2=.int .i64 (gO r),x4=.int .i64 (gO r)]/\(D 15=false->Inv w X ([.blk b3 (.cells #[.int .i64 k,.int .i64 n,.string s,.slice (some ⟨b,o,none⟩) [x,y,z].length cap] ab)]++aB sb mb es ck tv tr) S w_)/\(D 15=true->∃ O Y Z M,KnownM S O a0/\M.length+unb a0<=1000000/\Tr st a0 tr M/\Inv w X ([.blk b3 (.cells #[.int .i64 k,.int .i64 n,.string s,.slice (some ⟨b,o,none⟩) [x,y,z].length cap] ab)]++aB sb mb O Y Z M) S w_)/\∃ f t B G,Inv w X ([.blk b3 (.cells #[.int .i64 k,.int .i64 n,.string s,.slice (some ⟨b,o,none⟩) [x,y,z].length cap] ab)]++aB sb mb f t B G) S w_,⟨Fx.nil _ _,⟨fun _=>a.draw,aI,es,ck,tv,tr,a.draw⟩⟩,⟨?_,?_,?_,?_,?_,?_,?_,?_,?_,?_,?_,?_,?_,?_,?_,?_,?_,?_,trivial⟩,?_⟩;all_goals (intro D bH; intros; rename_i x4 d2 d3 Zn d4 Zp d6 d7 ZI Zj d9 Z2 Z6 e3 e4 e5 e6 e7 w_ a6; have J:=a6.1; obtain ⟨⟨cI,cJ,cH,cD,cL,cN,cq,dg,dG,dL,cT,dn,dN,fE,gy,gP,iH,kw,_⟩,⟨V,U,f,t,B,G,a⟩⟩:=a6)
 ·exact ⟨J.set 0 rfl,⟨V,U,f,t,B,G,a⟩⟩
 ·exact ⟨J.set 1 rfl,⟨V,U,f,t,B,G,a⟩⟩
 ·obtain rfl:=cJ ‹_›;refine az (i:=2) ah (by simp) ?_;exact ⟨J.set 2 rfl,⟨V,U,f,t,B,G,a⟩⟩
 ·obtain rfl:=cH ‹_›;refine ci ad (RdT.length (hR 2 (by simp))) (fun j v hj=>by rw [a.cellS a7]; exact aF rfl j v hj) ?_;exact ⟨J.set 3 rfl,⟨V,U,f,t,B,G,a⟩⟩
 ·exact ⟨J.set 4 rfl,⟨V,U,f,t,B,G,a⟩⟩
 ·obtain rfl:=cL ‹_›;refine az (i:=1) ah (by simp) ?_;exact ⟨J.set 5 rfl,⟨V,U,f,t,B,G,a⟩⟩
 ·obtain rfl:=cN ‹_›;refine aw ar ?_;exact ⟨J.set 6 rfl,⟨V,U,f,t,B,G,a⟩⟩
 ·obtain rfl:=cq ‹_›;refine cQ al (by rw [a.cellS a7]; exact aF b9 3 _ rfl) ?_;exact ⟨J.set 7 rfl,⟨V,U,f,t,B,G,a⟩⟩
 ·exact ⟨J.set 8 rfl,⟨V,U,f,t,B,G,a⟩⟩
 ·obtain rfl:=dG ‹_›;refine az (i:=0) ah (by simp) ?_;exact ⟨J.set 9 rfl,⟨V,U,f,t,B,G,a⟩⟩
 ·obtain rfl:=dL ‹_›;refine aw bi ?_;exact ⟨J.set 10 rfl,⟨V,U,f,t,B,G,a⟩⟩
 ·obtain rfl:=cT ‹_›;refine cQ aG (by rw [a.cellS a7]; exact aF c0 1 _ rfl) ?_;exact ⟨J.set 11 rfl,⟨V,U,f,t,B,G,a⟩⟩
 ·obtain rfl:=dn ‹_›;refine kT (by omega) ?_;rw [show x.n - 1=(m:Int) by omega];exact ⟨J.set 12 rfl,⟨V,U,f,t,B,G,a⟩⟩
 ·obtain rfl:=dg ‹_›;obtain rfl:=dN ‹_›;refine az ah c7 ?_;exact ⟨J.set 13 rfl,⟨V,U,f,t,B,G,a⟩⟩
 ·obtain rfl:=fE ‹_›;refine ci ad f2.length (fun j v hj=>by rw [a.cellS g5]; exact aF rfl j v hj) ?_;exact ⟨J.set 14 rfl,⟨V,U,f,t,B,G,a⟩⟩
 ·obtain rfl:=cI ‹_›;obtain rfl:=cD ‹_›;obtain rfl:=gy ‹_›;refine Run.callE (A:=[_]) eq eo (V bH) (gJ hN hg b4 hu S _ _ sb mb ck es tv tr hz f2 b8 b5) fun v' I' S' w_=>?_;rintro ⟨eS,rfl,O,Y,Z,M,rfl,a3,a1,a4⟩ _ a;rw [eS] at a;have V:=fun (h:ao D 15 15=false)=>(Bool.noConfusion h:Inv w X ([.blk b3 (.cells #[.int .i64 k,.int .i64 n,.string s,.slice (some ⟨b,o,none⟩) [x,y,z].length cap] ab)]++aB sb mb es ck tv tr) S w_)
  have U:=fun (_:ao D 15 15=true)=>(⟨O,Y,Z,M,a3,a1,a4,a⟩:∃ O Y Z M,KnownM S O a0/\M.length+unb a0<=1000000/\Tr st a0 tr M/\Inv w X ([.blk b3 (.cells #[.int .i64 k,.int .i64 n,.string s,.slice (some ⟨b,o,none⟩) [x,y,z].length cap] ab)]++aB sb mb O Y Z M) S w_)
  obtain ⟨f,t,B,G,a⟩:∃ f t B G,Inv w X ([.blk b3 (.cells #[.int .i64 k,.int .i64 n,.string s,.slice (some ⟨b,o,none⟩) [x,y,z].length cap] ab)]++aB sb mb f t B G) S w_:=⟨O,Y,Z,M,a⟩
  exact ⟨J.set 15 rfl,⟨V,U,f,t,B,G,a⟩⟩
 ·obtain rfl:=gP ‹_›;obtain ⟨O,Y,Z,M,a3,a1,a4,a⟩:=U ‹D 15=true›;refine Run.callPure fn_i_holds nm_i_holds a (dO r S) fun w_ a=>?_;have V:=fun (h:ao D 16 15=false)=>(Bool.noConfusion (h.symm.trans (show ao D 16 15=true from ‹D 15=true›)):Inv w X ([.blk b3 (.cells #[.int .i64 k,.int .i64 n,.string s,.slice (some ⟨b,o,none⟩) [x,y,z].length cap] ab)]++aB sb mb es ck tv tr) S w_)
  have U:=fun (_:ao D 16 15=true)=>(⟨O,Y,Z,M,a3,a1,a4,a⟩:∃ O Y Z M,KnownM S O a0/\M.length+unb a0<=1000000/\Tr st a0 tr M/\Inv w X ([.blk b3 (.cells #[.int .i64 k,.int .i64 n,.string s,.slice (some ⟨b,o,none⟩) [x,y,z].length cap] ab)]++aB sb mb O Y Z M) S w_)
  obtain ⟨f,t,B,G,a⟩:∃ f t B G,Inv w X ([.blk b3 (.cells #[.int .i64 k,.int .i64 n,.string s,.slice (some ⟨b,o,none⟩) [x,y,z].length cap] ab)]++aB sb mb f t B G) S w_:=⟨O,Y,Z,M,a⟩
  exact ⟨J.set 16 rfl,⟨V,U,f,t,B,G,a⟩⟩
 ·obtain rfl:=iH ‹_›;exact ⟨J.set 17 rfl,⟨V,U,f,t,B,G,a⟩⟩
 obtain ⟨rfl,rfl,rfl,rfl,rfl,rfl,rfl,rfl,rfl,rfl,rfl,rfl,rfl,rfl,rfl,rfl,rfl,rfl,_⟩:=J.all;have i2:D 15=true:=by assumption
 clear J cI cJ cH cD cL cN cq dg dG dL cT dn dN fE gy gP iH kw;obtain ⟨O,Y,Z,M,a3,a1,a4,a⟩:=U i2;exact ⟨_,_,S,rfl,a.sub (dH [_] _),Ext.refl _ _ _,rfl,rfl,O,Y,Z,M,rfl,a3,a1,a4⟩
end
end
end Go.Proofs.YtgllldjiaglkcaaGreatDoor
