/- impl's search in memory: a step. -/
import Derived.Test.YtellfcpffcipcaaGreatDoorZCkA
import Derived.Test.YtellfcpffcipcaaGreatDoorZCk22
namespace Go.Proofs.YtellfcpffcipcaaGreatDoor
attribute [local irreducible] Run CondV aF aT
section
open Go Go.RowKit
theorem ab2 {a b c d e f g:Value}:∀ (j:Nat) (v:Value),([a,b,c,d]:hZ)[j]?=some v->(#[a,b,c,d,e,f,g]:Array Value)[0+j]?=some v
 | 0,_,h=>h
 | 1,_,h=>h
 | 2,_,h=>h
 | 3,_,h=>h
 | _+4,_,h=>by simp at h
theorem Qx {α β:Type}:∀ (k:Nat) (a:List α) (b:List β),(a.zip b).take k=(a.take k).zip (b.take k)
 | 0,a,b=>by simp
 | k+1,[],b=>by simp
 | k+1,x::xs,[]=>by simp
 | k+1,x::xs,y::ys=>by
  rw [List.zip_cons_cons,tf,tf,tf,List.zip_cons_cons,Qx k xs ys]
theorem Zx {a f g i:Value} (h:∀ u∈[a,f,g,i],u.oneCell'=true) {m n:Int}:∀ u∈[a,f,g,i,ax m,ax n],u.oneCell'=true:=by
 intro u j;simp only [cw,ic,g9] at j;rcases j with rfl|rfl|rfl|rfl|rfl|rfl <;> first|rfl|exact h _ (by simp)
theorem StepI.inv {p:List C} {nc:Bool} {s:SI} {o:Option SI} {e:Int} (h:StepI p nc s o e):∃ g gs t,s.goals=g::gs/\Res s.st (.one g.t t)/\
  ((bL t=false/\o=none/\e=3) ∨ (bL t=true/\
   ((fC t=true/\((nc=true/\o=none/\e=0) ∨ (nc=false/\o=some ⟨s.st,gs,s.chs.take g.cut.toNat,s.nodes++[⟨t,g.up,-1⟩]⟩/\e=-1))) ∨
       (fC t=false/\((bW t=true/\∃ st c,Blt s.st t c st/\((c=0/\o=some ⟨st,gs,s.chs,s.nodes++[⟨t,g.up,-1⟩]⟩/\e=-1) ∨ (c=1/\BackI p s.chs s.st.length (s.nodes++[⟨t,g.up,-1⟩]) o/\e=if o.isSome then -1 else 0) ∨ (c≠0/\c≠1/\o=none/\e=Q0 c))) ∨
    (bW t=false/\((hH p t=[]/\o=none/\e=8) ∨ (hH p t≠[]/\∃ D m,TryI p t (hH p t) s.st D m/\
     ((∃ r,D=some r/\o=some (jj s.chs (s.nodes++[⟨t,g.up,-1⟩]) t s.nodes.length gs s.st r)/\e=-1) ∨ (D=none/\BackI p s.chs m (s.nodes++[⟨t,g.up,-1⟩]) o/\e=if o.isSome then -1 else 0)))))))))):=by
 cases h with
 | large a f i=>exact ⟨_,_,_,a,f,.inl ⟨i,rfl,rfl⟩⟩
 | noCut a f i j l=>exact ⟨_,_,_,a,f,.inr ⟨i,.inl ⟨j,.inl ⟨l,rfl,rfl⟩⟩⟩⟩
 | cut a f i j l=>exact ⟨_,_,_,a,f,.inr ⟨i,.inl ⟨j,.inr ⟨l,rfl,rfl⟩⟩⟩⟩
 | solved a f i j l q=>exact ⟨_,_,_,a,f,.inr ⟨i,.inr ⟨j,.inl ⟨l,_,_,q,.inl ⟨rfl,rfl,rfl⟩⟩⟩⟩⟩
 | fail a f i j l q B=>exact ⟨_,_,_,a,f,.inr ⟨i,.inr ⟨j,.inl ⟨l,_,_,q,.inr (.inl ⟨rfl,B,rfl⟩)⟩⟩⟩⟩
 | err a f i j l q B G=>exact ⟨_,_,_,a,f,.inr ⟨i,.inr ⟨j,.inl ⟨l,_,_,q,.inr (.inr ⟨B,G,rfl,rfl⟩)⟩⟩⟩⟩
 | unknown a f i j l q=>exact ⟨_,_,_,a,f,.inr ⟨i,.inr ⟨j,.inr ⟨l,.inl ⟨q,rfl,rfl⟩⟩⟩⟩⟩
 | took a f i j l q B=>exact ⟨_,_,_,a,f,.inr ⟨i,.inr ⟨j,.inr ⟨l,.inr ⟨q,_,_,B,.inl ⟨_,rfl,rfl,rfl⟩⟩⟩⟩⟩⟩
 | back a f i j l q B G=>exact ⟨_,_,_,a,f,.inr ⟨i,.inr ⟨j,.inr ⟨l,.inr ⟨q,_,_,B,.inr ⟨rfl,G,rfl⟩⟩⟩⟩⟩⟩
theorem M8 (cs:List CI) (ns:List NI) (g:T) (a:Int) (rest:List GI) (b:au) (r:HI):(jj cs ns g a rest b r).chs.length<=cs.length+1:=by
 show (cs++(if r.l=[] then [] else [_])).length<=_;rw [bK];split <;> simp
theorem BackI.chs {p:List C} {cs:List CI} {n:Nat} {ns:List NI} {o:Option SI} (h:BackI p cs n ns o):∀ s,o=some s->s.chs.length<=cs.length:=by
 induction h with
 | nil=>intro s h;cases h
 | @hit cs c n m ns r g=>
  intro s a;cases a;have:=M8 cs (ns.take c.taken) c.goal c.node c.rest (ct c.binds n) r;rw [bK];exact this
 | miss _ _ f=>
  intro s a;have:=f s a;rw [bK];omega
theorem StepI.chs {p:List C} {nc:Bool} {s a:SI} {e:Int} (h:StepI p nc s (some a) e):a.chs.length<=s.chs.length+1:=by
 obtain ⟨g,gs,t,_,_,h⟩:=h.inv;rcases h with ⟨_,h,_⟩|⟨_,h⟩
 ·cases h
 rcases h with ⟨_,h⟩|⟨_,h⟩
 ·rcases h with ⟨_,h,_⟩|⟨_,h,_⟩
  ·cases h
  ·cases h;simp only [ey];omega
 rcases h with ⟨_,st,c,_,h⟩|⟨_,h⟩
 ·rcases h with ⟨_,h,_⟩|⟨_,h,_⟩|⟨_,_,h,_⟩
  ·cases h;simp
  ·exact TO (h.chs _ rfl)
  ·cases h
 rcases h with ⟨_,h,_⟩|⟨_,f,m,_,h⟩
 ·cases h
 rcases h with ⟨r,_,h,_⟩|⟨_,h,_⟩
 ·cases h;exact M8 _ _ _ _ _ _ _
 ·exact TO (h.chs _ rfl)
theorem Inv.lendI {w0 w:World} {X:List Nat} {A:List Item} {S:ae} {v:Value} {ns:List Int} (h:Inv w0 X (A++[dI v ns]) S w):∃ S',Ext w0.heap.size X S S'/\RdSl S' 1 gW v ns/\Inv w0 X A S' w:=by
 obtain ⟨hl,l⟩:=h.openRow;rcases l with ⟨rfl,r⟩|⟨g,cap,a,rfl,f,i,j,t,B⟩
 ·exact ⟨S,Ext.refl _ _ _,RowRd.ints (e:=cR) ⟨hl,.inl ⟨rfl,r⟩⟩,h.sub (eh _ _)⟩
 ·obtain ⟨S',m,o,q⟩:=Inv.pub1 (A:=A) B;exact ⟨S',o,RowRd.ints (e:=cR) ⟨hl,.inr ⟨g,cap,a,rfl,q,f,i,j,t⟩⟩,m⟩
section
theorem Rt (c:Int) (S:ae):ll XL [ax c] S (ax (Q0 c)):=by
 intro w a;apply H9.2;dsimp only[H9,aR];unfold Q0;refine bn (aJ (fun h=>?_) (fun h=>?_))
 ·rw [ai h];exact done a rfl
 rw [af h];refine bn (aJ (fun h=>?_) (fun h=>?_))
 ·rw [ai h];exact done a rfl
 rw [af h];refine bn (aJ (fun h=>?_) (fun h=>?_))
 ·rw [ai h];exact done a rfl
 ·rw [af h];exact done a rfl
end
abbrev uY (sp sb mb:Nat) (pv qv:Value) (nc:Bool) (fuel used fr:Int) (gv cv:Value) (ccs:List (List Value)) (nv:Value) (ncs:List (List Value)) (mo:Int) (es:Array MapEntry) (ck:Nat) (tv:Value) (tr:List Int):List Item:=
 [g7 sp (eW sb pv qv nc fuel used fr gv cv nv mo),chI cv ccs,noI nv ncs]++aN sb mb es ck tv tr
theorem QA {α:Type} (A B C:List α):List.Perm (A++B++C) (A++C++B):=by
 rw [eY,eY];exact yj _ cT
theorem SeaQ.none {sp sb mb:Nat} {g h:Value} {nc:Bool} {fuel used fr:Int} {i cv:Value} {a:List (hZ)} {nv:Value} {f:List (hZ)} {mo:Int} {j:Array MapEntry} {ck:Nat} {tv:Value} {tr:List Int} {S:ae} :
  SeaQ sp sb mb g h nc fuel used Option.none (uY sp sb mb g h nc fuel used fr i cv a nv f mo j ck tv tr) S:=⟨j,ck,tv,tr,[],i,cv,a,nv,f,mo,fr,rfl,fun s l=>by cases l⟩
section
set_option maxHeartbeats 4000000 in
theorem UG {p:List C} (hp:∀ cl∈p,kB cl) (f8:∀ cl∈p,cl.body.length<=1048576) (o3:p.length<=20000) {nc:Bool} {s:SI} {o:Option SI} {e:Int} {fuel used:Int} (hu:0<=used/\used<=1000000)
  (e4:(used=fuel/\o=none/\e=2) ∨ (used≠fuel/\StepI p nc s o e)) (hs:tz p.length s) (hn:s.st.length+26 * jA s.chs+26 * p.length<=900000) (c8:s.chs.length<=1000000) (o4:s.nodes.length<=1000000)
  {S:ae} {gv pv qv cv nv tv:Value} {ms:List Nat} {tr:List Int} {es:Array MapEntry} {O a4:List (hZ)} {sp sb mb ck:Nat} {mo:Int}
  (h4:RdSl S 5 (RdC S) pv p) (hG:GL S gv s.goals) (hK:SeaK S s.chs s.nodes s.st ms tr es O a4) :
  kt GT [ee sp] (uY sp sb mb pv qv nc fuel used s.st.length gv cv O nv a4 mo es ck tv tr) S
   fun q I' S'=>q=ax e/\∃ e0,SeaQ sp sb mb pv qv nc fuel e0 o I' S'/\(o.isSome=true->e0=used+1):=by
 intro w f;obtain ⟨X,hX⟩:∃ X,X=bS (uY sp sb mb pv qv nc fuel used s.st.length gv cv O nv a4 mo es ck tv tr):=⟨_,rfl⟩
 rw [<- hX] at f ⊢;have j9:=hK.tb;have o5:=hK.mkI.len;have o7:O.length=s.chs.length:=by have:=hK.ch.hc;rw [WA] at this;omega
 have m5:=hK.nd.hc;apply rb.2;dsimp only[rb,aR];have m6:=f;clear f;refine ⟨fun D pF wi zZ xw Ld M0 zY P4 x9 w_=>Fx D 0 [x9=ee sp,P4=ee sp,zY=eu sp 6,M0=ax used,Ld=ee sp,xw=ee sp,zZ=eu sp 5,wi=ax fuel,pF=.bool (decide (used=fuel))]/\Inv w X (uY sp sb mb pv qv nc fuel used s.st.length gv cv O nv a4 mo es ck tv tr) S w_,⟨Fx.nil _ _,m6.draw⟩,⟨?_,?_,?_,?_,?_,?_,?_,?_,?_,trivial⟩,?_⟩;all_goals (intro D bw;intros;rename_i pF wi zZ xw Ld M0 zY P4 x9 w_ a6;have l:=a6.1;obtain ⟨⟨co,cn,bP,cj,cA,bQ,bO,cM,de,_⟩,f⟩:=a6)
 rotate_left;obtain rfl:=co ‹_›;apply aH;rotate_left
 obtain rfl:=cn ‹_›;apply ah sB;rotate_left
 obtain rfl:=bP ‹_›;refine aD (b:=sp) f 0 (c:=eW sb pv qv nc fuel used s.st.length gv cv nv mo) aw rfl rfl ?_;rotate_left;rotate_left
 obtain rfl:=cA ‹_›;apply aH;rotate_left
 obtain rfl:=bQ ‹_›;apply ah Pq;rotate_left
 obtain rfl:=bO ‹_›;refine aD (b:=sp) f 0 (c:=eW sb pv qv nc fuel used s.st.length gv cv nv mo) aw rfl rfl ?_;rotate_left
 obtain rfl:=cj ‹_›;obtain rfl:=cM ‹_›;apply bn;rotate_left
 all_goals try exact ⟨l.set _ (by first|rfl|assumption|trivial),f⟩
 obtain ⟨rfl,rfl,rfl,rfl,rfl,rfl,rfl,rfl,rfl,_⟩:=l.all;clear l co cn bP cj cA bQ bO cM de;refine aJ (fun g1=>?_) (fun g1=>?_)
 ·rcases e4 with ⟨_,rfl,rfl⟩|⟨h,_⟩
  ·exact ⟨_,_,S,rfl,f,Ext.refl _ _ _,rfl,_,SeaQ.none,fun h=>by cases h⟩
  ·exact absurd g1 h
 have e4:StepI p nc s o e:=by
  rcases e4 with ⟨h,_⟩|⟨_,h⟩
  ·exact absurd h g1
  ·exact h
 obtain ⟨g,gs,t,k6,f5,Y⟩:=e4.inv;have k0:=hs.goals;have m7:=hs.cuts;rw [k6] at hG k0 m7;have f3:=k0 g (bi ..);obtain ⟨d7,g3⟩:=sI hs.good f3.1.1 hs.tab f5;obtain ⟨gb,a0,a1,a2,a3,g4,gE,i9,rfl,c9,k7,f0⟩:∃ gb a0 a1 a2 a3 g4 gE i9,gv=ee gb/\S gb=some (.cells #[a0,a1,a2,a3,ax g.cut,ax g.up,g4] gE i9)/\RdT S [a0,a1,a2,a3] g.t/\GL S g4 gs:=by
  cases hG with
  | cons h1 h2 h3=>exact ⟨_,_,_,_,_,_,_,_,rfl,h1,h2,h3⟩
 refine aH (ad f 0 rfl sB aw rfl (bA (by omega) (aH (cX f 0 rfl sB aw rfl rfl rfl fun w' f=>?_))));have f:Inv w X (uY sp sb mb pv qv nc fuel (used+1) s.st.length (ee gb) cv O nv a4 mo es ck tv tr) S w':=f;refine aH (ad f 0 rfl jD eO rfl ?_);have m8:=f;repeat clear f
 refine ⟨fun D x5 x4 oC j7 lO jt oH lK mC r7 og rr kY gQ w_=>Fx D 0 [gQ=ee sp,kY=ee sp,rr=ee sp,og=ee sb,r7=ee gb,mC=ee gb,lK=ee gb,oH=.agg #[a0,a1,a2,a3],True,True,True,oC=.bool (bL t),True,True,x5=.bool (bL t)]/\∃ (SN:ae) (J:hZ) (b4:Nat) (c4:Array Value),Ext w.heap.size X S SN/\(D 8=true->J.length=4/\(∀ x∈J,x.oneCell'=true)/\jt=.tuple #[.agg J.toArray,.bool (bL t)]/\(bL t=true->RdT SN J t))/\(D 9=true->D 8=true/\lO=.tuple #[.agg J.toArray,.bool (bL t)])/\(D 10=true->D 8=true/\j7=.agg J.toArray)/\(D 12=true->x4=ee b4/\c4.size=4)/\(D 13=true->D 8=true/\D 12=true/\c4=J.toArray)/\Inv w X (uY sp sb mb pv qv nc fuel (used+1) s.st.length (ee gb) cv O nv a4 mo es ck tv tr++(match D 12 with|true=>[ay b4 c4 ab]|false=>[])) SN w_,⟨Fx.nil _ _,⟨S,[],0,#[],Ext.refl _ _ _,aU,aU,aU,aU,aU,by rw [dc];exact m8.draw⟩⟩,⟨?_,?_,?_,?_,?_,?_,?_,?_,?_,?_,?_,?_,?_,?_,?_,trivial⟩,?_⟩;all_goals (intro D bw;intros;rename_i x5 x4 oC j7 lO jt oH lK mC r7 og rr kY gQ w_ a6;have l:=a6.1;obtain ⟨⟨co,cn,bP,cj,cA,bQ,bO,cM,de,dv,bU,cC,cY,dK,dd,_⟩,⟨SN,J,b4,c4,hN,e8,e9,M,a7,a5,f⟩⟩:=a6)
 rotate_left;obtain rfl:=co ‹_›;apply aH;rotate_left
 obtain rfl:=cn ‹_›;apply ah iH;rotate_left
 obtain rfl:=bP ‹_›;refine aD (b:=sp) f 0 (c:=eW sb pv qv nc fuel (used+1) s.st.length (ee gb) cv nv mo) gP rfl rfl ?_;rotate_left;rotate_left
 obtain rfl:=cA ‹_›;apply aH;rotate_left
 obtain rfl:=bQ ‹_›;apply ah J0;rotate_left
 obtain rfl:=bO ‹_›;refine bV (cs:=[a0,a1,a2,a3]) ac rfl (fun j v hj=>by rw [f.cellS (hN.1 _ _ c9)];exact ab2 j v hj) ?_;rotate_left
 obtain rfl:=cj ‹_›;obtain rfl:=cM ‹_›;have f:=f.perm (QA [g7 sp (eW sb pv qv nc fuel (used+1) s.st.length (ee gb) cv nv mo),chI cv O,noI nv a4] _ (aN sb mb es ck tv tr));refine Run.callE kF kD f (vh hs.good f5 f3.1.1.1 (k7.mono hN.1) (hK.km.upS hN.1)) fun v' I' S4 w_=>?_;rintro ⟨rfl,J,d2,h7,rfl,f9⟩ k5 f;have f:=f.perm (QA [g7 sp (eW sb pv qv nc fuel (used+1) s.st.length (ee gb) cv nv mo),chI cv O,noI nv a4] (aN sb mb es ck tv tr) _);have hN:=hN.trans k5;have e9:aC D 8 9=true->aC D 8 8=true/\lO=.tuple #[.agg J.toArray,.bool (bL t)]:=fun h=>absurd (e9 h).1 (by rw [bw];decide);have M:aC D 8 10=true->aC D 8 8=true/\j7=.agg J.toArray:=fun h=>absurd (M h).1 (by rw [bw];decide);have a5:aC D 8 13=true->aC D 8 8=true/\aC D 8 12=true/\c4=J.toArray:=fun h=>absurd (a5 h).1 (by rw [bw];decide);obtain ⟨SN,k8⟩:∃ a,a=S4:=⟨_,rfl⟩
 subst k8;have e8:aC D 8 8=true->J.length=4/\(∀ x∈J,x.oneCell'=true)/\Value.tuple #[.agg J.toArray,.bool (bL t)]=.tuple #[.agg J.toArray,.bool (bL t)]/\(bL t=true->RdT SN J t):=fun _=>⟨d2,h7,rfl,f9⟩
 rotate_left;have Db:=de ‹_›;have e9:aC D 9 9=true->aC D 9 8=true/\jt=.tuple #[.agg J.toArray,.bool (bL t)]:=fun _=>⟨‹D 8=true›,(e8 ‹D 8=true›).2.2.1⟩
 rotate_left;have K2:=dv ‹_›;obtain ⟨q8,q9⟩:=e9 ‹D 9=true›;subst q9;apply al rfl;have M:aC D 10 10=true->aC D 10 8=true/\Value.agg J.toArray=.agg J.toArray:=fun _=>⟨q8,rfl⟩
 rotate_left;have K2:=dv ‹_›;obtain ⟨q8,q9⟩:=e9 ‹D 9=true›;subst q9;apply al rfl;rotate_left
 rw [bw] at f;refine aG f aV fun b4 w_ f=>?_;obtain ⟨c4,d0⟩:∃ a:Array Value,a=bb:=⟨_,rfl⟩
 have a7:aC D 12 12=true->Value.pointer (some ⟨b4,0,none⟩)=ee b4/\c4.size=4:=fun _=>⟨rfl,by rw [d0];rfl⟩
 have a5:aC D 12 13=true->aC D 12 8=true/\aC D 12 12=true/\c4=J.toArray:=fun h=>absurd (a5 h).2.1 (by rw [bw];decide);have f:Inv w X (uY sp sb mb pv qv nc fuel (used+1) s.st.length (ee gb) cv O nv a4 mo es ck tv tr++[ay b4 c4 ab]) SN w_:=by rw [d0];rw [dc] at f;exact f
 rotate_left;have Zc:=cY ‹_›;have xE:=bU ‹_›;obtain ⟨q8,g5⟩:=M ‹D 10=true›;obtain ⟨f1,k9⟩:=a7 ‹D 12=true›;subst g5 f1;rw [‹D 12=true›] at f;have d2:=(e8 q8).1;refine aq f 6 rfl ac (by simpa using d2) k9 (by simpa using (e8 q8).2.1) fun w_ f=>?_;obtain ⟨c4,d0⟩:∃ a,a=J.toArray:=⟨_,rfl⟩
 have a7:aC D 13 12=true->Value.pointer (some ⟨b4,0,none⟩)=ee b4/\c4.size=4:=fun _=>⟨rfl,by rw [d0];simpa using d2⟩
 have a5:aC D 13 13=true->aC D 13 8=true/\aC D 13 12=true/\c4=J.toArray:=fun _=>⟨q8,‹D 12=true›,d0⟩
 have f:Inv w X (uY sp sb mb pv qv nc fuel (used+1) s.st.length (ee gb) cv O nv a4 mo es ck tv tr++(match D 12 with|true=>[ay b4 c4 ab]|false=>[])) SN w_:=by rw [d0,‹D 12=true›];exact f
 rotate_left;obtain rfl:=cC ‹_›;rotate_left
 all_goals try exact ⟨l.set _ (by first|rfl|assumption|trivial),SN,J,b4,c4,hN,e8,e9,M,a7,a5,f⟩
 obtain ⟨rfl,rfl,rfl,rfl,rfl,rfl,rfl,rfl,Db,K2,xE,rfl,Zc,_,rfl,_⟩:=l.all;clear l co cn bP cj cA bQ bO cM de dv bU cC cY dK dd;obtain ⟨q8,f1,rfl⟩:=a5 (by assumption);obtain ⟨rfl,-⟩:=a7 f1;obtain ⟨d2,h7,-,f9⟩:=e8 q8;rw [f1] at f;have f:Inv w X ([ay b4 J.toArray ab]++uY sp sb mb pv qv nc fuel (used+1) s.st.length (ee gb) cv O nv a4 mo es ck tv tr) SN w_:=f.perm (cT (l₁:=[_]));clear e8 e9 M a7 a5;apply cq;rcases Y with ⟨e1,rfl,rfl⟩|⟨e1,Y⟩
 ·rw [e1];refine aE (fun _=>?_) (fun h=>by cases h);exact ⟨_,_,SN,rfl,f.sub (kA _ _),hN,rfl,_,SeaQ.none,fun h=>by cases h⟩
 rw [e1];refine aE (fun h=>by cases h) (fun _=>?_);have f4:=f9 e1;obtain ⟨t0,t1,t2,t3,rfl⟩:=f4.four;have k1:=hN;have o0:a4.length<=1000000:=by omega
 refine aH (ad f 1 rfl gS mr rfl (mG f 3 rfl xt ?_));have m9:=f;clear hN;repeat clear f
 refine ⟨fun D xN yU xj xH vC uk uB sT uv qW nh s6 tV rf qp w_=>Fx D 0 [qp=ee sp,rf=ee sp,tV=ee sp,s6=eu sp 10,nh=nv,qW=.agg #[t0,t1,t2,t3],uv=ee gb,sT=ee gb,uB=eu gb 5,uk=ax g.up,vC=.agg #[t0,t1,t2,t3,ax g.up,ax (-1)],True,True,yU=ee sp,xN=eu sp 10,True]/\∃ (SP:ae) (V G:Value) (B:List (hZ)),Ext w.heap.size X SN SP/\(D 11=true->∃ b,xH=eF b 0 1 1/\SP b=some (.cells #[t0,t1,t2,t3,ax g.up,ax (-1)] nV))/\(D 12=false->nv=V/\nv=G/\a4=B)/\(D 12=true->G=xj/\B=a4++[[t0,t1,t2,t3,ax g.up,ax (-1)]])/\(D 15=true->V=xj)/\(D 12=true->D 4=true)/\(D 15=true->D 12=true)/\Inv w X ([ay b4 #[t0,t1,t2,t3] ab,g7 sp (eW sb pv qv nc fuel (used+1) s.st.length (ee gb) cv V mo),chI cv O,noI G B]++aN sb mb es ck tv tr) SP w_,⟨Fx.nil _ _,⟨SN,nv,nv,a4,Ext.refl _ _ _,aU,fun _=>⟨rfl,rfl,rfl⟩,aU,aU,aU,aU,m9.draw⟩⟩,⟨?_,?_,?_,?_,?_,?_,?_,?_,?_,?_,?_,?_,?_,?_,?_,?_,trivial⟩,?_⟩;all_goals (intro D bw;intros;rename_i xN yU xj xH vC uk uB sT uv qW nh s6 tV rf qp w_ a6;have l:=a6.1;obtain ⟨⟨co,cn,bP,cj,cA,bQ,bO,cM,de,dv,bU,cC,cY,dK,dd,ek,_⟩,⟨SP,V,G,B,hN,a8,U,a9,b0,b1,b2,f⟩⟩:=a6)
 rotate_left;rotate_left;obtain rfl:=cn ‹_›;apply aH;rotate_left
 obtain rfl:=bP ‹_›;apply ah gS;rotate_left
 obtain rfl:=cj ‹_›;have n0:D 12=false:=bN.2 fun h=>by rw [b1 h] at bw;cases bw
 have q:=(U n0).1;refine aD (b:=sp) (v:=nv) f 1 (c:=eW sb pv qv nc fuel (used+1) s.st.length (ee gb) cv V mo) mr rfl (by rw [q];rfl) ?_;have b1:aC D 4 12=true->aC D 4 4=true:=fun _=>rfl
 rotate_left;apply av f 0 ac rfl rfl;rotate_left;rotate_left
 obtain rfl:=bO ‹_›;apply aH;rotate_left
 obtain rfl:=cM ‹_›;apply ah IV;rotate_left
 obtain rfl:=de ‹_›;refine cS aw (by rw [f.cellS ((k1.trans hN).1 _ _ c9)];rfl) ?_;rotate_left
 obtain rfl:=bQ ‹_›;obtain rfl:=dv ‹_›;apply Qj;rotate_left
 obtain rfl:=bU ‹_›;refine dQ f Mb rfl (by omega) (by omega) fun g2 w_ f=>?_;have f:Inv w X (([ay b4 #[t0,t1,t2,t3] ab,g7 sp (eW sb pv qv nc fuel (used+1) s.st.length (ee gb) cv V mo),chI cv O,noI G B]++aN sb mb es ck tv tr)++[ay g2 #[t0,t1,t2,t3,ax g.up,ax (-1)] nV]) SP w_:=f;obtain ⟨SP,f,l0,j0⟩:=Inv.pub1 f;have hN:=hN.trans l0;have a8:aC D 11 11=true->∃ b,Value.slice (some ⟨g2,0,none⟩) 1 1=eF b 0 1 1/\SP b=some (.cells #[t0,t1,t2,t3,ax g.up,ax (-1)] nV):=fun _=>⟨g2,rfl,j0⟩
 rotate_left;have Ot:=cA ‹_›;have W9:=cC ‹_›;obtain ⟨b,l1,hb⟩:=a8 ‹D 11=true›;subst l1;obtain ⟨q1,rfl,rfl⟩:=U bw;refine eT f 3 [t0,t1,t2,t3,ax g.up,ax (-1)] Mb (by omega) (n:=a4.length) (xs:=a4.flatten) (by rw [Ot];rfl) rfl (m:=1) (o:=0) (fun j u hj=>by rw [f.cellS hb,dr];simpa using hj) (Zx f4.one) (by omega) (by omega) fun G w_ f=>?_;obtain ⟨B,hR⟩:∃ a,a=a4++[[t0,t1,t2,t3,ax g.up,ax (-1)]]:=⟨_,rfl⟩
 rw [fU,<- hR] at f;have U:aC D 12 12=false->nv=V/\nv=G/\a4=B:=fun h=>Bool.noConfusion h;have a9:aC D 12 12=true->G=G/\B=a4++[[t0,t1,t2,t3,ax g.up,ax (-1)]]:=fun _=>⟨rfl,hR⟩
 have b0:aC D 12 15=true->V=G:=fun h=>absurd (b2 h) (by rw [bw];decide);have b1:aC D 12 12=true->aC D 12 4=true:=fun _=>by assumption
 have b2:aC D 12 15=true->aC D 12 12=true:=fun _=>rfl;have a8:aC D 12 11=true->∃ b',Value.slice (some ⟨b,0,none⟩) 1 1=eF b' 0 1 1/\SP b'=some (.cells #[t0,t1,t2,t3,ax g.up,ax (-1)] nV):=fun _=>⟨b,rfl,hb⟩
 rotate_left;obtain rfl:=co ‹_›;apply aH;rotate_left
 obtain rfl:=dK ‹_›;apply ah gS;rotate_left
 obtain rfl:=dd ‹_›;have Zc:=cY ‹_›;obtain ⟨q1,q2⟩:=a9 ‹D 12=true›;subst q1;obtain ⟨va,n9,hv,_⟩:=f.rowSlice' (i:=3) rfl;have c8:G.cells=#[G]:=by rw [hv];rfl
 refine dD f 1 (n:=1) (by rw [c8];rfl) (by rw [mr];rfl) rfl (l9 rfl) (by rw [c8,hv];simp [Value.oneCell']) fun w_ f=>?_;rw [c8] at f;obtain ⟨V,hF⟩:∃ a,a=G:=⟨_,rfl⟩
 have b0:aC D 15 15=true->V=G:=fun _=>hF;have U:aC D 15 12=false->nv=V/\nv=G/\a4=B:=fun h=>absurd ‹D 12=true› (by rw [show D 12=false from h];decide);have b2:aC D 15 15=true->aC D 15 12=true:=fun _=>‹D 12=true›;have f:Inv w X ([ay b4 #[t0,t1,t2,t3] ab,g7 sp (eW sb pv qv nc fuel (used+1) s.st.length (ee gb) cv V mo),chI cv O,noI G B]++aN sb mb es ck tv tr) SP w_:=by rw [hF];exact f
 rotate_left
 all_goals try exact ⟨l.set _ (by first|rfl|assumption|trivial),SP,V,G,B,hN,a8,U,a9,b0,b1,b2,f⟩
 obtain ⟨rfl,rfl,rfl,rfl,Ot,rfl,rfl,rfl,rfl,rfl,rfl,W9,Zc,rfl,rfl,_,_⟩:=l.all;clear l co cn bP cj cA bQ bO cM de dv bU cC cY dK dd ek;obtain ⟨q1,q2⟩:=a9 (by assumption);have q3:=b0 (by assumption);rw [q3,<- q1] at f;clear a8 U a9 b0 b1 b2 q3 q1;have b3:=k1.trans hN;have d9:Rows 6 (RdNI SP) B (s.nodes++[⟨t,g.up,-1⟩]):=by
  rw [q2];exact (hK.nd.monoR fun _ _=>RdNI.mono b3.1).snoc ⟨t0,t1,t2,t3,rfl,f4.mono hN.1⟩ rfl
 have o2:(s.nodes++[(⟨t,g.up,-1⟩:NI)]).length=s.nodes.length+1:=by simp
 have c7:=f4.mono hN.1;refine av f 0 ac rfl rfl (Run.callPure o6 oG f (mY c7) fun w' f=>?_);obtain ⟨d1,rfl⟩:=f0.ptr;rcases Y with ⟨h6,Y⟩|⟨h6,Y⟩
 ·rw [h6];refine aE (fun _=>?_) (fun h=>by cases h);refine aH (ad f 1 rfl N6 WY rfl ?_);rcases Y with ⟨rfl,rfl,rfl⟩|⟨rfl,rfl,rfl⟩
  ·refine aE (fun _=>?_) (fun h=>by cases h);exact ⟨_,_,SP,rfl,f.sub (kA _ _),b3,rfl,_,SeaQ.none,fun h=>by cases h⟩
  ·refine aE (fun h=>by cases h) (fun _=>?_);obtain ⟨ca,b8,rfl,-⟩:=f.rowSlice' (i:=2) rfl;obtain ⟨kk,g6⟩:∃ kk:Nat,g.cut=kk:=⟨g.cut.toNat,by have:=f3.1.2;omega⟩
   have k2:kk<=O.length:=by have:=f3.2;omega
   have n1:=f;repeat clear f
   refine ⟨fun D xA yf Ar ze ud Bw Eg D5 Fw EV FF DD w_=>Fx D 0 [DD=ee sp,FF=ee sp,EV=ee sp,Fw=eu sp 9,D5=.slice ca O.length b8,Eg=ee gb,Bw=ee gb,ud=eu gb 4,ze=ax (kk:Int),Ar=.slice ca kk b8,yf=ee sp,xA=eu sp 9,True]/\∃ (nF:Nat),(D 12=false->O.length=nF)/\(D 12=true->D 4=true)/\(D 12=true->nF=kk)/\Inv w X ([ay b4 #[t0,t1,t2,t3] ab,g7 sp (eW sb pv qv false fuel (used+1) s.st.length (ee gb) (.slice ca nF b8) G mo),chI (.slice ca O.length b8) O,noI G B]++aN sb mb es ck tv tr) SP w_,⟨Fx.nil _ _,⟨O.length,fun _=>rfl,aU,aU,n1.draw⟩⟩,⟨?_,?_,?_,?_,?_,?_,?_,?_,?_,?_,?_,?_,?_,trivial⟩,?_⟩;all_goals (intro D bw;intros;rename_i xA yf Ar ze ud Bw Eg D5 Fw EV FF DD w_ a6;have l:=a6.1;obtain ⟨⟨co,cn,bP,cj,cA,bQ,bO,cM,de,dv,bU,cC,cY,_⟩,⟨nF,Z,b5,M,f⟩⟩:=a6)
   rotate_left;rotate_left;obtain rfl:=cn ‹_›;apply aH;rotate_left
   obtain rfl:=bP ‹_›;apply ah eU;rotate_left
   obtain rfl:=cj ‹_›;have n2:D 12=false:=bN.2 fun h=>by rw [b5 h] at bw;cases bw
   have q:=Z n2;refine aD (b:=sp) (v:=.slice ca O.length b8) f 1 (c:=eW sb pv qv false fuel (used+1) s.st.length (ee gb) (.slice ca nF b8) G mo) fB rfl (by rw [q];rfl) ?_;have b5:aC D 4 12=true->aC D 4 4=true:=fun _=>rfl
   rotate_left;rotate_left;obtain rfl:=bQ ‹_›;apply aH;rotate_left
   obtain rfl:=bO ‹_›;apply ah Jq;rotate_left
   obtain rfl:=cM ‹_›;refine cS (v:=ax (kk:Int)) aw (by rw [f.cellS (b3.1 _ _ c9),<- g6];rfl) ?_;rotate_left
   obtain rfl:=cA ‹_›;obtain rfl:=de ‹_›;refine U8 f 2 rfl jo (n:=kk) k2 ?_;rotate_left
   obtain rfl:=co ‹_›;apply aH;rotate_left
   obtain rfl:=bU ‹_›;apply ah eU;rotate_left
   obtain rfl:=cC ‹_›;obtain rfl:=dv ‹_›;refine dD f 1 (n:=1) rfl (by rw [fB];rfl) rfl (l9 rfl) (by simp [Value.cells,Value.oneCell']) fun w_ f=>?_;obtain ⟨nF,hF⟩:∃ a,a=kk:=⟨_,rfl⟩
   have Z:aC D 12 12=false->O.length=nF:=fun h=>Bool.noConfusion h;have b5:aC D 12 12=true->aC D 12 4=true:=fun _=>by assumption
   have M:aC D 12 12=true->nF=kk:=fun _=>hF;have f:Inv w X ([ay b4 #[t0,t1,t2,t3] ab,g7 sp (eW sb pv qv false fuel (used+1) s.st.length (ee gb) (.slice ca nF b8) G mo),chI (.slice ca O.length b8) O,noI G B]++aN sb mb es ck tv tr) SP w_:=by rw [hF];exact f
   rotate_left
   all_goals try exact ⟨l.set _ (by first|rfl|assumption|trivial),nF,Z,b5,M,f⟩
   obtain ⟨rfl,rfl,rfl,rfl,rfl,rfl,rfl,rfl,rfl,rfl,rfl,rfl,_,_⟩:=l.all;clear l co cn bP cj cA bQ bO cM de dv bU cC cY;have g5:=M (by assumption);rw [g5] at f;clear M Z b5;have f:=f.cutRow (i:=2) rfl (n:=kk) k2 hK.ch.hk;refine aH (ah oQ (cS (v:=.pointer d1) eO (by rw [f.cellS (b3.1 _ _ c9)];rfl) (aH (cX f 1 rfl jD eO rfl rfl rfl fun w' f=>?_))));refine ⟨_,_,SP,rfl,f.sub (kA _ _),b3,rfl,_,⟨es,ck,tv,tr,ms.take kk,.pointer d1,.slice ca kk b8,O.take kk,G,B,mo,_,rfl,fun s' d6=>?_⟩,fun _=>rfl⟩;cases d6;refine ⟨rfl,f0.mono b3.1,hK.km.upS b3.1,?_,d9,?_,j9⟩
   ·have:=(hK.ch.monoR fun _ _=>RdCI.mono b3.1).take kk;rw [Qx] at this;rw [g6];exact this
   ·rw [g6];exact hK.mkI.cut (by omega)
 rw [h6];refine aE (fun h=>by cases h) (fun _=>?_);refine av f 0 ac rfl rfl (Run.callPure lG lq f (jQ c7) fun w' f=>?_);have o8:=gG e1 d7;rcases Y with ⟨e2,e3,c,hB,Y⟩|⟨e2,Y⟩
 ·rw [e2];refine aE (fun _=>?_) (fun h=>by cases h);have n3:=f;repeat clear f
  refine ⟨fun D x7 V5 Qt Kb FT Ee DV w_=>Fx D 0 [DV=ee sp,Ee=ee sp,FT=ee sp,Kb=ee sb,Qt=.agg #[t0,t1,t2,t3],V5=ax c,x7=ax c]/\∃ (b6:Array MapEntry) (b9:Nat) (c0:Value) (b7:List Int),(D 5=false->es=b6/\ck=b9/\tv=c0/\tr=b7)/\(D 5=true->KnownM SP b6 e3/\Tr s.st e3 tr b7)/\Inv w X ([ay b4 #[t0,t1,t2,t3] ab,g7 sp (eW sb pv qv nc fuel (used+1) s.st.length (ee gb) cv G mo),chI cv O,noI G B]++aN sb mb b6 b9 c0 b7) SP w_,⟨Fx.nil _ _,⟨es,ck,tv,tr,fun _=>⟨rfl,rfl,rfl,rfl⟩,aU,n3.draw⟩⟩,⟨?_,?_,?_,?_,?_,?_,?_,trivial⟩,?_⟩;all_goals (intro D bw;intros;rename_i x7 V5 Qt Kb FT Ee DV w_ a6;have l:=a6.1;obtain ⟨⟨co,cn,bP,cj,cA,bQ,bO,_⟩,⟨b6,b9,c0,b7,c6,e5,f⟩⟩:=a6)
  rotate_left;obtain rfl:=co ‹_›;apply aH;rotate_left
  obtain rfl:=cn ‹_›;apply ah iH;rotate_left
  obtain rfl:=bP ‹_›;refine aD (b:=sp) f 1 (c:=eW sb pv qv nc fuel (used+1) s.st.length (ee gb) cv G mo) gP rfl rfl ?_;rotate_left
  apply av f 0 ac rfl rfl;rotate_left
  obtain rfl:=cj ‹_›;obtain rfl:=cA ‹_›;obtain ⟨rfl,rfl,rfl,rfl⟩:=c6 bw;refine Run.callE (A:=[_,_,_,_]) tI ui f (AU (N:=s.st.length) (by omega) hs.good ⟨d7,by omega⟩ g3.okN e2 hB c7 (hK.km.upS b3.1) (by omega)) fun v' I' S4 w_=>?_;rintro ⟨eS,rfl,b6,b9,c0,b7,rfl,d3,_,e6⟩ _ f;rw [eS] at f;have c6:aC D 5 5=false->es=b6/\ck=b9/\tv=c0/\tr=b7:=fun h=>Bool.noConfusion h;have e5:aC D 5 5=true->KnownM SP b6 e3/\Tr s.st e3 tr b7:=fun _=>⟨d3,e6⟩
  rotate_left;obtain rfl:=bQ ‹_›;rotate_left
  all_goals try exact ⟨l.set _ (by first|rfl|assumption|trivial),b6,b9,c0,b7,c6,e5,f⟩
  obtain ⟨rfl,rfl,rfl,rfl,rfl,rfl,rfl,_⟩:=l.all;clear l co cn bP cj cA bQ bO;obtain ⟨d3,e6⟩:=e5 (by assumption);clear e5 c6;have n4:=hB.good hs.good e2 ⟨d7,by omega⟩;have f7:=n4.len;have o9:=e6.short;have k3:SeaK SP s.chs (s.nodes++[⟨t,g.up,-1⟩]) e3 ms b7 b6 O B:=⟨d3,hK.ch.monoR fun _ _=>RdCI.mono b3.1,d9,hK.mkI.go (TrG.of e6),by omega⟩
  apply bn;rcases Y with ⟨rfl,rfl,rfl⟩|⟨rfl,hb,rfl⟩|⟨h0,h1,rfl,rfl⟩
  ·refine aJ (fun _=>?_) (fun h=>absurd rfl h);refine aH (ah oQ (cS (v:=.pointer d1) eO (by rw [f.cellS (b3.1 _ _ c9)];rfl) (aH (cX f 1 rfl jD eO rfl rfl rfl fun w' f=>?_))));refine ⟨_,_,SP,rfl,f.sub (kA _ _),b3,rfl,_,⟨b6,b9,c0,b7,ms,.pointer d1,cv,O,G,B,mo,_,rfl,fun s' d6=>?_⟩,fun _=>rfl⟩;cases d6;exact ⟨by rw [f7],f0.mono b3.1,k3⟩
  ·refine aJ (fun h=>by cases h) (fun _=>?_);refine bn (aJ (fun _=>?_) (fun h=>absurd rfl h));refine Run.callE (A:=[_]) mh l8 f (z0 hp f8 hb (g8 hs.chs _) (by omega) c8 f7 (h4.mono b3.1 fun _ _=>RdC.mono b3.1) k3) fun v' I' S9 w'=>?_;rintro ⟨rfl,hQ⟩ d4 f;exact ⟨_,_,S9,rfl,f.sub (kA _ _),b3.trans d4,rfl,_,hQ,fun _=>rfl⟩
  ·refine aJ (fun h=>absurd h h0) (fun _=>?_);refine bn (aJ (fun h=>absurd h h1) (fun _=>?_));refine Run.callPure Um TS f (Rt c SP) fun w' f=>?_;exact ⟨_,_,SP,rfl,f.sub (kA _ _),b3,rfl,_,SeaQ.none,fun h=>by cases h⟩
 rw [e2];refine aE (fun h=>by cases h) (fun _=>?_);obtain ⟨pa,c1,l2,-⟩:=id h4;subst l2;have n5:=h4.monoC b3.1;have n6:=f;repeat clear f
 refine ⟨fun D x8 YS h8 h9 i0 i1 i2 i3 w_=>Fx D 0 [i3=ee sp,i2=ee sp,i1=eu sp 1,i0=.slice pa p.length c1,h9=.agg #[t0,t1,t2,t3],h8=.agg (cW t).cells.toArray,True,True]/\(D 7=true->D 6=true/\x8=YS)/\Inv w X (([ay b4 #[t0,t1,t2,t3] ab,g7 sp (eW sb (.slice pa p.length c1) qv nc fuel (used+1) s.st.length (ee gb) cv G mo),chI cv O,noI G B]++aN sb mb es ck tv tr)++(match D 6 with|true=>[dI YS (hH p t)]|false=>[])) SP w_,⟨Fx.nil _ _,⟨aU,by rw [dc];exact n6.draw⟩⟩,⟨?_,?_,?_,?_,?_,?_,?_,?_,trivial⟩,?_⟩;all_goals (intro D bw;intros;rename_i x8 YS h8 h9 i0 i1 i2 i3 w_ a6;have l:=a6.1;obtain ⟨⟨co,cn,bP,cj,cA,bQ,bO,cM,_⟩,⟨e7,f⟩⟩:=a6)
 rotate_left;obtain rfl:=co ‹_›;apply aH;rotate_left
 obtain rfl:=cn ‹_›;apply ah sW;rotate_left
 obtain rfl:=bP ‹_›;refine aD (b:=sp) f 1 (c:=eW sb (.slice pa p.length c1) qv nc fuel (used+1) s.st.length (ee gb) cv G mo) vE rfl rfl ?_;rotate_left
 apply av f 0 ac rfl rfl;rotate_left
 obtain rfl:=cA ‹_›;refine Run.callPure LM Mw f (CJ c7) fun w_ f=>?_;rotate_left
 obtain rfl:=cj ‹_›;obtain rfl:=bQ ‹_›;rw [bw,dc] at f;refine Run.call0 Gv GK f (Dz (cW t) n5 (by omega)) fun v1 I' S2 w_=>?_;rintro ⟨rfl,rfl⟩ _ f;have e7:aC D 6 7=true->aC D 6 6=true/\x8=v1:=fun h=>absurd (e7 h).1 (by rw [bw];decide);rotate_left
 have Ky:=bO ‹_›;have e7:aC D 7 7=true->aC D 7 6=true/\YS=YS:=fun _=>⟨by assumption,rfl⟩
 rotate_left
 all_goals try exact ⟨l.set _ (by first|rfl|assumption|trivial),e7,f⟩
 obtain ⟨rfl,rfl,rfl,rfl,rfl,rfl,Ky,Fi,_⟩:=l.all;clear l co cn bP cj cA bQ bO cM;obtain ⟨q6,rfl⟩:=e7 (by assumption);rw [q6] at f;clear e7;obtain ⟨S7,g9,h5,f2⟩:=Inv.lendI f;clear f;obtain ⟨la,f6,rfl,-⟩:=id h5;have c5:=b3.trans g9;refine aI h5 cU (bn ?_);have p0:(hH p t).length<=p.length:=xb _ _ _;rcases Y with ⟨hf,rfl,rfl⟩|⟨hf,o1,m,hT,Y⟩
 ·refine aJ (fun _=>?_) (fun h=>absurd (by rw [hf];rfl) h);exact ⟨_,_,S7,rfl,f2.sub (kA _ _),c5,rfl,_,SeaQ.none,fun h=>by cases h⟩
 refine aJ (fun h=>absurd (iy (by omega)) hf) (fun _=>?_);refine ⟨fun v w'=>v=.slice la (hH p t).length f6/\Inv w X ([ay b4 #[t0,t1,t2,t3] ab]++uY sp sb mb (.slice pa p.length c1) qv nc fuel (used+1) s.st.length (ee gb) cv O G B mo es ck tv tr) S7 w',?_,?_⟩
 ·refine aH (ad f2 1 rfl NE WY rfl (aE (fun h=>by cases h) (fun _=>?_)));exact ⟨rfl,f2⟩
 repeat clear f2
 intro vl _ _ _ _ _ _ _ _ _ _ _ w';rintro ⟨rfl,f⟩;have n7:=f;clear f;have n8:SeaK S7 s.chs (s.nodes++[⟨t,g.up,-1⟩]) s.st ms tr es O B:=⟨hK.km.upS c5.1,hK.ch.monoR fun _ _=>RdCI.mono c5.1,d9.monoR fun _ _=>RdNI.mono g9.1,hK.mkI,j9⟩
 refine ⟨fun D YM Yw Yr YQ YK i4 i5 i6 i7 w_=>Fx D 0 [i7=ee sp,i6=.agg #[t0,t1,t2,t3],i5=ax (a4.length:Int),i4=.slice la (hH p t).length f6,YK=ee gb,YQ=ee gb,Yr=eu gb 6,Yw=.pointer d1,True]/\∃ (I1:List Item) (S8:ae),(D 8=false->I1=uY sp sb mb (.slice pa p.length c1) qv nc fuel (used+1) s.st.length (ee gb) cv O G B mo es ck tv tr/\S8=S7)/\(D 8=true->Ov sp sb mb (.slice pa p.length c1) qv nc fuel (used+1) (ee gb) s.chs (s.nodes++[⟨t,g.up,-1⟩]) s.st tr ms t (a4.length:Int) gs o1 m YM I1 S8)/\Ext w.heap.size X S7 S8/\Inv w X ([ay b4 #[t0,t1,t2,t3] ab]++I1) S8 w_,⟨Fx.nil _ _,⟨_,S7,fun _=>⟨rfl,rfl⟩,aU,Ext.refl _ _ _,n7.draw⟩⟩,⟨?_,?_,?_,?_,?_,?_,?_,?_,?_,trivial⟩,?_⟩;all_goals (intro D bw;intros;rename_i YM Yw Yr YQ YK i4 i5 i6 i7 w_ a6;have l:=a6.1;obtain ⟨⟨co,cn,bP,cj,cA,bQ,bO,cM,de,_⟩,⟨I1,S8,c3,e8,c2,f⟩⟩:=a6)
 rotate_left;apply av f 0 ac rfl rfl;rotate_left;rotate_left;rotate_left;rotate_left
 obtain rfl:=cA ‹_›;apply aH;rotate_left
 obtain rfl:=bQ ‹_›;apply ah oQ;rotate_left
 obtain rfl:=bO ‹_›;refine cS (v:=.pointer d1) eO (by rw [f.cellS ((c5.trans c2).1 _ _ c9)];rfl) ?_;rotate_left
 obtain rfl:=co ‹_›;obtain rfl:=cn ‹_›;obtain rfl:=bP ‹_›;obtain rfl:=cj ‹_›;obtain rfl:=cM ‹_›;obtain ⟨q1,q2⟩:=c3 bw;rw [q1,q2] at f;refine Run.callE (A:=[_]) ut tJ f (Mg hp f8 hT hs.good hs.tab ⟨⟨d7,by omega⟩,g3⟩ (by omega) (c7.mono g9.1) h5 (f0.mono c5.1) (h4.monoC c5.1) n8 ⟨by omega,by omega⟩ c8) fun v' I1 S8 w_=>?_;intro g0 c2 f;have c3:aC D 8 8=false->I1=uY sp sb mb (.slice pa p.length c1) qv nc fuel (used+1) s.st.length (ee gb) cv O G B mo es ck tv tr/\S8=S7:=fun h=>Bool.noConfusion h;have e8:aC D 8 8=true->Ov sp sb mb (.slice pa p.length c1) qv nc fuel (used+1) (ee gb) s.chs (s.nodes++[⟨t,g.up,-1⟩]) s.st tr ms t (a4.length:Int) gs o1 m v' I1 S8:=fun _=>g0;rotate_left
 all_goals try exact ⟨l.set _ (by first|rfl|assumption|trivial),I1,S8,c3,e8,c2,f⟩
 obtain ⟨rfl,rfl,rfl,rfl,rfl,rfl,rfl,rfl,Db,_⟩:=l.all;clear l co cn bP cj cA bQ bO cM de;have g0:=e8 (by assumption);clear e8 c3;obtain ⟨rfl,l3,l4,l5,l6,l7,m0,m1,j6,m2,j8,m3,rfl,hm⟩:=g0;have d4:=c5.trans c2;have k4:=f.sub (kA _ _);obtain ⟨j1,j2,j3⟩:=hT.ok hp hs.good hs.tab ⟨⟨d7,by omega⟩,g3⟩;rcases Y with ⟨r,rfl,rfl,rfl⟩|⟨rfl,hb,rfl⟩
 ·refine aE (fun _=>?_) (fun h=>by cases h);obtain ⟨_,_,_,j4,j5,_⟩:=j3 r rfl;refine ⟨_,_,S8,rfl,k4,d4,rfl,_,⟨l3,l4,l5,l6,l7,m0,m1,j6,m2,j8,m3,_,rfl,fun s' d6=>?_⟩,fun _=>rfl⟩;cases d6;rw [<- m5];exact ⟨by show (m:Int)=(r.st.length:Int);omega,hm.1,hm.2⟩
 ·refine aE (fun h=>by cases h) (fun _=>?_);obtain ⟨rfl,rfl,rfl,m4⟩:=hm;have p1:=j2 rfl;refine Run.callE (A:=[]) mh l8 k4 (z0 hp f8 hb ((g8 hs.chs _).mono j1 (be _)) (by omega) c8 (dj j1) (h4.monoC d4.1) m4) fun v' I' S9 w'=>?_;rintro ⟨rfl,hQ⟩ i8 f;exact ⟨_,_,S9,rfl,f,d4.trans i8,rfl,_,hQ,fun _=>rfl⟩
end
end
section
open Go Go.RowKit
theorem Pv {st:au}:∀ {ts us:List T},Res st (.list ts us)->us.length=ts.length
 | _,_,.nil=>rfl
 | _,_,.cons _ h=>by rw [bI,bI,Pv h]
theorem Kr {N:Nat}:∀ {us:List T},(∀ u∈us,bL u=true/\okU N u)->wL us<=840 * us.length
 | [],_=>by simp [wL]
 | u::us,h=>by
  have f:=gG (h u (bi ..)).1 (h u (bi ..)).2;have g:=Kr fun x a=>h x (bk _ a);rw [wL,bI];omega
theorem Bu {N:Nat} {n:Int} (h:0<=n/\n<N):okU N (Td n):=by
 show okU N (.mk 1 n emptyB []);rw [okU,du];exact ⟨by decide,fun _=>⟨h.1,by omega,rfl,rfl⟩,trivial,Fb⟩
theorem aaR (S:ae) {n:Int} (h:0<=n/\n<1000000000):RdT S [ax 1,ax n,.string ⟨#[]⟩,hV] (Td n):=
 RdT.nil (by simp [inI]) (by simp only [inI];omega) (show 0<=maxLen from bf _) (by simp [maxLen])
section
variable {P:Program} {w:World} {K:Value->World->Prop}
theorem Z4 {T e:TypeId} {a f:Bool} {p:Option Addr} (g:P.underlying T=some (.pointer e)) (hk:K (.bool p.isSome) w):Run P (dH .neq T a f (.pointer p) (.pointer none)) w K:=by
 refine Run.of (v:=.bool p.isSome) (w':=w) ?_ hk;have h:(Op.equal T (.pointer p) (.pointer none)).run P w=.ok p.isNone w:=by
  rw [Op.equal,Op.maxDepth,Op.equalIn.eq_def];cases p <;> simp [run_underlying g]
 have i:∀ x y,(eqGuard .neq T x y (.pointer p) (.pointer none)).run P w=.ok () w:=fun x y=>by unfold eqGuard;simp
 simp only [dH,binOp,Sem.run_bind,i,Result.andThen_ok,h,Sem.run_pure];cases p <;> rfl
end
section
set_option maxHeartbeats 1000000 in
theorem Ni {st:au} (hg:Good st.length st) (c0:st.length<=1000000) {vars:List Int} (hv:∀ n∈vars,0<=n/\n<st.length) (c1:vars.length<=1000) {o:Option (List T)} (h:ValsI st vars o) {S:ae} {v:Value} (O:RdSl S 1 gW v vars)
  {sb mb ck:Nat} {j:Array MapEntry} {tv:Value} {tr:List Int} (a3:KnownM S j st) :
  kt Ei [ee sb,v] (aN sb mb j ck tv tr) S fun q I' S'=>I'=aN sb mb j ck tv tr/\match o with
   | none=>q=.tuple #[.slice none 0 0,.bool false]
   | some vs=>∃ u,q=.tuple #[u,.bool true]/\RdSl S' 4 (RdT S') u vs:=by
 intro w a;obtain ⟨X,hX⟩:∃ X,X=bS (aN sb mb j ck tv tr):=⟨_,rfl⟩
 rw [<- hX] at a ⊢;obtain ⟨us,D,B⟩:=h;have b4:=Pv D;rw [nN] at b4;have b5:∀ (k:Nat) (hk:k<us.length),okU st.length us[k]:=fun k hk=>by
  refine kz hg (Ou D k (by rw [nN];omega) hk) ?_;rw [M4];exact Bu (hv _ (bJ _))
 refine qx.2 ?_;dsimp only[qx,bl];refine aI O cU ?_;have a:Inv w X ([aK (hV) ab 4 []]++aN sb mb j ck tv tr) S w:=(a.rowNil ab 4).perm (cT (l₁:=[_]));refine ⟨fun i t w'=>∃ (k:Nat) (css:List (hZ)) (S1:ae),k<=vars.length/\i=ax (k:Int)/\Ext w.heap.size X S S1/\Rows 4 (RdT S1) css (us.take k)/\(us.take k).all bL=true/\Inv w X ([aK t ab 4 css]++aN sb mb j ck tv tr) S1 w',
  fun i _ _=>vars.length - (intOf i).toNat,⟨0,[],S,bf _,rfl,Ext.refl _ _ _,Rows.nil _ _,rfl,a⟩,?_⟩
 clear a;intro ii _ tt;(iterate 21 intro);intro w';rintro ⟨k,css,S1,hk,rfl,N,hR,g,a⟩;have b6:=hR.hc;rw [ey] at b6;refine bM (aJ (fun a7=>?_) (fun a7=>?_))
 ·have G:k<vars.length:=by omega
  have r:k<us.length:=by omega
  have Z:=hv _ (bJ G);refine gj a (O.mono N.1 fun _ _ h=>h) cU aw G (fun cs a8=>a8) (Run.callPure qH qO a (pB _ S1) fun w' a=>?_);have a0:=Ou D k (by rw [nN];omega) r;rw [M4] at a0;refine Run.callE (A:=[_]) kF kD a (vh (cs:=[ax 1,ax vars[k],.string ⟨#[]⟩,hV]) hg a0 ⟨Bu Z,by show (0+0+0:Nat)<=1048576;omega⟩ (aaR S1 ⟨Z.1,by omega⟩) (a3.upS N.1)) fun v' I' S2 w'=>?_;rintro ⟨rfl,l,m,U,rfl,a4⟩ f a;refine al rfl (al rfl (aG a aV fun b9 w' a=>?_));refine aq a 4 rfl ac (by simpa using m) rfl (by simpa using U) fun w' a=>?_;apply cq;cases J:bL us[k] with
  | false=>
   refine aE (fun _=>?_) (fun h=>by cases h);have b7:us.all bL=false:=Zf.2 ⟨us[k],bJ r,by rw [J];decide⟩;rw [b7] at B;rw [af (by simp)] at B;subst B;have a:Inv w X (([aK tt ab 4 css]++aN sb mb j ck tv tr)++[ay b9 l.toArray ab]) S2 w':=a;exact ⟨_,_,S2,rfl,(a.sub (eh _ _)).sub (eR _ _),N.trans f,rfl,rfl⟩
  | true=>
   refine aE (fun h=>by cases h) (fun _=>?_);refine av a 4 ac rfl (by simpa using m) ?_;have a:Inv w X (([aK tt ab 4 css]++aN sb mb j ck tv tr)++[ay b9 l.toArray ab]) S2 w':=a;have a:=a.sub (eh _ _);refine ei a 0 l bx (by omega) (by omega) rfl m U (by omega) (by omega) fun v' w' a=>?_;refine bA (by omega) ?_;refine ⟨⟨k+1,css++[l],S2,G,rfl,N.trans f,?_,?_,a⟩,by simp only [intOf,dq];omega⟩
   ·rw [gh r];exact (hR.monoR fun _ _=>RdT.mono f.1).snoc (a4 J) m
   ·rw [gh r,List.all_append,g];simp [J]
 ·have b8:k=us.length:=by omega
  rw [b8,fM] at hR g;have c2:=Kr (us:=us) fun u hu=>by
   obtain ⟨i,hi,rfl⟩:=CV hu;exact ⟨eX.1 g _ hu,b5 i hi⟩
  have c3:=DH us;have a:Inv w X (aN sb mb j ck tv tr++[aK tt ab 4 css]) S1 _:=a.perm cT;obtain ⟨S2,f,b0,b1⟩:=a.lendExt;have a1:=RowRd.rows (hR.monoR fun _ _=>RdT.mono f.1) b0;refine Run.call0 uL wz b1 (te a1 (by omega)) fun v1 I' S3 w'=>?_;rintro ⟨rfl,rfl⟩ _ V;refine mG V 3 rfl cU (ew ?_);have a2:=V.sub (eh _ _);rw [g] at B;refine aJ (fun a9=>?_) (fun a9=>?_)
  ·rw [af (by omega)] at B;subst B;exact ⟨_,_,_,rfl,a2,N.trans f,rfl,rfl⟩
  ·rw [ai ⟨rfl,by omega⟩] at B;subst B;refine Run.call0E GX GS a2 (En a1 (by omega)) fun v' I' S5 w'=>?_;rintro ⟨rfl,M,rfl,hT⟩ a5 a6;obtain ⟨S9,b2,b3,Y⟩:=Inv.pubExt a6;exact ⟨_,_,S9,rfl,b2,(N.trans f).trans (a5.trans b3),rfl,_,rfl,hT.rd Y fun _ _ _ hi h=>h.rd hi⟩
end
end
end Go.Proofs.YtellfcpffcipcaaGreatDoor
