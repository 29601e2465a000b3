/- impl's search in memory: try. -/
import Derived.Test.YtgllldjiaglkcaaGreatDoorZUf20
namespace Go.Proofs.YtgllldjiaglkcaaGreatDoor
section
open Go Go.RowKit
abbrev dX (sb:Nat) (pv qv:Value) (nc:Bool) (fuel used fresh:Int) (gv cv nv:Value) (mo:Int):Array Value:=
 #[.pointer (some ⟨sb,0,none⟩),pv,qv,.bool false,.bool nc,.int .i64 fuel,.int .i64 used,.int .i64 fresh,gv,cv,nv,.int .i64 mo]
abbrev fL (sp:Nat) (c:Array Value):Item:=.blk sp (.cells c o5)
abbrev chI (cv:Value) (ccs:List (List Value)):Item:=aA cv ek 9 ccs
abbrev noI (nv:Value) (ncs:List (List Value)):Item:=aA nv lX 6 ncs
abbrev jo (a:Option Addr) (cap n l:Nat):Value:=.slice (if cap=l then a else a.map (·.add (l * 1))) (n - l) (cap - l)
abbrev chC (a0 a1 a2 a3:Value) (at_:Int) (gp:Option Addr) (lv:Value) (m n:Int):List Value:=[a0,a1,a2,a3,.int .i64 at_,.pointer gp,lv,.int .i64 m,.int .i64 n]
theorem XQ {f g i o:Value} (h:∀ u∈[f,g,i,o],u.oneCell'=true) {at_:Int} {r:Option Addr} {a:Option Addr} {c l t:Nat} {m n:Int}:∀ u∈chC f g i o at_ r (jo a c l t) m n,u.oneCell'=true:=by
 intro u q;simp only [bY,i6,i9] at q;rcases q with rfl|rfl|rfl|rfl|rfl|rfl|rfl|rfl|rfl <;> first|rfl|exact h _ (by simp)
def RdCI (S:ae) (cs:List Value) (x:CI × Nat):Prop:=∃ a0 a1 a2 a3 gp lv,cs=[a0,a1,a2,a3,.int .i64 x.1.node,gp,lv,.int .i64 (x.2:Int),.int .i64 (x.1.taken:Int)]/\RdT S [a0,a1,a2,a3] x.1.goal/\GL S gp x.1.rest/\RdSl S 1 jD lv x.1.left
def RdNI (S:ae) (cs:List Value) (x:NI):Prop:=∃ a0 a1 a2 a3,cs=[a0,a1,a2,a3,.int .i64 x.up,.int .i64 x.clause]/\RdT S [a0,a1,a2,a3] x.goal
theorem RdCI.mono {S S':ae} (a:Sle S S') {cs:List Value} {x:CI × Nat} (h:RdCI S cs x):RdCI S' cs x:=by
 obtain ⟨l,m,o,q,r,t,rfl,f,g,i⟩:=h;exact ⟨_,_,_,_,_,_,rfl,f.mono a,g.mono a,i.mono a fun _ _ h=>h⟩
theorem RdNI.mono {S S':ae} (a:Sle S S') {cs:List Value} {x:NI} (h:RdNI S cs x):RdNI S' cs x:=by
 obtain ⟨g,i,l,m,rfl,f⟩:=h;exact ⟨_,_,_,_,rfl,f.mono a⟩
theorem KnownM.upS {S S':ae} {f:Array MapEntry} {st:aj} (h:KnownM S f st) (g:Sle S S'):KnownM S' f st:=
 ⟨fun e i=>by
  obtain ⟨n,t,cs,a,b,c,d⟩:=h.1 e i;exact ⟨n,t,cs,a,b,c.mono g,d⟩,h.2⟩
structure SeaK (S:ae) (chs:List CI) (nodes:List NI) (st:aj) (ms:List Nat) (tr:List Int) (es:Array MapEntry) (ccs ncs:List (List Value)):Prop where
 km:KnownM S es st
 ch:Rows 9 (RdCI S) ccs (chs.zip ms)
 nd:Rows 6 (RdNI S) ncs nodes
 mkI:MkI chs ms st tr
 tb:tr.length+unb st<=st.length
theorem SeaK.mono {S S':ae} {chs:List CI} {nodes:List NI} {st:aj} {g:List Nat} {tr:List Int} {i:Array MapEntry} {a ncs:List (List Value)} (h:SeaK S chs nodes st g tr i a ncs) (f:Sle S S'):SeaK S' chs nodes st g tr i a ncs:=
 ⟨h.km.upS f,h.ch.monoR fun _ _=>RdCI.mono f,h.nd.monoR fun _ _=>RdNI.mono f,h.mkI,h.tb⟩
theorem KnownM.g26 {S:ae} {g:Array MapEntry} {st:aj} (h:KnownM S g st):KnownM S g (g26 st):=by
 obtain ⟨l,m,o⟩:=h;refine ⟨fun e i=>?_,fun n t hn=>?_,o⟩
 ·obtain ⟨n,t,cs,a,b,c,d⟩:=l e i;have f:n<st.length:=(fa.1 d).1;exact ⟨n,t,cs,a,b,c,by unfold Go.Proofs.YtgllldjiaglkcaaGreatDoor.g26; rw [wo f]; exact d⟩
 ·unfold Go.Proofs.YtgllldjiaglkcaaGreatDoor.g26 at hn;by_cases f:n<st.length
  ·rw [wo f] at hn;exact m n t hn
  ·rw [gG (by omega),MN] at hn;split at hn <;> simp at hn
section
variable {P:Program} {w:World} {K:Value->World->Prop}
attribute [local irreducible] Run
theorem ZK {cs:List Bool} {a b:Int} (hk:K (.int .i64 (if a<b then b else a)) w):Run Tryz.prog (cm .max #[cO,cO] cO cs [.int .i64 a,.int .i64 b]) w K:=by
 refine Run.of ?_ hk;simp [cm,builtin,Builtin.max_,Builtin.max2]
end
section
variable {P:Program} {w w0:World} {X:List Nat} {L:List Item} {S:ae} {K:Value->World->Prop}
attribute [local irreducible] Run CondV aq aK
theorem kN (h:Inv w0 X L S w) (i:Nat) {T ty e:TypeId} {cs:List Bool} {k n:Nat} {v:Value} {xs:List Value} {Ek:TypeId × Nat} (f:L[i]?=some (.row v e k n xs)) (a:dl P T=some Ek) (hk:K (.int .i64 (n:Int)) w) :
  Run P (cm .len #[T] ty cs [v]) w K:=by
 have l:w.ownsRow 0 e k v n xs:=h.its (.row v e k n xs) (cz f);rcases l.2 with ⟨rfl,hn⟩|⟨g,cap,m,rfl,_⟩
 ·subst hn;exact iA a hk
 ·exact iA a hk
end
def Li (sp sb mb:Nat) (pv qv:Value) (nc:Bool) (fuel used:Int) (gv0:Value) (chs:List CI) (nodes:List NI) (st:aj) (tr:List Int) (ms:List Nat) (g:T) (at_:Int) (rest:List GI) (o:Option HI) (n:Nat):Value->List Item->ae->Prop:=fun q I' S'=>
 q=.bool o.isSome/\∃ es' ck' tv' tr' ms' gv' cv' ccs' nv' ncs' mo',I'=[fL sp (dX sb pv qv nc fuel used n gv' cv' nv' mo'),chI cv' ccs',noI nv' ncs']++aB sb mb es' ck' tv' tr'/\
  match o with
  | none=>gv'=gv0/\tr'=tr/\ms'=ms/\SeaK S' chs nodes (bI st n) ms tr es' ccs' ncs'
  | some r=>GL S' gv' (gC chs nodes g at_ rest st r).goals/\SeaK S' (gC chs nodes g at_ rest st r).chs (gC chs nodes g at_ rest st r).nodes r.st ms' tr' es' ccs' ncs'
theorem TryI.inv {p:List C} {g:T} {x:Int} {l:List Int} {st:aj} {o:Option HI} {n:Nat} (h:TryI p g (x::l) st o n):∃ (i:Nat) (cl:C) (r:Bool) (a:aj),x=i/\p[i]?=some cl/\Uni (g26 st) (.one g (bp st.length cl.head)) r a/\
  ((r=true/\o=some ⟨i,cl,st.length,l,a⟩/\n=st.length+26) ∨ (r=false/\TryI p g l (g26 st) o n)):=by
 cases h with
 | hit f m=>exact ⟨_,_,_,_,rfl,f,m,.inl ⟨rfl,rfl,rfl⟩⟩
 | miss f m q=>exact ⟨_,_,_,_,rfl,f,m,.inr ⟨rfl,q⟩⟩
theorem Wd (ns:List NI) (a:Nat) (i:Int) (h:a<ns.length):LQ ns a i=ns.set a ⟨ns[a].goal,ns[a].up,i⟩:=by
 unfold LQ;apply vO;intro j;rw [List.getElem?_modify,Dk];split
 ·rename_i e
  subst e;rw [ew h];rfl
 ·cases ns[j]? <;> rfl
theorem Jb {t:T} (h:okU 26 t):okV t:=za t h
section
attribute [local irreducible] Run CondV aq aK
set_option maxHeartbeats 2000000 in
theorem Jc {p:List C} (hp:∀ cl∈p,ie cl) (k3:∀ cl∈p,cl.body.length<=1048576) {g:T} {l:List Int} {st:aj} {o:Option HI} {n:Nat} (ht:TryI p g l st o n) (k4:Good st.length st) (k5:tabM st) (g8:(okU st.length g/\wT g<=1048576)/\okM g)
  (hn:st.length+26 * l.length<=900000) {S:ae} {d3:List Value} {lv gv b4 pv qv cv nv tv:Value} {rest:List GI} {chs:List CI} {nodes:List NI} {ms:List Nat} {tr:List Int} {es:Array MapEntry} {b5 ncs:List (List Value)}
  {sp sb mb ck:Nat} {nc:Bool} {fuel used at_ mo:Int} (h1:RdT S d3 g) (h2:RdSl S 1 jD lv l) (h3:GL S gv rest) (h4:RdSl S 5 (RdC S) pv p) (hK:SeaK S chs nodes st ms tr es b5 ncs) (r9:0<=at_/\at_<nodes.length) (e9:chs.length<=1000000) :
  Tri Tryz.prog EH [.pointer (some ⟨sp,0,none⟩),.agg d3.toArray,.int .i64 at_,lv,gv] ([fL sp (dX sb pv qv nc fuel used st.length b4 cv nv mo),chI cv b5,noI nv ncs]++aB sb mb es ck tv tr) S
   (Li sp sb mb pv qv nc fuel used b4 chs nodes st tr ms g at_ rest o n):=by
 intro w t;obtain ⟨X,hX⟩:∃ X,X=bP ([fL sp (dX sb pv qv nc fuel used st.length b4 cv nv mo),chI cv b5,noI nv ncs]++aB sb mb es ck tv tr):=⟨_,rfl⟩
 rw [<- hX] at t ⊢;have n1:=h1.length;have r3:tr.length<=900000:=by have:=hK.tb; omega
 refine ro.2 ?_;dsimp only[ro,JO];refine bJ t fun b6 w' t=>?_;have t:Inv w X ([.blk b6 (.cells d3.toArray ab),fL sp (dX sb pv qv nc fuel used st.length b4 cv nv mo),chI cv b5,noI nv ncs]++aB sb mb es ck tv tr) S w':=t.perm (cj (l₁:=[_]));refine aE ?_;refine af t 1 rfl gd fu rfl ?_;refine aE ?_;refine af t 4 rfl fX jy rfl ?_;refine kN t 6 rfl cA ?_;refine aJ h2 cA ?_;have n2:=h2.le;simp only [maxLen] at n2;refine ⟨fun i w'=>∃ (k:Nat) (G:aj) (d0:Array MapEntry) (d1:Nat) (d2:Value) (S1:ae),k<=l.length/\i=.int .i64 (k:Int)/\TryI p g (l.drop k) G o n/\G=bI st G.length/\G.length=st.length+26 * k/\Ext w.heap.size X S S1/\KnownM S1 d0 G/\
   Inv w X ([.blk b6 (.cells d3.toArray ab),fL sp (dX sb pv qv nc fuel used G.length b4 cv nv mo),chI cv b5,noI nv ncs]++aB sb mb d0 d1 d2 tr) S1 w',
  fun i _=>l.length - (intOf i).toNat,⟨0,st,es,ck,tv,S,bk _,rfl,ht,(g7 st).symm,rfl,Ext.refl _ _ _,hK.km,t⟩,?_⟩
 clear t;intro s0 _ _ p0 p1 p2 p3 p4 p5 p6 p7 p9 q0 q4 q5 q6 _ _ _ _ _ _ _ _ _ _ _ _ _ _ _ _ _ _ _ _ _ _ _ _ _ _ _ _ _ _ _ _ _ _ _ _ _ _ q7 q8 q9 s1 s2 s3 s4 s5 s6 s7 s8 s9 t0 t1 t2 t3 t4 t5 t6 t7 t8 t9 u0 _ _ _ _ _ _ _ _ _ _ _ _ _ _ _ _ _ u1 u2 u3 u4 u5 u6 u7 u8 u9 v3 v4 v6 v7 v8 v9 x0 x1 _ _ _ _ _ _ _ _ _ _ _ _ _ _ _ _ _ _ _ _ w';rintro ⟨k,G,d0,d1,d2,S1,hk,rfl,f1,c7,k6,f2,f8,t⟩;refine bS ?_;refine aL (fun l3=>?_) (fun l3=>?_)
 ·have h6:k<l.length:=by omega
  rw [dY h6] at f1;obtain ⟨i,cl,r,c9,l7,f5,hu,h5⟩:=f1.inv;have h7:i<p.length:=(fa.1 f5).1;have n3:p[i]=cl:=(fa.1 f5).2;have d9:=hp cl (cz f5);have e5:st.length<=G.length:=by omega
  have n4:Good G.length G:=by have h:=k4.to e5; rwa [<- c7] at h
  have r4:tabM G:=by have h:=k5.to G.length; rwa [<- c7] at h
  have j9:(okU G.length g/\wT g<=1048576)/\okM g:=⟨⟨gN e5 _ g8.1.1,g8.1.2⟩,g8.2⟩
  have n5:=Nh j9.1 d9;have x4:G.length<=900000:=by omega
  have r5:unb G+tr.length<=G.length:=by
   have:=hK.tb;rw [c7,ce e5];unfold bI;rw [qM];omega
  have h8:tr.length+unb (g26 G)<=1000000:=by unfold g26; rw [qM]; omega
  refine fg t (h2.mono f2.1 fun _ _ h=>h) cA aG h6 (fun cs l4=>l4) ?_;rw [l7];refine aE ?_;refine af t 1 rfl qg aG rfl ?_;refine aQ t UX fun f4 w' t=>?_;refine dy t 7 (n:=1) rfl (by rw [aG]; rfl) rfl (mL rfl) (by simp [Value.cells]; rfl) fun w' t=>?_;have t:Inv w X (([.blk b6 (.cells d3.toArray ab),fL sp (dX sb pv qv nc fuel used G.length b4 cv nv mo),chI cv b5,noI nv ncs]++aB sb mb d0 d1 d2 tr)++[.blk f4 (.cells #[.int .i64 (G.length:Int)] cO)]) S1 w':=t;obtain ⟨S2,t,j0,j1⟩:=Inv.pub1 t;refine aE ?_;refine af t 1 rfl qg aG rfl ?_;refine bC (by omega) ?_;refine aE ?_;refine dj t 1 rfl qg aG rfl rfl rfl fun w' t=>?_;refine mP ?_;have e2:=f2.trans j0;obtain ⟨pb,po,g0,pc,pE,x2,j2,j3,j4⟩:=h4.at_ h7;rw [n3] at j4;obtain ⟨hd,kb,f6,j5,l8⟩:=j4;have k0:=j5.length;have g3:=Ts (S:=S2) (by_:=(G.length:Int)) j1 (by omega);have h9:((G.length:Int)+26)=((g26 G).length:Int):=by rw [kD]; omega
  have n6:Inv w X ([.blk b6 (.cells d3.toArray ab),fL sp (dX sb pv qv nc fuel used ((g26 G).length:Int) b4 cv nv mo),chI cv b5,noI nv ncs]++aB sb mb d0 d1 d2 tr) S2 w':=by rw [<- h9]; exact t
  repeat clear t
  refine ⟨fun D IK EQ Gi Eh Fa EG E3 GO JR Jd Gr r8 Cu Cw zl yZ sx w_=>Fx D 0 [sx=.pointer (some ⟨sp,0,none⟩),yZ=.pointer (some ⟨sp,0,none⟩),zl=.pointer (some ⟨sp,0,none⟩),Cw=.pointer (some ⟨sb,0,none⟩),Cu=.agg d3.toArray,r8=.pointer (some ⟨sp,0,none⟩),Gr=.pointer (some ⟨sp,0,none⟩),Jd=.pointer (some ⟨sp,1,none⟩),JR=.slice (some ⟨pb,po,none⟩) p.length g0,GO=.int .i64 (i:Int),E3=.pointer (some ⟨pb,po+i * 5,none⟩),EG=.pointer (some ⟨pb,po+i * 5,none⟩),Fa=.agg hd.toArray,Eh=.func (.func p8) #[] #[.pointer (some ⟨f4,0,none⟩)],True,EQ=.bool r,IK=.bool (!r)]/\∃ (SN:ae) (V:Array MapEntry) (Y:Nat) (Z:Value) (O:List Int),Ext w.heap.size X S2 SN/\(D 14=true->∃ cs,Gi=.agg cs.toArray/\RdT SN cs (bp G.length cl.head))/\(D 15=false->d0=V/\d1=Y/\d2=Z/\tr=O)/\(D 15=true->KnownM SN V c9/\Tr (g26 G) c9 tr O)/\Inv w X ([.blk b6 (.cells d3.toArray ab),fL sp (dX sb pv qv nc fuel used ((g26 G).length:Int) b4 cv nv mo),chI cv b5,noI nv ncs]++aB sb mb V Y Z O) SN w_,⟨Fx.nil _ _,⟨S2,d0,d1,d2,tr,Ext.refl _ _ _,aI,fun _=>⟨rfl,rfl,rfl,rfl⟩,aI,n6.draw⟩⟩,⟨?_,?_,?_,?_,?_,?_,?_,?_,?_,?_,?_,?_,?_,?_,?_,?_,?_,trivial⟩,?_⟩;all_goals (intro D bH; intros; rename_i IK EQ Gi Eh Fa EG E3 GO JR Jd Gr r8 Cu Cw zl yZ sx w_ d6; have B:=d6.1; obtain ⟨⟨cI,cJ,cH,cD,cL,cN,cq,dg,dG,dL,cT,dn,dN,fE,gy,gP,iH,_⟩,⟨SN,V,Y,Z,O,hN,b3,b8,b0,t⟩⟩:=d6)
  ·exact ⟨B.set 0 rfl,⟨SN,V,Y,Z,O,hN,b3,b8,b0,t⟩⟩
  ·obtain rfl:=cI ‹_›;refine aE ?_;exact ⟨B.set 1 rfl,⟨SN,V,Y,Z,O,hN,b3,b8,b0,t⟩⟩
  ·obtain rfl:=cJ ‹_›;refine aw gd ?_;exact ⟨B.set 2 rfl,⟨SN,V,Y,Z,O,hN,b3,b8,b0,t⟩⟩
  ·obtain rfl:=cH ‹_›;refine aT (b:=sp) t 1 (c:=dX sb pv qv nc fuel used ((g26 G).length:Int) b4 cv nv mo) fu rfl rfl ?_;exact ⟨B.set 3 rfl,⟨SN,V,Y,Z,O,hN,b3,b8,b0,t⟩⟩
  ·refine aC t 0 ad rfl (by simpa using n1) ?_;exact ⟨B.set 4 rfl,⟨SN,V,Y,Z,O,hN,b3,b8,b0,t⟩⟩
  ·exact ⟨B.set 5 rfl,⟨SN,V,Y,Z,O,hN,b3,b8,b0,t⟩⟩
  ·obtain rfl:=cN ‹_›;refine aE ?_;exact ⟨B.set 6 rfl,⟨SN,V,Y,Z,O,hN,b3,b8,b0,t⟩⟩
  ·obtain rfl:=cq ‹_›;refine aw qV ?_;exact ⟨B.set 7 rfl,⟨SN,V,Y,Z,O,hN,b3,b8,b0,t⟩⟩
  ·obtain rfl:=dg ‹_›;refine aT (b:=sp) t 1 (c:=dX sb pv qv nc fuel used ((g26 G).length:Int) b4 cv nv mo) eO rfl (by rw [j2]; rfl) ?_;exact ⟨B.set 8 rfl,⟨SN,V,Y,Z,O,hN,b3,b8,b0,t⟩⟩
  ·exact ⟨B.set 9 rfl,⟨SN,V,Y,Z,O,hN,b3,b8,b0,t⟩⟩
  ·obtain rfl:=dG ‹_›;obtain rfl:=dL ‹_›;refine az bf h7 ?_;exact ⟨B.set 10 rfl,⟨SN,V,Y,Z,O,hN,b3,b8,b0,t⟩⟩
  ·obtain rfl:=cT ‹_›;refine aw bO ?_;exact ⟨B.set 11 rfl,⟨SN,V,Y,Z,O,hN,b3,b8,b0,t⟩⟩
  ·obtain rfl:=dn ‹_›;refine ci (cs:=hd) ad k0 (fun j v hj=>by rw [t.cellS ((e2.trans hN).1 _ _ j3)]; exact aF f6 j v (by rw [wo (fa.1 hj).1]; exact hj)) ?_;exact ⟨B.set 12 rfl,⟨SN,V,Y,Z,O,hN,b3,b8,b0,t⟩⟩
  ·exact ⟨B.set 13 rfl,⟨SN,V,Y,Z,O,hN,b3,b8,b0,t⟩⟩
  ·obtain rfl:=dN ‹_›;obtain rfl:=fE ‹_›;refine Run.call0E gq gh t (qK [.pointer (some ⟨f4,0,none⟩)] _ nI nz cl.head SN hd (j5.mono (e2.trans hN).1) (Jb d9.head.1.1) d9.head.1.2 (g3.mono hN.1)) fun v' I' S4 w_=>?_;rintro ⟨rfl,d7,rfl,hT⟩ i2 t;rw [tf G.length cl.head d9.head.1.1] at hT;have t:=t.sub (dt _ _);have hN:=hN.trans i2;have b3:ao D 14 14=true->∃ cs,Value.agg d7.toArray=.agg cs.toArray/\RdT S4 cs (bp G.length cl.head):=fun _=>⟨d7,rfl,hT⟩
   have b0:ao D 14 15=true->KnownM S4 V c9/\Tr (g26 G) c9 tr O:=fun h=>⟨(b0 h).1.upS i2.1,(b0 h).2⟩
   obtain ⟨SN,l9⟩:∃ a,a=S4:=⟨_,rfl⟩
   subst l9;exact ⟨B.set 14 (by first|assumption|trivial),⟨SN,V,Y,Z,O,hN,b3,b8,b0,t⟩⟩
  ·obtain rfl:=cD ‹_›;obtain rfl:=cL ‹_›;have m0:=gy ‹_›;obtain ⟨rfl,rfl,rfl,rfl⟩:=b8 bH;obtain ⟨d7,rfl,j6⟩:=b3 ‹D 14=true›;refine Run.callE (A:=[_,_,_,_]) eq eo t (gJ (by omega) n4.g26 n5 hu SN _ _ sb mb d1 d0 d2 tr (h1.mono (e2.trans hN).1) j6 ((f8.upS (j0.trans hN).1).g26) h8) fun v' I' S4 w_=>?_;rintro ⟨eS,rfl,V,Y,Z,O,rfl,k7,_,k8⟩ _ t;rw [eS] at t;have b8:ao D 15 15=false->d0=V/\d1=Y/\d2=Z/\tr=O:=fun h=>Bool.noConfusion h;have b0:ao D 15 15=true->KnownM SN V c9/\Tr (g26 G) c9 tr O:=fun _=>⟨k7,k8⟩
   have b3:ao D 15 14=true->∃ cs,Value.agg d7.toArray=.agg cs.toArray/\RdT SN cs (bp G.length cl.head):=fun _=>⟨d7,rfl,j6⟩
   exact ⟨B.set 15 rfl,⟨SN,V,Y,Z,O,hN,b3,b8,b0,t⟩⟩
  ·obtain rfl:=gP ‹_›;refine cw ?_;exact ⟨B.set 16 rfl,⟨SN,V,Y,Z,O,hN,b3,b8,b0,t⟩⟩
  obtain ⟨rfl,rfl,rfl,rfl,rfl,rfl,rfl,rfl,rfl,rfl,rfl,rfl,rfl,rfl,m0,rfl,rfl,_⟩:=B.all;clear B cI cJ cH cD cL cN cq dg dG dL cT dn dN fE gy gP iH;obtain ⟨g1,e1⟩:=b0 (by assumption);clear b8 b3 b0;have c5:=e2.trans hN;rcases h5 with ⟨rfl,ho,o8⟩|⟨rfl,o9⟩
  ·refine aD (fun hb=>by cases hb) (fun _=>?_);subst ho o8;obtain ⟨an,rfl⟩:∃ an:Nat,at_=an:=⟨at_.toNat,by omega⟩
   have k1:an<nodes.length:=by omega
   obtain ⟨a0,a1,a2,a3,rfl⟩:=h1.four;obtain ⟨gp,rfl⟩:=h3.ptr;have n7:=hK.mkI.len;have n8:b5.length=chs.length:=by have:=hK.ch.hc; rw [KM] at this; omega
   have n9:=hK.nd.hc;have k2:TrG st c9 tr O:=by
    refine (TrG.grow st tr e5).trans ?_;rw [<- c7];refine (TrG.grow G tr (sK _ 26)).trans ?_;rw [<- Qq];exact TrG.of e1
   have r6:c9.length=G.length+26:=by
    obtain ⟨ns,_,m1,_⟩:=e1;have:=congrArg List.length m1;rw [pz,kD] at this;exact this
   obtain ⟨la,b9,rfl,r0,r1,x3⟩:=id h2;have o0:=h2.from (l:=k+1) (by omega);refine aE ?_;refine af t 1 rfl dV eA rfl ?_;refine kN t 2 rfl ib ?_;refine ⟨fun w'=>∃ (SJ:ae) (b7:Value) (a9:List (List Value)) (f0:List Nat),Ext w.heap.size X SN SJ/\Rows 9 (RdCI SJ) a9 ((chs++(if l.drop (k+1)=[] then [] else ([⟨g,(an:Int),rest,l.drop (k+1),st,nodes.length⟩]:List CI))).zip f0)/\
    MkI (chs++(if l.drop (k+1)=[] then [] else ([⟨g,(an:Int),rest,l.drop (k+1),st,nodes.length⟩]:List CI))) f0 c9 O/\
    Inv w X ([.blk b6 (.cells #[a0,a1,a2,a3] ab),fL sp (dX sb pv qv nc fuel used ((g26 G).length:Int) b4 b7 nv mo),chI b7 a9,noI nv ncs]++aB sb mb V Y Z O) SJ w',?_,?_⟩
   ·refine bC (by omega) ?_;refine aJ h2 cA ?_;refine bS ?_;refine aL (fun l5=>?_) (fun l5=>?_)
    ·have o1:l.drop (k+1)≠[]:=fun e=>by have:=congrArg List.length e; rw [mi,bW] at this; omega
     rw [ag o1];have o2:=t;clear t;have x5:=hN;clear hN;refine ⟨fun D ZV Z4 Yr i3 i4 i5 XT V3 TQ U3 TW T6 U4 Vu VJ Vb T7 Uj UW Vt Uu RZ RG w_=>Fx D 0 [RG=.pointer (some ⟨sp,0,none⟩),RZ=.pointer (some ⟨sp,0,none⟩),Uu=.pointer (some ⟨sp,0,none⟩),Vt=.pointer (some ⟨sp,9,none⟩),UW=cv,Uj=.agg #[a0,a1,a2,a3],T7=.int .i64 (an:Int),Vb=.pointer gp,VJ=.slice la l.length b9,Vu=.int .i64 (k:Int),U4=.int .i64 ((k+1:Nat):Int),T6=jo la b9 l.length (k+1),TW=.int .i64 (tr.length:Int),U3=.pointer (some ⟨sp,0,none⟩),TQ=.pointer (some ⟨sp,0,none⟩),V3=.pointer (some ⟨sp,10,none⟩),XT=nv,i5=.int .i64 (ncs.length:Int),i4=.agg (chC a0 a1 a2 a3 an gp (jo la b9 l.length (k+1)) tr.length ncs.length).toArray,True,True,Z4=.pointer (some ⟨sp,0,none⟩),ZV=.pointer (some ⟨sp,9,none⟩),True]/\∃ (SP:ae) (U N:Value) (J:List (List Value)),Ext w.heap.size X SN SP/\(D 19=true->∃ b,i3=.slice (some ⟨b,0,none⟩) 1 1/\SP b=some (.cells (chC a0 a1 a2 a3 an gp (jo la b9 l.length (k+1)) tr.length ncs.length).toArray ek))/\(D 20=false->cv=U/\cv=N/\b5=J)/\(D 20=true->N=Yr/\J=b5++[chC a0 a1 a2 a3 an gp (jo la b9 l.length (k+1)) tr.length ncs.length])/\(D 23=true->U=Yr)/\(D 20=true->D 4=true)/\(D 23=true->D 20=true)/\Inv w X ([.blk b6 (.cells #[a0,a1,a2,a3] ab),fL sp (dX sb pv qv nc fuel used ((g26 G).length:Int) b4 U nv mo),chI N J,noI nv ncs]++aB sb mb V Y Z O) SP w_,⟨Fx.nil _ _,⟨SN,cv,cv,b5,Ext.refl _ _ _,aI,fun _=>⟨rfl,rfl,rfl⟩,aI,aI,aI,aI,o2.draw⟩⟩,⟨?_,?_,?_,?_,?_,?_,?_,?_,?_,?_,?_,?_,?_,?_,?_,?_,?_,?_,?_,?_,?_,?_,?_,?_,trivial⟩,?_⟩;all_goals (intro D bH; intros; rename_i ZV Z4 Yr i3 i4 i5 XT V3 TQ U3 TW T6 U4 Vu VJ Vb T7 Uj UW Vt Uu RZ RG w_ d6; have B:=d6.1; obtain ⟨⟨cI,cJ,cH,cD,cL,cN,cq,dg,dG,dL,cT,dn,dN,fE,gy,gP,iH,kw,lQ,ip,oW,sg,z5,AF,_⟩,⟨SP,U,N,J,hN,a4,M,a5,a6,a7,a8,t⟩⟩:=d6)
     ·exact ⟨B.set 0 rfl,⟨SP,U,N,J,hN,a4,M,a5,a6,a7,a8,t⟩⟩
     ·exact ⟨B.set 1 rfl,⟨SP,U,N,J,hN,a4,M,a5,a6,a7,a8,t⟩⟩
     ·obtain rfl:=cJ ‹_›;refine aE ?_;exact ⟨B.set 2 rfl,⟨SP,U,N,J,hN,a4,M,a5,a6,a7,a8,t⟩⟩
     ·obtain rfl:=cH ‹_›;refine aw dV ?_;exact ⟨B.set 3 rfl,⟨SP,U,N,J,hN,a4,M,a5,a6,a7,a8,t⟩⟩
     ·obtain rfl:=cD ‹_›;have o3:D 20=false:=bx.2 fun h=>by rw [a7 h] at bH; cases bH
      have q:=(M o3).1;refine aT (b:=sp) (v:=cv) t 1 (c:=dX sb pv qv nc fuel used ((g26 G).length:Int) b4 U nv mo) eA rfl (by rw [q]; rfl) ?_;have a7:ao D 4 20=true->ao D 4 4=true:=fun _=>rfl;exact ⟨B.set 4 (by first|assumption|trivial),⟨SP,U,N,J,hN,a4,M,a5,a6,a7,a8,t⟩⟩
     ·refine aC t 0 ad rfl rfl ?_;exact ⟨B.set 5 rfl,⟨SP,U,N,J,hN,a4,M,a5,a6,a7,a8,t⟩⟩
     ·exact ⟨B.set 6 rfl,⟨SP,U,N,J,hN,a4,M,a5,a6,a7,a8,t⟩⟩
     ·exact ⟨B.set 7 rfl,⟨SP,U,N,J,hN,a4,M,a5,a6,a7,a8,t⟩⟩
     ·exact ⟨B.set 8 rfl,⟨SP,U,N,J,hN,a4,M,a5,a6,a7,a8,t⟩⟩
     ·exact ⟨B.set 9 rfl,⟨SP,U,N,J,hN,a4,M,a5,a6,a7,a8,t⟩⟩
     ·obtain rfl:=dL ‹_›;refine bC (by omega) ?_;exact ⟨B.set 10 rfl,⟨SP,U,N,J,hN,a4,M,a5,a6,a7,a8,t⟩⟩
     ·obtain rfl:=dG ‹_›;obtain rfl:=cT ‹_›;refine ON cA (by omega) ?_;exact ⟨B.set 11 rfl,⟨SP,U,N,J,hN,a4,M,a5,a6,a7,a8,t⟩⟩
     ·exact ⟨B.set 12 rfl,⟨SP,U,N,J,hN,a4,M,a5,a6,a7,a8,t⟩⟩
     ·exact ⟨B.set 13 rfl,⟨SP,U,N,J,hN,a4,M,a5,a6,a7,a8,t⟩⟩
     ·obtain rfl:=fE ‹_›;refine aE ?_;exact ⟨B.set 14 rfl,⟨SP,U,N,J,hN,a4,M,a5,a6,a7,a8,t⟩⟩
     ·obtain rfl:=gy ‹_›;refine aw ft ?_;exact ⟨B.set 15 rfl,⟨SP,U,N,J,hN,a4,M,a5,a6,a7,a8,t⟩⟩
     ·obtain rfl:=gP ‹_›;refine aT (b:=sp) (v:=nv) t 1 (c:=dX sb pv qv nc fuel used ((g26 G).length:Int) b4 U nv mo) jU rfl rfl ?_;exact ⟨B.set 16 (by first|assumption|trivial),⟨SP,U,N,J,hN,a4,M,a5,a6,a7,a8,t⟩⟩
     ·have Xh:=iH ‹_›;refine kN (e:=lX) (k:=6) (n:=ncs.length) (xs:=ncs.flatten) t 3 (by rw [Xh]; rfl) uS ?_;exact ⟨B.set 17 rfl,⟨SP,U,N,J,hN,a4,M,a5,a6,a7,a8,t⟩⟩
     ·obtain rfl:=cN ‹_›;obtain rfl:=cq ‹_›;obtain rfl:=dg ‹_›;obtain rfl:=dn ‹_›;obtain rfl:=dN ‹_›;obtain rfl:=kw ‹_›;refine HO ?_;exact ⟨B.set 18 rfl,⟨SP,U,N,J,hN,a4,M,a5,a6,a7,a8,t⟩⟩
     ·obtain rfl:=lQ ‹_›;refine dB t CT rfl (by omega) (by omega) fun e7 w_ t=>?_;have t:Inv w X (([.blk b6 (.cells #[a0,a1,a2,a3] ab),fL sp (dX sb pv qv nc fuel used ((g26 G).length:Int) b4 U nv mo),chI N J,noI nv ncs]++aB sb mb V Y Z O)++[.blk e7 (.cells (chC a0 a1 a2 a3 an gp (jo la b9 l.length (k+1)) tr.length ncs.length).toArray ek)]) SP w_:=t;obtain ⟨SP,t,m2,j7⟩:=Inv.pub1 t;have hN:=hN.trans m2;have a4:ao D 19 19=true->∃ b,Value.slice (some ⟨e7,0,none⟩) 1 1=.slice (some ⟨b,0,none⟩) 1 1/\SP b=some (.cells (chC a0 a1 a2 a3 an gp (jo la b9 l.length (k+1)) tr.length ncs.length).toArray ek):=fun _=>⟨e7,rfl,j7⟩
      exact ⟨B.set 19 (by first|assumption|trivial),⟨SP,U,N,J,hN,a4,M,a5,a6,a7,a8,t⟩⟩
     ·have D1:=cL ‹_›;have m4:=ip ‹_›;obtain ⟨b,m3,hb⟩:=a4 ‹D 19=true›;subst m3;obtain ⟨q1,rfl,rfl⟩:=M bH;refine dE t 2 (chC a0 a1 a2 a3 an gp (jo la b9 l.length (k+1)) tr.length ncs.length) CT (by omega) (n:=b5.length) (xs:=b5.flatten) (by rw [D1]; rfl) rfl (m:=1) (o:=0) (fun j u hj=>by rw [t.cellS hb,cP]; simpa using hj) (XQ h1.one) (by omega) (by omega) fun N w_ t=>?_;obtain ⟨J,hR⟩:∃ a,a=b5++[chC a0 a1 a2 a3 an gp (jo la b9 l.length (k+1)) tr.length ncs.length]:=⟨_,rfl⟩
      rw [eE,<- hR] at t;have M:ao D 20 20=false->cv=U/\cv=N/\b5=J:=fun h=>Bool.noConfusion h;have a5:ao D 20 20=true->N=N/\J=b5++[chC a0 a1 a2 a3 an gp (jo la b9 l.length (k+1)) tr.length ncs.length]:=fun _=>⟨rfl,hR⟩
      have a6:ao D 20 23=true->U=N:=fun h=>absurd (a8 h) (by rw [bH]; decide);have a7:ao D 20 20=true->ao D 20 4=true:=fun _=>‹D 4=true›;have a8:ao D 20 23=true->ao D 20 20=true:=fun _=>rfl;have a4:ao D 20 19=true->∃ b',Value.slice (some ⟨b,0,none⟩) 1 1=.slice (some ⟨b',0,none⟩) 1 1/\SP b'=some (.cells (chC a0 a1 a2 a3 an gp (jo la b9 l.length (k+1)) tr.length ncs.length).toArray ek):=fun _=>⟨b,rfl,hb⟩
      exact ⟨B.set 20 (by first|assumption|trivial),⟨SP,U,N,J,hN,a4,M,a5,a6,a7,a8,t⟩⟩
     ·obtain rfl:=cI ‹_›;refine aE ?_;exact ⟨B.set 21 rfl,⟨SP,U,N,J,hN,a4,M,a5,a6,a7,a8,t⟩⟩
     ·obtain rfl:=sg ‹_›;refine aw dV ?_;exact ⟨B.set 22 rfl,⟨SP,U,N,J,hN,a4,M,a5,a6,a7,a8,t⟩⟩
     ·obtain rfl:=z5 ‹_›;have m5:=oW ‹_›;obtain ⟨q1,q2⟩:=a5 ‹D 20=true›;subst q1;obtain ⟨va,r2,hv,_⟩:=t.rowSlice' (i:=2) rfl;have e9:N.cells=#[N]:=by rw [hv]; rfl
      refine dy t 1 (n:=1) (by rw [e9]; rfl) (by rw [eA]; rfl) rfl (mL rfl) (by rw [e9,hv]; simp [Value.oneCell']) fun w_ t=>?_;rw [e9] at t;obtain ⟨U,hF⟩:∃ a,a=N:=⟨_,rfl⟩
      have a6:ao D 23 23=true->U=N:=fun _=>hF;have M:ao D 23 20=false->cv=U/\cv=N/\b5=J:=fun h=>absurd ‹D 20=true› (by rw [show D 20=false from h]; decide);have a8:ao D 23 23=true->ao D 23 20=true:=fun _=>‹D 20=true›;have t:Inv w X ([.blk b6 (.cells #[a0,a1,a2,a3] ab),fL sp (dX sb pv qv nc fuel used ((g26 G).length:Int) b4 U nv mo),chI N J,noI nv ncs]++aB sb mb V Y Z O) SP w_:=by rw [hF]; exact t
      exact ⟨B.set 23 trivial,⟨SP,U,N,J,hN,a4,M,a5,a6,a7,a8,t⟩⟩
     obtain ⟨rfl,rfl,rfl,rfl,D1,rfl,rfl,rfl,rfl,rfl,rfl,rfl,rfl,rfl,rfl,rfl,Xh,rfl,rfl,m4,m5,rfl,rfl,_,_⟩:=B.all;clear B cI cJ cH cD cL cN cq dg dG dL cT dn dN fE gy gP iH kw lQ ip oW sg z5 AF;obtain ⟨q1,q2⟩:=a5 (by assumption);have q3:=a6 (by assumption);subst q2;rw [q3,<- q1] at t;refine ⟨SP,_,_,ms++[tr.length],hN,?_,?_,t⟩
     ·rw [List.zip_append n7.symm];exact (hK.ch.monoR fun _ _=>RdCI.mono (c5.trans hN).1).snoc ⟨a0,a1,a2,a3,.pointer gp,_,by rw [<- n9],h1.mono (c5.trans hN).1,h3.mono (c5.trans hN).1,o0.mono (c5.trans hN).1 fun _ _ h=>h⟩ rfl
     ·exact (MkI.push (c:=⟨g,(an:Int),rest,l.drop (k+1),st,nodes.length⟩) hK.mkI).go k2
    ·have he:l.drop (k+1)=[]:=vK (by omega);rw [ai he,bV];exact ⟨SN,cv,b5,ms,Ext.refl _ _ _,hK.ch.monoR fun _ _=>RdCI.mono c5.1,hK.mkI.go k2,t⟩
   clear t;intro _ _ _ _ _ _ _ _ _ _ _ _ _ _ _ _ _ _ _ _ _ _ _ _ _ _ _ _ w';rintro ⟨SJ,b7,a9,f0,g9,k9,l0,t⟩;have g4:=c5.trans g9;obtain ⟨ng,b2,m6,-⟩:=t.rowPtr (i:=3) rfl (j:=an) (by omega) hK.nd.hk;subst m6;refine aE ?_;refine af t 1 rfl ft jU rfl ?_;refine az uS (by omega) ?_;refine aw QI ?_;refine EK t 3 (j:=an) (f:=5) rfl aG (by omega) (by omega) (by omega) hK.nd.hk rfl rfl fun w' t=>?_;obtain ⟨c8,g2⟩:∃ a,a=ncs.set an ((ncs[an]'(by omega)).set 5 (.int .i64 (i:Int))):=⟨_,rfl⟩
   have t:Inv w X ([.blk b6 (.cells #[a0,a1,a2,a3] ab),fL sp (dX sb pv qv nc fuel used ((g26 G).length:Int) b4 b7 (.slice (some ⟨ng,0,none⟩) ncs.length b2) mo),chI b7 a9,noI (.slice (some ⟨ng,0,none⟩) ncs.length b2) c8]++aB sb mb V Y Z O) SJ w':=by
    rw [g2];exact t
   refine aE ?_;refine af (u:=.slice (some ⟨pb,po,none⟩) p.length g0) t 1 rfl qV eO (by rw [j2]; rfl) ?_;refine az bf h7 ?_;refine aw aU ?_;refine cQ (v:=kb) al (by
    rw [t.cellS (g4.1 _ _ j3)];exact aF f6 4 kb (by rw [gG (by omega),k0]; rfl)) ?_
   have g5:=l8.monoT g4.1;have x6:=k3 cl (cz f5);refine aJ g5 ah ?_;have t:=t.rowNil ab 4;refine ⟨fun ix v w'=>∃ (j:Nat) (css:List (List Value)) (S6:ae),j<=cl.body.length/\ix=.int .i64 (j:Int)/\Ext w.heap.size X SJ S6/\Rows 4 (RdT S6) css ((cl.body.take j).map (bp G.length))/\
     Inv w X (([.blk b6 (.cells #[a0,a1,a2,a3] ab),fL sp (dX sb pv qv nc fuel used ((g26 G).length:Int) b4 b7 (.slice (some ⟨ng,0,none⟩) ncs.length b2) mo),chI b7 a9,noI (.slice (some ⟨ng,0,none⟩) ncs.length b2) c8]++aB sb mb V Y Z O)++[aA v ab 4 css]) S6 w',
    fun ix _ _=>cl.body.length - (intOf ix).toNat,⟨0,[],SJ,bk _,rfl,Ext.refl _ _ _,Rows.nil _ _,t⟩,?_⟩
   clear t;intro xx _ vv _ _ _ _ _ _ _ _ _ _ w';rintro ⟨j,css,S6,hj,rfl,e6,f3,t⟩;refine bS ?_;refine aL (fun l6=>?_) (fun l6=>?_)
   ·have f7:j<cl.body.length:=by omega
    have o4:css.length=j:=by rw [f3.hc,jO,cM]; omega
    have i0:=d9.body _ (bG f7);refine co t (g5.monoT e6.1) ah ad f7 (fun _ _=>RdT.length) fun i9 e0=>?_;refine aQ t bj fun e7 w' t=>?_;refine au t 8 rfl ad (by simpa using e0.length) rfl (by simpa using e0.one) fun w' t=>?_;refine aC t 8 ad rfl (by simpa using e0.length) ?_;have t:Inv w X (([.blk b6 (.cells #[a0,a1,a2,a3] ab),fL sp (dX sb pv qv nc fuel used ((g26 G).length:Int) b4 b7 (.slice (some ⟨ng,0,none⟩) ncs.length b2) mo),chI b7 a9,noI (.slice (some ⟨ng,0,none⟩) ncs.length b2) c8]++aB sb mb V Y Z O)++[aA vv ab 4 css]) S6 w':=t.sub (dt _ [Item.blk e7 (.cells i9.toArray ab)]);refine Run.call0E gq gh t (qK [.pointer (some ⟨f4,0,none⟩)] _ nI nz _ S6 i9 e0 (Jb i0.1.1) i0.1.2 (g3.mono (hN.trans (g9.trans e6)).1)) fun v' I' S7 w'=>?_;rintro ⟨rfl,d7,rfl,hT⟩ e4 t;rw [tf G.length _ i0.1.1] at hT;have t:=t.sub (dt _ _);refine de t 7 d7 bn (by omega) (by omega) rfl hT.length hT.one (by omega) (by omega) fun v' w' t=>?_;refine bC (by omega) ?_;refine ⟨⟨j+1,css++[d7],S7,f7,rfl,e6.trans e4,?_,t⟩,by simp only [intOf,cu]; omega⟩;rw [eV f7,BD];exact (f3.monoR fun _ _=>RdT.mono e4.1).snoc hT hT.length
   ·have:j=cl.body.length:=by omega
    subst this;rw [d4] at f3;obtain ⟨S7,e4,m7,t⟩:=t.lendExt;have o5:=RowRd.rows (f3.monoR fun _ _=>RdT.mono e4.1) m7;have g6:=g9.trans (e6.trans e4);refine Run.call0E ML MU t (Jt o5 (h3.mono (c5.trans g6).1)) fun v' I' S8 w'=>?_;rintro ⟨rfl,h0⟩ i6 t;have t:=t.sub (dt _ _);obtain ⟨e8,rfl⟩:=h0.ptr;refine aE ?_;refine dj t 1 rfl ic dP rfl rfl rfl fun w' t=>?_;have o6:Inv w X ([.blk b6 (.cells #[a0,a1,a2,a3] ab),fL sp (dX sb pv qv nc fuel used ((g26 G).length:Int) (.pointer e8) b7 (.slice (some ⟨ng,0,none⟩) ncs.length b2) mo),chI b7 a9,noI (.slice (some ⟨ng,0,none⟩) ncs.length b2) c8]++aB sb mb V Y Z O) S8 w':=t;repeat clear t
    refine ⟨fun D Vy We Wg i7 Zq i8 ZJ Z5 Ve UV UH VY Vd w_=>Fx D 0 [Vd=.pointer (some ⟨sp,0,none⟩),VY=.pointer (some ⟨sp,0,none⟩),UH=.pointer (some ⟨sp,0,none⟩),UV=.pointer (some ⟨sp,11,none⟩),Ve=.int .i64 mo,Z5=.pointer (some ⟨sp,0,none⟩),ZJ=.pointer (some ⟨sp,0,none⟩),i8=.pointer (some ⟨sp,9,none⟩),Zq=b7,i7=.int .i64 (a9.length:Int),Wg=.int .i64 (if mo<(a9.length:Int) then (a9.length:Int) else mo),We=.pointer (some ⟨sp,0,none⟩),Vy=.pointer (some ⟨sp,11,none⟩),True]/\∃ b1:Int,(D 13=false->mo=b1)/\(D 13=true->D 4=true)/\Inv w X ([.blk b6 (.cells #[a0,a1,a2,a3] ab),fL sp (dX sb pv qv nc fuel used ((g26 G).length:Int) (.pointer e8) b7 (.slice (some ⟨ng,0,none⟩) ncs.length b2) b1),chI b7 a9,noI (.slice (some ⟨ng,0,none⟩) ncs.length b2) c8]++aB sb mb V Y Z O) S8 w_,⟨Fx.nil _ _,⟨mo,fun _=>rfl,aI,o6.draw⟩⟩,⟨?_,?_,?_,?_,?_,?_,?_,?_,?_,?_,?_,?_,?_,?_,trivial⟩,?_⟩;all_goals (intro D bH; intros; rename_i Vy We Wg i7 Zq i8 ZJ Z5 Ve UV UH VY Vd w_ d6; have B:=d6.1; obtain ⟨⟨cI,cJ,cH,cD,cL,cN,cq,dg,dG,dL,cT,dn,dN,fE,_⟩,⟨b1,c6,c4,t⟩⟩:=d6)
    ·exact ⟨B.set 0 rfl,⟨b1,c6,c4,t⟩⟩
    ·exact ⟨B.set 1 rfl,⟨b1,c6,c4,t⟩⟩
    ·obtain rfl:=cJ ‹_›;refine aE ?_;exact ⟨B.set 2 rfl,⟨b1,c6,c4,t⟩⟩
    ·obtain rfl:=cH ‹_›;refine aw vL ?_;exact ⟨B.set 3 rfl,⟨b1,c6,c4,t⟩⟩
    ·obtain rfl:=cD ‹_›;have o7:D 13=false:=bx.2 fun h=>by rw [c4 h] at bH; cases bH
     have q:=c6 o7;refine aT (b:=sp) (v:=.int .i64 mo) t 1 (c:=dX sb pv qv nc fuel used ((g26 G).length:Int) (.pointer e8) b7 (.slice (some ⟨ng,0,none⟩) ncs.length b2) b1) aG rfl (by rw [q]; rfl) ?_;have c4:ao D 4 13=true->ao D 4 4=true:=fun _=>rfl;exact ⟨B.set 4 rfl,⟨b1,c6,c4,t⟩⟩
    ·exact ⟨B.set 5 rfl,⟨b1,c6,c4,t⟩⟩
    ·obtain rfl:=cN ‹_›;refine aE ?_;exact ⟨B.set 6 rfl,⟨b1,c6,c4,t⟩⟩
    ·obtain rfl:=cq ‹_›;refine aw dV ?_;exact ⟨B.set 7 rfl,⟨b1,c6,c4,t⟩⟩
    ·obtain rfl:=dg ‹_›;refine aT (b:=sp) (v:=b7) t 1 (c:=dX sb pv qv nc fuel used ((g26 G).length:Int) (.pointer e8) b7 (.slice (some ⟨ng,0,none⟩) ncs.length b2) b1) eA rfl rfl ?_;exact ⟨B.set 8 (by first|assumption|trivial),⟨b1,c6,c4,t⟩⟩
    ·have DH:=dG ‹_›;refine kN (e:=ek) (k:=9) (n:=a9.length) (xs:=a9.flatten) t 2 (by rw [DH]; rfl) ib ?_;exact ⟨B.set 9 rfl,⟨b1,c6,c4,t⟩⟩
    ·obtain rfl:=cL ‹_›;obtain rfl:=dL ‹_›;refine ZK ?_;exact ⟨B.set 10 rfl,⟨b1,c6,c4,t⟩⟩
    ·obtain rfl:=cI ‹_›;refine aE ?_;exact ⟨B.set 11 rfl,⟨b1,c6,c4,t⟩⟩
    ·obtain rfl:=dn ‹_›;refine aw vL ?_;exact ⟨B.set 12 rfl,⟨b1,c6,c4,t⟩⟩
    ·obtain rfl:=dN ‹_›;obtain rfl:=cT ‹_›;refine dy t 1 (n:=1) rfl (by rw [aG]; rfl) rfl (mL rfl) (by simp [Value.cells,Value.oneCell']) fun w_ t=>?_;obtain ⟨b1,hF⟩:∃ a,a=(if mo<(a9.length:Int) then (a9.length:Int) else mo):=⟨_,rfl⟩
     have c6:ao D 13 13=false->mo=b1:=fun h=>Bool.noConfusion h;have c4:ao D 13 13=true->ao D 13 4=true:=fun _=>by assumption
     have t:Inv w X ([.blk b6 (.cells #[a0,a1,a2,a3] ab),fL sp (dX sb pv qv nc fuel used ((g26 G).length:Int) (.pointer e8) b7 (.slice (some ⟨ng,0,none⟩) ncs.length b2) b1),chI b7 a9,noI (.slice (some ⟨ng,0,none⟩) ncs.length b2) c8]++aB sb mb V Y Z O) S8 w_:=by rw [hF]; exact t
     exact ⟨B.set 13 trivial,⟨b1,c6,c4,t⟩⟩
    obtain ⟨rfl,rfl,rfl,rfl,rfl,rfl,rfl,rfl,DH,rfl,rfl,rfl,rfl,_,_⟩:=B.all;clear B cI cJ cH cD cL cN cq dg dG dL cT dn dN fE;have e3:=g6.trans i6;have n0:=e1.short;have r7:unb (g26 G)=unb G+26:=by unfold Go.Proofs.YtgllldjiaglkcaaGreatDoor.g26; rw [qM]
    refine ⟨_,_,S8,rfl,t.sub (fH _ _),c5.trans e3,rfl,V,Y,Z,O,f0,_,b7,a9,_,c8,_,by rw [kD]; rfl,?_,g1.upS e3.1,k9.monoR fun _ _=>RdCI.mono ((e6.trans e4).trans i6).1,?_,l0,by show O.length+unb c9<=c9.length; omega⟩
    ·show GL S8 _ (fy cl G.length chs.length an rest);rw [List.map_map,n8] at h0;exact h0
    ·show Rows 6 (RdNI S8) c8 (LQ nodes (an:Int).toNat i);rw [cu,Wd _ _ _ k1,g2];obtain ⟨c0,c1,c2,c3,f6,m8⟩:=hK.nd.hR an k1 (by omega);refine (hK.nd.monoR fun _ _=>RdNI.mono (c5.trans e3).1).set an ⟨c0,c1,c2,c3,by rw [f6]; rfl,m8.mono (c5.trans e3).1⟩ ?_;rw [ly];exact hK.nd.hk _ (bG _)
  ·refine aD (fun _=>?_) (fun hb=>by cases hb);refine aE ?_;refine af t 1 rfl gd fu rfl ?_;obtain ⟨ns,rfl,j8,m9,n0⟩:=e1;have h26:unb (g26 G)=unb G+26:=by unfold g26; rw [qM]
   refine Run.callE (A:=[_,_,_,_]) lA lo t (xh (mark:=tr.length) g1 (by simp) (fun n hn=>by
    rw [RP] at hn;obtain ⟨j,rfl,_⟩:=m9 n hn;omega) (by rw [bA]; omega)) fun v' I' S4 w'=>?_
   rintro ⟨eS,rfl,l1,l2,rfl,f9⟩ _ t;rw [eS] at t;rw [RP,j8] at f9;rw [FZ] at t;refine bC (by omega) ?_;refine ⟨⟨k+1,g26 G,l1,Y,l2,SN,h6,rfl,o9,?_,by rw [kD]; omega,c5,f9,t⟩,by simp only [intOf,cu]; omega⟩;rw [kD,c7,qJ e5,ce e5]
 ·have:k=l.length:=by omega
  subst this;rw [eC] at f1;cases f1;refine ⟨_,_,S1,rfl,t.sub (fH _ _),f2,rfl,d0,d1,d2,tr,ms,b4,cv,b5,nv,ncs,mo,rfl,rfl,rfl,rfl,?_⟩;have i1:=hK.mono f2.1;refine ⟨by rw [<- c7]; exact f8,i1.ch,i1.nd,i1.mkI.go (TrG.grow st tr (by omega)),?_⟩;have:=hK.tb;rw [<- c7,c7,ce (by omega)];unfold bI;rw [qM];omega
end
end
section
open Go Go.RowKit
theorem Zz {a b c d e f g h i:Value}:∀ (j:Nat) (v:Value),([a,b,c,d]:List Value)[j]?=some v->(#[a,b,c,d,e,f,g,h,i]:Array Value)[0+j]?=some v
 | 0,_,h=>h
 | 1,_,h=>h
 | 2,_,h=>h
 | 3,_,h=>h
 | _+4,_,h=>by simp at h
theorem Rows.pop {α:Type} {k:Nat} {R:List Value->α->Prop} {css:List (List Value)} {ys:List α} {y:α} (h:Rows k R css (ys++[y])):∃ a cs,css=a++[cs]/\Rows k R a ys/\R cs y/\cs.length=k:=by
 have hc:=h.hc;rw [bA,bq,bW] at hc;have f:ys.length<css.length:=by omega
 have g:=h.take ys.length;rw [FZ] at g;refine ⟨css.take ys.length,css[ys.length],?_,g,?_,h.hk _ (bG f)⟩
 ·conv=>lhs; rw [<- GA ys.length css,dY f]
  rw [vK (by omega)]
 ·have:=h.hR ys.length (by simp) f
  rwa [eZ (aS _),List.getElem_singleton] at this
theorem KP:∀ (st:aj) (i:Nat),unb (st.set i none)<=unb st+1
 | [],i=>by simp [unb]
 | none::st,0=>by simp only [List.set_cons_zero,unb]; omega
 | some t::st,0=>by simp only [List.set_cons_zero,unb]; omega
 | none::st,i+1=>by
  have:=KP st i;simp only [Kt,unb]; omega
 | some t::st,i+1=>by
  have:=KP st i;simp only [Kt,unb]; omega
theorem Ox (st:aj):∀ ns:List Int,unb (eX st ns)<=unb st+ns.length
 | []=>aS _
 | n::ns=>by
  have h:=Ox st ns;have e:eX st (n::ns)=eX (eX st ns) [n]:=tC st [n] ns;have a:=KP (eX st ns) n.toNat;rw [e,show eX (eX st ns) [n]=(eX st ns).set n.toNat none from BC _ [] n,bq];omega
theorem BackI.inv0 {p:List C} {n:Nat} {ns:List NI} {o:Option SI} (h:BackI p [] n ns o):o=none:=by
 generalize hl:([]:List CI)=l at h;cases h with
 | nil=>rfl
 | hit=>simp at hl
 | miss=>simp at hl
theorem BackI.inv {p:List C} {cs:List CI} {c:CI} {n:Nat} {ns:List NI} {o:Option SI} (h:BackI p (cs++[c]) n ns o) :
  ∃ a m,TryI p c.goal c.left (bI c.binds n) a m/\((∃ r,a=some r/\o=some (gC cs (ns.take c.taken) c.goal c.node c.rest (bI c.binds n) r)) ∨ (a=none/\BackI p cs m (ns.take c.taken) o)):=by
 generalize hl:cs++[c]=l at h;cases h with
 | nil=>simp at hl
 | hit f=>
  obtain ⟨rfl,hc⟩:=Om hl rfl;simp only [dK,gL] at hc;subst hc;exact ⟨_,_,f,.inl ⟨_,rfl,rfl⟩⟩
 | miss f g=>
  obtain ⟨rfl,hc⟩:=Om hl rfl;simp only [dK,gL] at hc;subst hc;exact ⟨_,_,f,.inr ⟨rfl,g⟩⟩
def chN (sp:Nat) (w:World):Nat:=match w.heap[sp]? with
 | some (.cells c _ _)=>(match (c[9]?:Option Value) with|some (.slice _ n _)=>n|_=>0)
 | _=>0
def SeaQ (sp sb mb:Nat) (pv qv:Value) (nc:Bool) (fuel used:Int) (o:Option SI) (I':List Item) (S':ae):Prop:=
 ∃ (es':Array MapEntry) (ck':Nat) (tv':Value) (tr':List Int) (ms':List Nat) (gv' cv':Value) (ccs':List (List Value)) (nv':Value) (ncs':List (List Value)) (mo' fr':Int),
  I'=[fL sp (dX sb pv qv nc fuel used fr' gv' cv' nv' mo'),chI cv' ccs',noI nv' ncs']++aB sb mb es' ck' tv' tr'/\
  ∀ s,o=some s->fr'=s.st.length/\GL S' gv' s.goals/\SeaK S' s.chs s.nodes s.st ms' tr' es' ccs' ncs'
theorem Inv.chN {w0 w:World} {X:List Nat} {L:List Item} {S:ae} (h:Inv w0 X L S w) (i j:Nat) {sp sb:Nat} {g l:Value} {nc:Bool} {fuel used fr:Int} {m cv nv:Value} {mo:Int} {f:List (List Value)}
  (o:L[i]?=some (fL sp (dX sb g l nc fuel used fr m cv nv mo))) (q:L[j]?=some (chI cv f)):chN sp w=f.length:=by
 have r:w.heap[sp]?=some (.cells (dX sb g l nc fuel used fr m cv nv mo) o5):=h.its _ (cz o);obtain ⟨a,cap,rfl,_⟩:=h.rowSlice' q;unfold Go.Proofs.YtgllldjiaglkcaaGreatDoor.chN;rw [r];rfl
section
attribute [local irreducible] Run CondV aq aK
set_option maxHeartbeats 2000000 in
theorem xi {p:List C} (hp:∀ cl∈p,ie cl) (e5:∀ cl∈p,cl.body.length<=1048576) {cs:List CI} {n:Nat} {ns:List NI} {o:Option SI} (hb:BackI p cs n ns o) (b5:okCs p.length n ns.length cs) (hn:n+26 * io cs<=900000) (b6:cs.length<=1000000)
  {st:aj} (a6:st.length=n) {S:ae} {gv pv qv cv nv tv:Value} {ms:List Nat} {tr:List Int} {es:Array MapEntry} {V ncs:List (List Value)} {sp sb mb ck:Nat} {nc:Bool} {fuel used mo:Int}
  (h4:RdSl S 5 (RdC S) pv p) (hK:SeaK S cs ns st ms tr es V ncs) :
  Tri Tryz.prog Dr [.pointer (some ⟨sp,0,none⟩)] ([fL sp (dX sb pv qv nc fuel used n gv cv nv mo),chI cv V,noI nv ncs]++aB sb mb es ck tv tr) S
   fun q I' S'=>q=.int .i64 (if o.isSome then -1 else 0)/\SeaQ sp sb mb pv qv nc fuel used o I' S':=by
 intro w g;obtain ⟨X,hX⟩:∃ X,X=bP ([fL sp (dX sb pv qv nc fuel used n gv cv nv mo),chI cv V,noI nv ncs]++aB sb mb es ck tv tr):=⟨_,rfl⟩
 rw [<- hX] at g ⊢;refine pW.2 ?_;dsimp only[pW,aO];refine ⟨fun w'=>∃ (cs:List CI) (n:Nat) (ns:List NI) (st:aj) (S1:ae) (cv nv tv:Value) (ms:List Nat) (tr:List Int) (es:Array MapEntry) (V ncs:List (List Value)) (ck:Nat) (mo:Int),
   BackI p cs n ns o/\okCs p.length n ns.length cs/\n+26 * io cs<=900000/\cs.length<=1000000/\st.length=n/\Ext w.heap.size X S S1/\SeaK S1 cs ns st ms tr es V ncs/\
   Inv w X ([fL sp (dX sb pv qv nc fuel used n gv cv nv mo),chI cv V,noI nv ncs]++aB sb mb es ck tv tr) S1 w',
  fun w'=>chN sp w',⟨cs,n,ns,st,S,cv,nv,tv,ms,tr,es,V,ncs,ck,mo,hb,b5,hn,b6,a6,Ext.refl _ _ _,hK,g⟩,?_⟩
 clear g hb b5 hn b6 a6 hK hX;clear cs n ns st cv nv tv ms tr es V ncs ck mo;intro _ _ _ _ _ _ _ _ _ _ _ h7 h8 h9 i0 i1 i2 i3 i4 i5 i7 i8 j0 j6 j7 j8 j9 k0 _ _ _ _ _ _ _ _ _ _ _ _ _ _ _ _ _ _ _ _ _ _ _ _ _ _ _ _ _ _ w';rintro ⟨cs,n,ns,st,S1,cv,nv,tv,ms,tr,es,V,ncs,ck,mo,hb,b5,hn,b6,a6,a8,hK,g⟩;have f7:=hK.mkI.len;have d9:V.length=cs.length:=by have:=hK.ch.hc; rw [KM] at this; omega
 have e0:=g.chN 0 1 rfl rfl;refine aE ?_;refine af g 0 rfl dV eA rfl ?_;refine kN g 1 rfl ib ?_;refine eP ?_;refine aL (fun h0=>?_) (fun h0=>?_)
 ·obtain ⟨a7,c,rfl⟩:∃ a7 c,cs=a7++[c]:=⟨cs.dropLast,cs.getLast (by intro e; have:=congrArg List.length e; rw [bW] at this; omega),(Sr _).symm⟩
  rw [bA,bq,bW] at d9 f7 b6;obtain ⟨k1,k2,k3,k4⟩:=b5.last;obtain ⟨g1,g2,g3,g4⟩:=k2.grow k3;have b3:=ce k3;obtain ⟨o1,m,hT,c0⟩:=hb.inv;obtain ⟨f0,mk,rfl,f1,f2,b8,d6,_⟩:=hK.mkI.pop;have e1:=d6.len;have e2:=hK.ch;rw [List.zip_append e1.symm] at e2;obtain ⟨f,k5,rfl,c1,f3,h1⟩:=e2.pop;have h2:f.length=a7.length:=by rw [bA,bq,bW] at d9; omega
  obtain ⟨a0,a1,a2,a3,gp,lv,rfl,c2,c3,c4⟩:=f3;simp only at c2 c3 c4;obtain ⟨gp,rfl⟩:=c3.ptr;obtain ⟨la,d7,f4,-⟩:=id c4;rw [uz,io,io] at hn;obtain ⟨cg,B,f5,b1⟩:=g.rowPtr (i:=1) rfl (j:=f.length) (by simp) (fun x hx=>by
   rcases bF.1 hx with hx|hx
   ·exact c1.hk x hx
   ·rw [bK.1 hx]; rfl)
  subst f5;obtain ⟨na,l,rfl,f6⟩:=g.rowSlice' (i:=2) rfl;refine aE ?_;refine af g 0 rfl dV eA rfl ?_;refine kN g 1 rfl ib ?_;refine kT (by omega) ?_;have f8:((f++[[a0,a1,a2,a3,.int .i64 c.node,.pointer gp,lv,.int .i64 (mk:Int),.int .i64 (c.taken:Int)]]).length:Int) - 1=(f.length:Int):=by rw [bA,bq,bW]; omega
  rw [f8];refine aE ?_;refine af g 0 rfl dV eA rfl ?_;refine az ib (by rw [bA,bq,bW]; omega) ?_;refine ci (cs:=[a0,a1,a2,a3,.int .i64 c.node,.pointer gp,lv,.int .i64 (mk:Int),.int .i64 (c.taken:Int)]) Fc rfl (fun j v hj=>by
   rw [cP];refine b1 j v ?_;rw [eZ (aS _)];simpa using hj) ?_
  refine aQ g PW fun b4 w' g=>?_;refine au g 6 rfl Fc rfl rfl ?_ fun w' g=>?_
  ·subst f4;intro u hu;have e3:u∈[a0,a1,a2,a3,.int .i64 c.node,.pointer gp,.slice la c.left.length d7,.int .i64 (mk:Int),.int .i64 (c.taken:Int)]:=hu;simp only [bY,i6,i9] at e3;rcases e3 with rfl|rfl|rfl|rfl|rfl|rfl|rfl|rfl|rfl <;> first|rfl|exact c2.one _ (by simp)
  have g:Inv w X ([.blk b4 (.cells #[a0,a1,a2,a3,.int .i64 c.node,.pointer gp,lv,.int .i64 (mk:Int),.int .i64 (c.taken:Int)] ek),fL sp (dX sb pv qv nc fuel used n gv (.slice (some ⟨cg,0,none⟩) (f++[[a0,a1,a2,a3,.int .i64 c.node,.pointer gp,lv,.int .i64 (mk:Int),.int .i64 (c.taken:Int)]]).length B) (.slice na ncs.length l) mo),chI (.slice (some ⟨cg,0,none⟩) (f++[[a0,a1,a2,a3,.int .i64 c.node,.pointer gp,lv,.int .i64 (mk:Int),.int .i64 (c.taken:Int)]]).length B) (f++[[a0,a1,a2,a3,.int .i64 c.node,.pointer gp,lv,.int .i64 (mk:Int),.int .i64 (c.taken:Int)]]),noI (.slice na ncs.length l) ncs]++aB sb mb es ck tv tr) S1 w':=g.perm (cj (l₁:=[_]));refine aE ?_;refine af g 1 rfl dV eA rfl ?_;refine PS g 2 rfl ib (n:=f.length) (by rw [bA]; omega) ?_;refine aE ?_;refine dj g 1 rfl dV eA rfl rfl rfl fun w' g=>?_;have g:=g.cutRow (i:=2) rfl (n:=f.length) (by rw [bA]; omega) (fun x hx=>by
   rcases bF.1 hx with hx|hx
   ·exact c1.hk x hx
   ·rw [bK.1 hx]; rfl)
  rw [FZ] at g;have f9:Inv w X ([.blk b4 (.cells #[a0,a1,a2,a3,.int .i64 c.node,.pointer gp,lv,.int .i64 (mk:Int),.int .i64 (c.taken:Int)] ek),fL sp (dX sb pv qv nc fuel used n gv (.slice (some ⟨cg,0,none⟩) f.length B) (.slice na ncs.length l) mo),chI (.slice (some ⟨cg,0,none⟩) f.length B) f,noI (.slice na ncs.length l) ncs]++aB sb mb es ck tv tr) S1 w':=g;repeat clear g
  clear b1;have h3:tr.length<=900000:=by have:=hK.tb; omega
  refine ⟨fun D oJ qd vj sy sr Ab AE w_=>Fx D 0 [AE=.pointer (some ⟨sp,0,none⟩),Ab=.pointer (some ⟨sp,0,none⟩),sr=.pointer (some ⟨sp,0,none⟩),sy=.pointer (some ⟨sb,0,none⟩),vj=.pointer (some ⟨b4,7,none⟩),qd=.int .i64 (mk:Int),True]/\∃ (J:Array MapEntry) (N:Value) (M:List Int),(D 6=false->es=J/\tv=N/\tr=M)/\(D 6=true->KnownM S1 J (eX st (tr.drop mk))/\M=tr.take mk)/\Inv w X ([.blk b4 (.cells #[a0,a1,a2,a3,.int .i64 c.node,.pointer gp,lv,.int .i64 (mk:Int),.int .i64 (c.taken:Int)] ek),fL sp (dX sb pv qv nc fuel used n gv (.slice (some ⟨cg,0,none⟩) f.length B) (.slice na ncs.length l) mo),chI (.slice (some ⟨cg,0,none⟩) f.length B) f,noI (.slice na ncs.length l) ncs]++aB sb mb J ck N M) S1 w_,⟨Fx.nil _ _,⟨es,tv,tr,fun _=>⟨rfl,rfl,rfl⟩,aI,f9.draw⟩⟩,⟨?_,?_,?_,?_,?_,?_,?_,trivial⟩,?_⟩;all_goals (intro D bH; intros; rename_i oJ qd vj sy sr Ab AE w_ a9; have t:=a9.1; obtain ⟨⟨cI,cJ,cH,cD,cL,cN,cq,_⟩,⟨J,N,M,Y,e6,g⟩⟩:=a9)
  ·exact ⟨t.set 0 rfl,⟨J,N,M,Y,e6,g⟩⟩
  ·obtain rfl:=cI ‹_›;refine aE ?_;exact ⟨t.set 1 rfl,⟨J,N,M,Y,e6,g⟩⟩
  ·obtain rfl:=cJ ‹_›;refine aw gd ?_;exact ⟨t.set 2 rfl,⟨J,N,M,Y,e6,g⟩⟩
  ·obtain rfl:=cH ‹_›;refine aT (b:=sp) g 1 (c:=dX sb pv qv nc fuel used n gv (.slice (some ⟨cg,0,none⟩) f.length B) (.slice na ncs.length l) mo) fu rfl rfl ?_;exact ⟨t.set 3 rfl,⟨J,N,M,Y,e6,g⟩⟩
  ·refine aw JY ?_;exact ⟨t.set 4 rfl,⟨J,N,M,Y,e6,g⟩⟩
  ·obtain rfl:=cL ‹_›;refine aT (b:=b4) g 0 (c:=#[a0,a1,a2,a3,.int .i64 c.node,.pointer gp,lv,.int .i64 (mk:Int),.int .i64 (c.taken:Int)]) aG rfl rfl ?_;exact ⟨t.set 5 rfl,⟨J,N,M,Y,e6,g⟩⟩
  ·obtain rfl:=cD ‹_›;obtain rfl:=cN ‹_›;obtain ⟨rfl,rfl,rfl⟩:=Y bH;refine Run.callE (A:=[_,_,_,_]) lA lo g (xh (mark:=mk) hK.km f1 f2 (by omega)) fun v' I' S4 w_=>?_;rintro ⟨eS,rfl,J,N,rfl,a5⟩ _ g;rw [eS] at g;obtain ⟨M,a4⟩:∃ a,a=tr.take mk:=⟨_,rfl⟩
   rw [<- a4] at g;have Y:ao D 6 6=false->es=J/\tv=N/\tr=M:=fun h=>Bool.noConfusion h;have e6:ao D 6 6=true->KnownM S1 J (eX st (tr.drop mk))/\M=tr.take mk:=fun _=>⟨a5,a4⟩
   exact ⟨t.set 6 (by first|assumption|trivial),⟨J,N,M,Y,e6,g⟩⟩
  obtain ⟨rfl,rfl,rfl,rfl,rfl,rfl,Me,_⟩:=t.all;clear t cI cJ cH cD cL cN cq;obtain ⟨a5,a4⟩:=e6 (by assumption);rw [b8,a6] at a5;clear e6 Y;have g0:=g;clear g;refine ⟨fun D zl yZ sx F0 Aa Ea Ah FB tU xC w_=>Fx D 0 [xC=.pointer (some ⟨sp,0,none⟩),tU=.pointer (some ⟨sp,0,none⟩),FB=.pointer (some ⟨sp,0,none⟩),Ah=.pointer (some ⟨sp,10,none⟩),Ea=.slice na ncs.length l,Aa=.pointer (some ⟨b4,8,none⟩),F0=.int .i64 (c.taken:Int),sx=.slice na c.taken l,yZ=.pointer (some ⟨sp,0,none⟩),zl=.pointer (some ⟨sp,10,none⟩),True]/\∃ (Z:Nat),(D 10=false->ncs.length=Z)/\(D 10=true->D 4=true)/\(D 10=true->Z=c.taken)/\Inv w X ([.blk b4 (.cells #[a0,a1,a2,a3,.int .i64 c.node,.pointer gp,lv,.int .i64 (mk:Int),.int .i64 (c.taken:Int)] ek),fL sp (dX sb pv qv nc fuel used n gv (.slice (some ⟨cg,0,none⟩) f.length B) (.slice na Z l) mo),chI (.slice (some ⟨cg,0,none⟩) f.length B) f,noI (.slice na ncs.length l) ncs]++aB sb mb J ck N M) S1 w_,⟨Fx.nil _ _,⟨ncs.length,fun _=>rfl,aI,aI,g0.draw⟩⟩,⟨?_,?_,?_,?_,?_,?_,?_,?_,?_,?_,?_,trivial⟩,?_⟩;all_goals (intro D bH; intros; rename_i zl yZ sx F0 Aa Ea Ah FB tU xC w_ a9; have t:=a9.1; obtain ⟨⟨cI,cJ,cH,cD,cL,cN,cq,dg,dG,dL,cT,_⟩,⟨Z,G,O,U,g⟩⟩:=a9)
  ·exact ⟨t.set 0 rfl,⟨Z,G,O,U,g⟩⟩
  ·exact ⟨t.set 1 rfl,⟨Z,G,O,U,g⟩⟩
  ·obtain rfl:=cJ ‹_›;refine aE ?_;exact ⟨t.set 2 rfl,⟨Z,G,O,U,g⟩⟩
  ·obtain rfl:=cH ‹_›;refine aw ft ?_;exact ⟨t.set 3 rfl,⟨Z,G,O,U,g⟩⟩
  ·obtain rfl:=cD ‹_›;have g5:D 10=false:=bx.2 fun h=>by rw [O h] at bH; cases bH
   have q:=G g5;refine aT (b:=sp) (v:=.slice na ncs.length l) g 1 (c:=dX sb pv qv nc fuel used n gv (.slice (some ⟨cg,0,none⟩) f.length B) (.slice na Z l) mo) jU rfl (by rw [q]; rfl) ?_;have O:ao D 4 10=true->ao D 4 4=true:=fun _=>rfl;exact ⟨t.set 4 rfl,⟨Z,G,O,U,g⟩⟩
  ·refine aw Kn ?_;exact ⟨t.set 5 rfl,⟨Z,G,O,U,g⟩⟩
  ·obtain rfl:=cN ‹_›;refine aT (b:=b4) g 0 (c:=#[a0,a1,a2,a3,.int .i64 c.node,.pointer gp,lv,.int .i64 (mk:Int),.int .i64 (c.taken:Int)]) aG rfl rfl ?_;exact ⟨t.set 6 rfl,⟨Z,G,O,U,g⟩⟩
  ·obtain rfl:=cL ‹_›;obtain rfl:=cq ‹_›;refine PS g 3 rfl uS (n:=c.taken) (by have:=hK.nd.hc; omega) ?_;exact ⟨t.set 7 rfl,⟨Z,G,O,U,g⟩⟩
  ·obtain rfl:=cI ‹_›;refine aE ?_;exact ⟨t.set 8 rfl,⟨Z,G,O,U,g⟩⟩
  ·obtain rfl:=dG ‹_›;refine aw ft ?_;exact ⟨t.set 9 rfl,⟨Z,G,O,U,g⟩⟩
  ·obtain rfl:=dL ‹_›;obtain rfl:=dg ‹_›;refine dy g 1 (n:=1) rfl (by rw [jU]; rfl) rfl (mL rfl) (by simp [Value.cells,Value.oneCell']) fun w_ g=>?_;obtain ⟨Z,hF⟩:∃ a,a=c.taken:=⟨_,rfl⟩
   have G:ao D 10 10=false->ncs.length=Z:=fun h=>Bool.noConfusion h;have O:ao D 10 10=true->ao D 10 4=true:=fun _=>by assumption
   have U:ao D 10 10=true->Z=c.taken:=fun _=>hF;have g:Inv w X ([.blk b4 (.cells #[a0,a1,a2,a3,.int .i64 c.node,.pointer gp,lv,.int .i64 (mk:Int),.int .i64 (c.taken:Int)] ek),fL sp (dX sb pv qv nc fuel used n gv (.slice (some ⟨cg,0,none⟩) f.length B) (.slice na Z l) mo),chI (.slice (some ⟨cg,0,none⟩) f.length B) f,noI (.slice na ncs.length l) ncs]++aB sb mb J ck N M) S1 w_:=by rw [hF]; exact g
   exact ⟨t.set 10 trivial,⟨Z,G,O,U,g⟩⟩
  obtain ⟨rfl,rfl,rfl,rfl,rfl,rfl,rfl,rfl,rfl,rfl,_,_⟩:=t.all;clear t cI cJ cH cD cL cN cq dg dG dL cT;have g6:=U (by assumption);subst g6;clear U G O;have k6:=hK.nd.hc;have g:=g.cutRow (i:=3) rfl (n:=c.taken) (by omega) hK.nd.hk;obtain ⟨b9,b2⟩:∃ a,a=ncs.take c.taken:=⟨_,rfl⟩
  have g:Inv w X ([.blk b4 (.cells #[a0,a1,a2,a3,.int .i64 c.node,.pointer gp,lv,.int .i64 (mk:Int),.int .i64 (c.taken:Int)] ek)]++([fL sp (dX sb pv qv nc fuel used (bI c.binds n).length gv (.slice (some ⟨cg,0,none⟩) f.length B) (.slice na c.taken l) mo),chI (.slice (some ⟨cg,0,none⟩) f.length B) f,noI (.slice na c.taken l) b9]++aB sb mb J ck N M)) S1 w_:=by
   rw [b3,b2];exact g
  refine aw Lg ?_;refine dC g 0 [a0,a1,a2,a3] ad rfl rfl Zz ?_;refine af g 0 rfl KB aG rfl ?_;refine af g 0 rfl Kc jy rfl ?_;refine af g 0 rfl KC dP rfl ?_;have e4:(ns.take c.taken).length=c.taken:=by rw [cM]; omega
  have c6:eX st (tr.drop mk)=bI c.binds n:=by rw [<- a6]; exact b8
  have g7:unb (bI c.binds n)<=unb st+(tr.drop mk).length:=by rw [<- c6]; exact Ox _ _
  rw [mi] at g7;have k7:=hK.tb;have g8:SeaK S1 a7 (ns.take c.taken) (bI c.binds n) f0 M J f b9:=by
   refine ⟨a5,c1,by rw [b2]; exact hK.nd.take _,?_,?_⟩
   ·rw [a4,<- a6]; exact d6
   ·rw [a4,b3,cM]; omega
  refine Run.callE (A:=[_]) rG rT g (Jc hp e5 hT g1 g2 g3 (by rw [b3]; omega) c2 c4 c3 (h4.mono a8.1 fun _ _=>RdC.mono a8.1) g8 ⟨k2.node.1,by rw [e4]; exact k2.node.2⟩ (by omega)) fun v' I' S4 w'=>?_;rintro ⟨rfl,c8,c9,d0,e7,e8,e9,d1,b0,d2,b7,d3,rfl,hm⟩ d4 g;have c7:=g.sub (fH _ _);obtain ⟨j1,j2,j3⟩:=hT.ok hp g1 g2 g3;rw [b3] at j1 j2;rcases c0 with ⟨r,rfl,rfl⟩|⟨rfl,g9⟩
  ·refine aD (fun _=>?_) (fun h=>by cases h);obtain ⟨_,_,_,j4,j5,_⟩:=j3 r rfl;refine ⟨_,_,S4,rfl,c7,a8.trans d4,rfl,c8,c9,d0,e7,e8,e9,d1,b0,d2,b7,d3,_,rfl,fun s hs=>?_⟩;cases hs;exact ⟨by show (m:Int)=(r.st.length:Int); omega,hm.1,hm.2⟩
  ·refine aD (fun h=>by cases h) (fun _=>?_);obtain ⟨rfl,rfl,rfl,c5⟩:=hm;have k8:=j2 rfl;have h6:b0.length=a7.length:=by have:=c5.ch.hc; have h5:=c5.mkI.len; rw [KM] at this; omega
   refine ⟨⟨a7,m,ns.take c.taken,bI (bI c.binds n) m,S4,d1,d2,d0,_,_,c8,b0,b7,c9,d3,g9,by rw [e4]; exact k1.mono j1 (aS _),by omega,by omega,ce (by rw [b3]; exact j1),a8.trans d4,c5,c7⟩,?_⟩;show chN sp _<chN sp _;rw [c7.chN 0 1 rfl rfl,e0,bA,bq,bW];omega
 ·have:cs=[]:=gF (by omega);subst this;obtain rfl:=hb.inv0;exact ⟨_,_,S1,rfl,g,a8,rfl,es,ck,tv,tr,ms,gv,cv,V,nv,ncs,mo,_,rfl,fun s hs=>by cases hs⟩
end
end
end Go.Proofs.YtgllldjiaglkcaaGreatDoor
