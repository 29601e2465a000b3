/- impl's search in memory: try. -/
import Derived.Test.YtgllldjiaglkcaaGreatDoorZUf20
namespace Go.Proofs.YtgllldjiaglkcaaGreatDoor
section
open Go Go.RowKit
abbrev dX (sb:Nat) (pv qv:Value) (nc:Bool) (fuel used fresh:Int) (gv cv nv:Value) (mo:Int):Array Value:=
 #[.pointer (some ⟨sb,0,none⟩),pv,qv,.bool false,.bool nc,.int .i64 fuel,.int .i64 used,.int .i64 fresh,gv,cv,nv,.int .i64 mo]
abbrev fK (sp:Nat) (c:Array Value):Item:=.blk sp (.cells c o8)
abbrev chI (cv:Value) (ccs:List (List Value)):Item:=aA cv ek 9 ccs
abbrev noI (nv:Value) (ncs:List (List Value)):Item:=aA nv lV 6 ncs
abbrev jq (a:Option Addr) (cap n l:Nat):Value:=.slice (if cap=l then a else a.map (·.add (l * 1))) (n - l) (cap - l)
abbrev chC (a0 a1 a2 a3:Value) (at_:Int) (gp:Option Addr) (lv:Value) (m n:Int):List Value:=[a0,a1,a2,a3,.int .i64 at_,.pointer gp,lv,.int .i64 m,.int .i64 n]
theorem Xd {f g i o:Value} (h:∀ u∈[f,g,i,o],u.oneCell'=true) {at_:Int} {r:Option Addr} {a:Option Addr} {c l t:Nat} {m n:Int}:∀ u∈chC f g i o at_ r (jq a c l t) m n,u.oneCell'=true:=by
 intro u q;simp only [bY,i5,i9] at q;rcases q with rfl|rfl|rfl|rfl|rfl|rfl|rfl|rfl|rfl <;> first|rfl|exact h _ (by simp)
def RdCI (S:ae) (cs:List Value) (x:CI × Nat):Prop:=∃ a0 a1 a2 a3 gp lv,cs=[a0,a1,a2,a3,.int .i64 x.1.node,gp,lv,.int .i64 (x.2:Int),.int .i64 (x.1.taken:Int)]/\RdT S [a0,a1,a2,a3] x.1.goal/\GL S gp x.1.rest/\RdSl S 1 jz lv x.1.left
def RdNI (S:ae) (cs:List Value) (x:NI):Prop:=∃ a0 a1 a2 a3,cs=[a0,a1,a2,a3,.int .i64 x.up,.int .i64 x.clause]/\RdT S [a0,a1,a2,a3] x.goal
theorem RdCI.mono {S S':ae} (a:Sle S S') {cs:List Value} {x:CI × Nat} (h:RdCI S cs x):RdCI S' cs x:=by
 obtain ⟨l,m,o,q,r,t,rfl,f,g,i⟩:=h;exact ⟨_,_,_,_,_,_,rfl,f.mono a,g.mono a,i.mono a fun _ _ h=>h⟩
theorem RdNI.mono {S S':ae} (a:Sle S S') {cs:List Value} {x:NI} (h:RdNI S cs x):RdNI S' cs x:=by
 obtain ⟨g,i,l,m,rfl,f⟩:=h;exact ⟨_,_,_,_,rfl,f.mono a⟩
theorem KnownM.upS {S S':ae} {f:Array MapEntry} {st:aj} (h:KnownM S f st) (g:Sle S S'):KnownM S' f st:=
 ⟨fun e i=>by
  obtain ⟨n,t,cs,a,b,c,d⟩:=h.1 e i;exact ⟨n,t,cs,a,b,c.mono g,d⟩,h.2⟩
structure SeaK (S:ae) (chs:List CI) (nodes:List NI) (st:aj) (ms:List Nat) (tr:List Int) (es:Array MapEntry) (ccs ncs:List (List Value)):Prop where
 km:KnownM S es st
 ch:Rows 9 (RdCI S) ccs (chs.zip ms)
 nd:Rows 6 (RdNI S) ncs nodes
 mkI:MkI chs ms st tr
 tb:tr.length+unb st<=st.length
theorem SeaK.mono {S S':ae} {chs:List CI} {nodes:List NI} {st:aj} {g:List Nat} {tr:List Int} {i:Array MapEntry} {a ncs:List (List Value)} (h:SeaK S chs nodes st g tr i a ncs) (f:Sle S S'):SeaK S' chs nodes st g tr i a ncs:=
 ⟨h.km.upS f,h.ch.monoR fun _ _=>RdCI.mono f,h.nd.monoR fun _ _=>RdNI.mono f,h.mkI,h.tb⟩
theorem KnownM.g26 {S:ae} {g:Array MapEntry} {st:aj} (h:KnownM S g st):KnownM S g (g26 st):=by
 obtain ⟨l,m,o⟩:=h;refine ⟨fun e i=>?_,fun n t hn=>?_,o⟩
 ·obtain ⟨n,t,cs,a,b,c,d⟩:=l e i;have f:n<st.length:=(fa.1 d).1;exact ⟨n,t,cs,a,b,c,by unfold Go.Proofs.YtgllldjiaglkcaaGreatDoor.g26; rw [vB f]; exact d⟩
 ·unfold Go.Proofs.YtgllldjiaglkcaaGreatDoor.g26 at hn;by_cases f:n<st.length
  ·rw [vB f] at hn;exact m n t hn
  ·rw [gC (by omega),OG] at hn;split at hn <;> simp at hn
section
variable {P:Program} {w:World} {K:Value->World->Prop}
attribute [local irreducible] Run
theorem Z1 {cs:List Bool} {a b:Int} (hk:K (.int .i64 (if a<b then b else a)) w):Run Tryz.prog (co .max #[cN,cN] cN cs [.int .i64 a,.int .i64 b]) w K:=by
 refine Run.of ?_ hk;simp [co,builtin,Builtin.max_,Builtin.max2]
end
section
variable {P:Program} {w w0:World} {X:List Nat} {L:List Item} {S:ae} {K:Value->World->Prop}
attribute [local irreducible] Run CondV aq aK
theorem kJ (h:Inv w0 X L S w) (i:Nat) {T ty e:TypeId} {cs:List Bool} {k n:Nat} {v:Value} {xs:List Value} {Ek:TypeId × Nat} (f:L[i]?=some (.row v e k n xs)) (a:dn P T=some Ek) (hk:K (.int .i64 (n:Int)) w) :
  Run P (co .len #[T] ty cs [v]) w K:=by
 have l:w.ownsRow 0 e k v n xs:=h.its (.row v e k n xs) (cA f);rcases l.2 with ⟨rfl,hn⟩|⟨g,cap,m,rfl,_⟩
 ·subst hn;exact iB a hk
 ·exact iB a hk
end
def KH (sp sb mb:Nat) (pv qv:Value) (nc:Bool) (fuel used:Int) (gv0:Value) (chs:List CI) (nodes:List NI) (st:aj) (tr:List Int) (ms:List Nat) (g:T) (at_:Int) (rest:List GI) (o:Option HI) (n:Nat):Value->List Item->ae->Prop:=fun q I' S'=>
 q=.bool o.isSome/\∃ es' ck' tv' tr' ms' gv' cv' ccs' nv' ncs' mo',I'=[fK sp (dX sb pv qv nc fuel used n gv' cv' nv' mo'),chI cv' ccs',noI nv' ncs']++aB sb mb es' ck' tv' tr'/\
  match o with
  | none=>gv'=gv0/\tr'=tr/\ms'=ms/\SeaK S' chs nodes (bH st n) ms tr es' ccs' ncs'
  | some r=>GL S' gv' (gD chs nodes g at_ rest st r).goals/\SeaK S' (gD chs nodes g at_ rest st r).chs (gD chs nodes g at_ rest st r).nodes r.st ms' tr' es' ccs' ncs'
theorem TryI.inv {p:List C} {g:T} {x:Int} {l:List Int} {st:aj} {o:Option HI} {n:Nat} (h:TryI p g (x::l) st o n):∃ (i:Nat) (cl:C) (r:Bool) (a:aj),x=i/\p[i]?=some cl/\Uni (g26 st) (.one g (bp st.length cl.head)) r a/\
  ((r=true/\o=some ⟨i,cl,st.length,l,a⟩/\n=st.length+26) ∨ (r=false/\TryI p g l (g26 st) o n)):=by
 cases h with
 | hit f m=>exact ⟨_,_,_,_,rfl,f,m,.inl ⟨rfl,rfl,rfl⟩⟩
 | miss f m q=>exact ⟨_,_,_,_,rfl,f,m,.inr ⟨rfl,q⟩⟩
theorem UF (ns:List NI) (a:Nat) (i:Int) (h:a<ns.length):LW ns a i=ns.set a ⟨ns[a].goal,ns[a].up,i⟩:=by
 unfold LW;apply wm;intro j;rw [List.getElem?_modify,C8];split
 ·rename_i e
  subst e;rw [ez h];rfl
 ·cases ns[j]? <;> rfl
theorem JN {t:T} (h:okU 26 t):okV t:=y0 t h
section
attribute [local irreducible] Run CondV aq aK
set_option maxHeartbeats 2000000 in
theorem IP {p:List C} (hp:∀ cl∈p,im cl) (k2:∀ cl∈p,cl.body.length<=1048576) {g:T} {l:List Int} {st:aj} {o:Option HI} {n:Nat} (ht:TryI p g l st o n) (k3:Good st.length st) (k4:tabM st) (g6:(okU st.length g/\wT g<=1048576)/\okM g)
  (hn:st.length+26 * l.length<=900000) {S:ae} {d3:List Value} {lv gv b4 pv qv cv nv tv:Value} {rest:List GI} {chs:List CI} {nodes:List NI} {ms:List Nat} {tr:List Int} {es:Array MapEntry} {b5 ncs:List (List Value)}
  {sp sb mb ck:Nat} {nc:Bool} {fuel used at_ mo:Int} (h1:RdT S d3 g) (h2:RdSl S 1 jz lv l) (h3:GL S gv rest) (h4:RdSl S 5 (RdC S) pv p) (hK:SeaK S chs nodes st ms tr es b5 ncs) (r6:0<=at_/\at_<nodes.length) (e8:chs.length<=1000000) :
  Tri Tryz.prog FK [.pointer (some ⟨sp,0,none⟩),.agg d3.toArray,.int .i64 at_,lv,gv] ([fK sp (dX sb pv qv nc fuel used st.length b4 cv nv mo),chI cv b5,noI nv ncs]++aB sb mb es ck tv tr) S
   (KH sp sb mb pv qv nc fuel used b4 chs nodes st tr ms g at_ rest o n):=by
 intro w t;obtain ⟨X,hX⟩:∃ X,X=bP ([fK sp (dX sb pv qv nc fuel used st.length b4 cv nv mo),chI cv b5,noI nv ncs]++aB sb mb es ck tv tr):=⟨_,rfl⟩
 rw [<- hX] at t ⊢;have n0:=h1.length;have r1:tr.length<=900000:=by have:=hK.tb; omega
 refine rQ.2 ?_;dsimp only[rQ,Jr];refine bJ t fun b6 w' t=>?_;have t:Inv w X ([.blk b6 (.cells d3.toArray ab),fK sp (dX sb pv qv nc fuel used st.length b4 cv nv mo),chI cv b5,noI nv ncs]++aB sb mb es ck tv tr) S w':=t.perm (cj (l₁:=[_]));refine aE ?_;refine af t 1 rfl gi fx rfl ?_;refine aE ?_;refine af t 4 rfl fX jj rfl ?_;refine kJ t 6 rfl cz ?_;refine aJ h2 cz ?_;have n1:=h2.le;simp only [maxLen] at n1;refine ⟨fun i w'=>∃ (k:Nat) (G:aj) (d0:Array MapEntry) (d1:Nat) (d2:Value) (S1:ae),k<=l.length/\i=.int .i64 (k:Int)/\TryI p g (l.drop k) G o n/\G=bH st G.length/\G.length=st.length+26 * k/\Ext w.heap.size X S S1/\KnownM S1 d0 G/\
   Inv w X ([.blk b6 (.cells d3.toArray ab),fK sp (dX sb pv qv nc fuel used G.length b4 cv nv mo),chI cv b5,noI nv ncs]++aB sb mb d0 d1 d2 tr) S1 w',
  fun i _=>l.length - (intOf i).toNat,⟨0,st,es,ck,tv,S,bk _,rfl,ht,(gT st).symm,rfl,Ext.refl _ _ _,hK.km,t⟩,?_⟩
 clear t;intro r7 _ _ o9 p0 p1 p2 p3 p4 p5 p6 p7 p8 p9 q0 q4 _ _ _ _ _ _ _ _ _ _ _ _ _ _ _ _ _ _ _ _ _ _ _ _ _ _ _ _ _ _ _ _ _ _ _ _ _ _ q5 q6 q7 r8 r9 s0 s1 s2 s3 s4 s5 s6 s7 s8 s9 t0 t1 t2 t3 t4 t5 t6 t7 _ _ _ _ _ _ _ _ _ _ _ _ _ _ _ _ _ t8 t9 u0 u1 u2 u3 u4 u5 u6 u7 u8 u9 v3 v4 v6 v7 v8 _ _ _ _ _ _ _ _ _ _ _ _ _ _ _ _ _ _ _ _ w';rintro ⟨k,G,d0,d1,d2,S1,hk,rfl,f0,c7,k5,f1,f7,t⟩;refine bT ?_;refine aL (fun l2=>?_) (fun l2=>?_)
 ·have h0:k<l.length:=by omega
  rw [dY h0] at f0;obtain ⟨i,cl,r,c9,l6,f4,hu,g9⟩:=f0.inv;have h5:i<p.length:=(fa.1 f4).1;have n2:p[i]=cl:=(fa.1 f4).2;have d7:=hp cl (cA f4);have e4:st.length<=G.length:=by omega
  have n3:Good G.length G:=by have h:=k3.to e4; rwa [<- c7] at h
  have r2:tabM G:=by have h:=k4.to G.length; rwa [<- c7] at h
  have j8:(okU G.length g/\wT g<=1048576)/\okM g:=⟨⟨gK e4 _ g6.1.1,g6.1.2⟩,g6.2⟩
  have n4:=Nx j8.1 d7;have x1:G.length<=900000:=by omega
  have r3:unb G+tr.length<=G.length:=by
   have:=hK.tb;rw [c7,ce e4];unfold bH;rw [qJ];omega
  have h6:tr.length+unb (g26 G)<=1000000:=by unfold g26; rw [qJ]; omega
  refine ff t (h2.mono f1.1 fun _ _ h=>h) cz aG h0 (fun cs l3=>l3) ?_;rw [l6];refine aE ?_;refine af t 1 rfl qY aG rfl ?_;refine aQ t Uq fun f3 w' t=>?_;refine dA t 7 (n:=1) rfl (by rw [aG]; rfl) rfl (mi rfl) (by simp [Value.cells]; rfl) fun w' t=>?_;have t:Inv w X (([.blk b6 (.cells d3.toArray ab),fK sp (dX sb pv qv nc fuel used G.length b4 cv nv mo),chI cv b5,noI nv ncs]++aB sb mb d0 d1 d2 tr)++[.blk f3 (.cells #[.int .i64 (G.length:Int)] cN)]) S1 w':=t;obtain ⟨S2,t,i9,j0⟩:=Inv.pub1 t;refine aE ?_;refine af t 1 rfl qY aG rfl ?_;refine bC (by omega) ?_;refine aE ?_;refine dj t 1 rfl qY aG rfl rfl rfl fun w' t=>?_;refine ml ?_;have e1:=f1.trans i9;obtain ⟨pb,po,f9,pc,pE,v9,j1,j2,j3⟩:=h4.at_ h5;rw [n2] at j3;obtain ⟨hd,kb,f5,j4,l7⟩:=j3;have j9:=j4.length;have g2:=Tq (S:=S2) (by_:=(G.length:Int)) j0 (by omega);have h7:((G.length:Int)+26)=((g26 G).length:Int):=by rw [kM]; omega
  have n5:Inv w X ([.blk b6 (.cells d3.toArray ab),fK sp (dX sb pv qv nc fuel used ((g26 G).length:Int) b4 cv nv mo),chI cv b5,noI nv ncs]++aB sb mb d0 d1 d2 tr) S2 w':=by rw [<- h7]; exact t
  repeat clear t
  refine ⟨fun D Jt F4 EK Ec GQ En EH Gp IV Ix Gx sc Df CG y7 z8 sx w_=>Fx D 0 [sx=.pointer (some ⟨sp,0,none⟩),z8=.pointer (some ⟨sp,0,none⟩),y7=.pointer (some ⟨sp,0,none⟩),CG=.pointer (some ⟨sb,0,none⟩),Df=.agg d3.toArray,sc=.pointer (some ⟨sp,0,none⟩),Gx=.pointer (some ⟨sp,0,none⟩),Ix=.pointer (some ⟨sp,1,none⟩),IV=.slice (some ⟨pb,po,none⟩) p.length f9,Gp=.int .i64 (i:Int),EH=.pointer (some ⟨pb,po+i * 5,none⟩),En=.pointer (some ⟨pb,po+i * 5,none⟩),GQ=.agg hd.toArray,Ec=.func (.func pN) #[] #[.pointer (some ⟨f3,0,none⟩)],True,F4=.bool r,Jt=.bool (!r)]/\∃ (SN:ae) (V:Array MapEntry) (Y:Nat) (Z:Value) (O:List Int),Ext w.heap.size X S2 SN/\(D 14=true->∃ cs,EK=.agg cs.toArray/\RdT SN cs (bp G.length cl.head))/\(D 15=false->d0=V/\d1=Y/\d2=Z/\tr=O)/\(D 15=true->KnownM SN V c9/\Tr (g26 G) c9 tr O)/\Inv w X ([.blk b6 (.cells d3.toArray ab),fK sp (dX sb pv qv nc fuel used ((g26 G).length:Int) b4 cv nv mo),chI cv b5,noI nv ncs]++aB sb mb V Y Z O) SN w_,⟨Fx.nil _ _,⟨S2,d0,d1,d2,tr,Ext.refl _ _ _,aI,fun _=>⟨rfl,rfl,rfl,rfl⟩,aI,n5.draw⟩⟩,⟨?_,?_,?_,?_,?_,?_,?_,?_,?_,?_,?_,?_,?_,?_,?_,?_,?_,trivial⟩,?_⟩;all_goals (intro D bI; intros; rename_i Jt F4 EK Ec GQ En EH Gp IV Ix Gx sc Df CG y7 z8 sx w_ d4; have B:=d4.1; obtain ⟨⟨cJ,cH,cI,cD,cM,cO,cq,dg,dF,dL,cT,dl,dN,fE,gr,gQ,iC,_⟩,⟨SN,V,Y,Z,O,hN,b3,b8,b0,t⟩⟩:=d4)
  ·exact ⟨B.set 0 rfl,⟨SN,V,Y,Z,O,hN,b3,b8,b0,t⟩⟩
  ·obtain rfl:=cJ ‹_›;refine aE ?_;exact ⟨B.set 1 rfl,⟨SN,V,Y,Z,O,hN,b3,b8,b0,t⟩⟩
  ·obtain rfl:=cH ‹_›;refine aw gi ?_;exact ⟨B.set 2 rfl,⟨SN,V,Y,Z,O,hN,b3,b8,b0,t⟩⟩
  ·obtain rfl:=cI ‹_›;refine aU (b:=sp) t 1 (c:=dX sb pv qv nc fuel used ((g26 G).length:Int) b4 cv nv mo) fx rfl rfl ?_;exact ⟨B.set 3 rfl,⟨SN,V,Y,Z,O,hN,b3,b8,b0,t⟩⟩
  ·refine aC t 0 ad rfl (by simpa using n0) ?_;exact ⟨B.set 4 rfl,⟨SN,V,Y,Z,O,hN,b3,b8,b0,t⟩⟩
  ·exact ⟨B.set 5 rfl,⟨SN,V,Y,Z,O,hN,b3,b8,b0,t⟩⟩
  ·obtain rfl:=cO ‹_›;refine aE ?_;exact ⟨B.set 6 rfl,⟨SN,V,Y,Z,O,hN,b3,b8,b0,t⟩⟩
  ·obtain rfl:=cq ‹_›;refine aw qG ?_;exact ⟨B.set 7 rfl,⟨SN,V,Y,Z,O,hN,b3,b8,b0,t⟩⟩
  ·obtain rfl:=dg ‹_›;refine aU (b:=sp) t 1 (c:=dX sb pv qv nc fuel used ((g26 G).length:Int) b4 cv nv mo) eO rfl (by rw [j1]; rfl) ?_;exact ⟨B.set 8 rfl,⟨SN,V,Y,Z,O,hN,b3,b8,b0,t⟩⟩
  ·exact ⟨B.set 9 rfl,⟨SN,V,Y,Z,O,hN,b3,b8,b0,t⟩⟩
  ·obtain rfl:=dF ‹_›;obtain rfl:=dL ‹_›;refine az bf h5 ?_;exact ⟨B.set 10 rfl,⟨SN,V,Y,Z,O,hN,b3,b8,b0,t⟩⟩
  ·obtain rfl:=cT ‹_›;refine aw bO ?_;exact ⟨B.set 11 rfl,⟨SN,V,Y,Z,O,hN,b3,b8,b0,t⟩⟩
  ·obtain rfl:=dl ‹_›;refine ci (cs:=hd) ad j9 (fun j v hj=>by rw [t.cellS ((e1.trans hN).1 _ _ j2)]; exact aF f5 j v (by rw [vB (fa.1 hj).1]; exact hj)) ?_;exact ⟨B.set 12 rfl,⟨SN,V,Y,Z,O,hN,b3,b8,b0,t⟩⟩
  ·exact ⟨B.set 13 rfl,⟨SN,V,Y,Z,O,hN,b3,b8,b0,t⟩⟩
  ·obtain rfl:=dN ‹_›;obtain rfl:=fE ‹_›;refine Run.call0E gh gB t (qw [.pointer (some ⟨f3,0,none⟩)] _ nH ol cl.head SN hd (j4.mono (e1.trans hN).1) (JN d7.head.1.1) d7.head.1.2 (g2.mono hN.1)) fun v' I' S4 w_=>?_;rintro ⟨rfl,d6,rfl,hT⟩ i0 t;rw [ti G.length cl.head d7.head.1.1] at hT;have t:=t.sub (dw _ _);have hN:=hN.trans i0;have b3:ao D 14 14=true->∃ cs,Value.agg d6.toArray=.agg cs.toArray/\RdT S4 cs (bp G.length cl.head):=fun _=>⟨d6,rfl,hT⟩
   have b0:ao D 14 15=true->KnownM S4 V c9/\Tr (g26 G) c9 tr O:=fun h=>⟨(b0 h).1.upS i0.1,(b0 h).2⟩
   obtain ⟨SN,l8⟩:∃ a,a=S4:=⟨_,rfl⟩
   subst l8;exact ⟨B.set 14 (by first|assumption|trivial),⟨SN,V,Y,Z,O,hN,b3,b8,b0,t⟩⟩
  ·obtain rfl:=cD ‹_›;obtain rfl:=cM ‹_›;have l9:=gr ‹_›;obtain ⟨rfl,rfl,rfl,rfl⟩:=b8 bI;obtain ⟨d6,rfl,j5⟩:=b3 ‹D 14=true›;refine Run.callE (A:=[_,_,_,_]) eq eo t (gH (by omega) n3.g26 n4 hu SN _ _ sb mb d1 d0 d2 tr (h1.mono (e1.trans hN).1) j5 ((f7.upS (i9.trans hN).1).g26) h6) fun v' I' S4 w_=>?_;rintro ⟨eS,rfl,V,Y,Z,O,rfl,k6,_,k7⟩ _ t;rw [eS] at t;have b8:ao D 15 15=false->d0=V/\d1=Y/\d2=Z/\tr=O:=fun h=>Bool.noConfusion h;have b0:ao D 15 15=true->KnownM SN V c9/\Tr (g26 G) c9 tr O:=fun _=>⟨k6,k7⟩
   have b3:ao D 15 14=true->∃ cs,Value.agg d6.toArray=.agg cs.toArray/\RdT SN cs (bp G.length cl.head):=fun _=>⟨d6,rfl,j5⟩
   exact ⟨B.set 15 rfl,⟨SN,V,Y,Z,O,hN,b3,b8,b0,t⟩⟩
  ·obtain rfl:=gQ ‹_›;refine cw ?_;exact ⟨B.set 16 rfl,⟨SN,V,Y,Z,O,hN,b3,b8,b0,t⟩⟩
  obtain ⟨rfl,rfl,rfl,rfl,rfl,rfl,rfl,rfl,rfl,rfl,rfl,rfl,rfl,rfl,l9,rfl,rfl,_⟩:=B.all;clear B cJ cH cI cD cM cO cq dg dF dL cT dl dN fE gr gQ iC;obtain ⟨g0,e0⟩:=b0 (by assumption);clear b8 b3 b0;have c5:=e1.trans hN;rcases g9 with ⟨rfl,ho,o7⟩|⟨rfl,o8⟩
  ·refine aD (fun hb=>by cases hb) (fun _=>?_);subst ho o7;obtain ⟨an,rfl⟩:∃ an:Nat,at_=an:=⟨at_.toNat,by omega⟩
   have k0:an<nodes.length:=by omega
   obtain ⟨a0,a1,a2,a3,rfl⟩:=h1.four;obtain ⟨gp,rfl⟩:=h3.ptr;have n6:=hK.mkI.len;have n7:b5.length=chs.length:=by have:=hK.ch.hc; rw [Ly] at this; omega
   have n8:=hK.nd.hc;have k1:TrG st c9 tr O:=by
    refine (TrG.grow st tr e4).trans ?_;rw [<- c7];refine (TrG.grow G tr (sz _ 26)).trans ?_;rw [<- P7];exact TrG.of e0
   have r4:c9.length=G.length+26:=by
    obtain ⟨ns,_,m0,_⟩:=e0;have:=congrArg List.length m0;rw [pz,kM] at this;exact this
   obtain ⟨la,b9,rfl,q8,q9,x0⟩:=id h2;have n9:=h2.from (l:=k+1) (by omega);refine aE ?_;refine af t 1 rfl dU ey rfl ?_;refine kJ t 2 rfl ia ?_;refine ⟨fun w'=>∃ (SJ:ae) (b7:Value) (a9:List (List Value)) (e9:List Nat),Ext w.heap.size X SN SJ/\Rows 9 (RdCI SJ) a9 ((chs++(if l.drop (k+1)=[] then [] else ([⟨g,(an:Int),rest,l.drop (k+1),st,nodes.length⟩]:List CI))).zip e9)/\
    MkI (chs++(if l.drop (k+1)=[] then [] else ([⟨g,(an:Int),rest,l.drop (k+1),st,nodes.length⟩]:List CI))) e9 c9 O/\
    Inv w X ([.blk b6 (.cells #[a0,a1,a2,a3] ab),fK sp (dX sb pv qv nc fuel used ((g26 G).length:Int) b4 b7 nv mo),chI b7 a9,noI nv ncs]++aB sb mb V Y Z O) SJ w',?_,?_⟩
   ·refine bC (by omega) ?_;refine aJ h2 cz ?_;refine bT ?_;refine aL (fun l4=>?_) (fun l4=>?_)
    ·have o0:l.drop (k+1)≠[]:=fun e=>by have:=congrArg List.length e; rw [mK,bW] at this; omega
     rw [ag o0];have o1:=t;clear t;have x2:=hN;clear hN;refine ⟨fun D i1 i2 Yr i3 i4 Zr X1 UD VD Ub UG T2 V7 Vn T5 UQ Wd V6 VH V5 TQ Sx Rg w_=>Fx D 0 [Rg=.pointer (some ⟨sp,0,none⟩),Sx=.pointer (some ⟨sp,0,none⟩),TQ=.pointer (some ⟨sp,0,none⟩),V5=.pointer (some ⟨sp,9,none⟩),VH=cv,V6=.agg #[a0,a1,a2,a3],Wd=.int .i64 (an:Int),UQ=.pointer gp,T5=.slice la l.length b9,Vn=.int .i64 (k:Int),V7=.int .i64 ((k+1:Nat):Int),T2=jq la b9 l.length (k+1),UG=.int .i64 (tr.length:Int),Ub=.pointer (some ⟨sp,0,none⟩),VD=.pointer (some ⟨sp,0,none⟩),UD=.pointer (some ⟨sp,10,none⟩),X1=nv,Zr=.int .i64 (ncs.length:Int),i4=.agg (chC a0 a1 a2 a3 an gp (jq la b9 l.length (k+1)) tr.length ncs.length).toArray,True,True,i2=.pointer (some ⟨sp,0,none⟩),i1=.pointer (some ⟨sp,9,none⟩),True]/\∃ (SP:ae) (U N:Value) (J:List (List Value)),Ext w.heap.size X SN SP/\(D 19=true->∃ b,i3=.slice (some ⟨b,0,none⟩) 1 1/\SP b=some (.cells (chC a0 a1 a2 a3 an gp (jq la b9 l.length (k+1)) tr.length ncs.length).toArray ek))/\(D 20=false->cv=U/\cv=N/\b5=J)/\(D 20=true->N=Yr/\J=b5++[chC a0 a1 a2 a3 an gp (jq la b9 l.length (k+1)) tr.length ncs.length])/\(D 23=true->U=Yr)/\(D 20=true->D 4=true)/\(D 23=true->D 20=true)/\Inv w X ([.blk b6 (.cells #[a0,a1,a2,a3] ab),fK sp (dX sb pv qv nc fuel used ((g26 G).length:Int) b4 U nv mo),chI N J,noI nv ncs]++aB sb mb V Y Z O) SP w_,⟨Fx.nil _ _,⟨SN,cv,cv,b5,Ext.refl _ _ _,aI,fun _=>⟨rfl,rfl,rfl⟩,aI,aI,aI,aI,o1.draw⟩⟩,⟨?_,?_,?_,?_,?_,?_,?_,?_,?_,?_,?_,?_,?_,?_,?_,?_,?_,?_,?_,?_,?_,?_,?_,?_,trivial⟩,?_⟩;all_goals (intro D bI; intros; rename_i i1 i2 Yr i3 i4 Zr X1 UD VD Ub UG T2 V7 Vn T5 UQ Wd V6 VH V5 TQ Sx Rg w_ d4; have B:=d4.1; obtain ⟨⟨cJ,cH,cI,cD,cM,cO,cq,dg,dF,dL,cT,dl,dN,fE,gr,gQ,iC,ku,lY,ic,py,sv,yt,Bd,_⟩,⟨SP,U,N,J,hN,a4,M,a5,a6,a7,a8,t⟩⟩:=d4)
     ·exact ⟨B.set 0 rfl,⟨SP,U,N,J,hN,a4,M,a5,a6,a7,a8,t⟩⟩
     ·exact ⟨B.set 1 rfl,⟨SP,U,N,J,hN,a4,M,a5,a6,a7,a8,t⟩⟩
     ·obtain rfl:=cH ‹_›;refine aE ?_;exact ⟨B.set 2 rfl,⟨SP,U,N,J,hN,a4,M,a5,a6,a7,a8,t⟩⟩
     ·obtain rfl:=cI ‹_›;refine aw dU ?_;exact ⟨B.set 3 rfl,⟨SP,U,N,J,hN,a4,M,a5,a6,a7,a8,t⟩⟩
     ·obtain rfl:=cD ‹_›;have o2:D 20=false:=bx.2 fun h=>by rw [a7 h] at bI; cases bI
      have q:=(M o2).1;refine aU (b:=sp) (v:=cv) t 1 (c:=dX sb pv qv nc fuel used ((g26 G).length:Int) b4 U nv mo) ey rfl (by rw [q]; rfl) ?_;have a7:ao D 4 20=true->ao D 4 4=true:=fun _=>rfl;exact ⟨B.set 4 (by first|assumption|trivial),⟨SP,U,N,J,hN,a4,M,a5,a6,a7,a8,t⟩⟩
     ·refine aC t 0 ad rfl rfl ?_;exact ⟨B.set 5 rfl,⟨SP,U,N,J,hN,a4,M,a5,a6,a7,a8,t⟩⟩
     ·exact ⟨B.set 6 rfl,⟨SP,U,N,J,hN,a4,M,a5,a6,a7,a8,t⟩⟩
     ·exact ⟨B.set 7 rfl,⟨SP,U,N,J,hN,a4,M,a5,a6,a7,a8,t⟩⟩
     ·exact ⟨B.set 8 rfl,⟨SP,U,N,J,hN,a4,M,a5,a6,a7,a8,t⟩⟩
     ·exact ⟨B.set 9 rfl,⟨SP,U,N,J,hN,a4,M,a5,a6,a7,a8,t⟩⟩
     ·obtain rfl:=dL ‹_›;refine bC (by omega) ?_;exact ⟨B.set 10 rfl,⟨SP,U,N,J,hN,a4,M,a5,a6,a7,a8,t⟩⟩
     ·obtain rfl:=dF ‹_›;obtain rfl:=cT ‹_›;refine Ot cz (by omega) ?_;exact ⟨B.set 11 rfl,⟨SP,U,N,J,hN,a4,M,a5,a6,a7,a8,t⟩⟩
     ·exact ⟨B.set 12 rfl,⟨SP,U,N,J,hN,a4,M,a5,a6,a7,a8,t⟩⟩
     ·exact ⟨B.set 13 rfl,⟨SP,U,N,J,hN,a4,M,a5,a6,a7,a8,t⟩⟩
     ·obtain rfl:=fE ‹_›;refine aE ?_;exact ⟨B.set 14 rfl,⟨SP,U,N,J,hN,a4,M,a5,a6,a7,a8,t⟩⟩
     ·obtain rfl:=gr ‹_›;refine aw fu ?_;exact ⟨B.set 15 rfl,⟨SP,U,N,J,hN,a4,M,a5,a6,a7,a8,t⟩⟩
     ·obtain rfl:=gQ ‹_›;refine aU (b:=sp) (v:=nv) t 1 (c:=dX sb pv qv nc fuel used ((g26 G).length:Int) b4 U nv mo) jT rfl rfl ?_;exact ⟨B.set 16 (by first|assumption|trivial),⟨SP,U,N,J,hN,a4,M,a5,a6,a7,a8,t⟩⟩
     ·have WY:=iC ‹_›;refine kJ (e:=lV) (k:=6) (n:=ncs.length) (xs:=ncs.flatten) t 3 (by rw [WY]; rfl) uN ?_;exact ⟨B.set 17 rfl,⟨SP,U,N,J,hN,a4,M,a5,a6,a7,a8,t⟩⟩
     ·obtain rfl:=cO ‹_›;obtain rfl:=cq ‹_›;obtain rfl:=dg ‹_›;obtain rfl:=dl ‹_›;obtain rfl:=dN ‹_›;obtain rfl:=ku ‹_›;refine HM ?_;exact ⟨B.set 18 rfl,⟨SP,U,N,J,hN,a4,M,a5,a6,a7,a8,t⟩⟩
     ·obtain rfl:=lY ‹_›;refine dC t Dg rfl (by omega) (by omega) fun e6 w_ t=>?_;have t:Inv w X (([.blk b6 (.cells #[a0,a1,a2,a3] ab),fK sp (dX sb pv qv nc fuel used ((g26 G).length:Int) b4 U nv mo),chI N J,noI nv ncs]++aB sb mb V Y Z O)++[.blk e6 (.cells (chC a0 a1 a2 a3 an gp (jq la b9 l.length (k+1)) tr.length ncs.length).toArray ek)]) SP w_:=t;obtain ⟨SP,t,m1,j6⟩:=Inv.pub1 t;have hN:=hN.trans m1;have a4:ao D 19 19=true->∃ b,Value.slice (some ⟨e6,0,none⟩) 1 1=.slice (some ⟨b,0,none⟩) 1 1/\SP b=some (.cells (chC a0 a1 a2 a3 an gp (jq la b9 l.length (k+1)) tr.length ncs.length).toArray ek):=fun _=>⟨e6,rfl,j6⟩
      exact ⟨B.set 19 (by first|assumption|trivial),⟨SP,U,N,J,hN,a4,M,a5,a6,a7,a8,t⟩⟩
     ·have D9:=cM ‹_›;have m3:=ic ‹_›;obtain ⟨b,m2,hb⟩:=a4 ‹D 19=true›;subst m2;obtain ⟨q1,rfl,rfl⟩:=M bI;refine dD t 2 (chC a0 a1 a2 a3 an gp (jq la b9 l.length (k+1)) tr.length ncs.length) Dg (by omega) (n:=b5.length) (xs:=b5.flatten) (by rw [D9]; rfl) rfl (m:=1) (o:=0) (fun j u hj=>by rw [t.cellS hb,cQ]; simpa using hj) (Xd h1.one) (by omega) (by omega) fun N w_ t=>?_;obtain ⟨J,hR⟩:∃ a,a=b5++[chC a0 a1 a2 a3 an gp (jq la b9 l.length (k+1)) tr.length ncs.length]:=⟨_,rfl⟩
      rw [eC,<- hR] at t;have M:ao D 20 20=false->cv=U/\cv=N/\b5=J:=fun h=>Bool.noConfusion h;have a5:ao D 20 20=true->N=N/\J=b5++[chC a0 a1 a2 a3 an gp (jq la b9 l.length (k+1)) tr.length ncs.length]:=fun _=>⟨rfl,hR⟩
      have a6:ao D 20 23=true->U=N:=fun h=>absurd (a8 h) (by rw [bI]; decide);have a7:ao D 20 20=true->ao D 20 4=true:=fun _=>‹D 4=true›;have a8:ao D 20 23=true->ao D 20 20=true:=fun _=>rfl;have a4:ao D 20 19=true->∃ b',Value.slice (some ⟨b,0,none⟩) 1 1=.slice (some ⟨b',0,none⟩) 1 1/\SP b'=some (.cells (chC a0 a1 a2 a3 an gp (jq la b9 l.length (k+1)) tr.length ncs.length).toArray ek):=fun _=>⟨b,rfl,hb⟩
      exact ⟨B.set 20 (by first|assumption|trivial),⟨SP,U,N,J,hN,a4,M,a5,a6,a7,a8,t⟩⟩
     ·obtain rfl:=cJ ‹_›;refine aE ?_;exact ⟨B.set 21 rfl,⟨SP,U,N,J,hN,a4,M,a5,a6,a7,a8,t⟩⟩
     ·obtain rfl:=sv ‹_›;refine aw dU ?_;exact ⟨B.set 22 rfl,⟨SP,U,N,J,hN,a4,M,a5,a6,a7,a8,t⟩⟩
     ·obtain rfl:=yt ‹_›;have m4:=py ‹_›;obtain ⟨q1,q2⟩:=a5 ‹D 20=true›;subst q1;obtain ⟨va,r0,hv,_⟩:=t.rowSlice' (i:=2) rfl;have e8:N.cells=#[N]:=by rw [hv]; rfl
      refine dA t 1 (n:=1) (by rw [e8]; rfl) (by rw [ey]; rfl) rfl (mi rfl) (by rw [e8,hv]; simp [Value.oneCell']) fun w_ t=>?_;rw [e8] at t;obtain ⟨U,hF⟩:∃ a,a=N:=⟨_,rfl⟩
      have a6:ao D 23 23=true->U=N:=fun _=>hF;have M:ao D 23 20=false->cv=U/\cv=N/\b5=J:=fun h=>absurd ‹D 20=true› (by rw [show D 20=false from h]; decide);have a8:ao D 23 23=true->ao D 23 20=true:=fun _=>‹D 20=true›;have t:Inv w X ([.blk b6 (.cells #[a0,a1,a2,a3] ab),fK sp (dX sb pv qv nc fuel used ((g26 G).length:Int) b4 U nv mo),chI N J,noI nv ncs]++aB sb mb V Y Z O) SP w_:=by rw [hF]; exact t
      exact ⟨B.set 23 trivial,⟨SP,U,N,J,hN,a4,M,a5,a6,a7,a8,t⟩⟩
     obtain ⟨rfl,rfl,rfl,rfl,D9,rfl,rfl,rfl,rfl,rfl,rfl,rfl,rfl,rfl,rfl,rfl,WY,rfl,rfl,m3,m4,rfl,rfl,_,_⟩:=B.all;clear B cJ cH cI cD cM cO cq dg dF dL cT dl dN fE gr gQ iC ku lY ic py sv yt Bd;obtain ⟨q1,q2⟩:=a5 (by assumption);have q3:=a6 (by assumption);subst q2;rw [q3,<- q1] at t;refine ⟨SP,_,_,ms++[tr.length],hN,?_,?_,t⟩
     ·rw [List.zip_append n6.symm];exact (hK.ch.monoR fun _ _=>RdCI.mono (c5.trans hN).1).snoc ⟨a0,a1,a2,a3,.pointer gp,_,by rw [<- n8],h1.mono (c5.trans hN).1,h3.mono (c5.trans hN).1,n9.mono (c5.trans hN).1 fun _ _ h=>h⟩ rfl
     ·exact (MkI.push (c:=⟨g,(an:Int),rest,l.drop (k+1),st,nodes.length⟩) hK.mkI).go k1
    ·have he:l.drop (k+1)=[]:=vY (by omega);rw [ai he,bU];exact ⟨SN,cv,b5,ms,Ext.refl _ _ _,hK.ch.monoR fun _ _=>RdCI.mono c5.1,hK.mkI.go k1,t⟩
   clear t;intro _ _ _ _ _ _ _ _ _ _ _ _ _ _ _ _ _ _ _ _ _ _ _ _ _ _ _ _ w';rintro ⟨SJ,b7,a9,e9,g7,k8,k9,t⟩;have g3:=c5.trans g7;obtain ⟨ng,b2,m5,-⟩:=t.rowPtr (i:=3) rfl (j:=an) (by omega) hK.nd.hk;subst m5;refine aE ?_;refine af t 1 rfl fu jT rfl ?_;refine az uN (by omega) ?_;refine aw Qf ?_;refine Ey t 3 (j:=an) (f:=5) rfl aG (by omega) (by omega) (by omega) hK.nd.hk rfl rfl fun w' t=>?_;obtain ⟨c8,g1⟩:∃ a,a=ncs.set an ((ncs[an]'(by omega)).set 5 (.int .i64 (i:Int))):=⟨_,rfl⟩
   have t:Inv w X ([.blk b6 (.cells #[a0,a1,a2,a3] ab),fK sp (dX sb pv qv nc fuel used ((g26 G).length:Int) b4 b7 (.slice (some ⟨ng,0,none⟩) ncs.length b2) mo),chI b7 a9,noI (.slice (some ⟨ng,0,none⟩) ncs.length b2) c8]++aB sb mb V Y Z O) SJ w':=by
    rw [g1];exact t
   refine aE ?_;refine af (u:=.slice (some ⟨pb,po,none⟩) p.length f9) t 1 rfl qG eO (by rw [j1]; rfl) ?_;refine az bf h5 ?_;refine aw aT ?_;refine cP (v:=kb) al (by
    rw [t.cellS (g3.1 _ _ j2)];exact aF f5 4 kb (by rw [gC (by omega),j9]; rfl)) ?_
   have g4:=l7.monoT g3.1;have x3:=k2 cl (cA f4);refine aJ g4 ah ?_;have t:=t.rowNil ab 4;refine ⟨fun ix v w'=>∃ (j:Nat) (css:List (List Value)) (S6:ae),j<=cl.body.length/\ix=.int .i64 (j:Int)/\Ext w.heap.size X SJ S6/\Rows 4 (RdT S6) css ((cl.body.take j).map (bp G.length))/\
     Inv w X (([.blk b6 (.cells #[a0,a1,a2,a3] ab),fK sp (dX sb pv qv nc fuel used ((g26 G).length:Int) b4 b7 (.slice (some ⟨ng,0,none⟩) ncs.length b2) mo),chI b7 a9,noI (.slice (some ⟨ng,0,none⟩) ncs.length b2) c8]++aB sb mb V Y Z O)++[aA v ab 4 css]) S6 w',
    fun ix _ _=>cl.body.length - (intOf ix).toNat,⟨0,[],SJ,bk _,rfl,Ext.refl _ _ _,Rows.nil _ _,t⟩,?_⟩
   clear t;intro xx _ vv _ _ _ _ _ _ _ _ _ _ w';rintro ⟨j,css,S6,hj,rfl,e5,f2,t⟩;refine bT ?_;refine aL (fun l5=>?_) (fun l5=>?_)
   ·have f6:j<cl.body.length:=by omega
    have o3:css.length=j:=by rw [f2.hc,jO,cL]; omega
    have h8:=d7.body _ (bG f6);refine cn t (g4.monoT e5.1) ah ad f6 (fun _ _=>RdT.length) fun i8 d9=>?_;refine aQ t bj fun e6 w' t=>?_;refine au t 8 rfl ad (by simpa using d9.length) rfl (by simpa using d9.one) fun w' t=>?_;refine aC t 8 ad rfl (by simpa using d9.length) ?_;have t:Inv w X (([.blk b6 (.cells #[a0,a1,a2,a3] ab),fK sp (dX sb pv qv nc fuel used ((g26 G).length:Int) b4 b7 (.slice (some ⟨ng,0,none⟩) ncs.length b2) mo),chI b7 a9,noI (.slice (some ⟨ng,0,none⟩) ncs.length b2) c8]++aB sb mb V Y Z O)++[aA vv ab 4 css]) S6 w':=t.sub (dw _ [Item.blk e6 (.cells i8.toArray ab)]);refine Run.call0E gh gB t (qw [.pointer (some ⟨f3,0,none⟩)] _ nH ol _ S6 i8 d9 (JN h8.1.1) h8.1.2 (g2.mono (hN.trans (g7.trans e5)).1)) fun v' I' S7 w'=>?_;rintro ⟨rfl,d6,rfl,hT⟩ e3 t;rw [ti G.length _ h8.1.1] at hT;have t:=t.sub (dw _ _);refine de t 7 d6 bn (by omega) (by omega) rfl hT.length hT.one (by omega) (by omega) fun v' w' t=>?_;refine bC (by omega) ?_;refine ⟨⟨j+1,css++[d6],S7,f6,rfl,e5.trans e3,?_,t⟩,by simp only [intOf,cu]; omega⟩;rw [eT f6,AG];exact (f2.monoR fun _ _=>RdT.mono e3.1).snoc hT hT.length
   ·have:j=cl.body.length:=by omega
    subst this;rw [ed] at f2;obtain ⟨S7,e3,m6,t⟩:=t.lendExt;have o4:=RowRd.rows (f2.monoR fun _ _=>RdT.mono e3.1) m6;have g5:=g7.trans (e5.trans e3);refine Run.call0E Nn ON t (IX o4 (h3.mono (c5.trans g5).1)) fun v' I' S8 w'=>?_;rintro ⟨rfl,g8⟩ i5 t;have t:=t.sub (dw _ _);obtain ⟨e7,rfl⟩:=g8.ptr;refine aE ?_;refine dj t 1 rfl ij dO rfl rfl rfl fun w' t=>?_;have o5:Inv w X ([.blk b6 (.cells #[a0,a1,a2,a3] ab),fK sp (dX sb pv qv nc fuel used ((g26 G).length:Int) (.pointer e7) b7 (.slice (some ⟨ng,0,none⟩) ncs.length b2) mo),chI b7 a9,noI (.slice (some ⟨ng,0,none⟩) ncs.length b2) c8]++aB sb mb V Y Z O) S8 w':=t;repeat clear t
    refine ⟨fun D Vd T3 Va i6 ZP Zh Zp i7 UV UW Wp Vl Wt w_=>Fx D 0 [Wt=.pointer (some ⟨sp,0,none⟩),Vl=.pointer (some ⟨sp,0,none⟩),Wp=.pointer (some ⟨sp,0,none⟩),UW=.pointer (some ⟨sp,11,none⟩),UV=.int .i64 mo,i7=.pointer (some ⟨sp,0,none⟩),Zp=.pointer (some ⟨sp,0,none⟩),Zh=.pointer (some ⟨sp,9,none⟩),ZP=b7,i6=.int .i64 (a9.length:Int),Va=.int .i64 (if mo<(a9.length:Int) then (a9.length:Int) else mo),T3=.pointer (some ⟨sp,0,none⟩),Vd=.pointer (some ⟨sp,11,none⟩),True]/\∃ b1:Int,(D 13=false->mo=b1)/\(D 13=true->D 4=true)/\Inv w X ([.blk b6 (.cells #[a0,a1,a2,a3] ab),fK sp (dX sb pv qv nc fuel used ((g26 G).length:Int) (.pointer e7) b7 (.slice (some ⟨ng,0,none⟩) ncs.length b2) b1),chI b7 a9,noI (.slice (some ⟨ng,0,none⟩) ncs.length b2) c8]++aB sb mb V Y Z O) S8 w_,⟨Fx.nil _ _,⟨mo,fun _=>rfl,aI,o5.draw⟩⟩,⟨?_,?_,?_,?_,?_,?_,?_,?_,?_,?_,?_,?_,?_,?_,trivial⟩,?_⟩;all_goals (intro D bI; intros; rename_i Vd T3 Va i6 ZP Zh Zp i7 UV UW Wp Vl Wt w_ d4; have B:=d4.1; obtain ⟨⟨cJ,cH,cI,cD,cM,cO,cq,dg,dF,dL,cT,dl,dN,fE,_⟩,⟨b1,c6,c4,t⟩⟩:=d4)
    ·exact ⟨B.set 0 rfl,⟨b1,c6,c4,t⟩⟩
    ·exact ⟨B.set 1 rfl,⟨b1,c6,c4,t⟩⟩
    ·obtain rfl:=cH ‹_›;refine aE ?_;exact ⟨B.set 2 rfl,⟨b1,c6,c4,t⟩⟩
    ·obtain rfl:=cI ‹_›;refine aw wz ?_;exact ⟨B.set 3 rfl,⟨b1,c6,c4,t⟩⟩
    ·obtain rfl:=cD ‹_›;have o6:D 13=false:=bx.2 fun h=>by rw [c4 h] at bI; cases bI
     have q:=c6 o6;refine aU (b:=sp) (v:=.int .i64 mo) t 1 (c:=dX sb pv qv nc fuel used ((g26 G).length:Int) (.pointer e7) b7 (.slice (some ⟨ng,0,none⟩) ncs.length b2) b1) aG rfl (by rw [q]; rfl) ?_;have c4:ao D 4 13=true->ao D 4 4=true:=fun _=>rfl;exact ⟨B.set 4 rfl,⟨b1,c6,c4,t⟩⟩
    ·exact ⟨B.set 5 rfl,⟨b1,c6,c4,t⟩⟩
    ·obtain rfl:=cO ‹_›;refine aE ?_;exact ⟨B.set 6 rfl,⟨b1,c6,c4,t⟩⟩
    ·obtain rfl:=cq ‹_›;refine aw dU ?_;exact ⟨B.set 7 rfl,⟨b1,c6,c4,t⟩⟩
    ·obtain rfl:=dg ‹_›;refine aU (b:=sp) (v:=b7) t 1 (c:=dX sb pv qv nc fuel used ((g26 G).length:Int) (.pointer e7) b7 (.slice (some ⟨ng,0,none⟩) ncs.length b2) b1) ey rfl rfl ?_;exact ⟨B.set 8 (by first|assumption|trivial),⟨b1,c6,c4,t⟩⟩
    ·have Dx:=dF ‹_›;refine kJ (e:=ek) (k:=9) (n:=a9.length) (xs:=a9.flatten) t 2 (by rw [Dx]; rfl) ia ?_;exact ⟨B.set 9 rfl,⟨b1,c6,c4,t⟩⟩
    ·obtain rfl:=cM ‹_›;obtain rfl:=dL ‹_›;refine Z1 ?_;exact ⟨B.set 10 rfl,⟨b1,c6,c4,t⟩⟩
    ·obtain rfl:=cJ ‹_›;refine aE ?_;exact ⟨B.set 11 rfl,⟨b1,c6,c4,t⟩⟩
    ·obtain rfl:=dl ‹_›;refine aw wz ?_;exact ⟨B.set 12 rfl,⟨b1,c6,c4,t⟩⟩
    ·obtain rfl:=dN ‹_›;obtain rfl:=cT ‹_›;refine dA t 1 (n:=1) rfl (by rw [aG]; rfl) rfl (mi rfl) (by simp [Value.cells,Value.oneCell']) fun w_ t=>?_;obtain ⟨b1,hF⟩:∃ a,a=(if mo<(a9.length:Int) then (a9.length:Int) else mo):=⟨_,rfl⟩
     have c6:ao D 13 13=false->mo=b1:=fun h=>Bool.noConfusion h;have c4:ao D 13 13=true->ao D 13 4=true:=fun _=>by assumption
     have t:Inv w X ([.blk b6 (.cells #[a0,a1,a2,a3] ab),fK sp (dX sb pv qv nc fuel used ((g26 G).length:Int) (.pointer e7) b7 (.slice (some ⟨ng,0,none⟩) ncs.length b2) b1),chI b7 a9,noI (.slice (some ⟨ng,0,none⟩) ncs.length b2) c8]++aB sb mb V Y Z O) S8 w_:=by rw [hF]; exact t
     exact ⟨B.set 13 trivial,⟨b1,c6,c4,t⟩⟩
    obtain ⟨rfl,rfl,rfl,rfl,rfl,rfl,rfl,rfl,Dx,rfl,rfl,rfl,rfl,_,_⟩:=B.all;clear B cJ cH cI cD cM cO cq dg dF dL cT dl dN fE;have e2:=g5.trans i5;have m9:=e0.short;have r5:unb (g26 G)=unb G+26:=by unfold Go.Proofs.YtgllldjiaglkcaaGreatDoor.g26; rw [qJ]
    refine ⟨_,_,S8,rfl,t.sub (fI _ _),c5.trans e2,rfl,V,Y,Z,O,e9,_,b7,a9,_,c8,_,by rw [kM]; rfl,?_,g0.upS e2.1,k8.monoR fun _ _=>RdCI.mono ((e5.trans e3).trans i5).1,?_,k9,by show O.length+unb c9<=c9.length; omega⟩
    ·show GL S8 _ (fC cl G.length chs.length an rest);rw [List.map_map,n7] at g8;exact g8
    ·show Rows 6 (RdNI S8) c8 (LW nodes (an:Int).toNat i);rw [cu,UF _ _ _ k0,g1];obtain ⟨c0,c1,c2,c3,f5,m7⟩:=hK.nd.hR an k0 (by omega);refine (hK.nd.monoR fun _ _=>RdNI.mono (c5.trans e2).1).set an ⟨c0,c1,c2,c3,by rw [f5]; rfl,m7.mono (c5.trans e2).1⟩ ?_;rw [lB];exact hK.nd.hk _ (bG _)
  ·refine aD (fun _=>?_) (fun hb=>by cases hb);refine aE ?_;refine af t 1 rfl gi fx rfl ?_;obtain ⟨ns,rfl,j7,m8,m9⟩:=e0;have h26:unb (g26 G)=unb G+26:=by unfold g26; rw [qJ]
   refine Run.callE (A:=[_,_,_,_]) lr ll t (wY (mark:=tr.length) g0 (by simp) (fun n hn=>by
    rw [R2] at hn;obtain ⟨j,rfl,_⟩:=m8 n hn;omega) (by rw [bA]; omega)) fun v' I' S4 w'=>?_
   rintro ⟨eS,rfl,l0,l1,rfl,f8⟩ _ t;rw [eS] at t;rw [R2,j7] at f8;rw [F8] at t;refine bC (by omega) ?_;refine ⟨⟨k+1,g26 G,l0,Y,l1,SN,h0,rfl,o8,?_,by rw [kM]; omega,c5,f8,t⟩,by simp only [intOf,cu]; omega⟩;rw [kM,c7,qV e4,ce e4]
 ·have:k=l.length:=by omega
  subst this;rw [eD] at f0;cases f0;refine ⟨_,_,S1,rfl,t.sub (fI _ _),f1,rfl,d0,d1,d2,tr,ms,b4,cv,b5,nv,ncs,mo,rfl,rfl,rfl,rfl,?_⟩;have h9:=hK.mono f1.1;refine ⟨by rw [<- c7]; exact f7,h9.ch,h9.nd,h9.mkI.go (TrG.grow st tr (by omega)),?_⟩;have:=hK.tb;rw [<- c7,c7,ce (by omega)];unfold bH;rw [qJ];omega
end
end
section
open Go Go.RowKit
theorem ZZ {a b c d e f g h i:Value}:∀ (j:Nat) (v:Value),([a,b,c,d]:List Value)[j]?=some v->(#[a,b,c,d,e,f,g,h,i]:Array Value)[0+j]?=some v
 | 0,_,h=>h
 | 1,_,h=>h
 | 2,_,h=>h
 | 3,_,h=>h
 | _+4,_,h=>by simp at h
theorem Rows.pop {α:Type} {k:Nat} {R:List Value->α->Prop} {css:List (List Value)} {ys:List α} {y:α} (h:Rows k R css (ys++[y])):∃ a cs,css=a++[cs]/\Rows k R a ys/\R cs y/\cs.length=k:=by
 have hc:=h.hc;rw [bA,bq,bW] at hc;have f:ys.length<css.length:=by omega
 have g:=h.take ys.length;rw [F8] at g;refine ⟨css.take ys.length,css[ys.length],?_,g,?_,h.hk _ (bG f)⟩
 ·conv=>lhs; rw [<- Fh ys.length css,dY f]
  rw [vY (by omega)]
 ·have:=h.hR ys.length (by simp) f
  rwa [eZ (aS _),List.getElem_singleton] at this
theorem LN:∀ (st:aj) (i:Nat),unb (st.set i none)<=unb st+1
 | [],i=>by simp [unb]
 | none::st,0=>by simp only [List.set_cons_zero,unb]; omega
 | some t::st,0=>by simp only [List.set_cons_zero,unb]; omega
 | none::st,i+1=>by
  have:=LN st i;simp only [L8,unb]; omega
 | some t::st,i+1=>by
  have:=LN st i;simp only [L8,unb]; omega
theorem Oa (st:aj):∀ ns:List Int,unb (eY st ns)<=unb st+ns.length
 | []=>aS _
 | n::ns=>by
  have h:=Oa st ns;have e:eY st (n::ns)=eY (eY st ns) [n]:=sI st [n] ns;have a:=LN (eY st ns) n.toNat;rw [e,show eY (eY st ns) [n]=(eY st ns).set n.toNat none from AU _ [] n,bq];omega
theorem BackI.inv0 {p:List C} {n:Nat} {ns:List NI} {o:Option SI} (h:BackI p [] n ns o):o=none:=by
 generalize hl:([]:List CI)=l at h;cases h with
 | nil=>rfl
 | hit=>simp at hl
 | miss=>simp at hl
theorem BackI.inv {p:List C} {cs:List CI} {c:CI} {n:Nat} {ns:List NI} {o:Option SI} (h:BackI p (cs++[c]) n ns o) :
  ∃ a m,TryI p c.goal c.left (bH c.binds n) a m/\((∃ r,a=some r/\o=some (gD cs (ns.take c.taken) c.goal c.node c.rest (bH c.binds n) r)) ∨ (a=none/\BackI p cs m (ns.take c.taken) o)):=by
 generalize hl:cs++[c]=l at h;cases h with
 | nil=>simp at hl
 | hit f=>
  obtain ⟨rfl,hc⟩:=NN hl rfl;simp only [dK,gM] at hc;subst hc;exact ⟨_,_,f,.inl ⟨_,rfl,rfl⟩⟩
 | miss f g=>
  obtain ⟨rfl,hc⟩:=NN hl rfl;simp only [dK,gM] at hc;subst hc;exact ⟨_,_,f,.inr ⟨rfl,g⟩⟩
def chN (sp:Nat) (w:World):Nat:=match w.heap[sp]? with
 | some (.cells c _ _)=>(match (c[9]?:Option Value) with|some (.slice _ n _)=>n|_=>0)
 | _=>0
def SeaQ (sp sb mb:Nat) (pv qv:Value) (nc:Bool) (fuel used:Int) (o:Option SI) (I':List Item) (S':ae):Prop:=
 ∃ (es':Array MapEntry) (ck':Nat) (tv':Value) (tr':List Int) (ms':List Nat) (gv' cv':Value) (ccs':List (List Value)) (nv':Value) (ncs':List (List Value)) (mo' fr':Int),
  I'=[fK sp (dX sb pv qv nc fuel used fr' gv' cv' nv' mo'),chI cv' ccs',noI nv' ncs']++aB sb mb es' ck' tv' tr'/\
  ∀ s,o=some s->fr'=s.st.length/\GL S' gv' s.goals/\SeaK S' s.chs s.nodes s.st ms' tr' es' ccs' ncs'
theorem Inv.chN {w0 w:World} {X:List Nat} {L:List Item} {S:ae} (h:Inv w0 X L S w) (i j:Nat) {sp sb:Nat} {g l:Value} {nc:Bool} {fuel used fr:Int} {m cv nv:Value} {mo:Int} {f:List (List Value)}
  (o:L[i]?=some (fK sp (dX sb g l nc fuel used fr m cv nv mo))) (q:L[j]?=some (chI cv f)):chN sp w=f.length:=by
 have r:w.heap[sp]?=some (.cells (dX sb g l nc fuel used fr m cv nv mo) o8):=h.its _ (cA o);obtain ⟨a,cap,rfl,_⟩:=h.rowSlice' q;unfold Go.Proofs.YtgllldjiaglkcaaGreatDoor.chN;rw [r];rfl
section
attribute [local irreducible] Run CondV aq aK
set_option maxHeartbeats 2000000 in
theorem wZ {p:List C} (hp:∀ cl∈p,im cl) (e5:∀ cl∈p,cl.body.length<=1048576) {cs:List CI} {n:Nat} {ns:List NI} {o:Option SI} (hb:BackI p cs n ns o) (b5:okCs p.length n ns.length cs) (hn:n+26 * iu cs<=900000) (b6:cs.length<=1000000)
  {st:aj} (a6:st.length=n) {S:ae} {gv pv qv cv nv tv:Value} {ms:List Nat} {tr:List Int} {es:Array MapEntry} {V ncs:List (List Value)} {sp sb mb ck:Nat} {nc:Bool} {fuel used mo:Int}
  (h4:RdSl S 5 (RdC S) pv p) (hK:SeaK S cs ns st ms tr es V ncs) :
  Tri Tryz.prog DQ [.pointer (some ⟨sp,0,none⟩)] ([fK sp (dX sb pv qv nc fuel used n gv cv nv mo),chI cv V,noI nv ncs]++aB sb mb es ck tv tr) S
   fun q I' S'=>q=.int .i64 (if o.isSome then -1 else 0)/\SeaQ sp sb mb pv qv nc fuel used o I' S':=by
 intro w g;obtain ⟨X,hX⟩:∃ X,X=bP ([fK sp (dX sb pv qv nc fuel used n gv cv nv mo),chI cv V,noI nv ncs]++aB sb mb es ck tv tr):=⟨_,rfl⟩
 rw [<- hX] at g ⊢;refine oZ.2 ?_;dsimp only[oZ,aO];refine ⟨fun w'=>∃ (cs:List CI) (n:Nat) (ns:List NI) (st:aj) (S1:ae) (cv nv tv:Value) (ms:List Nat) (tr:List Int) (es:Array MapEntry) (V ncs:List (List Value)) (ck:Nat) (mo:Int),
   BackI p cs n ns o/\okCs p.length n ns.length cs/\n+26 * iu cs<=900000/\cs.length<=1000000/\st.length=n/\Ext w.heap.size X S S1/\SeaK S1 cs ns st ms tr es V ncs/\
   Inv w X ([fK sp (dX sb pv qv nc fuel used n gv cv nv mo),chI cv V,noI nv ncs]++aB sb mb es ck tv tr) S1 w',
  fun w'=>chN sp w',⟨cs,n,ns,st,S,cv,nv,tv,ms,tr,es,V,ncs,ck,mo,hb,b5,hn,b6,a6,Ext.refl _ _ _,hK,g⟩,?_⟩
 clear g hb b5 hn b6 a6 hK hX;clear cs n ns st cv nv tv ms tr es V ncs ck mo;intro _ _ _ _ _ _ _ _ _ _ _ h7 h8 h9 i0 i1 i2 i3 i4 i6 i7 i8 j0 j6 j7 j8 j9 k0 _ _ _ _ _ _ _ _ _ _ _ _ _ _ _ _ _ _ _ _ _ _ _ _ _ _ _ _ _ _ w';rintro ⟨cs,n,ns,st,S1,cv,nv,tv,ms,tr,es,V,ncs,ck,mo,hb,b5,hn,b6,a6,a8,hK,g⟩;have f7:=hK.mkI.len;have d9:V.length=cs.length:=by have:=hK.ch.hc; rw [Ly] at this; omega
 have e0:=g.chN 0 1 rfl rfl;refine aE ?_;refine af g 0 rfl dU ey rfl ?_;refine kJ g 1 rfl ia ?_;refine eP ?_;refine aL (fun h0=>?_) (fun h0=>?_)
 ·obtain ⟨a7,c,rfl⟩:∃ a7 c,cs=a7++[c]:=⟨cs.dropLast,cs.getLast (by intro e; have:=congrArg List.length e; rw [bW] at this; omega),(Rc _).symm⟩
  rw [bA,bq,bW] at d9 f7 b6;obtain ⟨k1,k2,k3,k4⟩:=b5.last;obtain ⟨g1,g2,g3,g4⟩:=k2.grow k3;have b3:=ce k3;obtain ⟨o1,m,hT,c0⟩:=hb.inv;obtain ⟨f0,mk,rfl,f1,f2,b8,d6,_⟩:=hK.mkI.pop;have e1:=d6.len;have e2:=hK.ch;rw [List.zip_append e1.symm] at e2;obtain ⟨f,k5,rfl,c1,f3,h1⟩:=e2.pop;have h2:f.length=a7.length:=by rw [bA,bq,bW] at d9; omega
  obtain ⟨a0,a1,a2,a3,gp,lv,rfl,c2,c3,c4⟩:=f3;simp only at c2 c3 c4;obtain ⟨gp,rfl⟩:=c3.ptr;obtain ⟨la,d7,f4,-⟩:=id c4;rw [s3,iu,iu] at hn;obtain ⟨cg,B,f5,b1⟩:=g.rowPtr (i:=1) rfl (j:=f.length) (by simp) (fun x hx=>by
   rcases bF.1 hx with hx|hx
   ·exact c1.hk x hx
   ·rw [bK.1 hx]; rfl)
  subst f5;obtain ⟨na,l,rfl,f6⟩:=g.rowSlice' (i:=2) rfl;refine aE ?_;refine af g 0 rfl dU ey rfl ?_;refine kJ g 1 rfl ia ?_;refine kS (by omega) ?_;have f8:((f++[[a0,a1,a2,a3,.int .i64 c.node,.pointer gp,lv,.int .i64 (mk:Int),.int .i64 (c.taken:Int)]]).length:Int) - 1=(f.length:Int):=by rw [bA,bq,bW]; omega
  rw [f8];refine aE ?_;refine af g 0 rfl dU ey rfl ?_;refine az ia (by rw [bA,bq,bW]; omega) ?_;refine ci (cs:=[a0,a1,a2,a3,.int .i64 c.node,.pointer gp,lv,.int .i64 (mk:Int),.int .i64 (c.taken:Int)]) F1 rfl (fun j v hj=>by
   rw [cQ];refine b1 j v ?_;rw [eZ (aS _)];simpa using hj) ?_
  refine aQ g PS fun b4 w' g=>?_;refine au g 6 rfl F1 rfl rfl ?_ fun w' g=>?_
  ·subst f4;intro u hu;have e3:u∈[a0,a1,a2,a3,.int .i64 c.node,.pointer gp,.slice la c.left.length d7,.int .i64 (mk:Int),.int .i64 (c.taken:Int)]:=hu;simp only [bY,i5,i9] at e3;rcases e3 with rfl|rfl|rfl|rfl|rfl|rfl|rfl|rfl|rfl <;> first|rfl|exact c2.one _ (by simp)
  have g:Inv w X ([.blk b4 (.cells #[a0,a1,a2,a3,.int .i64 c.node,.pointer gp,lv,.int .i64 (mk:Int),.int .i64 (c.taken:Int)] ek),fK sp (dX sb pv qv nc fuel used n gv (.slice (some ⟨cg,0,none⟩) (f++[[a0,a1,a2,a3,.int .i64 c.node,.pointer gp,lv,.int .i64 (mk:Int),.int .i64 (c.taken:Int)]]).length B) (.slice na ncs.length l) mo),chI (.slice (some ⟨cg,0,none⟩) (f++[[a0,a1,a2,a3,.int .i64 c.node,.pointer gp,lv,.int .i64 (mk:Int),.int .i64 (c.taken:Int)]]).length B) (f++[[a0,a1,a2,a3,.int .i64 c.node,.pointer gp,lv,.int .i64 (mk:Int),.int .i64 (c.taken:Int)]]),noI (.slice na ncs.length l) ncs]++aB sb mb es ck tv tr) S1 w':=g.perm (cj (l₁:=[_]));refine aE ?_;refine af g 1 rfl dU ey rfl ?_;refine OT g 2 rfl ia (n:=f.length) (by rw [bA]; omega) ?_;refine aE ?_;refine dj g 1 rfl dU ey rfl rfl rfl fun w' g=>?_;have g:=g.cutRow (i:=2) rfl (n:=f.length) (by rw [bA]; omega) (fun x hx=>by
   rcases bF.1 hx with hx|hx
   ·exact c1.hk x hx
   ·rw [bK.1 hx]; rfl)
  rw [F8] at g;have f9:Inv w X ([.blk b4 (.cells #[a0,a1,a2,a3,.int .i64 c.node,.pointer gp,lv,.int .i64 (mk:Int),.int .i64 (c.taken:Int)] ek),fK sp (dX sb pv qv nc fuel used n gv (.slice (some ⟨cg,0,none⟩) f.length B) (.slice na ncs.length l) mo),chI (.slice (some ⟨cg,0,none⟩) f.length B) f,noI (.slice na ncs.length l) ncs]++aB sb mb es ck tv tr) S1 w':=g;repeat clear g
  clear b1;have h3:tr.length<=900000:=by have:=hK.tb; omega
  refine ⟨fun D oK qd vg sy sg Ab BF w_=>Fx D 0 [BF=.pointer (some ⟨sp,0,none⟩),Ab=.pointer (some ⟨sp,0,none⟩),sg=.pointer (some ⟨sp,0,none⟩),sy=.pointer (some ⟨sb,0,none⟩),vg=.pointer (some ⟨b4,7,none⟩),qd=.int .i64 (mk:Int),True]/\∃ (J:Array MapEntry) (N:Value) (M:List Int),(D 6=false->es=J/\tv=N/\tr=M)/\(D 6=true->KnownM S1 J (eY st (tr.drop mk))/\M=tr.take mk)/\Inv w X ([.blk b4 (.cells #[a0,a1,a2,a3,.int .i64 c.node,.pointer gp,lv,.int .i64 (mk:Int),.int .i64 (c.taken:Int)] ek),fK sp (dX sb pv qv nc fuel used n gv (.slice (some ⟨cg,0,none⟩) f.length B) (.slice na ncs.length l) mo),chI (.slice (some ⟨cg,0,none⟩) f.length B) f,noI (.slice na ncs.length l) ncs]++aB sb mb J ck N M) S1 w_,⟨Fx.nil _ _,⟨es,tv,tr,fun _=>⟨rfl,rfl,rfl⟩,aI,f9.draw⟩⟩,⟨?_,?_,?_,?_,?_,?_,?_,trivial⟩,?_⟩;all_goals (intro D bI; intros; rename_i oK qd vg sy sg Ab BF w_ a9; have t:=a9.1; obtain ⟨⟨cJ,cH,cI,cD,cM,cO,cq,_⟩,⟨J,N,M,Y,e6,g⟩⟩:=a9)
  ·exact ⟨t.set 0 rfl,⟨J,N,M,Y,e6,g⟩⟩
  ·obtain rfl:=cJ ‹_›;refine aE ?_;exact ⟨t.set 1 rfl,⟨J,N,M,Y,e6,g⟩⟩
  ·obtain rfl:=cH ‹_›;refine aw gi ?_;exact ⟨t.set 2 rfl,⟨J,N,M,Y,e6,g⟩⟩
  ·obtain rfl:=cI ‹_›;refine aU (b:=sp) g 1 (c:=dX sb pv qv nc fuel used n gv (.slice (some ⟨cg,0,none⟩) f.length B) (.slice na ncs.length l) mo) fx rfl rfl ?_;exact ⟨t.set 3 rfl,⟨J,N,M,Y,e6,g⟩⟩
  ·refine aw KQ ?_;exact ⟨t.set 4 rfl,⟨J,N,M,Y,e6,g⟩⟩
  ·obtain rfl:=cM ‹_›;refine aU (b:=b4) g 0 (c:=#[a0,a1,a2,a3,.int .i64 c.node,.pointer gp,lv,.int .i64 (mk:Int),.int .i64 (c.taken:Int)]) aG rfl rfl ?_;exact ⟨t.set 5 rfl,⟨J,N,M,Y,e6,g⟩⟩
  ·obtain rfl:=cD ‹_›;obtain rfl:=cO ‹_›;obtain ⟨rfl,rfl,rfl⟩:=Y bI;refine Run.callE (A:=[_,_,_,_]) lr ll g (wY (mark:=mk) hK.km f1 f2 (by omega)) fun v' I' S4 w_=>?_;rintro ⟨eS,rfl,J,N,rfl,a5⟩ _ g;rw [eS] at g;obtain ⟨M,a4⟩:∃ a,a=tr.take mk:=⟨_,rfl⟩
   rw [<- a4] at g;have Y:ao D 6 6=false->es=J/\tv=N/\tr=M:=fun h=>Bool.noConfusion h;have e6:ao D 6 6=true->KnownM S1 J (eY st (tr.drop mk))/\M=tr.take mk:=fun _=>⟨a5,a4⟩
   exact ⟨t.set 6 (by first|assumption|trivial),⟨J,N,M,Y,e6,g⟩⟩
  obtain ⟨rfl,rfl,rfl,rfl,rfl,rfl,L6,_⟩:=t.all;clear t cJ cH cI cD cM cO cq;obtain ⟨a5,a4⟩:=e6 (by assumption);rw [b8,a6] at a5;clear e6 Y;have g0:=g;clear g;refine ⟨fun D y7 z8 sx GH Aa Ed AO FZ sE xC w_=>Fx D 0 [xC=.pointer (some ⟨sp,0,none⟩),sE=.pointer (some ⟨sp,0,none⟩),FZ=.pointer (some ⟨sp,0,none⟩),AO=.pointer (some ⟨sp,10,none⟩),Ed=.slice na ncs.length l,Aa=.pointer (some ⟨b4,8,none⟩),GH=.int .i64 (c.taken:Int),sx=.slice na c.taken l,z8=.pointer (some ⟨sp,0,none⟩),y7=.pointer (some ⟨sp,10,none⟩),True]/\∃ (Z:Nat),(D 10=false->ncs.length=Z)/\(D 10=true->D 4=true)/\(D 10=true->Z=c.taken)/\Inv w X ([.blk b4 (.cells #[a0,a1,a2,a3,.int .i64 c.node,.pointer gp,lv,.int .i64 (mk:Int),.int .i64 (c.taken:Int)] ek),fK sp (dX sb pv qv nc fuel used n gv (.slice (some ⟨cg,0,none⟩) f.length B) (.slice na Z l) mo),chI (.slice (some ⟨cg,0,none⟩) f.length B) f,noI (.slice na ncs.length l) ncs]++aB sb mb J ck N M) S1 w_,⟨Fx.nil _ _,⟨ncs.length,fun _=>rfl,aI,aI,g0.draw⟩⟩,⟨?_,?_,?_,?_,?_,?_,?_,?_,?_,?_,?_,trivial⟩,?_⟩;all_goals (intro D bI; intros; rename_i y7 z8 sx GH Aa Ed AO FZ sE xC w_ a9; have t:=a9.1; obtain ⟨⟨cJ,cH,cI,cD,cM,cO,cq,dg,dF,dL,cT,_⟩,⟨Z,G,O,U,g⟩⟩:=a9)
  ·exact ⟨t.set 0 rfl,⟨Z,G,O,U,g⟩⟩
  ·exact ⟨t.set 1 rfl,⟨Z,G,O,U,g⟩⟩
  ·obtain rfl:=cH ‹_›;refine aE ?_;exact ⟨t.set 2 rfl,⟨Z,G,O,U,g⟩⟩
  ·obtain rfl:=cI ‹_›;refine aw fu ?_;exact ⟨t.set 3 rfl,⟨Z,G,O,U,g⟩⟩
  ·obtain rfl:=cD ‹_›;have g5:D 10=false:=bx.2 fun h=>by rw [O h] at bI; cases bI
   have q:=G g5;refine aU (b:=sp) (v:=.slice na ncs.length l) g 1 (c:=dX sb pv qv nc fuel used n gv (.slice (some ⟨cg,0,none⟩) f.length B) (.slice na Z l) mo) jT rfl (by rw [q]; rfl) ?_;have O:ao D 4 10=true->ao D 4 4=true:=fun _=>rfl;exact ⟨t.set 4 rfl,⟨Z,G,O,U,g⟩⟩
  ·refine aw Lh ?_;exact ⟨t.set 5 rfl,⟨Z,G,O,U,g⟩⟩
  ·obtain rfl:=cO ‹_›;refine aU (b:=b4) g 0 (c:=#[a0,a1,a2,a3,.int .i64 c.node,.pointer gp,lv,.int .i64 (mk:Int),.int .i64 (c.taken:Int)]) aG rfl rfl ?_;exact ⟨t.set 6 rfl,⟨Z,G,O,U,g⟩⟩
  ·obtain rfl:=cM ‹_›;obtain rfl:=cq ‹_›;refine OT g 3 rfl uN (n:=c.taken) (by have:=hK.nd.hc; omega) ?_;exact ⟨t.set 7 rfl,⟨Z,G,O,U,g⟩⟩
  ·obtain rfl:=cJ ‹_›;refine aE ?_;exact ⟨t.set 8 rfl,⟨Z,G,O,U,g⟩⟩
  ·obtain rfl:=dF ‹_›;refine aw fu ?_;exact ⟨t.set 9 rfl,⟨Z,G,O,U,g⟩⟩
  ·obtain rfl:=dL ‹_›;obtain rfl:=dg ‹_›;refine dA g 1 (n:=1) rfl (by rw [jT]; rfl) rfl (mi rfl) (by simp [Value.cells,Value.oneCell']) fun w_ g=>?_;obtain ⟨Z,hF⟩:∃ a,a=c.taken:=⟨_,rfl⟩
   have G:ao D 10 10=false->ncs.length=Z:=fun h=>Bool.noConfusion h;have O:ao D 10 10=true->ao D 10 4=true:=fun _=>by assumption
   have U:ao D 10 10=true->Z=c.taken:=fun _=>hF;have g:Inv w X ([.blk b4 (.cells #[a0,a1,a2,a3,.int .i64 c.node,.pointer gp,lv,.int .i64 (mk:Int),.int .i64 (c.taken:Int)] ek),fK sp (dX sb pv qv nc fuel used n gv (.slice (some ⟨cg,0,none⟩) f.length B) (.slice na Z l) mo),chI (.slice (some ⟨cg,0,none⟩) f.length B) f,noI (.slice na ncs.length l) ncs]++aB sb mb J ck N M) S1 w_:=by rw [hF]; exact g
   exact ⟨t.set 10 trivial,⟨Z,G,O,U,g⟩⟩
  obtain ⟨rfl,rfl,rfl,rfl,rfl,rfl,rfl,rfl,rfl,rfl,_,_⟩:=t.all;clear t cJ cH cI cD cM cO cq dg dF dL cT;have g6:=U (by assumption);subst g6;clear U G O;have k6:=hK.nd.hc;have g:=g.cutRow (i:=3) rfl (n:=c.taken) (by omega) hK.nd.hk;obtain ⟨b9,b2⟩:∃ a,a=ncs.take c.taken:=⟨_,rfl⟩
  have g:Inv w X ([.blk b4 (.cells #[a0,a1,a2,a3,.int .i64 c.node,.pointer gp,lv,.int .i64 (mk:Int),.int .i64 (c.taken:Int)] ek)]++([fK sp (dX sb pv qv nc fuel used (bH c.binds n).length gv (.slice (some ⟨cg,0,none⟩) f.length B) (.slice na c.taken l) mo),chI (.slice (some ⟨cg,0,none⟩) f.length B) f,noI (.slice na c.taken l) b9]++aB sb mb J ck N M)) S1 w_:=by
   rw [b3,b2];exact g
  refine aw Lt ?_;refine dB g 0 [a0,a1,a2,a3] ad rfl rfl ZZ ?_;refine af g 0 rfl LZ aG rfl ?_;refine af g 0 rfl L7 jj rfl ?_;refine af g 0 rfl KI dO rfl ?_;have e4:(ns.take c.taken).length=c.taken:=by rw [cL]; omega
  have c6:eY st (tr.drop mk)=bH c.binds n:=by rw [<- a6]; exact b8
  have g7:unb (bH c.binds n)<=unb st+(tr.drop mk).length:=by rw [<- c6]; exact Oa _ _
  rw [mK] at g7;have k7:=hK.tb;have g8:SeaK S1 a7 (ns.take c.taken) (bH c.binds n) f0 M J f b9:=by
   refine ⟨a5,c1,by rw [b2]; exact hK.nd.take _,?_,?_⟩
   ·rw [a4,<- a6]; exact d6
   ·rw [a4,b3,cL]; omega
  refine Run.callE (A:=[_]) rC rm g (IP hp e5 hT g1 g2 g3 (by rw [b3]; omega) c2 c4 c3 (h4.mono a8.1 fun _ _=>RdC.mono a8.1) g8 ⟨k2.node.1,by rw [e4]; exact k2.node.2⟩ (by omega)) fun v' I' S4 w'=>?_;rintro ⟨rfl,c8,c9,d0,e7,e8,e9,d1,b0,d2,b7,d3,rfl,hm⟩ d4 g;have c7:=g.sub (fI _ _);obtain ⟨j1,j2,j3⟩:=hT.ok hp g1 g2 g3;rw [b3] at j1 j2;rcases c0 with ⟨r,rfl,rfl⟩|⟨rfl,g9⟩
  ·refine aD (fun _=>?_) (fun h=>by cases h);obtain ⟨_,_,_,j4,j5,_⟩:=j3 r rfl;refine ⟨_,_,S4,rfl,c7,a8.trans d4,rfl,c8,c9,d0,e7,e8,e9,d1,b0,d2,b7,d3,_,rfl,fun s hs=>?_⟩;cases hs;exact ⟨by show (m:Int)=(r.st.length:Int); omega,hm.1,hm.2⟩
  ·refine aD (fun h=>by cases h) (fun _=>?_);obtain ⟨rfl,rfl,rfl,c5⟩:=hm;have k8:=j2 rfl;have h6:b0.length=a7.length:=by have:=c5.ch.hc; have h5:=c5.mkI.len; rw [Ly] at this; omega
   refine ⟨⟨a7,m,ns.take c.taken,bH (bH c.binds n) m,S4,d1,d2,d0,_,_,c8,b0,b7,c9,d3,g9,by rw [e4]; exact k1.mono j1 (aS _),by omega,by omega,ce (by rw [b3]; exact j1),a8.trans d4,c5,c7⟩,?_⟩;show chN sp _<chN sp _;rw [c7.chN 0 1 rfl rfl,e0,bA,bq,bW];omega
 ·have:cs=[]:=gF (by omega);subst this;obtain rfl:=hb.inv0;exact ⟨_,_,S1,rfl,g,a8,rfl,es,ck,tv,tr,ms,gv,cv,V,nv,ncs,mo,_,rfl,fun s hs=>by cases hs⟩
end
end
end Go.Proofs.YtgllldjiaglkcaaGreatDoor
