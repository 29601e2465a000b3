/- impl's search in memory: back. -/
import Derived.Test.YtellfcpffcipcaaGreatDoorZCkA
import Derived.Test.YtellfcpffcipcaaGreatDoorZCk21
namespace Go.Proofs.YtellfcpffcipcaaGreatDoor
attribute [local irreducible] Run CondV aF aT
section
open Go Go.RowKit
theorem adC {a b c d e f g h i:Value}:∀ (j:Nat) (v:Value),([a,b,c,d]:hZ)[j]?=some v->(#[a,b,c,d,e,f,g,h,i]:Array Value)[0+j]?=some v
 | 0,_,h=>h
 | 1,_,h=>h
 | 2,_,h=>h
 | 3,_,h=>h
 | _+4,_,h=>by simp at h
theorem Rows.pop {α:Type} {k:Nat} {R:hZ->α->Prop} {css:List (hZ)} {ys:List α} {y:α} (h:Rows k R css (ys++[y])):∃ a cs,css=a++[cs]/\Rows k R a ys/\R cs y/\cs.length=k:=by
 have hc:=h.hc;rw [bK,bI,cB] at hc;have f:ys.length<css.length:=by omega
 have g:=h.take ys.length;rw [IE] at g;refine ⟨css.take ys.length,css[ys.length],?_,g,?_,h.hk _ (bJ f)⟩
 ·conv=>lhs;rw [<- Pw ys.length css,dB f]
  rw [xZ (by omega)]
 ·have:=h.hR ys.length (by simp) f
  rwa [gF (be _),List.getElem_singleton] at this
theorem Pn:∀ (st:au) (i:Nat),unb (st.set i none)<=unb st+1
 | [],i=>by simp [unb]
 | none::st,0=>by simp only [TY,unb];omega
 | some t::st,0=>by simp only [TY,unb];omega
 | none::st,i+1=>by
  have:=Pn st i;simp only [OQ,unb];omega
 | some t::st,i+1=>by
  have:=Pn st i;simp only [OQ,unb];omega
theorem P3 (st:au):∀ ns:List Int,unb (gq st ns)<=unb st+ns.length
 | []=>be _
 | n::ns=>by
  have h:=P3 st ns;have e:gq st (n::ns)=gq (gq st ns) [n]:=wD st [n] ns;have a:=Pn (gq st ns) n.toNat;rw [e,show gq (gq st ns) [n]=(gq st ns).set n.toNat none from Dy _ [] n,bI];omega
theorem BackI.inv0 {p:List C} {n:Nat} {ns:List NI} {o:Option SI} (h:BackI p [] n ns o):o=none:=by
 generalize hl:([]:List CI)=l at h;cases h with
 | nil=>rfl
 | hit=>simp at hl
 | miss=>simp at hl
theorem BackI.inv {p:List C} {cs:List CI} {c:CI} {n:Nat} {ns:List NI} {o:Option SI} (h:BackI p (cs++[c]) n ns o) :
  ∃ a m,TryI p c.goal c.left (ct c.binds n) a m/\((∃ r,a=some r/\o=some (jj cs (ns.take c.taken) c.goal c.node c.rest (ct c.binds n) r)) ∨ (a=none/\BackI p cs m (ns.take c.taken) o)):=by
 generalize hl:cs++[c]=l at h;cases h with
 | nil=>simp at hl
 | hit f=>
  obtain ⟨rfl,hc⟩:=ZY hl rfl;simp only [gV,i0] at hc;subst hc;exact ⟨_,_,f,.inl ⟨_,rfl,rfl⟩⟩
 | miss f g=>
  obtain ⟨rfl,hc⟩:=ZY hl rfl;simp only [gV,i0] at hc;subst hc;exact ⟨_,_,f,.inr ⟨rfl,g⟩⟩
def chN (sp:Nat) (w:World):Nat:=match w.heap[sp]? with
 | some (.cells c _ _)=>(match (c[9]?:Option Value) with|some (.slice _ n _)=>n|_=>0)
 | _=>0
def SeaQ (sp sb mb:Nat) (pv qv:Value) (nc:Bool) (fuel used:Int) (o:Option SI) (I':List Item) (S':ae):Prop:=
 ∃ (es':Array MapEntry) (ck':Nat) (tv':Value) (tr':List Int) (ms':List Nat) (gv' cv':Value) (ccs':List (List Value)) (nv':Value) (ncs':List (List Value)) (mo' fr':Int),
  I'=[g7 sp (eW sb pv qv nc fuel used fr' gv' cv' nv' mo'),chI cv' ccs',noI nv' ncs']++aN sb mb es' ck' tv' tr'/\
  ∀ s,o=some s->fr'=s.st.length/\GL S' gv' s.goals/\SeaK S' s.chs s.nodes s.st ms' tr' es' ccs' ncs'
theorem Inv.chN {w0 w:World} {X:List Nat} {L:List Item} {S:ae} (h:Inv w0 X L S w) (i j:Nat) {sp sb:Nat} {g l:Value} {nc:Bool} {fuel used fr:Int} {m cv nv:Value} {mo:Int} {f:List (hZ)}
  (o:L[i]?=some (g7 sp (eW sb g l nc fuel used fr m cv nv mo))) (q:L[j]?=some (chI cv f)):chN sp w=f.length:=by
 have r:w.heap[sp]?=some (.cells (eW sb g l nc fuel used fr m cv nv mo) sx):=h.its _ (cJ o);obtain ⟨a,cap,rfl,_⟩:=h.rowSlice' q;unfold Go.Proofs.YtellfcpffcipcaaGreatDoor.chN;rw [r];rfl
section
set_option maxHeartbeats 2000000 in
theorem z0 {p:List C} (hp:∀ cl∈p,kB cl) (e5:∀ cl∈p,cl.body.length<=1048576) {cs:List CI} {n:Nat} {ns:List NI} {o:Option SI} (hb:BackI p cs n ns o) (b5:okCs p.length n ns.length cs) (hn:n+26 * jA cs<=900000) (b6:cs.length<=1000000)
  {st:au} (a6:st.length=n) {S:ae} {gv pv qv cv nv tv:Value} {ms:List Nat} {tr:List Int} {es:Array MapEntry} {Y l:List (hZ)} {sp sb mb ck:Nat} {nc:Bool} {fuel used mo:Int}
  (h4:RdSl S 5 (RdC S) pv p) (hK:SeaK S cs ns st ms tr es Y l) :
  kt He [ee sp] ([g7 sp (eW sb pv qv nc fuel used n gv cv nv mo),chI cv Y,noI nv l]++aN sb mb es ck tv tr) S
   fun q I' S'=>q=ax (if o.isSome then -1 else 0)/\SeaQ sp sb mb pv qv nc fuel used o I' S':=by
 intro w g;obtain ⟨X,hX⟩:∃ X,X=bS ([g7 sp (eW sb pv qv nc fuel used n gv cv nv mo),chI cv Y,noI nv l]++aN sb mb es ck tv tr):=⟨_,rfl⟩
 rw [<- hX] at g ⊢;refine rl.2 ?_;dsimp only[rl,aR];refine ⟨fun w'=>∃ (cs:List CI) (n:Nat) (ns:List NI) (st:au) (S1:ae) (cv nv tv:Value) (ms:List Nat) (tr:List Int) (es:Array MapEntry) (Y l:List (hZ)) (ck:Nat) (mo:Int),
   BackI p cs n ns o/\okCs p.length n ns.length cs/\n+26 * jA cs<=900000/\cs.length<=1000000/\st.length=n/\Ext w.heap.size X S S1/\SeaK S1 cs ns st ms tr es Y l/\
   Inv w X ([g7 sp (eW sb pv qv nc fuel used n gv cv nv mo),chI cv Y,noI nv l]++aN sb mb es ck tv tr) S1 w',
  fun w'=>chN sp w',⟨cs,n,ns,st,S,cv,nv,tv,ms,tr,es,Y,l,ck,mo,hb,b5,hn,b6,a6,Ext.refl _ _ _,hK,g⟩,?_⟩
 clear g hb b5 hn b6 a6 hK hX;clear cs n ns st cv nv tv ms tr es Y l ck mo;intro _ _ _ _ _ _ _ _ _ _ _ h9 i0 i1 i2 i3 i4 i5 i6 i7 i8 i9 j0 j6 j8 j9 k0 k5;(iterate 30 intro);intro w';rintro ⟨cs,n,ns,st,S1,cv,nv,tv,ms,tr,es,Y,l,ck,mo,hb,b5,hn,b6,a6,a8,hK,g⟩;have f7:=hK.mkI.len;have d9:Y.length=cs.length:=by have:=hK.ch.hc;rw [WA] at this;omega
 have e0:=g.chN 0 1 rfl rfl;refine aH ?_;refine ad g 0 rfl eU fB rfl ?_;refine mG g 1 rfl jo ?_;refine ew ?_;refine aJ (fun h0=>?_) (fun h0=>?_)
 ·obtain ⟨a7,c,rfl⟩:∃ a7 c,cs=a7++[c]:=⟨cs.dropLast,cs.getLast (by intro e;have:=congrArg List.length e;rw [cB] at this;omega),(Wf _).symm⟩
  rw [bK,bI,cB] at d9 f7 b6;obtain ⟨k1,k2,k3,k4⟩:=b5.last;obtain ⟨g1,g2,g3,g4⟩:=k2.grow k3;have b3:=dj k3;obtain ⟨o1,m,hT,c0⟩:=hb.inv;obtain ⟨f0,mk,rfl,f1,f2,b8,d6,_⟩:=hK.mkI.pop;have e1:=d6.len;have e2:=hK.ch;rw [List.zip_append e1.symm] at e2;obtain ⟨f,k6,rfl,c1,f3,h3⟩:=e2.pop;have h6:f.length=a7.length:=by rw [bK,bI,cB] at d9;omega
  obtain ⟨a0,a1,a2,a3,gp,lv,rfl,c2,c3,c4⟩:=f3;simp only at c2 c3 c4;obtain ⟨gp,rfl⟩:=c3.ptr;obtain ⟨la,d7,f4,-⟩:=id c4;rw [wc,jA,jA] at hn;obtain ⟨cg,G,f5,b1⟩:=g.rowPtr (i:=1) rfl (j:=f.length) (by simp) (fun x hx=>by
   rcases ci.1 hx with hx|hx
   ·exact c1.hk x hx
   ·rw [cE.1 hx];rfl)
  subst f5;obtain ⟨na,t,rfl,f6⟩:=g.rowSlice' (i:=2) rfl;refine aH ?_;refine ad g 0 rfl eU fB rfl ?_;refine mG g 1 rfl jo ?_;refine je (by omega) ?_;have f8:((f++[[a0,a1,a2,a3,ax c.node,.pointer gp,lv,ax (mk:Int),ax (c.taken:Int)]]).length:Int) - 1=(f.length:Int):=by rw [bK,bI,cB];omega
  rw [f8];refine aH ?_;refine ad g 0 rfl eU fB rfl ?_;refine az jo (by rw [bK,bI,cB];omega) ?_;refine bV (cs:=[a0,a1,a2,a3,ax c.node,.pointer gp,lv,ax (mk:Int),ax (c.taken:Int)]) Kk rfl (fun j v hj=>by
   rw [dr];refine b1 j v ?_;rw [gF (be _)];simpa using hj) ?_
  refine aG g TI fun b4 w' g=>?_;refine aq g 6 rfl Kk rfl rfl ?_ fun w' g=>?_
  ·subst f4;intro u hu;have e3:u∈[a0,a1,a2,a3,ax c.node,.pointer gp,.slice la c.left.length d7,ax (mk:Int),ax (c.taken:Int)]:=hu;simp only [cw,ic,g9] at e3;rcases e3 with rfl|rfl|rfl|rfl|rfl|rfl|rfl|rfl|rfl <;> first|rfl|exact c2.one _ (by simp)
  have g:Inv w X ([ay b4 #[a0,a1,a2,a3,ax c.node,.pointer gp,lv,ax (mk:Int),ax (c.taken:Int)] fk,g7 sp (eW sb pv qv nc fuel used n gv (eF cg 0 (f++[[a0,a1,a2,a3,ax c.node,.pointer gp,lv,ax (mk:Int),ax (c.taken:Int)]]).length G) (.slice na l.length t) mo),chI (eF cg 0 (f++[[a0,a1,a2,a3,ax c.node,.pointer gp,lv,ax (mk:Int),ax (c.taken:Int)]]).length G) (f++[[a0,a1,a2,a3,ax c.node,.pointer gp,lv,ax (mk:Int),ax (c.taken:Int)]]),noI (.slice na l.length t) l]++aN sb mb es ck tv tr) S1 w':=g.perm (cT (l₁:=[_]));refine aH ?_;refine ad g 1 rfl eU fB rfl ?_;refine U8 g 2 rfl jo (n:=f.length) (by rw [bK];omega) ?_;refine aH ?_;refine cX g 1 rfl eU fB rfl rfl rfl fun w' g=>?_;have g:=g.cutRow (i:=2) rfl (n:=f.length) (by rw [bK];omega) (fun x hx=>by
   rcases ci.1 hx with hx|hx
   ·exact c1.hk x hx
   ·rw [cE.1 hx];rfl)
  rw [IE] at g;have f9:Inv w X ([ay b4 #[a0,a1,a2,a3,ax c.node,.pointer gp,lv,ax (mk:Int),ax (c.taken:Int)] fk,g7 sp (eW sb pv qv nc fuel used n gv (eF cg 0 f.length G) (.slice na l.length t) mo),chI (eF cg 0 f.length G) f,noI (.slice na l.length t) l]++aN sb mb es ck tv tr) S1 w':=g;repeat clear g
  clear b1;have h7:tr.length<=900000:=by have:=hK.tb;omega
  refine ⟨fun D j7 jt oH lK mC r7 og w_=>Fx D 0 [og=ee sp,r7=ee sp,mC=ee sp,lK=ee sb,oH=eu b4 7,jt=ax (mk:Int),True]/\∃ (M:Array MapEntry) (O:Value) (N:List Int),(D 6=false->es=M/\tv=O/\tr=N)/\(D 6=true->KnownM S1 M (gq st (tr.drop mk))/\N=tr.take mk)/\Inv w X ([ay b4 #[a0,a1,a2,a3,ax c.node,.pointer gp,lv,ax (mk:Int),ax (c.taken:Int)] fk,g7 sp (eW sb pv qv nc fuel used n gv (eF cg 0 f.length G) (.slice na l.length t) mo),chI (eF cg 0 f.length G) f,noI (.slice na l.length t) l]++aN sb mb M ck O N) S1 w_,⟨Fx.nil _ _,⟨es,tv,tr,fun _=>⟨rfl,rfl,rfl⟩,aU,f9.draw⟩⟩,⟨?_,?_,?_,?_,?_,?_,?_,trivial⟩,?_⟩;all_goals (intro D bw;intros;rename_i j7 jt oH lK mC r7 og w_ a9;have B:=a9.1;obtain ⟨⟨co,cn,bP,cj,cA,bQ,bO,_⟩,⟨M,O,N,Z,e6,g⟩⟩:=a9)
  ·exact ⟨B.set 0 rfl,M,O,N,Z,e6,g⟩
  ·obtain rfl:=co ‹_›;refine aH ?_;exact ⟨B.set 1 rfl,M,O,N,Z,e6,g⟩
  ·obtain rfl:=cn ‹_›;refine ah iH ?_;exact ⟨B.set 2 rfl,M,O,N,Z,e6,g⟩
  ·obtain rfl:=bP ‹_›;refine aD (b:=sp) g 1 (c:=eW sb pv qv nc fuel used n gv (eF cg 0 f.length G) (.slice na l.length t) mo) gP rfl rfl ?_;exact ⟨B.set 3 rfl,M,O,N,Z,e6,g⟩
  ·refine ah N1 ?_;exact ⟨B.set 4 rfl,M,O,N,Z,e6,g⟩
  ·obtain rfl:=cA ‹_›;refine aD (b:=b4) g 0 (c:=#[a0,a1,a2,a3,ax c.node,.pointer gp,lv,ax (mk:Int),ax (c.taken:Int)]) aw rfl rfl ?_;exact ⟨B.set 5 rfl,M,O,N,Z,e6,g⟩
  ·obtain rfl:=cj ‹_›;obtain rfl:=bQ ‹_›;obtain ⟨rfl,rfl,rfl⟩:=Z bw;refine Run.callE (A:=[_,_,_,_]) nC nq g (zk (mark:=mk) hK.km f1 f2 (by omega)) fun v' I' S4 w_=>?_;rintro ⟨eS,rfl,M,O,rfl,a5⟩ _ g;rw [eS] at g;obtain ⟨N,a4⟩:∃ a,a=tr.take mk:=⟨_,rfl⟩
   rw [<- a4] at g;have Z:aC D 6 6=false->es=M/\tv=O/\tr=N:=fun h=>Bool.noConfusion h;have e6:aC D 6 6=true->KnownM S1 M (gq st (tr.drop mk))/\N=tr.take mk:=fun _=>⟨a5,a4⟩
   exact ⟨B.set 6 (by first|assumption|trivial),M,O,N,Z,e6,g⟩
  obtain ⟨rfl,rfl,rfl,rfl,rfl,rfl,Ky,_⟩:=B.all;clear B co cn bP cj cA bQ bO;obtain ⟨a5,a4⟩:=e6 (by assumption);rw [b8,a6] at a5;clear e6 Z;have g0:=g;clear g;refine ⟨fun D rf qp lL oF nz pD mn nj lS oC w_=>Fx D 0 [oC=ee sp,lS=ee sp,nj=ee sp,mn=eu sp 10,pD=.slice na l.length t,nz=eu b4 8,oF=ax (c.taken:Int),lL=.slice na c.taken t,qp=ee sp,rf=eu sp 10,True]/\∃ (nF:Nat),(D 10=false->l.length=nF)/\(D 10=true->D 4=true)/\(D 10=true->nF=c.taken)/\Inv w X ([ay b4 #[a0,a1,a2,a3,ax c.node,.pointer gp,lv,ax (mk:Int),ax (c.taken:Int)] fk,g7 sp (eW sb pv qv nc fuel used n gv (eF cg 0 f.length G) (.slice na nF t) mo),chI (eF cg 0 f.length G) f,noI (.slice na l.length t) l]++aN sb mb M ck O N) S1 w_,⟨Fx.nil _ _,⟨l.length,fun _=>rfl,aU,aU,g0.draw⟩⟩,⟨?_,?_,?_,?_,?_,?_,?_,?_,?_,?_,?_,trivial⟩,?_⟩;all_goals (intro D bw;intros;rename_i rf qp lL oF nz pD mn nj lS oC w_ a9;have B:=a9.1;obtain ⟨⟨co,cn,bP,cj,cA,bQ,bO,cM,de,dv,bU,_⟩,⟨nF,J,U,V,g⟩⟩:=a9)
  ·exact ⟨B.set 0 rfl,nF,J,U,V,g⟩
  ·exact ⟨B.set 1 rfl,nF,J,U,V,g⟩
  ·obtain rfl:=cn ‹_›;refine aH ?_;exact ⟨B.set 2 rfl,nF,J,U,V,g⟩
  ·obtain rfl:=bP ‹_›;refine ah gS ?_;exact ⟨B.set 3 rfl,nF,J,U,V,g⟩
  ·obtain rfl:=cj ‹_›;have g5:D 10=false:=bN.2 fun h=>by rw [U h] at bw;cases bw
   have q:=J g5;refine aD (b:=sp) (v:=.slice na l.length t) g 1 (c:=eW sb pv qv nc fuel used n gv (eF cg 0 f.length G) (.slice na nF t) mo) mr rfl (by rw [q];rfl) ?_;have U:aC D 4 10=true->aC D 4 4=true:=fun _=>rfl;exact ⟨B.set 4 rfl,nF,J,U,V,g⟩
  ·refine ah OU ?_;exact ⟨B.set 5 rfl,nF,J,U,V,g⟩
  ·obtain rfl:=bQ ‹_›;refine aD (b:=b4) g 0 (c:=#[a0,a1,a2,a3,ax c.node,.pointer gp,lv,ax (mk:Int),ax (c.taken:Int)]) aw rfl rfl ?_;exact ⟨B.set 6 rfl,nF,J,U,V,g⟩
  ·obtain rfl:=cA ‹_›;obtain rfl:=bO ‹_›;refine U8 g 3 rfl xt (n:=c.taken) (by have:=hK.nd.hc;omega) ?_;exact ⟨B.set 7 rfl,nF,J,U,V,g⟩
  ·obtain rfl:=co ‹_›;refine aH ?_;exact ⟨B.set 8 rfl,nF,J,U,V,g⟩
  ·obtain rfl:=de ‹_›;refine ah gS ?_;exact ⟨B.set 9 rfl,nF,J,U,V,g⟩
  ·obtain rfl:=dv ‹_›;obtain rfl:=cM ‹_›;refine dD g 1 (n:=1) rfl (by rw [mr];rfl) rfl (l9 rfl) (by simp [Value.cells,Value.oneCell']) fun w_ g=>?_;obtain ⟨nF,hF⟩:∃ a,a=c.taken:=⟨_,rfl⟩
   have J:aC D 10 10=false->l.length=nF:=fun h=>Bool.noConfusion h;have U:aC D 10 10=true->aC D 10 4=true:=fun _=>by assumption
   have V:aC D 10 10=true->nF=c.taken:=fun _=>hF;have g:Inv w X ([ay b4 #[a0,a1,a2,a3,ax c.node,.pointer gp,lv,ax (mk:Int),ax (c.taken:Int)] fk,g7 sp (eW sb pv qv nc fuel used n gv (eF cg 0 f.length G) (.slice na nF t) mo),chI (eF cg 0 f.length G) f,noI (.slice na l.length t) l]++aN sb mb M ck O N) S1 w_:=by rw [hF];exact g
   exact ⟨B.set 10 trivial,nF,J,U,V,g⟩
  obtain ⟨rfl,rfl,rfl,rfl,rfl,rfl,rfl,rfl,rfl,rfl,_,_⟩:=B.all;clear B co cn bP cj cA bQ bO cM de dv bU;have g6:=V (by assumption);subst g6;clear V J U;have k7:=hK.nd.hc;have g:=g.cutRow (i:=3) rfl (n:=c.taken) (by omega) hK.nd.hk;obtain ⟨b9,b2⟩:∃ a,a=l.take c.taken:=⟨_,rfl⟩
  have g:Inv w X ([ay b4 #[a0,a1,a2,a3,ax c.node,.pointer gp,lv,ax (mk:Int),ax (c.taken:Int)] fk]++([g7 sp (eW sb pv qv nc fuel used (ct c.binds n).length gv (eF cg 0 f.length G) (.slice na c.taken t) mo),chI (eF cg 0 f.length G) f,noI (.slice na c.taken t) b9]++aN sb mb M ck O N)) S1 w_:=by
   rw [b3,b2];exact g
  refine ah Oz ?_;refine cP g 0 [a0,a1,a2,a3] ac rfl rfl adC ?_;refine ad g 0 rfl NY aw rfl ?_;refine ad g 0 rfl Ne ft rfl ?_;refine ad g 0 rfl NM eO rfl ?_;have e4:(ns.take c.taken).length=c.taken:=by rw [ey];omega
  have c6:gq st (tr.drop mk)=ct c.binds n:=by rw [<- a6];exact b8
  have g8:unb (ct c.binds n)<=unb st+(tr.drop mk).length:=by rw [<- c6];exact P3 _ _
  rw [nJ] at g8;have k8:=hK.tb;have h1:SeaK S1 a7 (ns.take c.taken) (ct c.binds n) f0 N M f b9:=by
   refine ⟨a5,c1,by rw [b2];exact hK.nd.take _,?_,?_⟩
   ·rw [a4,<- a6];exact d6
   ·rw [a4,b3,ey];omega
  refine Run.callE (A:=[_]) ut tJ g (Mg hp e5 hT g1 g2 g3 (by rw [b3];omega) c2 c4 c3 (h4.mono a8.1 fun _ _=>RdC.mono a8.1) h1 ⟨k2.node.1,by rw [e4];exact k2.node.2⟩ (by omega)) fun v' I' S4 w'=>?_;rintro ⟨rfl,c8,c9,d0,e7,e8,e9,d1,b0,d2,b7,d3,rfl,hm⟩ d4 g;have c7:=g.sub (kA _ _);obtain ⟨j1,j2,j3⟩:=hT.ok hp g1 g2 g3;rw [b3] at j1 j2;rcases c0 with ⟨r,rfl,rfl⟩|⟨rfl,h2⟩
  ·refine aE (fun _=>?_) (fun h=>by cases h);obtain ⟨_,_,_,j4,j5,_⟩:=j3 r rfl;refine ⟨_,_,S4,rfl,c7,a8.trans d4,rfl,c8,c9,d0,e7,e8,e9,d1,b0,d2,b7,d3,_,rfl,fun s hs=>?_⟩;cases hs;exact ⟨by show (m:Int)=(r.st.length:Int);omega,hm.1,hm.2⟩
  ·refine aE (fun h=>by cases h) (fun _=>?_);obtain ⟨rfl,rfl,rfl,c5⟩:=hm;have k9:=j2 rfl;have h8:b0.length=a7.length:=by have:=c5.ch.hc;have h5:=c5.mkI.len;rw [WA] at this;omega
   refine ⟨⟨a7,m,ns.take c.taken,ct (ct c.binds n) m,S4,d1,d2,d0,_,_,c8,b0,b7,c9,d3,h2,by rw [e4];exact k1.mono j1 (be _),by omega,by omega,dj (by rw [b3];exact j1),a8.trans d4,c5,c7⟩,?_⟩;show chN sp _<chN sp _;rw [c7.chN 0 1 rfl rfl,e0,bK,bI,cB];omega
 ·have:cs=[]:=iy (by omega);subst this;obtain rfl:=hb.inv0;exact ⟨_,_,S1,rfl,g,a8,rfl,es,ck,tv,tr,ms,gv,cv,Y,nv,l,mo,_,rfl,fun s hs=>by cases hs⟩
end
end
section
open Go Go.RowKit
theorem RdT.unpub {S S3:ae} {sb mb ck:Nat} {m tv:Value} {i:Array MapEntry} (j:S sb=some (.cells #[m,tv] dA)) (l:S mb=some (.map i ck)) (q:∀ b o,S b=some o->b≠sb->b≠mb->S3 b=some o) {cs:hZ} {t:T} (h:RdT S cs t):RdT S3 cs t:=by
 induction h with
 | nil hk hn f hc=>exact RdT.nil hk hn f hc
 | @cons k n s kids b o cap c E B hk hn f hl hc a hR r=>
  cases kids with
  | nil=>exact RdT.nil hk hn f hc
  | cons x xs=>
   have g:=(hR 0 (by simp)).length;refine RdT.cons hk hn f hl hc (q _ _ a ?_ ?_) r
   ·rintro rfl;rw [j] at a;cases a;rw [aO,ey,nJ] at g;simp at g;omega
   ·rintro rfl;rw [l] at a;cases a
theorem Inv.unpub {w0 w:World} {X:List Nat} {B:List Item} {S S3:ae} (h:Inv w0 X B S w) (M:bz) (m:∀ p∈M,S p.1=some p.2) (j:(bS (bE M)).Nodup) (i:∀ b∈bS (bE M),b∈X ∨ w0.heap.size<=b) (q:Sle S3 S) (r:∀ b∈bS (bE M),S3 b=none) :
  Inv w0 X (B++bE M) S3 w:=by
 refine ⟨h.size,h.os,h.tape,h.output,h.old,fun it hit=>?_,?_,fun b f=>?_,fun b o f=>⟨(h.pub b o (q b o f)).1,fun g=>?_⟩⟩
 ·rcases ci.1 hit with hit|hit
  ·exact h.its it hit
  ·obtain ⟨p,l,rfl⟩:=eV.1 hit;exact (h.pub _ _ (m p l)).1
 ·rw [cI,qF];refine ⟨h.nd,j,fun a t b f e=>?_⟩;subst e;obtain ⟨p,l,rfl⟩:=jP.1 f;exact (h.pub _ _ (m p l)).2 t
 ·rw [cI] at f;rcases ci.1 f with f|f
  ·exact h.new b f
  ·exact i b f
 ·rw [cI] at g;rcases ci.1 g with g|g
  ·exact (h.pub b o (q b o f)).2 g
  ·rw [r b g] at f;cases f
section
theorem vh {N:Nat} {st:au} (hg:Good N st) {t u:T} (hr:Res st (.one t u)) (ho:okU N t/\wT t<=1048576) {S:ae} {cs:hZ} {sb mb ck:Nat} {j:Array MapEntry} {tv:Value} {tr:List Int} (h:RdT S cs t) (Z:KnownM S j st) :
  kt pM [ee sb,.agg cs.toArray] (aN sb mb j ck tv tr) S fun q I' S'=>I'=aN sb mb j ck tv tr/\∃ g:hZ,g.length=4/\(∀ x∈g,x.oneCell'=true)/\q=.tuple #[.agg g.toArray,.bool (bL u)]/\(bL u=true->RdT S' g u):=by
 intro w hI;obtain ⟨X,hX⟩:∃ X,X=bS (aN sb mb j ck tv tr):=⟨_,rfl⟩
 rw [<- hX] at hI ⊢;have m:Inv w X ([dI tv tr]++bE [(sb,.cells #[.map (some mb),tv] dA),(mb,.map j ck)]) S w:=hI.perm (cT (l₁:=[dI tv tr]) (l₂:=bE [(sb,.cells #[.map (some mb),tv] dA),(mb,.map j ck)]));have O:=m.nd;have U:=m.new;rw [cI,qF] at O;obtain ⟨S1,a0,l,r⟩:=Inv.pubExt m;have G:=r _ (bi ..);have J:=r _ (bk _ (bi ..));have a1:StS S1 S1 sb st:=⟨mb,tv,j,ck,dA,G,J,Z.upS l.1⟩
 have V:Inv w X ([dI tv tr]++[]) S1 w:=by rw [dc];exact a0
 refine (Tg V (zd hg hr ho (h.mono l.1) a1)).mono ?_;rintro e w' ⟨v,I',S',rfl,M,f,rfl,g,hl,h1,rfl,hR⟩;rw [dc] at M;obtain ⟨S3,D⟩:∃ S3:ae,S3=fun b=>if b=sb ∨ b=mb then none else S' b:=⟨_,rfl⟩
 have B:Sle S3 S':=fun b o a=>by
  rw [D] at a;simp only at a;split at a
  ·cases a
  ·exact a
 have i:∀ b o,S' b=some o->b≠sb->b≠mb->S3 b=some o:=fun b o a h1 h2=>by
  rw [D];simp only;rw [af (by simp [h1,h2])];exact a
 have Y:∀ b o,S b=some o->b≠sb/\b≠mb:=fun b o a=>by
  have:=(m.pub b o a).2;rw [cI] at this;constructor
  ·rintro rfl;exact this (im _ (by simp [bS,bE,Item.foot]))
  ·rintro rfl;exact this (im _ (by simp [bS,bE,Item.foot]))
 have a2:=M.unpub (S3:=S3) [(sb,.cells #[.map (some mb),tv] dA),(mb,.map j ck)] (fun p hp=>by
   simp only [cw,ic,g9] at hp;rcases hp with rfl|rfl
   ·exact f.1 _ _ G
   ·exact f.1 _ _ J) O.2.1 (fun b a=>U b (by rw [cI];exact im _ a)) B (fun b a=>by
   have a:b=sb ∨ b=mb:=by simpa [bS,bE,Item.foot] using a
   rw [D];simp only;rw [ai a])
 refine ⟨_,_,S3,rfl,a2.perm (cT (l₂:=[dI tv tr]) (l₁:=bE [(sb,.cells #[.map (some mb),tv] dA),(mb,.map j ck)])),⟨fun b o a=>?_,fun b o a=>?_⟩,rfl,g,hl,h1,rfl,fun hs=>?_⟩
 ·obtain ⟨n1,n2⟩:=Y b o a;exact i _ _ (f.1 _ _ (l.1 _ _ a)) n1 n2
 ·rcases f.2 b o (B b o a) with h5|h5
  ·exact l.2 b o h5
  ·exact .inr h5
 ·exact RdT.unpub (f.1 _ _ G) (f.1 _ _ J) i (hR hs)
end
end
end Go.Proofs.YtellfcpffcipcaaGreatDoor
