/- impl's search in memory: back. -/
import Derived.Test.YtcpgagfdeflbkaaGreatDoorZSl15
import Derived.Test.YtcpgagfdeflbkaaGreatDoorZSl13
namespace Go.Proofs.YtcpgagfdeflbkaaGreatDoor
section
open Go Go.RowKit
theorem Ue {a b c d e f g h i:Value}:∀ (j:Nat) (v:Value),([a,b,c,d]:List Value)[j]?=some v->(#[a,b,c,d,e,f,g,h,i]:Array Value)[0+j]?=some v
 | 0,_,h=>h
 | 1,_,h=>h
 | 2,_,h=>h
 | 3,_,h=>h
 | _+4,_,h=>by simp at h
theorem Rows.pop {α:Type} {k:Nat} {R:List Value->α->Prop} {css:List (List Value)} {ys:List α} {y:α} (h:Rows k R css (ys++[y])):∃ css0 cs,css=css0++[cs]/\Rows k R css0 ys/\R cs y/\cs.length=k:=by
 have hc:=h.hc
 rw [bh,bk,bG] at hc
 have hlt:ys.length<css.length:=by omega
 have h1:=h.take ys.length
 rw [BZ] at h1
 refine ⟨css.take ys.length,css[ys.length],?_,h1,?_,h.hk _ (bQ hlt)⟩
 ·conv=>lhs; rw [<- Hd ys.length css,di hlt]
  rw [tM (by omega)]
 ·have:=h.hR ys.length (by simp) hlt
  rwa [eT (aM _),List.getElem_singleton] at this
theorem GU:∀ (st:aj) (i:Nat),unb (st.set i none)<=unb st+1
 | [],i=>by simp [unb]
 | none::st,0=>by simp only [List.set_cons_zero,unb]; omega
 | some t::st,0=>by simp only [List.set_cons_zero,unb]; omega
 | none::st,i+1=>by
  have:=GU st i
  simp only [Fi,unb]; omega
 | some t::st,i+1=>by
  have:=GU st i
  simp only [Fi,unb]; omega
theorem JC (st:aj):∀ ns:List Int,unb (ec st ns)<=unb st+ns.length
 | []=>aM _
 | n::ns=>by
  have h:=JC st ns
  have e:ec st (n::ns)=ec (ec st ns) [n]:=qs st [n] ns
  have h2:=GU (ec st ns) n.toNat
  rw [e,show ec (ec st ns) [n]=(ec st ns).set n.toNat none from wZ _ [] n,bk]
  omega
theorem BackI.inv0 {p:List C} {n:Nat} {ns:List NI} {o:Option SI} (h:BackI p [] n ns o):o=none:=by
 generalize hl:([]:List CI)=l at h
 cases h with
 | nil=>rfl
 | hit=>simp at hl
 | miss=>simp at hl
theorem BackI.inv {p:List C} {cs:List CI} {c:CI} {n:Nat} {ns:List NI} {o:Option SI} (h:BackI p (cs++[c]) n ns o) :
  ∃ o1 m,TryI p c.goal c.left (bU c.binds n) o1 m/\((∃ r,o1=some r/\o=some (jL cs (ns.take c.taken) c.goal c.node c.rest (bU c.binds n) r)) ∨ (o1=none/\BackI p cs m (ns.take c.taken) o)):=by
 generalize hl:cs++[c]=l at h
 cases h with
 | nil=>simp at hl
 | hit h1=>
  obtain ⟨rfl,hc⟩:=Ps hl rfl
  simp only [jl,jP] at hc
  subst hc
  exact ⟨_,_,h1,.inl ⟨_,rfl,rfl⟩⟩
 | miss h1 h2=>
  obtain ⟨rfl,hc⟩:=Ps hl rfl
  simp only [jl,jP] at hc
  subst hc
  exact ⟨_,_,h1,.inr ⟨rfl,h2⟩⟩
def chN (sp:Nat) (w:World):Nat:=match w.heap[sp]? with
 | some (.cells c _ _)=>(match (c[9]?:Option Value) with|some (.slice _ n _)=>n|_=>0)
 | _=>0
def SeaQ (sp sb mb:Nat) (pv qv:Value) (nc:Bool) (fuel used:Int) (o:Option SI) (I':List Item) (S':ad):Prop:=
 ∃ (es':Array MapEntry) (ck':Nat) (tv':Value) (tr':List Int) (ms':List Nat) (gv' cv':Value) (ccs':List (List Value)) (nv':Value) (ncs':List (List Value)) (mo' fr':Int),
  I'=[eJ sp (dt sb pv qv nc fuel used fr' gv' cv' nv' mo'),chI cv' ccs',noI nv' ncs']++au sb mb es' ck' tv' tr'/\
  ∀ s,o=some s->fr'=s.st.length/\GL S' gv' s.goals/\SeaK S' s.chs s.nodes s.st ms' tr' es' ccs' ncs'
theorem Inv.chN {w0 w:World} {X:List Nat} {L:List Item} {S:ad} (h:Inv w0 X L S w) (i j:Nat) {sp sb:Nat} {pv qv:Value} {nc:Bool} {fuel used fr:Int} {gv cv nv:Value} {mo:Int} {ccs:List (List Value)}
  (hi:L[i]?=some (eJ sp (dt sb pv qv nc fuel used fr gv cv nv mo))) (hj:L[j]?=some (chI cv ccs)):chN sp w=ccs.length:=by
 have h1:w.heap[sp]?=some (.cells (dt sb pv qv nc fuel used fr gv cv nv mo) mY):=h.its _ (du hi)
 obtain ⟨a,cap,rfl,_⟩:=h.rowSlice' hj
 unfold Go.Proofs.YtcpgagfdeflbkaaGreatDoor.chN
 rw [h1]
 rfl
section
attribute [local irreducible] Run CondV aq aK
set_option maxHeartbeats 2000000 in
theorem sJ {p:List C} (hp:∀ cl∈p,o7 cl) (hpb:∀ cl∈p,cl.body.length<=1048576) {cs:List CI} {n:Nat} {ns:List NI} {o:Option SI} (hb:BackI p cs n ns o) (hcs:okCs p.length n ns.length cs) (hn:n+26 * fY cs<=900000) (hcl:cs.length<=1000000)
  {st:aj} (hst:st.length=n) {S:ad} {gv pv qv cv nv tv:Value} {ms:List Nat} {tr:List Int} {es:Array MapEntry} {ccs ncs:List (List Value)} {sp sb mb ck:Nat} {nc:Bool} {fuel used mo:Int}
  (h4:RdSl S 5 (RdC S) pv p) (hK:SeaK S cs ns st ms tr es ccs ncs) :
  Tri Tryz.prog zu [.pointer (some ⟨sp,0,none⟩)] ([eJ sp (dt sb pv qv nc fuel used n gv cv nv mo),chI cv ccs,noI nv ncs]++au sb mb es ck tv tr) S
   fun q I' S'=>q=.int .i64 (if o.isSome then -1 else 0)/\SeaQ sp sb mb pv qv nc fuel used o I' S':=by
 intro w hI
 obtain ⟨X,hX⟩:∃ X,X=bu ([eJ sp (dt sb pv qv nc fuel used n gv cv nv mo),chI cv ccs,noI nv ncs]++au sb mb es ck tv tr):=⟨_,rfl⟩
 rw [<- hX] at hI ⊢
 refine mD.2 ?_
 dsimp only[mD,aG]
 refine ⟨fun w'=>∃ (cs:List CI) (n:Nat) (ns:List NI) (st:aj) (S1:ad) (cv nv tv:Value) (ms:List Nat) (tr:List Int) (es:Array MapEntry) (ccs ncs:List (List Value)) (ck:Nat) (mo:Int),
   BackI p cs n ns o/\okCs p.length n ns.length cs/\n+26 * fY cs<=900000/\cs.length<=1000000/\st.length=n/\Ext w.heap.size X S S1/\SeaK S1 cs ns st ms tr es ccs ncs/\
   Inv w X ([eJ sp (dt sb pv qv nc fuel used n gv cv nv mo),chI cv ccs,noI nv ncs]++au sb mb es ck tv tr) S1 w',
  fun w'=>chN sp w',⟨cs,n,ns,st,S,cv,nv,tv,ms,tr,es,ccs,ncs,ck,mo,hb,hcs,hn,hcl,hst,Ext.refl _ _ _,hK,hI⟩,?_⟩
 clear hI hb hcs hn hcl hst hK hX
 clear cs n ns st cv nv tv ms tr es ccs ncs ck mo
 intro _ _ _ _ _ _ _ _ _ _ _ t49 t48 t47 t46 t45 t44 t43 t42 t41 t40 t39 t38 t37 t36 t35 t34 t33 _ _ _ _ _ _ _ _ _ _ _ _ _ _ _ _ _ _ _ _ _ _ _ _ _ _ _ _ _ _ w'
 rintro ⟨cs,n,ns,st,S1,cv,nv,tv,ms,tr,es,ccs,ncs,ck,mo,hb,hcs,hn,hcl,hst,hE1,hK,hI⟩
 have hml:=hK.mkI.len
 have hcc:ccs.length=cs.length:=by have:=hK.ch.hc; rw [MI] at this; omega
 have hchN:=hI.chN 0 1 rfl rfl
 refine ar ?_
 refine ae hI 0 rfl dp dG rfl ?_
 refine iI hI 1 rfl fJ ?_
 refine eU ?_
 refine aH (fun h0=>?_) (fun h0=>?_)
 ·obtain ⟨cs0,c,rfl⟩:∃ cs0 c,cs=cs0++[c]:=⟨cs.dropLast,cs.getLast (by intro e; have:=congrArg List.length e; rw [bG] at this; omega),(LZ _).symm⟩
  rw [bh,bk,bG] at hcc hml hcl
  obtain ⟨k1,k2,k3,k4⟩:=hcs.last
  obtain ⟨g1,g2,g3,g4⟩:=k2.grow k3
  have hgl:=dI k3
  obtain ⟨o1,m,hT,hcase⟩:=hb.inv
  obtain ⟨ms0,mk,rfl,hmk,hnn,hund,hMk,_⟩:=hK.mkI.pop
  have hml0:=hMk.len
  have hch:=hK.ch
  rw [List.zip_append hml0.symm] at hch
  obtain ⟨ccs0,chc,rfl,hR0,hRc,hcl9⟩:=hch.pop
  have hcc0:ccs0.length=cs0.length:=by rw [bh,bk,bG] at hcc; omega
  obtain ⟨a0,a1,a2,a3,gp,lv,rfl,hg1,hg2,hg3⟩:=hRc
  simp only at hg1 hg2 hg3
  obtain ⟨gp,rfl⟩:=hg2.ptr
  obtain ⟨la,lcap,hlv,-⟩:=id hg3
  rw [pp,fY,fY] at hn
  obtain ⟨cg,ccap,hcv,hcell⟩:=hI.rowPtr (i:=1) rfl (j:=ccs0.length) (by simp) (fun x hx=>by
   rcases cd.1 hx with hx|hx
   ·exact hR0.hk x hx
   ·rw [bY.1 hx]; rfl)
  subst hcv
  obtain ⟨na,ncap,rfl,hncap⟩:=hI.rowSlice' (i:=2) rfl
  refine ar ?_
  refine ae hI 0 rfl dp dG rfl ?_
  refine iI hI 1 rfl fJ ?_
  refine kY (by omega) ?_
  have hli:((ccs0++[[a0,a1,a2,a3,.int .i64 c.node,.pointer gp,lv,.int .i64 (mk:Int),.int .i64 (c.taken:Int)]]).length:Int) - 1=(ccs0.length:Int):=by rw [bh,bk,bG]; omega
  rw [hli]
  refine ar ?_
  refine ae hI 0 rfl dp dG rfl ?_
  refine aD fJ (by rw [bh,bk,bG]; omega) ?_
  refine cm (cs:=[a0,a1,a2,a3,.int .i64 c.node,.pointer gp,lv,.int .i64 (mk:Int),.int .i64 (c.taken:Int)]) Bd rfl (fun j v hj=>by
   rw [cZ]
   refine hcell j v ?_
   rw [eT (aM _)]
   simpa using hj) ?_
  refine aP hI K2 fun b4 w' hI=>?_
  refine aA hI 6 rfl Bd rfl rfl ?_ fun w' hI=>?_
  ·subst hlv
   intro u hu
   have hu':u∈[a0,a1,a2,a3,.int .i64 c.node,.pointer gp,.slice la c.left.length lcap,.int .i64 (mk:Int),.int .i64 (c.taken:Int)]:=hu
   simp only [cQ,ji,jg] at hu'
   rcases hu' with rfl|rfl|rfl|rfl|rfl|rfl|rfl|rfl|rfl <;> first|rfl|exact hg1.one _ (by simp)
  have hI:Inv w X ([.blk b4 (.cells #[a0,a1,a2,a3,.int .i64 c.node,.pointer gp,lv,.int .i64 (mk:Int),.int .i64 (c.taken:Int)] dB),eJ sp (dt sb pv qv nc fuel used n gv (.slice (some ⟨cg,0,none⟩) (ccs0++[[a0,a1,a2,a3,.int .i64 c.node,.pointer gp,lv,.int .i64 (mk:Int),.int .i64 (c.taken:Int)]]).length ccap) (.slice na ncs.length ncap) mo),chI (.slice (some ⟨cg,0,none⟩) (ccs0++[[a0,a1,a2,a3,.int .i64 c.node,.pointer gp,lv,.int .i64 (mk:Int),.int .i64 (c.taken:Int)]]).length ccap) (ccs0++[[a0,a1,a2,a3,.int .i64 c.node,.pointer gp,lv,.int .i64 (mk:Int),.int .i64 (c.taken:Int)]]),noI (.slice na ncs.length ncap) ncs]++au sb mb es ck tv tr) S1 w':=hI.perm (co (l₁:=[_]))
  refine ar ?_
  refine ae hI 1 rfl dp dG rfl ?_
  refine Ky hI 2 rfl fJ (n:=ccs0.length) (by rw [bh]; omega) ?_
  refine ar ?_
  refine cT hI 1 rfl dp dG rfl rfl rfl fun w' hI=>?_
  have hI:=hI.cutRow (i:=2) rfl (n:=ccs0.length) (by rw [bh]; omega) (fun x hx=>by
   rcases cd.1 hx with hx|hx
   ·exact hR0.hk x hx
   ·rw [bY.1 hx]; rfl)
  rw [BZ] at hI
  have hJ0:Inv w X ([.blk b4 (.cells #[a0,a1,a2,a3,.int .i64 c.node,.pointer gp,lv,.int .i64 (mk:Int),.int .i64 (c.taken:Int)] dB),eJ sp (dt sb pv qv nc fuel used n gv (.slice (some ⟨cg,0,none⟩) ccs0.length ccap) (.slice na ncs.length ncap) mo),chI (.slice (some ⟨cg,0,none⟩) ccs0.length ccap) ccs0,noI (.slice na ncs.length ncap) ncs]++au sb mb es ck tv tr) S1 w':=hI
  repeat clear hI
  clear hcell
  have htrl:tr.length<=900000:=by have:=hK.tb; omega
  refine ⟨fun D Pi JO Px MR MA NR Re w_=>Fx D 0 [Re=.pointer (some ⟨sp,0,none⟩),NR=.pointer (some ⟨sp,0,none⟩),MA=.pointer (some ⟨sp,0,none⟩),MR=.pointer (some ⟨sb,0,none⟩),Px=.pointer (some ⟨b4,7,none⟩),JO=.int .i64 (mk:Int),True]/\∃ (es3:Array MapEntry) (tv3:Value) (tr3:List Int),(D 6=false->es=es3/\tv=tv3/\tr=tr3)/\(D 6=true->KnownM S1 es3 (ec st (tr.drop mk))/\tr3=tr.take mk)/\Inv w X ([.blk b4 (.cells #[a0,a1,a2,a3,.int .i64 c.node,.pointer gp,lv,.int .i64 (mk:Int),.int .i64 (c.taken:Int)] dB),eJ sp (dt sb pv qv nc fuel used n gv (.slice (some ⟨cg,0,none⟩) ccs0.length ccap) (.slice na ncs.length ncap) mo),chI (.slice (some ⟨cg,0,none⟩) ccs0.length ccap) ccs0,noI (.slice na ncs.length ncap) ncs]++au sb mb es3 ck tv3 tr3) S1 w_,⟨Fx.nil _ _,⟨es,tv,tr,fun _=>⟨rfl,rfl,rfl⟩,aQ,hJ0.draw⟩⟩,⟨?_,?_,?_,?_,?_,?_,?_,trivial⟩,?_⟩
  all_goals (intro D bI; intros; rename_i Pi JO Px MR MA NR Re w_ hA_; have hF_:=hA_.1; obtain ⟨⟨cJ,cH,cK,cI,cN,cP,cz,_⟩,⟨es3,tv3,tr3,e6f,e6,hI⟩⟩:=hA_)
  ·exact ⟨hF_.set 0 rfl,⟨es3,tv3,tr3,e6f,e6,hI⟩⟩
  ·obtain rfl:=cJ ‹_›
   refine ar ?_
   exact ⟨hF_.set 1 rfl,⟨es3,tv3,tr3,e6f,e6,hI⟩⟩
  ·obtain rfl:=cH ‹_›
   refine aC fb ?_
   exact ⟨hF_.set 2 rfl,⟨es3,tv3,tr3,e6f,e6,hI⟩⟩
  ·obtain rfl:=cK ‹_›
   refine bb (b:=sp) hI 1 (c:=dt sb pv qv nc fuel used n gv (.slice (some ⟨cg,0,none⟩) ccs0.length ccap) (.slice na ncs.length ncap) mo) eE rfl rfl ?_
   exact ⟨hF_.set 3 rfl,⟨es3,tv3,tr3,e6f,e6,hI⟩⟩
  ·refine aC Gz ?_
   exact ⟨hF_.set 4 rfl,⟨es3,tv3,tr3,e6f,e6,hI⟩⟩
  ·obtain rfl:=cN ‹_›
   refine bb (b:=b4) hI 0 (c:=#[a0,a1,a2,a3,.int .i64 c.node,.pointer gp,lv,.int .i64 (mk:Int),.int .i64 (c.taken:Int)]) aI rfl rfl ?_
   exact ⟨hF_.set 5 rfl,⟨es3,tv3,tr3,e6f,e6,hI⟩⟩
  ·obtain rfl:=cI ‹_›
   obtain rfl:=cP ‹_›
   obtain ⟨rfl,rfl,rfl⟩:=e6f bI
   refine Run.callE (A:=[_,_,_,_]) jb jd hI (sQ (mark:=mk) hK.km hmk hnn (by omega)) fun v' I' S4 w_=>?_
   rintro ⟨eS,rfl,es3,tv3,rfl,hkm3⟩ _ hI
   rw [eS] at hI
   obtain ⟨tr3,htr3⟩:∃ a,a=tr.take mk:=⟨_,rfl⟩
   rw [<- htr3] at hI
   have e6f:aB D 6 6=false->es=es3/\tv=tv3/\tr=tr3:=fun h=>Bool.noConfusion h
   have e6:aB D 6 6=true->KnownM S1 es3 (ec st (tr.drop mk))/\tr3=tr.take mk:=fun _=>⟨hkm3,htr3⟩
   exact ⟨hF_.set 6 (by first|assumption|trivial),⟨es3,tv3,tr3,e6f,e6,hI⟩⟩
  obtain ⟨rfl,rfl,rfl,rfl,rfl,rfl,M9,_⟩:=hF_.all
  clear hF_ cJ cH cK cI cN cP cz
  obtain ⟨hkm3,htr3⟩:=e6 (by assumption)
  rw [hund,hst] at hkm3
  clear e6 e6f
  have hJ1:=hI
  clear hI
  refine ⟨fun D CD Bn Af Mc Ml MK Mu MQ Hm KL w_=>Fx D 0 [KL=.pointer (some ⟨sp,0,none⟩),Hm=.pointer (some ⟨sp,0,none⟩),MQ=.pointer (some ⟨sp,0,none⟩),Mu=.pointer (some ⟨sp,10,none⟩),MK=.slice na ncs.length ncap,Ml=.pointer (some ⟨b4,8,none⟩),Mc=.int .i64 (c.taken:Int),Af=.slice na c.taken ncap,Bn=.pointer (some ⟨sp,0,none⟩),CD=.pointer (some ⟨sp,10,none⟩),True]/\∃ (nF:Nat),(D 10=false->ncs.length=nF)/\(D 10=true->D 4=true)/\(D 10=true->nF=c.taken)/\Inv w X ([.blk b4 (.cells #[a0,a1,a2,a3,.int .i64 c.node,.pointer gp,lv,.int .i64 (mk:Int),.int .i64 (c.taken:Int)] dB),eJ sp (dt sb pv qv nc fuel used n gv (.slice (some ⟨cg,0,none⟩) ccs0.length ccap) (.slice na nF ncap) mo),chI (.slice (some ⟨cg,0,none⟩) ccs0.length ccap) ccs0,noI (.slice na ncs.length ncap) ncs]++au sb mb es3 ck tv3 tr3) S1 w_,⟨Fx.nil _ _,⟨ncs.length,fun _=>rfl,aQ,aQ,hJ1.draw⟩⟩,⟨?_,?_,?_,?_,?_,?_,?_,?_,?_,?_,?_,trivial⟩,?_⟩
  all_goals (intro D bI; intros; rename_i CD Bn Af Mc Ml MK Mu MQ Hm KL w_ hA_; have hF_:=hA_.1; obtain ⟨⟨cJ,cH,cK,cI,cN,cP,cz,dC,ek,fZ,dr,_⟩,⟨nF,e10f,k10,e10,hI⟩⟩:=hA_)
  ·exact ⟨hF_.set 0 rfl,⟨nF,e10f,k10,e10,hI⟩⟩
  ·exact ⟨hF_.set 1 rfl,⟨nF,e10f,k10,e10,hI⟩⟩
  ·obtain rfl:=cH ‹_›
   refine ar ?_
   exact ⟨hF_.set 2 rfl,⟨nF,e10f,k10,e10,hI⟩⟩
  ·obtain rfl:=cK ‹_›
   refine aC eB ?_
   exact ⟨hF_.set 3 rfl,⟨nF,e10f,k10,e10,hI⟩⟩
  ·obtain rfl:=cI ‹_›
   have f10:D 10=false:=cq.2 fun h=>by rw [k10 h] at bI; cases bI
   have q:=e10f f10
   refine bb (b:=sp) (v:=.slice na ncs.length ncap) hI 1 (c:=dt sb pv qv nc fuel used n gv (.slice (some ⟨cg,0,none⟩) ccs0.length ccap) (.slice na nF ncap) mo) iB rfl (by rw [q]; rfl) ?_
   have k10:aB D 4 10=true->aB D 4 4=true:=fun _=>rfl
   exact ⟨hF_.set 4 rfl,⟨nF,e10f,k10,e10,hI⟩⟩
  ·refine aC Fk ?_
   exact ⟨hF_.set 5 rfl,⟨nF,e10f,k10,e10,hI⟩⟩
  ·obtain rfl:=cP ‹_›
   refine bb (b:=b4) hI 0 (c:=#[a0,a1,a2,a3,.int .i64 c.node,.pointer gp,lv,.int .i64 (mk:Int),.int .i64 (c.taken:Int)]) aI rfl rfl ?_
   exact ⟨hF_.set 6 rfl,⟨nF,e10f,k10,e10,hI⟩⟩
  ·obtain rfl:=cN ‹_›
   obtain rfl:=cz ‹_›
   refine Ky hI 3 rfl rp (n:=c.taken) (by have:=hK.nd.hc; omega) ?_
   exact ⟨hF_.set 7 rfl,⟨nF,e10f,k10,e10,hI⟩⟩
  ·obtain rfl:=cJ ‹_›
   refine ar ?_
   exact ⟨hF_.set 8 rfl,⟨nF,e10f,k10,e10,hI⟩⟩
  ·obtain rfl:=ek ‹_›
   refine aC eB ?_
   exact ⟨hF_.set 9 rfl,⟨nF,e10f,k10,e10,hI⟩⟩
  ·obtain rfl:=fZ ‹_›
   obtain rfl:=dC ‹_›
   refine df hI 1 (n:=1) rfl (by rw [iB]; rfl) rfl (jS rfl) (by simp [Value.cells,Value.oneCell']) fun w_ hI=>?_
   obtain ⟨nF,hF⟩:∃ a,a=c.taken:=⟨_,rfl⟩
   have e10f:aB D 10 10=false->ncs.length=nF:=fun h=>Bool.noConfusion h
   have k10:aB D 10 10=true->aB D 10 4=true:=fun _=>by assumption
   have e10:aB D 10 10=true->nF=c.taken:=fun _=>hF
   have hI:Inv w X ([.blk b4 (.cells #[a0,a1,a2,a3,.int .i64 c.node,.pointer gp,lv,.int .i64 (mk:Int),.int .i64 (c.taken:Int)] dB),eJ sp (dt sb pv qv nc fuel used n gv (.slice (some ⟨cg,0,none⟩) ccs0.length ccap) (.slice na nF ncap) mo),chI (.slice (some ⟨cg,0,none⟩) ccs0.length ccap) ccs0,noI (.slice na ncs.length ncap) ncs]++au sb mb es3 ck tv3 tr3) S1 w_:=by rw [hF]; exact hI
   exact ⟨hF_.set 10 trivial,⟨nF,e10f,k10,e10,hI⟩⟩
  obtain ⟨rfl,rfl,rfl,rfl,rfl,rfl,rfl,rfl,rfl,rfl,_,_⟩:=hF_.all
  clear hF_ cJ cH cK cI cN cP cz dC ek fZ dr
  have q10:=e10 (by assumption)
  subst q10
  clear e10 e10f k10
  have hnl:=hK.nd.hc
  have hI:=hI.cutRow (i:=3) rfl (n:=c.taken) (by omega) hK.nd.hk
  obtain ⟨ncs0,hncs0⟩:∃ a,a=ncs.take c.taken:=⟨_,rfl⟩
  have hI:Inv w X ([.blk b4 (.cells #[a0,a1,a2,a3,.int .i64 c.node,.pointer gp,lv,.int .i64 (mk:Int),.int .i64 (c.taken:Int)] dB)]++([eJ sp (dt sb pv qv nc fuel used (bU c.binds n).length gv (.slice (some ⟨cg,0,none⟩) ccs0.length ccap) (.slice na c.taken ncap) mo),chI (.slice (some ⟨cg,0,none⟩) ccs0.length ccap) ccs0,noI (.slice na c.taken ncap) ncs0]++au sb mb es3 ck tv3 tr3)) S1 w_:=by
   rw [hgl,hncs0]
   exact hI
  refine aC Fg ?_
  refine ey hI 0 [a0,a1,a2,a3] ac rfl rfl Ue ?_
  refine ae hI 0 rfl GS aI rfl ?_
  refine ae hI 0 rfl FA gW rfl ?_
  refine ae hI 0 rfl FH dj rfl ?_
  have htk:(ns.take c.taken).length=c.taken:=by rw [dN]; omega
  have hund':ec st (tr.drop mk)=bU c.binds n:=by rw [<- hst]; exact hund
  have hub:unb (bU c.binds n)<=unb st+(tr.drop mk).length:=by rw [<- hund']; exact JC _ _
  rw [xS] at hub
  have htb:=hK.tb
  have hKt:SeaK S1 cs0 (ns.take c.taken) (bU c.binds n) ms0 tr3 es3 ccs0 ncs0:=by
   refine ⟨hkm3,hR0,by rw [hncs0]; exact hK.nd.take _,?_,?_⟩
   ·rw [htr3,<- hst]; exact hMk
   ·rw [htr3,hgl,dN]; omega
  refine Run.callE (A:=[_]) oO ob hI (Ep hp hpb hT g1 g2 g3 (by rw [hgl]; omega) hg1 hg3 hg2 (h4.mono hE1.1 fun _ _=>RdC.mono hE1.1) hKt ⟨k2.node.1,by rw [htk]; exact k2.node.2⟩ (by omega)) fun v' I' S4 w'=>?_
  rintro ⟨rfl,es4,ck4,tv4,tr4,ms4,gv4,cv4,ccs4,nv4,ncs4,mo4,rfl,hm⟩ hE4 hI
  have hI9:=hI.sub (gk _ _)
  obtain ⟨j1,j2,j3⟩:=hT.ok hp g1 g2 g3
  rw [hgl] at j1 j2
  rcases hcase with ⟨r,rfl,rfl⟩|⟨rfl,hb'⟩
  ·refine aw (fun _=>?_) (fun h=>by cases h)
   obtain ⟨_,_,_,j4,j5,_⟩:=j3 r rfl
   refine ⟨_,_,S4,rfl,hI9,hE1.trans hE4,rfl,es4,ck4,tv4,tr4,ms4,gv4,cv4,ccs4,nv4,ncs4,mo4,_,rfl,fun s hs=>?_⟩
   cases hs
   exact ⟨by show (m:Int)=(r.st.length:Int); omega,hm.1,hm.2⟩
  ·refine aw (fun h=>by cases h) (fun _=>?_)
   obtain ⟨rfl,rfl,rfl,hKn⟩:=hm
   have hm':=j2 rfl
   have hcc4:ccs4.length=cs0.length:=by have:=hKn.ch.hc; have h5:=hKn.mkI.len; rw [MI] at this; omega
   refine ⟨⟨cs0,m,ns.take c.taken,bU (bU c.binds n) m,S4,cv4,nv4,tv4,_,_,es4,ccs4,ncs4,ck4,mo4,hb',by rw [htk]; exact k1.mono j1 (aM _),by omega,by omega,dI (by rw [hgl]; exact j1),hE1.trans hE4,hKn,hI9⟩,?_⟩
   show chN sp _<chN sp _
   rw [hI9.chN 0 1 rfl rfl,hchN,bh,bk,bG]
   omega
 ·have:cs=[]:=iW (by omega)
  subst this
  obtain rfl:=hb.inv0
  exact ⟨_,_,S1,rfl,hI,hE1,rfl,es,ck,tv,tr,ms,gv,cv,ccs,nv,ncs,mo,_,rfl,fun s hs=>by cases hs⟩
end
end
section
open Go Go.RowKit
theorem RdT.unpub {S S3:ad} {sb mb ck:Nat} {m tv:Value} {es:Array MapEntry} (h1:S sb=some (.cells #[m,tv] cD)) (h2:S mb=some (.map es ck)) (h3:∀ b o,S b=some o->b≠sb->b≠mb->S3 b=some o) {cs:List Value} {t:T} (h:RdT S cs t):RdT S3 cs t:=by
 induction h with
 | nil hk hn hs hc=>exact RdT.nil hk hn hs hc
 | @cons k n s kids b o cap c E fz hk hn hs hl hc hS hR ih=>
  cases kids with
  | nil=>exact RdT.nil hk hn hs hc
  | cons x xs=>
   have hx:=(hR 0 (by simp)).length
   refine RdT.cons hk hn hs hl hc (h3 _ _ hS ?_ ?_) ih
   ·rintro rfl
    rw [h1] at hS
    cases hS
    rw [ba,dN,xS] at hx
    simp at hx
    omega
   ·rintro rfl
    rw [h2] at hS
    cases hS
theorem Inv.unpub {w0 w:World} {X:List Nat} {B:List Item} {S S3:ad} (h:Inv w0 X B S w) (M:aU) (hM:∀ p∈M,S p.1=some p.2) (hnd:(bu (bj M)).Nodup) (hnew:∀ b∈bu (bj M),b∈X ∨ w0.heap.size<=b) (hs:Sle S3 S) (h3:∀ b∈bu (bj M),S3 b=none) :
  Inv w0 X (B++bj M) S3 w:=by
 refine ⟨h.size,h.os,h.tape,h.output,h.old,fun it hit=>?_,?_,fun b hb=>?_,fun b o hb=>⟨(h.pub b o (hs b o hb)).1,fun hb'=>?_⟩⟩
 ·rcases cd.1 hit with hit|hit
  ·exact h.its it hit
  ·obtain ⟨p,hp,rfl⟩:=iX.1 hit
   exact (h.pub _ _ (hM p hp)).1
 ·rw [bD,nR]
  refine ⟨h.nd,hnd,fun a ha b hb e=>?_⟩
  subst e
  obtain ⟨p,hp,rfl⟩:=gw.1 hb
  exact (h.pub _ _ (hM p hp)).2 ha
 ·rw [bD] at hb
  rcases cd.1 hb with hb|hb
  ·exact h.new b hb
  ·exact hnew b hb
 ·rw [bD] at hb'
  rcases cd.1 hb' with hb'|hb'
  ·exact (h.pub b o (hs b o hb)).2 hb'
  ·rw [h3 b hb'] at hb
   cases hb
section
attribute [local irreducible] Run CondV aq aK
theorem pA {N:Nat} {st:aj} (hg:Good N st) {t u:T} (hr:Res st (.one t u)) (ho:okU N t/\wT t<=1048576) {S:ad} {cs:List Value} {sb mb ck:Nat} {es:Array MapEntry} {tv:Value} {tr:List Int} (h:RdT S cs t) (hkm:KnownM S es st) :
  Tri Tryz.prog kI [.pointer (some ⟨sb,0,none⟩),.agg cs.toArray] (au sb mb es ck tv tr) S fun q I' S'=>I'=au sb mb es ck tv tr/\∃ cs':List Value,cs'.length=4/\(∀ x∈cs',x.oneCell'=true)/\q=.tuple #[.agg cs'.toArray,.bool (bS u)]/\(bS u=true->RdT S' cs' u):=by
 intro w hI
 obtain ⟨X,hX⟩:∃ X,X=bu (au sb mb es ck tv tr):=⟨_,rfl⟩
 rw [<- hX] at hI ⊢
 have hI0:Inv w X ([dX tv tr]++bj [(sb,.cells #[.map (some mb),tv] cD),(mb,.map es ck)]) S w:=hI.perm (co (l₁:=[dX tv tr]) (l₂:=bj [(sb,.cells #[.map (some mb),tv] cD),(mb,.map es ck)]))
 have hnd:=hI0.nd
 have hnew:=hI0.new
 rw [bD,nR] at hnd
 obtain ⟨S1,hI1,hE1,hins⟩:=Inv.pubExt hI0
 have hsb:=hins _ (bq ..)
 have hmb:=hins _ (bv _ (bq ..))
 have hst:StS S1 S1 sb st:=⟨mb,tv,es,ck,cD,hsb,hmb,hkm.upS hE1.1⟩
 have hI1':Inv w X ([dX tv tr]++[]) S1 w:=by rw [cX]; exact hI1
 refine (LM hI1' (Db hg hr ho (h.mono hE1.1) hst)).mono ?_
 rintro e w' ⟨v,I',S',rfl,hI2,hE2,rfl,cs',hl,h1,rfl,hR⟩
 rw [cX] at hI2
 obtain ⟨S3,hS3⟩:∃ S3:ad,S3=fun b=>if b=sb ∨ b=mb then none else S' b:=⟨_,rfl⟩
 have hle3:Sle S3 S':=fun b o hb=>by
  rw [hS3] at hb
  simp only at hb
  split at hb
  ·cases hb
  ·exact hb
 have hback:∀ b o,S' b=some o->b≠sb->b≠mb->S3 b=some o:=fun b o hb h1 h2=>by
  rw [hS3]
  simp only
  rw [af (by simp [h1,h2])]
  exact hb
 have hnot:∀ b o,S b=some o->b≠sb/\b≠mb:=fun b o hb=>by
  have:=(hI0.pub b o hb).2
  rw [bD] at this
  constructor
  ·rintro rfl; exact this (kw _ (by simp [bu,bj,Item.foot]))
  ·rintro rfl; exact this (kw _ (by simp [bu,bj,Item.foot]))
 have hI3:=hI2.unpub (S3:=S3) [(sb,.cells #[.map (some mb),tv] cD),(mb,.map es ck)] (fun p hp=>by
   simp only [cQ,ji,jg] at hp
   rcases hp with rfl|rfl
   ·exact hE2.1 _ _ hsb
   ·exact hE2.1 _ _ hmb) hnd.2.1 (fun b hb=>hnew b (by rw [bD]; exact kw _ hb)) hle3 (fun b hb=>by
   have hb:b=sb ∨ b=mb:=by simpa [bu,bj,Item.foot] using hb
   rw [hS3]
   simp only
   rw [ai hb])
 refine ⟨_,_,S3,rfl,hI3.perm (co (l₂:=[dX tv tr]) (l₁:=bj [(sb,.cells #[.map (some mb),tv] cD),(mb,.map es ck)])),⟨fun b o hb=>?_,fun b o hb=>?_⟩,rfl,cs',hl,h1,rfl,fun hs=>?_⟩
 ·obtain ⟨n1,n2⟩:=hnot b o hb
  exact hback _ _ (hE2.1 _ _ (hE1.1 _ _ hb)) n1 n2
 ·rcases hE2.2 b o (hle3 b o hb) with h5|h5
  ·exact hE1.2 b o h5
  ·exact .inr h5
 ·exact RdT.unpub (hE2.1 _ _ hsb) (hE2.1 _ _ hmb) hback (hR hs)
end
end
end Go.Proofs.YtcpgagfdeflbkaaGreatDoor
