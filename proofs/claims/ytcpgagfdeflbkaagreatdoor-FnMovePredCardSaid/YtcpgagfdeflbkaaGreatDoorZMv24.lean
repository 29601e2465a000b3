/- impl's search in memory: back. -/
import Derived.Test.YtcpgagfdeflbkaaGreatDoorZMv23
import Derived.Test.YtcpgagfdeflbkaaGreatDoorZMv19
namespace Go.Proofs.YtcpgagfdeflbkaaGreatDoor
section
open Go Go.RowKit
theorem Pe {a b c d e f g h i:Value}:∀ (j:Nat) (v:Value),([a,b,c,d]:List Value)[j]?=some v->(#[a,b,c,d,e,f,g,h,i]:Array Value)[0+j]?=some v
 | 0,_,h=>h
 | 1,_,h=>h
 | 2,_,h=>h
 | 3,_,h=>h
 | _+4,_,h=>by simp at h
theorem Rows.pop {α:Type} {k:Nat} {R:List Value->α->Prop} {css:List (List Value)} {ys:List α} {y:α} (h:Rows k R css (ys++[y])):∃ css0 cs,css=css0++[cs]/\Rows k R css0 ys/\R cs y/\cs.length=k:=by
 have hc:=h.hc
 rw [List.length_append,List.length_cons,List.length_nil] at hc
 have hlt:ys.length<css.length:=by omega
 have h1:=h.take ys.length
 rw [List.take_left] at h1
 refine ⟨css.take ys.length,css[ys.length],?_,h1,?_,h.hk _ (List.getElem_mem hlt)⟩
 ·conv=>lhs; rw [<- List.take_append_drop ys.length css,List.drop_eq_getElem_cons hlt]
  rw [List.drop_eq_nil_of_le (by omega)]
 ·have:=h.hR ys.length (by simp) hlt
  rwa [List.getElem_append_right (Nat.le_refl _),List.getElem_singleton] at this
theorem BU:∀ (st:ah) (i:Nat),unb (st.set i none)<=unb st+1
 | [],i=>by simp [unb]
 | none::st,0=>by simp only [List.set_cons_zero,unb]; omega
 | some t::st,0=>by simp only [List.set_cons_zero,unb]; omega
 | none::st,i+1=>by
  have:=BU st i
  simp only [List.set_cons_succ,unb]; omega
 | some t::st,i+1=>by
  have:=BU st i
  simp only [List.set_cons_succ,unb]; omega
theorem Fs (st:ah):∀ ns:List Int,unb (dn st ns)<=unb st+ns.length
 | []=>Nat.le_refl _
 | n::ns=>by
  have h:=Fs st ns
  have e:dn st (n::ns)=dn (dn st ns) [n]:=ox st [n] ns
  have h2:=BU (dn st ns) n.toNat
  rw [e,show dn (dn st ns) [n]=(dn st ns).set n.toNat none from tu _ [] n,List.length_cons]
  omega
theorem BackI.inv0 {p:List C} {n:Nat} {ns:List NI} {o:Option SI} (h:BackI p [] n ns o):o=none:=by
 generalize hl:([]:List CI)=l at h
 cases h with
 | nil=>rfl
 | hit=>simp at hl
 | miss=>simp at hl
theorem BackI.inv {p:List C} {cs:List CI} {c:CI} {n:Nat} {ns:List NI} {o:Option SI} (h:BackI p (cs++[c]) n ns o) :
  ∃ o1 m,TryI p c.goal c.left (bA c.binds n) o1 m/\((∃ r,o1=some r/\o=some (iH cs (ns.take c.taken) c.goal c.node c.rest (bA c.binds n) r)) ∨ (o1=none/\BackI p cs m (ns.take c.taken) o)):=by
 generalize hl:cs++[c]=l at h
 cases h with
 | nil=>simp at hl
 | hit h1=>
  obtain ⟨rfl,hc⟩:=List.append_inj' hl rfl
  simp only [List.cons.injEq,and_true] at hc
  subst hc
  exact ⟨_,_,h1,.inl ⟨_,rfl,rfl⟩⟩
 | miss h1 h2=>
  obtain ⟨rfl,hc⟩:=List.append_inj' hl rfl
  simp only [List.cons.injEq,and_true] at hc
  subst hc
  exact ⟨_,_,h1,.inr ⟨rfl,h2⟩⟩
def chN (sp:Nat) (w:World):Nat:=match w.heap[sp]? with
 | some (.cells c _ _)=>(match (c[9]?:Option Value) with|some (.slice _ n _)=>n|_=>0)
 | _=>0
def SeaQ (sp sb mb:Nat) (pv qv:Value) (nc:Bool) (fuel used:Int) (o:Option SI) (I':List Item) (S':ad):Prop:=
 ∃ (es':Array MapEntry) (ck':Nat) (tv':Value) (tr':List Int) (ms':List Nat) (gv' cv':Value) (ccs':List (List Value)) (nv':Value) (ncs':List (List Value)) (mo' fr':Int),
  I'=[dL sp (cJ sb pv qv nc fuel used fr' gv' cv' nv' mo'),chI cv' ccs',noI nv' ncs']++aq sb mb es' ck' tv' tr'/\
  ∀ s,o=some s->fr'=s.st.length/\GL S' gv' s.goals/\SeaK S' s.chs s.nodes s.st ms' tr' es' ccs' ncs'
theorem Inv.chN {w0 w:World} {X:List Nat} {L:List Item} {S:ad} (h:Inv w0 X L S w) (i j:Nat) {sp sb:Nat} {pv qv:Value} {nc:Bool} {fuel used fr:Int} {gv cv nv:Value} {mo:Int} {ccs:List (List Value)}
  (hi:L[i]?=some (dL sp (cJ sb pv qv nc fuel used fr gv cv nv mo))) (hj:L[j]?=some (chI cv ccs)):chN sp w=ccs.length:=by
 have h1:w.heap[sp]?=some (.cells (cJ sb pv qv nc fuel used fr gv cv nv mo) kP):=h.its _ (List.mem_of_getElem? hi)
 obtain ⟨a,cap,rfl,_⟩:=h.rowSlice' hj
 unfold Go.Proofs.YtcpgagfdeflbkaaGreatDoor.chN
 rw [h1]
 rfl
section
attribute [local irreducible] Run CondV ao aI
set_option maxHeartbeats 2000000 in
theorem p9 {p:List C} (hp:∀ cl∈p,mI cl) (hpb:∀ cl∈p,cl.body.length<=1048576) {cs:List CI} {n:Nat} {ns:List NI} {o:Option SI} (hb:BackI p cs n ns o) (hcs:okCs p.length n ns.length cs) (hn:n+26 * eL cs<=900000) (hcl:cs.length<=1000000)
  {st:ah} (hst:st.length=n) {S:ad} {gv pv qv cv nv tv:Value} {ms:List Nat} {tr:List Int} {es:Array MapEntry} {ccs ncs:List (List Value)} {sp sb mb ck:Nat} {nc:Bool} {fuel used mo:Int}
  (h4:RdSl S 5 (RdC S) pv p) (hK:SeaK S cs ns st ms tr es ccs ncs) :
  Tri Tryz.prog wo [.pointer (some ⟨sp,0,none⟩)] ([dL sp (cJ sb pv qv nc fuel used n gv cv nv mo),chI cv ccs,noI nv ncs]++aq sb mb es ck tv tr) S
   fun q I' S'=>q=.int .i64 (if o.isSome then -1 else 0)/\SeaQ sp sb mb pv qv nc fuel used o I' S':=by
 intro w hI
 obtain ⟨X,hX⟩:∃ X,X=bp ([dL sp (cJ sb pv qv nc fuel used n gv cv nv mo),chI cv ccs,noI nv ncs]++aq sb mb es ck tv tr):=⟨_,rfl⟩
 rw [<- hX] at hI ⊢
 refine kO.2 ?_
 dsimp only[kO,aC]
 refine ⟨fun w'=>∃ (cs:List CI) (n:Nat) (ns:List NI) (st:ah) (S1:ad) (cv nv tv:Value) (ms:List Nat) (tr:List Int) (es:Array MapEntry) (ccs ncs:List (List Value)) (ck:Nat) (mo:Int),
   BackI p cs n ns o/\okCs p.length n ns.length cs/\n+26 * eL cs<=900000/\cs.length<=1000000/\st.length=n/\Ext w.heap.size X S S1/\SeaK S1 cs ns st ms tr es ccs ncs/\
   Inv w X ([dL sp (cJ sb pv qv nc fuel used n gv cv nv mo),chI cv ccs,noI nv ncs]++aq sb mb es ck tv tr) S1 w',
  fun w'=>chN sp w',⟨cs,n,ns,st,S,cv,nv,tv,ms,tr,es,ccs,ncs,ck,mo,hb,hcs,hn,hcl,hst,Ext.refl _ _ _,hK,hI⟩,?_⟩
 clear hI hb hcs hn hcl hst hK hX
 clear cs n ns st cv nv tv ms tr es ccs ncs ck mo
 intro _ _ _ _ _ _ _ _ _ _ _ t49 t48 t47 t46 t45 t44 t43 t42 t41 t40 t39 t38 t37 t36 t35 t34 t33 _ _ _ _ _ _ _ _ _ _ _ _ _ _ _ _ _ _ _ _ _ _ _ _ _ _ _ _ _ _ w'
 rintro ⟨cs,n,ns,st,S1,cv,nv,tv,ms,tr,es,ccs,ncs,ck,mo,hb,hcs,hn,hcl,hst,hE1,hK,hI⟩
 have hml:=hK.mkI.len
 have hcc:ccs.length=cs.length:=by have:=hK.ch.hc; rw [List.length_zip] at this; omega
 have hchN:=hI.chN 0 1 rfl rfl
 refine al ?_
 refine ae hI 0 rfl cG cU rfl ?_
 refine gt hI 1 rfl er ?_
 refine dK ?_
 refine aH (fun h0=>?_) (fun h0=>?_)
 ·obtain ⟨cs0,c,rfl⟩:∃ cs0 c,cs=cs0++[c]:=⟨cs.dropLast,cs.getLast (by intro e; have:=congrArg List.length e; rw [List.length_nil] at this; omega),(List.dropLast_concat_getLast _).symm⟩
  rw [List.length_append,List.length_cons,List.length_nil] at hcc hml hcl
  obtain ⟨k1,k2,k3,k4⟩:=hcs.last
  obtain ⟨g1,g2,g3,g4⟩:=k2.grow k3
  have hgl:=cW k3
  obtain ⟨o1,m,hT,hcase⟩:=hb.inv
  obtain ⟨ms0,mk,rfl,hmk,hnn,hund,hMk,_⟩:=hK.mkI.pop
  have hml0:=hMk.len
  have hch:=hK.ch
  rw [List.zip_append hml0.symm] at hch
  obtain ⟨ccs0,chc,rfl,hR0,hRc,hcl9⟩:=hch.pop
  have hcc0:ccs0.length=cs0.length:=by rw [List.length_append,List.length_cons,List.length_nil] at hcc; omega
  obtain ⟨a0,a1,a2,a3,gp,lv,rfl,hg1,hg2,hg3⟩:=hRc
  simp only at hg1 hg2 hg3
  obtain ⟨gp,rfl⟩:=hg2.ptr
  obtain ⟨la,lcap,hlv,-⟩:=id hg3
  rw [nh,eL,eL] at hn
  obtain ⟨cg,ccap,hcv,hcell⟩:=hI.rowPtr (i:=1) rfl (j:=ccs0.length) (by simp) (fun x hx=>by
   rcases List.mem_append.1 hx with hx|hx
   ·exact hR0.hk x hx
   ·rw [List.mem_singleton.1 hx]; rfl)
  subst hcv
  obtain ⟨na,ncap,rfl,hncap⟩:=hI.rowSlice' (i:=2) rfl
  refine al ?_
  refine ae hI 0 rfl cG cU rfl ?_
  refine gt hI 1 rfl er ?_
  refine jk (by omega) ?_
  have hli:((ccs0++[[a0,a1,a2,a3,.int .i64 c.node,.pointer gp,lv,.int .i64 (mk:Int),.int .i64 (c.taken:Int)]]).length:Int) - 1=(ccs0.length:Int):=by rw [List.length_append,List.length_cons,List.length_nil]; omega
  rw [hli]
  refine al ?_
  refine ae hI 0 rfl cG cU rfl ?_
  refine aE er (by rw [List.length_append,List.length_cons,List.length_nil]; omega) ?_
  refine bK (cs:=[a0,a1,a2,a3,.int .i64 c.node,.pointer gp,lv,.int .i64 (mk:Int),.int .i64 (c.taken:Int)]) xL rfl (fun j v hj=>by
   rw [Nat.zero_add]
   refine hcell j v ?_
   rw [List.getElem_append_right (Nat.le_refl _)]
   simpa using hj) ?_
  refine aL hI HC fun b4 w' hI=>?_
  refine au hI 6 rfl xL rfl rfl ?_ fun w' hI=>?_
  ·subst hlv
   intro u hu
   have hu':u∈[a0,a1,a2,a3,.int .i64 c.node,.pointer gp,.slice la c.left.length lcap,.int .i64 (mk:Int),.int .i64 (c.taken:Int)]:=hu
   simp only [List.mem_cons,List.not_mem_nil,or_false] at hu'
   rcases hu' with rfl|rfl|rfl|rfl|rfl|rfl|rfl|rfl|rfl <;> first|rfl|exact hg1.one _ (by simp)
  have hI:Inv w X ([.blk b4 (.cells #[a0,a1,a2,a3,.int .i64 c.node,.pointer gp,lv,.int .i64 (mk:Int),.int .i64 (c.taken:Int)] cO),dL sp (cJ sb pv qv nc fuel used n gv (.slice (some ⟨cg,0,none⟩) (ccs0++[[a0,a1,a2,a3,.int .i64 c.node,.pointer gp,lv,.int .i64 (mk:Int),.int .i64 (c.taken:Int)]]).length ccap) (.slice na ncs.length ncap) mo),chI (.slice (some ⟨cg,0,none⟩) (ccs0++[[a0,a1,a2,a3,.int .i64 c.node,.pointer gp,lv,.int .i64 (mk:Int),.int .i64 (c.taken:Int)]]).length ccap) (ccs0++[[a0,a1,a2,a3,.int .i64 c.node,.pointer gp,lv,.int .i64 (mk:Int),.int .i64 (c.taken:Int)]]),noI (.slice na ncs.length ncap) ncs]++aq sb mb es ck tv tr) S1 w':=hI.perm (List.perm_append_comm (l₁:=[_]))
  refine al ?_
  refine ae hI 1 rfl cG cU rfl ?_
  refine GS hI 2 rfl er (n:=ccs0.length) (by rw [List.length_append]; omega) ?_
  refine al ?_
  refine cq hI 1 rfl cG cU rfl rfl rfl fun w' hI=>?_
  have hI:=hI.cutRow (i:=2) rfl (n:=ccs0.length) (by rw [List.length_append]; omega) (fun x hx=>by
   rcases List.mem_append.1 hx with hx|hx
   ·exact hR0.hk x hx
   ·rw [List.mem_singleton.1 hx]; rfl)
  rw [List.take_left] at hI
  have hJ0:Inv w X ([.blk b4 (.cells #[a0,a1,a2,a3,.int .i64 c.node,.pointer gp,lv,.int .i64 (mk:Int),.int .i64 (c.taken:Int)] cO),dL sp (cJ sb pv qv nc fuel used n gv (.slice (some ⟨cg,0,none⟩) ccs0.length ccap) (.slice na ncs.length ncap) mo),chI (.slice (some ⟨cg,0,none⟩) ccs0.length ccap) ccs0,noI (.slice na ncs.length ncap) ncs]++aq sb mb es ck tv tr) S1 w':=hI
  repeat clear hI
  clear hcell
  have htrl:tr.length<=900000:=by have:=hK.tb; omega
  refine ⟨fun D JN FU KS H4 Iw Ke MS w_=>Fx D 0 [MS=.pointer (some ⟨sp,0,none⟩),Ke=.pointer (some ⟨sp,0,none⟩),Iw=.pointer (some ⟨sp,0,none⟩),H4=.pointer (some ⟨sb,0,none⟩),KS=.pointer (some ⟨b4,7,none⟩),FU=.int .i64 (mk:Int),True]/\∃ (es3:Array MapEntry) (tv3:Value) (tr3:List Int),(D 6=false->es=es3/\tv=tv3/\tr=tr3)/\(D 6=true->KnownM S1 es3 (dn st (tr.drop mk))/\tr3=tr.take mk)/\Inv w X ([.blk b4 (.cells #[a0,a1,a2,a3,.int .i64 c.node,.pointer gp,lv,.int .i64 (mk:Int),.int .i64 (c.taken:Int)] cO),dL sp (cJ sb pv qv nc fuel used n gv (.slice (some ⟨cg,0,none⟩) ccs0.length ccap) (.slice na ncs.length ncap) mo),chI (.slice (some ⟨cg,0,none⟩) ccs0.length ccap) ccs0,noI (.slice na ncs.length ncap) ncs]++aq sb mb es3 ck tv3 tr3) S1 w_,⟨Fx.nil _ _,⟨es,tv,tr,fun _=>⟨rfl,rfl,rfl⟩,aM,hJ0.draw⟩⟩,⟨?_,?_,?_,?_,?_,?_,?_,trivial⟩,?_⟩
  all_goals (intro D bv; intros; rename_i JN FU KS H4 Iw Ke MS w_ hA_; have hF_:=hA_.1; obtain ⟨⟨ci,cd,cj,cc,cm,cr,bO,_⟩,⟨es3,tv3,tr3,e6f,e6,hI⟩⟩:=hA_)
  ·exact ⟨hF_.set 0 rfl,⟨es3,tv3,tr3,e6f,e6,hI⟩⟩
  ·obtain rfl:=ci ‹_›
   refine al ?_
   exact ⟨hF_.set 1 rfl,⟨es3,tv3,tr3,e6f,e6,hI⟩⟩
  ·obtain rfl:=cd ‹_›
   refine aA dZ ?_
   exact ⟨hF_.set 2 rfl,⟨es3,tv3,tr3,e6f,e6,hI⟩⟩
  ·obtain rfl:=cj ‹_›
   refine aT (b:=sp) hI 1 (c:=cJ sb pv qv nc fuel used n gv (.slice (some ⟨cg,0,none⟩) ccs0.length ccap) (.slice na ncs.length ncap) mo) dz rfl rfl ?_
   exact ⟨hF_.set 3 rfl,⟨es3,tv3,tr3,e6f,e6,hI⟩⟩
  ·refine aA CY ?_
   exact ⟨hF_.set 4 rfl,⟨es3,tv3,tr3,e6f,e6,hI⟩⟩
  ·obtain rfl:=cm ‹_›
   refine aT (b:=b4) hI 0 (c:=#[a0,a1,a2,a3,.int .i64 c.node,.pointer gp,lv,.int .i64 (mk:Int),.int .i64 (c.taken:Int)]) aF rfl rfl ?_
   exact ⟨hF_.set 5 rfl,⟨es3,tv3,tr3,e6f,e6,hI⟩⟩
  ·obtain rfl:=cc ‹_›
   obtain rfl:=cr ‹_›
   obtain ⟨rfl,rfl,rfl⟩:=e6f bv
   refine Run.callE (A:=[_,_,_,_]) gQ gM hI (qe (mark:=mk) hK.km hmk hnn (by omega)) fun v' I' S4 w_=>?_
   rintro ⟨eS,rfl,es3,tv3,rfl,hkm3⟩ _ hI
   rw [eS] at hI
   obtain ⟨tr3,htr3⟩:∃ a,a=tr.take mk:=⟨_,rfl⟩
   rw [<- htr3] at hI
   have e6f:az D 6 6=false->es=es3/\tv=tv3/\tr=tr3:=fun h=>Bool.noConfusion h
   have e6:az D 6 6=true->KnownM S1 es3 (dn st (tr.drop mk))/\tr3=tr.take mk:=fun _=>⟨hkm3,htr3⟩
   exact ⟨hF_.set 6 (by first|assumption|trivial),⟨es3,tv3,tr3,e6f,e6,hI⟩⟩
  obtain ⟨rfl,rfl,rfl,rfl,rfl,rfl,Jc,_⟩:=hF_.all
  clear hF_ ci cd cj cc cm cr bO
  obtain ⟨hkm3,htr3⟩:=e6 (by assumption)
  rw [hund,hst] at hkm3
  clear e6 e6f
  have hJ1:=hI
  clear hI
  refine ⟨fun D xf xZ y7 HP H6 HZ Iq Ib Dx GA w_=>Fx D 0 [GA=.pointer (some ⟨sp,0,none⟩),Dx=.pointer (some ⟨sp,0,none⟩),Ib=.pointer (some ⟨sp,0,none⟩),Iq=.pointer (some ⟨sp,10,none⟩),HZ=.slice na ncs.length ncap,H6=.pointer (some ⟨b4,8,none⟩),HP=.int .i64 (c.taken:Int),y7=.slice na c.taken ncap,xZ=.pointer (some ⟨sp,0,none⟩),xf=.pointer (some ⟨sp,10,none⟩),True]/\∃ (nF:Nat),(D 10=false->ncs.length=nF)/\(D 10=true->D 4=true)/\(D 10=true->nF=c.taken)/\Inv w X ([.blk b4 (.cells #[a0,a1,a2,a3,.int .i64 c.node,.pointer gp,lv,.int .i64 (mk:Int),.int .i64 (c.taken:Int)] cO),dL sp (cJ sb pv qv nc fuel used n gv (.slice (some ⟨cg,0,none⟩) ccs0.length ccap) (.slice na nF ncap) mo),chI (.slice (some ⟨cg,0,none⟩) ccs0.length ccap) ccs0,noI (.slice na ncs.length ncap) ncs]++aq sb mb es3 ck tv3 tr3) S1 w_,⟨Fx.nil _ _,⟨ncs.length,fun _=>rfl,aM,aM,hJ1.draw⟩⟩,⟨?_,?_,?_,?_,?_,?_,?_,?_,?_,?_,?_,trivial⟩,?_⟩
  all_goals (intro D bv; intros; rename_i xf xZ y7 HP H6 HZ Iq Ib Dx GA w_ hA_; have hF_:=hA_.1; obtain ⟨⟨ci,cd,cj,cc,cm,cr,bO,cR,dt,eP,cI,_⟩,⟨nF,e10f,k10,e10,hI⟩⟩:=hA_)
  ·exact ⟨hF_.set 0 rfl,⟨nF,e10f,k10,e10,hI⟩⟩
  ·exact ⟨hF_.set 1 rfl,⟨nF,e10f,k10,e10,hI⟩⟩
  ·obtain rfl:=cd ‹_›
   refine al ?_
   exact ⟨hF_.set 2 rfl,⟨nF,e10f,k10,e10,hI⟩⟩
  ·obtain rfl:=cj ‹_›
   refine aA dD ?_
   exact ⟨hF_.set 3 rfl,⟨nF,e10f,k10,e10,hI⟩⟩
  ·obtain rfl:=cc ‹_›
   have f10:D 10=false:=Bool.eq_false_iff.2 fun h=>by rw [k10 h] at bv; cases bv
   have q:=e10f f10
   refine aT (b:=sp) (v:=.slice na ncs.length ncap) hI 1 (c:=cJ sb pv qv nc fuel used n gv (.slice (some ⟨cg,0,none⟩) ccs0.length ccap) (.slice na nF ncap) mo) gd rfl (by rw [q]; rfl) ?_
   have k10:az D 4 10=true->az D 4 4=true:=fun _=>rfl
   exact ⟨hF_.set 4 rfl,⟨nF,e10f,k10,e10,hI⟩⟩
  ·refine aA Cu ?_
   exact ⟨hF_.set 5 rfl,⟨nF,e10f,k10,e10,hI⟩⟩
  ·obtain rfl:=cr ‹_›
   refine aT (b:=b4) hI 0 (c:=#[a0,a1,a2,a3,.int .i64 c.node,.pointer gp,lv,.int .i64 (mk:Int),.int .i64 (c.taken:Int)]) aF rfl rfl ?_
   exact ⟨hF_.set 6 rfl,⟨nF,e10f,k10,e10,hI⟩⟩
  ·obtain rfl:=cm ‹_›
   obtain rfl:=bO ‹_›
   refine GS hI 3 rfl oK (n:=c.taken) (by have:=hK.nd.hc; omega) ?_
   exact ⟨hF_.set 7 rfl,⟨nF,e10f,k10,e10,hI⟩⟩
  ·obtain rfl:=ci ‹_›
   refine al ?_
   exact ⟨hF_.set 8 rfl,⟨nF,e10f,k10,e10,hI⟩⟩
  ·obtain rfl:=dt ‹_›
   refine aA dD ?_
   exact ⟨hF_.set 9 rfl,⟨nF,e10f,k10,e10,hI⟩⟩
  ·obtain rfl:=eP ‹_›
   obtain rfl:=cR ‹_›
   refine cB hI 1 (n:=1) rfl (by rw [gd]; rfl) rfl (Nat.le_of_ble_eq_true rfl) (by simp [Value.cells,Value.oneCell']) fun w_ hI=>?_
   obtain ⟨nF,hF⟩:∃ a,a=c.taken:=⟨_,rfl⟩
   have e10f:az D 10 10=false->ncs.length=nF:=fun h=>Bool.noConfusion h
   have k10:az D 10 10=true->az D 10 4=true:=fun _=>by assumption
   have e10:az D 10 10=true->nF=c.taken:=fun _=>hF
   have hI:Inv w X ([.blk b4 (.cells #[a0,a1,a2,a3,.int .i64 c.node,.pointer gp,lv,.int .i64 (mk:Int),.int .i64 (c.taken:Int)] cO),dL sp (cJ sb pv qv nc fuel used n gv (.slice (some ⟨cg,0,none⟩) ccs0.length ccap) (.slice na nF ncap) mo),chI (.slice (some ⟨cg,0,none⟩) ccs0.length ccap) ccs0,noI (.slice na ncs.length ncap) ncs]++aq sb mb es3 ck tv3 tr3) S1 w_:=by rw [hF]; exact hI
   exact ⟨hF_.set 10 trivial,⟨nF,e10f,k10,e10,hI⟩⟩
  obtain ⟨rfl,rfl,rfl,rfl,rfl,rfl,rfl,rfl,rfl,rfl,_,_⟩:=hF_.all
  clear hF_ ci cd cj cc cm cr bO cR dt eP cI
  have q10:=e10 (by assumption)
  subst q10
  clear e10 e10f k10
  have hnl:=hK.nd.hc
  have hI:=hI.cutRow (i:=3) rfl (n:=c.taken) (by omega) hK.nd.hk
  obtain ⟨ncs0,hncs0⟩:∃ a,a=ncs.take c.taken:=⟨_,rfl⟩
  have hI:Inv w X ([.blk b4 (.cells #[a0,a1,a2,a3,.int .i64 c.node,.pointer gp,lv,.int .i64 (mk:Int),.int .i64 (c.taken:Int)] cO)]++([dL sp (cJ sb pv qv nc fuel used (bA c.binds n).length gv (.slice (some ⟨cg,0,none⟩) ccs0.length ccap) (.slice na c.taken ncap) mo),chI (.slice (some ⟨cg,0,none⟩) ccs0.length ccap) ccs0,noI (.slice na c.taken ncap) ncs0]++aq sb mb es3 ck tv3 tr3)) S1 w_:=by
   rw [hgl,hncs0]
   exact hI
  refine aA Dt ?_
  refine dw hI 0 [a0,a1,a2,a3] ac rfl rfl Pe ?_
  refine ae hI 0 rfl C2 aF rfl ?_
  refine ae hI 0 rfl CE fD rfl ?_
  refine ae hI 0 rfl CP cE rfl ?_
  have htk:(ns.take c.taken).length=c.taken:=by rw [List.length_take]; omega
  have hund':dn st (tr.drop mk)=bA c.binds n:=by rw [<- hst]; exact hund
  have hub:unb (bA c.binds n)<=unb st+(tr.drop mk).length:=by rw [<- hund']; exact Fs _ _
  rw [List.length_drop] at hub
  have htb:=hK.tb
  have hKt:SeaK S1 cs0 (ns.take c.taken) (bA c.binds n) ms0 tr3 es3 ccs0 ncs0:=by
   refine ⟨hkm3,hR0,by rw [hncs0]; exact hK.nd.take _,?_,?_⟩
   ·rw [htr3,<- hst]; exact hMk
   ·rw [htr3,hgl,List.length_take]; omega
  refine Run.callE (A:=[_]) mG lZ hI (A0 hp hpb hT g1 g2 g3 (by rw [hgl]; omega) hg1 hg3 hg2 (h4.mono hE1.1 fun _ _=>RdC.mono hE1.1) hKt ⟨k2.node.1,by rw [htk]; exact k2.node.2⟩ (by omega)) fun v' I' S4 w'=>?_
  rintro ⟨rfl,es4,ck4,tv4,tr4,ms4,gv4,cv4,ccs4,nv4,ncs4,mo4,rfl,hm⟩ hE4 hI
  have hI9:=hI.sub (List.sublist_cons_self _ _)
  obtain ⟨j1,j2,j3⟩:=hT.ok hp g1 g2 g3
  rw [hgl] at j1 j2
  rcases hcase with ⟨r,rfl,rfl⟩|⟨rfl,hb'⟩
  ·refine av (fun _=>?_) (fun h=>by cases h)
   obtain ⟨_,_,_,j4,j5,_⟩:=j3 r rfl
   refine ⟨_,_,S4,rfl,hI9,hE1.trans hE4,rfl,es4,ck4,tv4,tr4,ms4,gv4,cv4,ccs4,nv4,ncs4,mo4,_,rfl,fun s hs=>?_⟩
   cases hs
   exact ⟨by show (m:Int)=(r.st.length:Int); omega,hm.1,hm.2⟩
  ·refine av (fun h=>by cases h) (fun _=>?_)
   obtain ⟨rfl,rfl,rfl,hKn⟩:=hm
   have hm':=j2 rfl
   have hcc4:ccs4.length=cs0.length:=by have:=hKn.ch.hc; have h5:=hKn.mkI.len; rw [List.length_zip] at this; omega
   refine ⟨⟨cs0,m,ns.take c.taken,bA (bA c.binds n) m,S4,cv4,nv4,tv4,_,_,es4,ccs4,ncs4,ck4,mo4,hb',by rw [htk]; exact k1.mono j1 (Nat.le_refl _),by omega,by omega,cW (by rw [hgl]; exact j1),hE1.trans hE4,hKn,hI9⟩,?_⟩
   show chN sp _<chN sp _
   rw [hI9.chN 0 1 rfl rfl,hchN,List.length_append,List.length_cons,List.length_nil]
   omega
 ·have:cs=[]:=List.eq_nil_of_length_eq_zero (by omega)
  subst this
  obtain rfl:=hb.inv0
  exact ⟨_,_,S1,rfl,hI,hE1,rfl,es,ck,tv,tr,ms,gv,cv,ccs,nv,ncs,mo,_,rfl,fun s hs=>by cases hs⟩
end
end
section
open Go Go.RowKit
theorem RdT.unpub {S S3:ad} {sb mb ck:Nat} {m tv:Value} {es:Array MapEntry} (h1:S sb=some (.cells #[m,tv] bT)) (h2:S mb=some (.map es ck)) (h3:∀ b o,S b=some o->b≠sb->b≠mb->S3 b=some o) {cs:List Value} {t:T} (h:RdT S cs t):RdT S3 cs t:=by
 induction h with
 | nil hk hn hs hc=>exact RdT.nil hk hn hs hc
 | @cons k n s kids b o cap c E fz hk hn hs hl hc hS hR ih=>
  cases kids with
  | nil=>exact RdT.nil hk hn hs hc
  | cons x xs=>
   have hx:=(hR 0 (by simp)).length
   refine RdT.cons hk hn hs hl hc (h3 _ _ hS ?_ ?_) ih
   ·rintro rfl
    rw [h1] at hS
    cases hS
    rw [aV,List.length_take,List.length_drop] at hx
    simp at hx
    omega
   ·rintro rfl
    rw [h2] at hS
    cases hS
theorem Inv.unpub {w0 w:World} {X:List Nat} {B:List Item} {S S3:ad} (h:Inv w0 X B S w) (M:aN) (hM:∀ p∈M,S p.1=some p.2) (hnd:(bp (aZ M)).Nodup) (hnew:∀ b∈bp (aZ M),b∈X ∨ w0.heap.size<=b) (hs:Sle S3 S) (h3:∀ b∈bp (aZ M),S3 b=none) :
  Inv w0 X (B++aZ M) S3 w:=by
 refine ⟨h.size,h.os,h.tape,h.output,h.old,fun it hit=>?_,?_,fun b hb=>?_,fun b o hb=>⟨(h.pub b o (hs b o hb)).1,fun hb'=>?_⟩⟩
 ·rcases List.mem_append.1 hit with hit|hit
  ·exact h.its it hit
  ·obtain ⟨p,hp,rfl⟩:=List.mem_map.1 hit
   exact (h.pub _ _ (hM p hp)).1
 ·rw [bq,List.nodup_append]
  refine ⟨h.nd,hnd,fun a ha b hb e=>?_⟩
  subst e
  obtain ⟨p,hp,rfl⟩:=fc.1 hb
  exact (h.pub _ _ (hM p hp)).2 ha
 ·rw [bq] at hb
  rcases List.mem_append.1 hb with hb|hb
  ·exact h.new b hb
  ·exact hnew b hb
 ·rw [bq] at hb'
  rcases List.mem_append.1 hb' with hb'|hb'
  ·exact (h.pub b o (hs b o hb)).2 hb'
  ·rw [h3 b hb'] at hb
   cases hb
section
attribute [local irreducible] Run CondV ao aI
theorem oj {N:Nat} {st:ah} (hg:Good N st) {t u:T} (hr:Res st (.one t u)) (ho:okU N t/\wT t<=1048576) {S:ad} {cs:List Value} {sb mb ck:Nat} {es:Array MapEntry} {tv:Value} {tr:List Int} (h:RdT S cs t) (hkm:KnownM S es st) :
  Tri Tryz.prog jF [.pointer (some ⟨sb,0,none⟩),.agg cs.toArray] (aq sb mb es ck tv tr) S fun q I' S'=>I'=aq sb mb es ck tv tr/\∃ cs':List Value,cs'.length=4/\(∀ x∈cs',x.oneCell'=true)/\q=.tuple #[.agg cs'.toArray,.bool (bB u)]/\(bB u=true->RdT S' cs' u):=by
 intro w hI
 obtain ⟨X,hX⟩:∃ X,X=bp (aq sb mb es ck tv tr):=⟨_,rfl⟩
 rw [<- hX] at hI ⊢
 have hI0:Inv w X ([dl tv tr]++aZ [(sb,.cells #[.map (some mb),tv] bT),(mb,.map es ck)]) S w:=hI.perm (List.perm_append_comm (l₁:=[dl tv tr]) (l₂:=aZ [(sb,.cells #[.map (some mb),tv] bT),(mb,.map es ck)]))
 have hnd:=hI0.nd
 have hnew:=hI0.new
 rw [bq,List.nodup_append] at hnd
 obtain ⟨S1,hI1,hE1,hins⟩:=Inv.pubExt hI0
 have hsb:=hins _ (List.mem_cons_self ..)
 have hmb:=hins _ (List.mem_cons_of_mem _ (List.mem_cons_self ..))
 have hst:StS S1 S1 sb st:=⟨mb,tv,es,ck,bT,hsb,hmb,hkm.upS hE1.1⟩
 have hI1':Inv w X ([dl tv tr]++[]) S1 w:=by rw [List.append_nil]; exact hI1
 refine (GM hI1' (Al hg hr ho (h.mono hE1.1) hst)).mono ?_
 rintro e w' ⟨v,I',S',rfl,hI2,hE2,rfl,cs',hl,h1,rfl,hR⟩
 rw [List.append_nil] at hI2
 obtain ⟨S3,hS3⟩:∃ S3:ad,S3=fun b=>if b=sb ∨ b=mb then none else S' b:=⟨_,rfl⟩
 have hle3:Sle S3 S':=fun b o hb=>by
  rw [hS3] at hb
  simp only at hb
  split at hb
  ·cases hb
  ·exact hb
 have hback:∀ b o,S' b=some o->b≠sb->b≠mb->S3 b=some o:=fun b o hb h1 h2=>by
  rw [hS3]
  simp only
  rw [if_neg (by simp [h1,h2])]
  exact hb
 have hnot:∀ b o,S b=some o->b≠sb/\b≠mb:=fun b o hb=>by
  have:=(hI0.pub b o hb).2
  rw [bq] at this
  constructor
  ·rintro rfl; exact this (List.mem_append_right _ (by simp [bp,aZ,Item.foot]))
  ·rintro rfl; exact this (List.mem_append_right _ (by simp [bp,aZ,Item.foot]))
 have hI3:=hI2.unpub (S3:=S3) [(sb,.cells #[.map (some mb),tv] bT),(mb,.map es ck)] (fun p hp=>by
   simp only [List.mem_cons,List.not_mem_nil,or_false] at hp
   rcases hp with rfl|rfl
   ·exact hE2.1 _ _ hsb
   ·exact hE2.1 _ _ hmb) hnd.2.1 (fun b hb=>hnew b (by rw [bq]; exact List.mem_append_right _ hb)) hle3 (fun b hb=>by
   have hb:b=sb ∨ b=mb:=by simpa [bp,aZ,Item.foot] using hb
   rw [hS3]
   simp only
   rw [if_pos hb])
 refine ⟨_,_,S3,rfl,hI3.perm (List.perm_append_comm (l₂:=[dl tv tr]) (l₁:=aZ [(sb,.cells #[.map (some mb),tv] bT),(mb,.map es ck)])),⟨fun b o hb=>?_,fun b o hb=>?_⟩,rfl,cs',hl,h1,rfl,fun hs=>?_⟩
 ·obtain ⟨n1,n2⟩:=hnot b o hb
  exact hback _ _ (hE2.1 _ _ (hE1.1 _ _ hb)) n1 n2
 ·rcases hE2.2 b o (hle3 b o hb) with h5|h5
  ·exact hE1.2 b o h5
  ·exact .inr h5
 ·exact RdT.unpub (hE2.1 _ _ hsb) (hE2.1 _ _ hmb) hback (hR hs)
end
end
end Go.Proofs.YtcpgagfdeflbkaaGreatDoor
