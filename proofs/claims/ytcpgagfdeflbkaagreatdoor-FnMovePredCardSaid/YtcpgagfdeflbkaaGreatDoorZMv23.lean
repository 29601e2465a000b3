/- impl's search in memory: try. -/
import Derived.Test.YtcpgagfdeflbkaaGreatDoorZMv22
namespace Go.Proofs.YtcpgagfdeflbkaaGreatDoor
open Go Go.RowKit
abbrev cJ (sb:Nat) (pv qv:Value) (nc:Bool) (fuel used fresh:Int) (gv cv nv:Value) (mo:Int):Array Value:=
 #[.pointer (some ⟨sb,0,none⟩),pv,qv,.bool false,.bool nc,.int .i64 fuel,.int .i64 used,.int .i64 fresh,gv,cv,nv,.int .i64 mo]
abbrev dL (sp:Nat) (c:Array Value):Item:=.blk sp (.cells c kP)
abbrev chI (cv:Value) (ccs:List (List Value)):Item:=aB cv cO 9 ccs
abbrev noI (nv:Value) (ncs:List (List Value)):Item:=aB nv hH 6 ncs
abbrev fI (a:Option Addr) (cap n l:Nat):Value:=.slice (if cap=l then a else a.map (·.add (l * 1))) (n - l) (cap - l)
abbrev chC (a0 a1 a2 a3:Value) (at_:Int) (gp:Option Addr) (lv:Value) (m n:Int):List Value:=[a0,a1,a2,a3,.int .i64 at_,.pointer gp,lv,.int .i64 m,.int .i64 n]
theorem Mk {a0 a1 a2 a3:Value} (h:∀ u∈[a0,a1,a2,a3],u.oneCell'=true) {at_:Int} {gp:Option Addr} {a:Option Addr} {c l n0:Nat} {m n:Int}:∀ u∈chC a0 a1 a2 a3 at_ gp (fI a c l n0) m n,u.oneCell'=true:=by
 intro u hu
 simp only [List.mem_cons,List.not_mem_nil,or_false] at hu
 rcases hu with rfl|rfl|rfl|rfl|rfl|rfl|rfl|rfl|rfl <;> first|rfl|exact h _ (by simp)
def RdCI (S:ad) (cs:List Value) (x:CI × Nat):Prop:=∃ a0 a1 a2 a3 gp lv,cs=[a0,a1,a2,a3,.int .i64 x.1.node,gp,lv,.int .i64 (x.2:Int),.int .i64 (x.1.taken:Int)]/\RdT S [a0,a1,a2,a3] x.1.goal/\GL S gp x.1.rest/\RdSl S 1 jW lv x.1.left
def RdNI (S:ad) (cs:List Value) (x:NI):Prop:=∃ a0 a1 a2 a3,cs=[a0,a1,a2,a3,.int .i64 x.up,.int .i64 x.clause]/\RdT S [a0,a1,a2,a3] x.goal
theorem RdCI.mono {S S':ad} (hs:Sle S S') {cs:List Value} {x:CI × Nat} (h:RdCI S cs x):RdCI S' cs x:=by
 obtain ⟨a0,a1,a2,a3,gp,lv,rfl,h1,h2,h3⟩:=h
 exact ⟨_,_,_,_,_,_,rfl,h1.mono hs,h2.mono hs,h3.mono hs fun _ _ h=>h⟩
theorem RdNI.mono {S S':ad} (hs:Sle S S') {cs:List Value} {x:NI} (h:RdNI S cs x):RdNI S' cs x:=by
 obtain ⟨a0,a1,a2,a3,rfl,h1⟩:=h
 exact ⟨_,_,_,_,rfl,h1.mono hs⟩
theorem KnownM.upS {S S':ad} {es:Array MapEntry} {st:ah} (h:KnownM S es st) (hs:Sle S S'):KnownM S' es st:=
 ⟨fun e he=>by
  obtain ⟨n,t,cs,a,b,c,d⟩:=h.1 e he
  exact ⟨n,t,cs,a,b,c.mono hs,d⟩,h.2⟩
structure SeaK (S:ad) (chs:List CI) (nodes:List NI) (st:ah) (ms:List Nat) (tr:List Int) (es:Array MapEntry) (ccs ncs:List (List Value)):Prop where
 km:KnownM S es st
 ch:Rows 9 (RdCI S) ccs (chs.zip ms)
 nd:Rows 6 (RdNI S) ncs nodes
 mkI:MkI chs ms st tr
 tb:tr.length+unb st<=st.length
theorem SeaK.mono {S S':ad} {chs:List CI} {nodes:List NI} {st:ah} {ms:List Nat} {tr:List Int} {es:Array MapEntry} {ccs ncs:List (List Value)} (h:SeaK S chs nodes st ms tr es ccs ncs) (hs:Sle S S'):SeaK S' chs nodes st ms tr es ccs ncs:=
 ⟨h.km.upS hs,h.ch.monoR fun _ _=>RdCI.mono hs,h.nd.monoR fun _ _=>RdNI.mono hs,h.mkI,h.tb⟩
theorem KnownM.g26 {S:ad} {es:Array MapEntry} {st:ah} (h:KnownM S es st):KnownM S es (g26 st):=by
 obtain ⟨h1,h2,h3⟩:=h
 refine ⟨fun e he=>?_,fun n t hn=>?_,h3⟩
 ·obtain ⟨n,t,cs,a,b,c,d⟩:=h1 e he
  have hlt:n<st.length:=(List.getElem?_eq_some_iff.1 d).1
  exact ⟨n,t,cs,a,b,c,by unfold Go.Proofs.YtcpgagfdeflbkaaGreatDoor.g26; rw [List.getElem?_append_left hlt]; exact d⟩
 ·unfold Go.Proofs.YtcpgagfdeflbkaaGreatDoor.g26 at hn
  by_cases hlt:n<st.length
  ·rw [List.getElem?_append_left hlt] at hn
   exact h2 n t hn
  ·rw [List.getElem?_append_right (by omega),List.getElem?_replicate] at hn
   split at hn <;> simp at hn
section
variable {P:Program} {w:World} {K:Value->World->Prop}
attribute [local irreducible] Run
theorem Pr {cs:List Bool} {a b:Int} (hk:K (.int .i64 (if a<b then b else a)) w):Run Tryz.prog (bu .max #[bG,bG] bG cs [.int .i64 a,.int .i64 b]) w K:=by
 refine Run.of ?_ hk
 simp [bu,builtin,Builtin.max_,Builtin.max2]
end
section
variable {P:Program} {w w0:World} {X:List Nat} {L:List Item} {S:ad} {K:Value->World->Prop}
attribute [local irreducible] Run CondV ao aI
theorem gt (h:Inv w0 X L S w) (i:Nat) {T ty e:TypeId} {cs:List Bool} {k n:Nat} {v:Value} {xs:List Value} {Ek:TypeId × Nat} (hi:L[i]?=some (.row v e k n xs)) (hu:bX P T=some Ek) (hk:K (.int .i64 (n:Int)) w) :
  Run P (bu .len #[T] ty cs [v]) w K:=by
 have hm:w.ownsRow 0 e k v n xs:=h.its (.row v e k n xs) (List.mem_of_getElem? hi)
 rcases hm.2 with ⟨rfl,hn⟩|⟨g,cap,cur,rfl,_⟩
 ·subst hn
  exact fw hu hk
 ·exact fw hu hk
end
def CT (sp sb mb:Nat) (pv qv:Value) (nc:Bool) (fuel used:Int) (gv0:Value) (chs:List CI) (nodes:List NI) (st:ah) (tr:List Int) (ms:List Nat) (g:T) (at_:Int) (rest:List GI) (o:Option HI) (n:Nat):Value->List Item->ad->Prop:=fun q I' S'=>
 q=.bool o.isSome/\∃ es' ck' tv' tr' ms' gv' cv' ccs' nv' ncs' mo',I'=[dL sp (cJ sb pv qv nc fuel used n gv' cv' nv' mo'),chI cv' ccs',noI nv' ncs']++aq sb mb es' ck' tv' tr'/\
  match o with
  | none=>gv'=gv0/\tr'=tr/\ms'=ms/\SeaK S' chs nodes (bA st n) ms tr es' ccs' ncs'
  | some r=>GL S' gv' (iH chs nodes g at_ rest st r).goals/\SeaK S' (iH chs nodes g at_ rest st r).chs (iH chs nodes g at_ rest st r).nodes r.st ms' tr' es' ccs' ncs'
theorem TryI.inv {p:List C} {g:T} {x:Int} {l:List Int} {st:ah} {o:Option HI} {n:Nat} (h:TryI p g (x::l) st o n):∃ (i:Nat) (cl:C) (r:Bool) (st':ah),x=i/\p[i]?=some cl/\Uni (g26 st) (.one g (cH st.length cl.head)) r st'/\
  ((r=true/\o=some ⟨i,cl,st.length,l,st'⟩/\n=st.length+26) ∨ (r=false/\TryI p g l (g26 st) o n)):=by
 cases h with
 | hit h1 h2=>exact ⟨_,_,_,_,rfl,h1,h2,.inl ⟨rfl,rfl,rfl⟩⟩
 | miss h1 h2 h3=>exact ⟨_,_,_,_,rfl,h1,h2,.inr ⟨rfl,h3⟩⟩
theorem Li (ns:List NI) (a:Nat) (i:Int) (h:a<ns.length):Da ns a i=ns.set a ⟨ns[a].goal,ns[a].up,i⟩:=by
 unfold Da
 apply List.ext_getElem?
 intro j
 rw [List.getElem?_modify,List.getElem?_set]
 split
 ·rename_i e
  subst e
  rw [List.getElem?_eq_getElem h]
  rfl
 ·cases ns[j]? <;> rfl
theorem AP {t:T} (h:okU 26 t):okV t:=Cw t h
section
attribute [local irreducible] Run CondV ao aI
set_option maxHeartbeats 2000000 in
theorem A0 {p:List C} (hp:∀ cl∈p,mI cl) (hpb:∀ cl∈p,cl.body.length<=1048576) {g:T} {l:List Int} {st:ah} {o:Option HI} {n:Nat} (ht:TryI p g l st o n) (hgd:Good st.length st) (htb:tabM st) (hgo:(okU st.length g/\wT g<=1048576)/\okM g)
  (hn:st.length+26 * l.length<=900000) {S:ad} {gcs:List Value} {lv gv gv0 pv qv cv nv tv:Value} {rest:List GI} {chs:List CI} {nodes:List NI} {ms:List Nat} {tr:List Int} {es:Array MapEntry} {ccs ncs:List (List Value)}
  {sp sb mb ck:Nat} {nc:Bool} {fuel used at_ mo:Int} (h1:RdT S gcs g) (h2:RdSl S 1 jW lv l) (h3:GL S gv rest) (h4:RdSl S 5 (RdC S) pv p) (hK:SeaK S chs nodes st ms tr es ccs ncs) (hat:0<=at_/\at_<nodes.length) (hcl:chs.length<=1000000) :
  Tri Tryz.prog yR [.pointer (some ⟨sp,0,none⟩),.agg gcs.toArray,.int .i64 at_,lv,gv] ([dL sp (cJ sb pv qv nc fuel used st.length gv0 cv nv mo),chI cv ccs,noI nv ncs]++aq sb mb es ck tv tr) S
   (CT sp sb mb pv qv nc fuel used gv0 chs nodes st tr ms g at_ rest o n):=by
 intro w hI
 obtain ⟨X,hX⟩:∃ X,X=bp ([dL sp (cJ sb pv qv nc fuel used st.length gv0 cv nv mo),chI cv ccs,noI nv ncs]++aq sb mb es ck tv tr):=⟨_,rfl⟩
 rw [<- hX] at hI ⊢
 have hl4:=h1.length
 have htrl:tr.length<=900000:=by have:=hK.tb; omega
 refine mA.2 ?_
 dsimp only[mA,Bq]
 refine bl hI fun b6 w' hI=>?_
 have hI:Inv w X ([.blk b6 (.cells gcs.toArray ab),dL sp (cJ sb pv qv nc fuel used st.length gv0 cv nv mo),chI cv ccs,noI nv ncs]++aq sb mb es ck tv tr) S w':=hI.perm (List.perm_append_comm (l₁:=[_]))
 refine al ?_
 refine ae hI 1 rfl dZ dz rfl ?_
 refine al ?_
 refine ae hI 4 rfl dQ fD rfl ?_
 refine gt hI 6 rfl dd ?_
 refine aD h2 dd ?_
 have hh2:=h2.le
 simp only [maxLen] at hh2
 refine ⟨fun i w'=>∃ (k:Nat) (st1:ah) (es1:Array MapEntry) (ck1:Nat) (tv1:Value) (S1:ad),k<=l.length/\i=.int .i64 (k:Int)/\TryI p g (l.drop k) st1 o n/\st1=bA st st1.length/\st1.length=st.length+26 * k/\Ext w.heap.size X S S1/\KnownM S1 es1 st1/\
   Inv w X ([.blk b6 (.cells gcs.toArray ab),dL sp (cJ sb pv qv nc fuel used st1.length gv0 cv nv mo),chI cv ccs,noI nv ncs]++aq sb mb es1 ck1 tv1 tr) S1 w',
  fun i _=>l.length - (intOf i).toNat,⟨0,st,es,ck,tv,S,Nat.zero_le _,rfl,ht,(jA st).symm,rfl,Ext.refl _ _ _,hK.km,hI⟩,?_⟩
 clear hI
 intro t30 _ _ t151 t150 t149 t148 t147 t146 t145 t144 t143 t142 t141 t140 t139 _ _ _ _ _ _ _ _ _ _ _ _ _ _ _ _ _ _ _ _ _ _ _ _ _ _ _ _ _ _ _ _ _ _ _ _ _ _ t102 t101 t100 t99 t98 t97 t96 t95 t94 t93 t92 t91 t90 t89 t88 t87 t86 t85 t84 t83 t82 t81 t80 _ _ _ _ _ _ _ _ _ _ _ _ _ _ _ _ _ t63 t62 t61 t60 t59 t58 t57 t56 t55 t54 t53 t52 t51 t50 t49 t48 t47 _ _ _ _ _ _ _ _ _ _ _ _ _ _ _ _ _ _ _ _ w'
 rintro ⟨k,st1,es1,ck1,tv1,S1,hk,rfl,ht1,hst1,hlen1,hE1,hkm1,hI⟩
 refine bC ?_
 refine aH (fun hki=>?_) (fun hki=>?_)
 ·have hk':k<l.length:=by omega
  rw [List.drop_eq_getElem_cons hk'] at ht1
  obtain ⟨i,cl,r,st2,hxi,hpi,hu,hcase⟩:=ht1.inv
  have hip:i<p.length:=(List.getElem?_eq_some_iff.1 hpi).1
  have hcp:p[i]=cl:=(List.getElem?_eq_some_iff.1 hpi).2
  have hcl1:=hp cl (List.mem_of_getElem? hpi)
  have hs1:st.length<=st1.length:=by omega
  have hg1:Good st1.length st1:=by have h:=hgd.to hs1; rwa [<- hst1] at h
  have ht1b:tabM st1:=by have h:=htb.to st1.length; rwa [<- hst1] at h
  have hgo1:(okU st1.length g/\wT g<=1048576)/\okM g:=⟨⟨fk hs1 _ hgo.1.1,hgo.1.2⟩,hgo.2⟩
  have hjj:=Lk hgo1.1 hcl1
  have hfr:st1.length<=900000:=by omega
  have hun1:unb st1+tr.length<=st1.length:=by
   have:=hK.tb
   rw [hst1,cW hs1]
   unfold bA
   rw [lD]
   omega
  have hun26:tr.length+unb (g26 st1)<=1000000:=by unfold g26; rw [lD]; omega
  refine gn hI (h2.mono hE1.1 fun _ _ h=>h) dd aF hk' (fun cs hcs=>hcs) ?_
  rw [hxi]
  refine al ?_
  refine ae hI 1 rfl lV aF rfl ?_
  refine aL hI K9 fun b14 w' hI=>?_
  refine cB hI 7 (n:=1) rfl (by rw [aF]; rfl) rfl (Nat.le_of_ble_eq_true rfl) (by simp [Value.cells]; rfl) fun w' hI=>?_
  have hI:Inv w X (([.blk b6 (.cells gcs.toArray ab),dL sp (cJ sb pv qv nc fuel used st1.length gv0 cv nv mo),chI cv ccs,noI nv ncs]++aq sb mb es1 ck1 tv1 tr)++[.blk b14 (.cells #[.int .i64 (st1.length:Int)] bG)]) S1 w':=hI
  obtain ⟨S2,hI,hE2,hb14⟩:=Inv.pub1 hI
  refine al ?_
  refine ae hI 1 rfl lV aF rfl ?_
  refine bi (by omega) ?_
  refine al ?_
  refine cq hI 1 rfl lV aF rfl rfl rfl fun w' hI=>?_
  refine lB ?_
  have hE12:=hE1.trans hE2
  obtain ⟨pb,po,pcap,pc,pE,pfz,hpv,hSp,hRc⟩:=h4.at_ hip
  rw [hcp] at hRc
  obtain ⟨hd,kb,hce,hhd,hbd⟩:=hRc
  have hhl:=hhd.length
  have hfun:=Ji (S:=S2) (by_:=(st1.length:Int)) hb14 (by omega)
  have hfr26:((st1.length:Int)+26)=((g26 st1).length:Int):=by rw [lF]; omega
  have hJ0:Inv w X ([.blk b6 (.cells gcs.toArray ab),dL sp (cJ sb pv qv nc fuel used ((g26 st1).length:Int) gv0 cv nv mo),chI cv ccs,noI nv ncs]++aq sb mb es1 ck1 tv1 tr) S2 w':=by rw [<- hfr26]; exact hI
  repeat clear hI
  refine ⟨fun D Bm xc xP wN xw zd xK x0 Bt AG Bv Bo AL AJ xf xZ y7 w_=>Fx D 0 [y7=.pointer (some ⟨sp,0,none⟩),xZ=.pointer (some ⟨sp,0,none⟩),xf=.pointer (some ⟨sp,0,none⟩),AJ=.pointer (some ⟨sb,0,none⟩),AL=.agg gcs.toArray,Bo=.pointer (some ⟨sp,0,none⟩),Bv=.pointer (some ⟨sp,0,none⟩),AG=.pointer (some ⟨sp,1,none⟩),Bt=.slice (some ⟨pb,po,none⟩) p.length pcap,x0=.int .i64 (i:Int),xK=.pointer (some ⟨pb,po+i * 5,none⟩),zd=.pointer (some ⟨pb,po+i * 5,none⟩),xw=.agg hd.toArray,wN=.func (.func ki) #[] #[.pointer (some ⟨b14,0,none⟩)],True,xc=.bool r,Bm=.bool (!r)]/\∃ (SN:ad) (es3:Array MapEntry) (ck3:Nat) (tv3:Value) (tr3:List Int),Ext w.heap.size X S2 SN/\(D 14=true->∃ cs,xP=.agg cs.toArray/\RdT SN cs (cH st1.length cl.head))/\(D 15=false->es1=es3/\ck1=ck3/\tv1=tv3/\tr=tr3)/\(D 15=true->KnownM SN es3 st2/\Tr (g26 st1) st2 tr tr3)/\Inv w X ([.blk b6 (.cells gcs.toArray ab),dL sp (cJ sb pv qv nc fuel used ((g26 st1).length:Int) gv0 cv nv mo),chI cv ccs,noI nv ncs]++aq sb mb es3 ck3 tv3 tr3) SN w_,⟨Fx.nil _ _,⟨S2,es1,ck1,tv1,tr,Ext.refl _ _ _,aM,fun _=>⟨rfl,rfl,rfl,rfl⟩,aM,hJ0.draw⟩⟩,⟨?_,?_,?_,?_,?_,?_,?_,?_,?_,?_,?_,?_,?_,?_,?_,?_,?_,trivial⟩,?_⟩
  all_goals (intro D bv; intros; rename_i Bm xc xP wN xw zd xK x0 Bt AG Bv Bo AL AJ xf xZ y7 w_ hA_; have hF_:=hA_.1; obtain ⟨⟨ci,cd,cj,cc,cm,cr,bO,cR,dt,eP,cI,db,d6,fx,fS,gN,iU,_⟩,⟨SN,es3,ck3,tv3,tr3,hN,e14,k15,e15,hI⟩⟩:=hA_)
  ·exact ⟨hF_.set 0 rfl,⟨SN,es3,ck3,tv3,tr3,hN,e14,k15,e15,hI⟩⟩
  ·obtain rfl:=ci ‹_›
   refine al ?_
   exact ⟨hF_.set 1 rfl,⟨SN,es3,ck3,tv3,tr3,hN,e14,k15,e15,hI⟩⟩
  ·obtain rfl:=cd ‹_›
   refine aA dZ ?_
   exact ⟨hF_.set 2 rfl,⟨SN,es3,ck3,tv3,tr3,hN,e14,k15,e15,hI⟩⟩
  ·obtain rfl:=cj ‹_›
   refine aT (b:=sp) hI 1 (c:=cJ sb pv qv nc fuel used ((g26 st1).length:Int) gv0 cv nv mo) dz rfl rfl ?_
   exact ⟨hF_.set 3 rfl,⟨SN,es3,ck3,tv3,tr3,hN,e14,k15,e15,hI⟩⟩
  ·refine aw hI 0 ac rfl (by simpa using hl4) ?_
   exact ⟨hF_.set 4 rfl,⟨SN,es3,ck3,tv3,tr3,hN,e14,k15,e15,hI⟩⟩
  ·exact ⟨hF_.set 5 rfl,⟨SN,es3,ck3,tv3,tr3,hN,e14,k15,e15,hI⟩⟩
  ·obtain rfl:=cr ‹_›
   refine al ?_
   exact ⟨hF_.set 6 rfl,⟨SN,es3,ck3,tv3,tr3,hN,e14,k15,e15,hI⟩⟩
  ·obtain rfl:=bO ‹_›
   refine aA lU ?_
   exact ⟨hF_.set 7 rfl,⟨SN,es3,ck3,tv3,tr3,hN,e14,k15,e15,hI⟩⟩
  ·obtain rfl:=cR ‹_›
   refine aT (b:=sp) hI 1 (c:=cJ sb pv qv nc fuel used ((g26 st1).length:Int) gv0 cv nv mo) oq rfl (by rw [hpv]; rfl) ?_
   exact ⟨hF_.set 8 rfl,⟨SN,es3,ck3,tv3,tr3,hN,e14,k15,e15,hI⟩⟩
  ·exact ⟨hF_.set 9 rfl,⟨SN,es3,ck3,tv3,tr3,hN,e14,k15,e15,hI⟩⟩
  ·obtain rfl:=dt ‹_›
   obtain rfl:=eP ‹_›
   refine aE aY hip ?_
   exact ⟨hF_.set 10 rfl,⟨SN,es3,ck3,tv3,tr3,hN,e14,k15,e15,hI⟩⟩
  ·obtain rfl:=cI ‹_›
   refine aA bF ?_
   exact ⟨hF_.set 11 rfl,⟨SN,es3,ck3,tv3,tr3,hN,e14,k15,e15,hI⟩⟩
  ·obtain rfl:=db ‹_›
   refine bK (cs:=hd) ac hhl (fun j v hj=>by rw [hI.cellS ((hE12.trans hN).1 _ _ hSp)]; exact aJ hce j v (by rw [List.getElem?_append_left (List.getElem?_eq_some_iff.1 hj).1]; exact hj)) ?_
   exact ⟨hF_.set 12 rfl,⟨SN,es3,ck3,tv3,tr3,hN,e14,k15,e15,hI⟩⟩
  ·exact ⟨hF_.set 13 rfl,⟨SN,es3,ck3,tv3,tr3,hN,e14,k15,e15,hI⟩⟩
  ·obtain rfl:=d6 ‹_›
   obtain rfl:=fx ‹_›
   refine Run.call0E fK fB hI (xB [.pointer (some ⟨b14,0,none⟩)] _ jD jj cl.head SN hd (hhd.mono (hE12.trans hN).1) (AP hcl1.head.1.1) hcl1.head.1.2 (hfun.mono hN.1)) fun v' I' S4 w_=>?_
   rintro ⟨rfl,cs7,rfl,hT⟩ hE4 hI
   rw [nM st1.length cl.head hcl1.head.1.1] at hT
   have hI:=hI.sub (List.sublist_append_left _ _)
   have hN:=hN.trans hE4
   have e14:az D 14 14=true->∃ cs,Value.agg cs7.toArray=.agg cs.toArray/\RdT S4 cs (cH st1.length cl.head):=fun _=>⟨cs7,rfl,hT⟩
   have e15:az D 14 15=true->KnownM S4 es3 st2/\Tr (g26 st1) st2 tr tr3:=fun h=>⟨(e15 h).1.upS hE4.1,(e15 h).2⟩
   obtain ⟨SN,hSN⟩:∃ a,a=S4:=⟨_,rfl⟩
   subst hSN
   exact ⟨hF_.set 14 (by first|assumption|trivial),⟨SN,es3,ck3,tv3,tr3,hN,e14,k15,e15,hI⟩⟩
  ·obtain rfl:=cc ‹_›
   obtain rfl:=cm ‹_›
   have PP:=fS ‹_›
   obtain ⟨rfl,rfl,rfl,rfl⟩:=k15 bv
   obtain ⟨cs7,rfl,hT7⟩:=e14 ‹D 14=true›
   refine Run.callE (A:=[_,_,_,_]) de df hI (fb (by omega) hg1.g26 hjj hu SN _ _ sb mb ck1 es1 tv1 tr (h1.mono (hE12.trans hN).1) hT7 ((hkm1.upS (hE2.trans hN).1).g26) hun26) fun v' I' S4 w_=>?_
   rintro ⟨eS,rfl,es3,ck3,tv3,tr3,rfl,hm3,_,hT3⟩ _ hI
   rw [eS] at hI
   have k15:az D 15 15=false->es1=es3/\ck1=ck3/\tv1=tv3/\tr=tr3:=fun h=>Bool.noConfusion h
   have e15:az D 15 15=true->KnownM SN es3 st2/\Tr (g26 st1) st2 tr tr3:=fun _=>⟨hm3,hT3⟩
   have e14:az D 15 14=true->∃ cs,Value.agg cs7.toArray=.agg cs.toArray/\RdT SN cs (cH st1.length cl.head):=fun _=>⟨cs7,rfl,hT7⟩
   exact ⟨hF_.set 15 rfl,⟨SN,es3,ck3,tv3,tr3,hN,e14,k15,e15,hI⟩⟩
  ·obtain rfl:=gN ‹_›
   refine bU ?_
   exact ⟨hF_.set 16 rfl,⟨SN,es3,ck3,tv3,tr3,hN,e14,k15,e15,hI⟩⟩
  obtain ⟨rfl,rfl,rfl,rfl,rfl,rfl,rfl,rfl,rfl,rfl,rfl,rfl,rfl,rfl,PP,rfl,rfl,_⟩:=hF_.all
  clear hF_ ci cd cj cc cm cr bO cR dt eP cI db d6 fx fS gN iU
  obtain ⟨hkm3,hTr3⟩:=e15 (by assumption)
  clear k15 e14 e15
  have hE13:=hE12.trans hN
  rcases hcase with ⟨rfl,ho,hn1⟩|⟨rfl,ht2⟩
  ·refine av (fun hb=>by cases hb) (fun _=>?_)
   subst ho hn1
   obtain ⟨an,rfl⟩:∃ an:Nat,at_=an:=⟨at_.toNat,by omega⟩
   have han:an<nodes.length:=by omega
   obtain ⟨a0,a1,a2,a3,rfl⟩:=h1.four
   obtain ⟨gp,rfl⟩:=h3.ptr
   have hml:=hK.mkI.len
   have hcc:ccs.length=chs.length:=by have:=hK.ch.hc; rw [List.length_zip] at this; omega
   have hnc:=hK.nd.hc
   have hTG:TrG st st2 tr tr3:=by
    refine (TrG.grow st tr hs1).trans ?_
    rw [<- hst1]
    refine (TrG.grow st1 tr (Nat.le_add_right _ 26)).trans ?_
    rw [<- HG]
    exact TrG.of hTr3
   have hst2:st2.length=st1.length+26:=by
    obtain ⟨ns,_,hu2,_⟩:=hTr3
    have:=congrArg List.length hu2
    rw [jZ,lF] at this
    exact this
   obtain ⟨la,lcap,rfl,hlc1,hlc2,hlx⟩:=id h2
   have hL2:=h2.from (l:=k+1) (by omega)
   refine al ?_
   refine ae hI 1 rfl cG cU rfl ?_
   refine gt hI 2 rfl er ?_
   refine ⟨fun w'=>∃ (SJ:ad) (cv':Value) (ccs':List (List Value)) (ms':List Nat),Ext w.heap.size X SN SJ/\Rows 9 (RdCI SJ) ccs' ((chs++(if l.drop (k+1)=[] then [] else ([⟨g,(an:Int),rest,l.drop (k+1),st,nodes.length⟩]:List CI))).zip ms')/\
    MkI (chs++(if l.drop (k+1)=[] then [] else ([⟨g,(an:Int),rest,l.drop (k+1),st,nodes.length⟩]:List CI))) ms' st2 tr3/\
    Inv w X ([.blk b6 (.cells #[a0,a1,a2,a3] ab),dL sp (cJ sb pv qv nc fuel used ((g26 st1).length:Int) gv0 cv' nv mo),chI cv' ccs',noI nv ncs]++aq sb mb es3 ck3 tv3 tr3) SJ w',?_,?_⟩
   ·refine bi (by omega) ?_
    refine aD h2 dd ?_
    refine bC ?_
    refine aH (fun hk2=>?_) (fun hk2=>?_)
    ·have hne:l.drop (k+1)≠[]:=fun e=>by have:=congrArg List.length e; rw [List.length_drop,List.length_nil] at this; omega
     rw [if_neg hne]
     have hJ1:=hI
     clear hI
     have hN0:=hN
     clear hN
     refine ⟨fun D Pu O1 NZ P1 P2 N5 O7 MM MQ M8 MP Nc Nd Ne Nf M4 MN MK MR Lw M6 KL Kb w_=>Fx D 0 [Kb=.pointer (some ⟨sp,0,none⟩),KL=.pointer (some ⟨sp,0,none⟩),M6=.pointer (some ⟨sp,0,none⟩),Lw=.pointer (some ⟨sp,9,none⟩),MR=cv,MK=.agg #[a0,a1,a2,a3],MN=.int .i64 (an:Int),M4=.pointer gp,Nf=.slice la l.length lcap,Ne=.int .i64 (k:Int),Nd=.int .i64 ((k+1:Nat):Int),Nc=fI la lcap l.length (k+1),MP=.int .i64 (tr.length:Int),M8=.pointer (some ⟨sp,0,none⟩),MQ=.pointer (some ⟨sp,0,none⟩),MM=.pointer (some ⟨sp,10,none⟩),O7=nv,N5=.int .i64 (ncs.length:Int),P2=.agg (chC a0 a1 a2 a3 an gp (fI la lcap l.length (k+1)) tr.length ncs.length).toArray,True,True,O1=.pointer (some ⟨sp,0,none⟩),Pu=.pointer (some ⟨sp,9,none⟩),True]/\∃ (SP:ad) (cvF cvR:Value) (ccsR:List (List Value)),Ext w.heap.size X SN SP/\(D 19=true->∃ b,P1=.slice (some ⟨b,0,none⟩) 1 1/\SP b=some (.cells (chC a0 a1 a2 a3 an gp (fI la lcap l.length (k+1)) tr.length ncs.length).toArray cO))/\(D 20=false->cv=cvF/\cv=cvR/\ccs=ccsR)/\(D 20=true->cvR=NZ/\ccsR=ccs++[chC a0 a1 a2 a3 an gp (fI la lcap l.length (k+1)) tr.length ncs.length])/\(D 23=true->cvF=NZ)/\(D 20=true->D 4=true)/\(D 23=true->D 20=true)/\Inv w X ([.blk b6 (.cells #[a0,a1,a2,a3] ab),dL sp (cJ sb pv qv nc fuel used ((g26 st1).length:Int) gv0 cvF nv mo),chI cvR ccsR,noI nv ncs]++aq sb mb es3 ck3 tv3 tr3) SP w_,⟨Fx.nil _ _,⟨SN,cv,cv,ccs,Ext.refl _ _ _,aM,fun _=>⟨rfl,rfl,rfl⟩,aM,aM,aM,aM,hJ1.draw⟩⟩,⟨?_,?_,?_,?_,?_,?_,?_,?_,?_,?_,?_,?_,?_,?_,?_,?_,?_,?_,?_,?_,?_,?_,?_,?_,trivial⟩,?_⟩
     all_goals (intro D bv; intros; rename_i Pu O1 NZ P1 P2 N5 O7 MM MQ M8 MP Nc Nd Ne Nf M4 MN MK MR Lw M6 KL Kb w_ hA_; have hF_:=hA_.1; obtain ⟨⟨ci,cd,cj,cc,cm,cr,bO,cR,dt,eP,cI,db,d6,fx,fS,gN,iU,lH,o5,gx,rL,sR,sV,tl,_⟩,⟨SP,cvF,cvR,ccsR,hN,e19,e20f,e20,e23,k20,k23,hI⟩⟩:=hA_)
     ·exact ⟨hF_.set 0 rfl,⟨SP,cvF,cvR,ccsR,hN,e19,e20f,e20,e23,k20,k23,hI⟩⟩
     ·exact ⟨hF_.set 1 rfl,⟨SP,cvF,cvR,ccsR,hN,e19,e20f,e20,e23,k20,k23,hI⟩⟩
     ·obtain rfl:=cd ‹_›
      refine al ?_
      exact ⟨hF_.set 2 rfl,⟨SP,cvF,cvR,ccsR,hN,e19,e20f,e20,e23,k20,k23,hI⟩⟩
     ·obtain rfl:=cj ‹_›
      refine aA cG ?_
      exact ⟨hF_.set 3 rfl,⟨SP,cvF,cvR,ccsR,hN,e19,e20f,e20,e23,k20,k23,hI⟩⟩
     ·obtain rfl:=cc ‹_›
      have f20:D 20=false:=Bool.eq_false_iff.2 fun h=>by rw [k20 h] at bv; cases bv
      have q:=(e20f f20).1
      refine aT (b:=sp) (v:=cv) hI 1 (c:=cJ sb pv qv nc fuel used ((g26 st1).length:Int) gv0 cvF nv mo) cU rfl (by rw [q]; rfl) ?_
      have k20:az D 4 20=true->az D 4 4=true:=fun _=>rfl
      exact ⟨hF_.set 4 (by first|assumption|trivial),⟨SP,cvF,cvR,ccsR,hN,e19,e20f,e20,e23,k20,k23,hI⟩⟩
     ·refine aw hI 0 ac rfl rfl ?_
      exact ⟨hF_.set 5 rfl,⟨SP,cvF,cvR,ccsR,hN,e19,e20f,e20,e23,k20,k23,hI⟩⟩
     ·exact ⟨hF_.set 6 rfl,⟨SP,cvF,cvR,ccsR,hN,e19,e20f,e20,e23,k20,k23,hI⟩⟩
     ·exact ⟨hF_.set 7 rfl,⟨SP,cvF,cvR,ccsR,hN,e19,e20f,e20,e23,k20,k23,hI⟩⟩
     ·exact ⟨hF_.set 8 rfl,⟨SP,cvF,cvR,ccsR,hN,e19,e20f,e20,e23,k20,k23,hI⟩⟩
     ·exact ⟨hF_.set 9 rfl,⟨SP,cvF,cvR,ccsR,hN,e19,e20f,e20,e23,k20,k23,hI⟩⟩
     ·obtain rfl:=eP ‹_›
      refine bi (by omega) ?_
      exact ⟨hF_.set 10 rfl,⟨SP,cvF,cvR,ccsR,hN,e19,e20f,e20,e23,k20,k23,hI⟩⟩
     ·obtain rfl:=dt ‹_›
      obtain rfl:=cI ‹_›
      refine Fg dd (by omega) ?_
      exact ⟨hF_.set 11 rfl,⟨SP,cvF,cvR,ccsR,hN,e19,e20f,e20,e23,k20,k23,hI⟩⟩
     ·exact ⟨hF_.set 12 rfl,⟨SP,cvF,cvR,ccsR,hN,e19,e20f,e20,e23,k20,k23,hI⟩⟩
     ·exact ⟨hF_.set 13 rfl,⟨SP,cvF,cvR,ccsR,hN,e19,e20f,e20,e23,k20,k23,hI⟩⟩
     ·obtain rfl:=fx ‹_›
      refine al ?_
      exact ⟨hF_.set 14 rfl,⟨SP,cvF,cvR,ccsR,hN,e19,e20f,e20,e23,k20,k23,hI⟩⟩
     ·obtain rfl:=fS ‹_›
      refine aA dD ?_
      exact ⟨hF_.set 15 rfl,⟨SP,cvF,cvR,ccsR,hN,e19,e20f,e20,e23,k20,k23,hI⟩⟩
     ·obtain rfl:=gN ‹_›
      refine aT (b:=sp) (v:=nv) hI 1 (c:=cJ sb pv qv nc fuel used ((g26 st1).length:Int) gv0 cvF nv mo) gd rfl rfl ?_
      exact ⟨hF_.set 16 (by first|assumption|trivial),⟨SP,cvF,cvR,ccsR,hN,e19,e20f,e20,e23,k20,k23,hI⟩⟩
     ·have OQ:=iU ‹_›
      refine gt (e:=hH) (k:=6) (n:=ncs.length) (xs:=ncs.flatten) hI 3 (by rw [OQ]; rfl) oK ?_
      exact ⟨hF_.set 17 rfl,⟨SP,cvF,cvR,ccsR,hN,e19,e20f,e20,e23,k20,k23,hI⟩⟩
     ·obtain rfl:=cr ‹_›
      obtain rfl:=bO ‹_›
      obtain rfl:=cR ‹_›
      obtain rfl:=db ‹_›
      obtain rfl:=d6 ‹_›
      obtain rfl:=lH ‹_›
      refine zU ?_
      exact ⟨hF_.set 18 rfl,⟨SP,cvF,cvR,ccsR,hN,e19,e20f,e20,e23,k20,k23,hI⟩⟩
     ·obtain rfl:=o5 ‹_›
      refine du hI ve rfl (by omega) (by omega) fun b19 w_ hI=>?_
      have hI:Inv w X (([.blk b6 (.cells #[a0,a1,a2,a3] ab),dL sp (cJ sb pv qv nc fuel used ((g26 st1).length:Int) gv0 cvF nv mo),chI cvR ccsR,noI nv ncs]++aq sb mb es3 ck3 tv3 tr3)++[.blk b19 (.cells (chC a0 a1 a2 a3 an gp (fI la lcap l.length (k+1)) tr.length ncs.length).toArray cO)]) SP w_:=hI
      obtain ⟨SP,hI,hE5,hb19⟩:=Inv.pub1 hI
      have hN:=hN.trans hE5
      have e19:az D 19 19=true->∃ b,Value.slice (some ⟨b19,0,none⟩) 1 1=.slice (some ⟨b,0,none⟩) 1 1/\SP b=some (.cells (chC a0 a1 a2 a3 an gp (fI la lcap l.length (k+1)) tr.length ncs.length).toArray cO):=fun _=>⟨b19,rfl,hb19⟩
      exact ⟨hF_.set 19 (by first|assumption|trivial),⟨SP,cvF,cvR,ccsR,hN,e19,e20f,e20,e23,k20,k23,hI⟩⟩
     ·have Ej:=cm ‹_›
      have PX:=gx ‹_›
      obtain ⟨b,q19,hb⟩:=e19 ‹D 19=true›
      subst q19
      obtain ⟨q1,rfl,rfl⟩:=e20f bv
      refine cN hI 2 (chC a0 a1 a2 a3 an gp (fI la lcap l.length (k+1)) tr.length ncs.length) ve (by omega) (n:=ccs.length) (xs:=ccs.flatten) (by rw [Ej]; rfl) rfl (m:=1) (o:=0) (fun j u hj=>by rw [hI.cellS hb,Nat.zero_add]; simpa using hj) (Mk h1.one) (by omega) (by omega) fun cvR w_ hI=>?_
      obtain ⟨ccsR,hR⟩:∃ a,a=ccs++[chC a0 a1 a2 a3 an gp (fI la lcap l.length (k+1)) tr.length ncs.length]:=⟨_,rfl⟩
      rw [dJ,<- hR] at hI
      have e20f:az D 20 20=false->cv=cvF/\cv=cvR/\ccs=ccsR:=fun h=>Bool.noConfusion h
      have e20:az D 20 20=true->cvR=cvR/\ccsR=ccs++[chC a0 a1 a2 a3 an gp (fI la lcap l.length (k+1)) tr.length ncs.length]:=fun _=>⟨rfl,hR⟩
      have e23:az D 20 23=true->cvF=cvR:=fun h=>absurd (k23 h) (by rw [bv]; decide)
      have k20:az D 20 20=true->az D 20 4=true:=fun _=>‹D 4=true›
      have k23:az D 20 23=true->az D 20 20=true:=fun _=>rfl
      have e19:az D 20 19=true->∃ b',Value.slice (some ⟨b,0,none⟩) 1 1=.slice (some ⟨b',0,none⟩) 1 1/\SP b'=some (.cells (chC a0 a1 a2 a3 an gp (fI la lcap l.length (k+1)) tr.length ncs.length).toArray cO):=fun _=>⟨b,rfl,hb⟩
      exact ⟨hF_.set 20 (by first|assumption|trivial),⟨SP,cvF,cvR,ccsR,hN,e19,e20f,e20,e23,k20,k23,hI⟩⟩
     ·obtain rfl:=ci ‹_›
      refine al ?_
      exact ⟨hF_.set 21 rfl,⟨SP,cvF,cvR,ccsR,hN,e19,e20f,e20,e23,k20,k23,hI⟩⟩
     ·obtain rfl:=sR ‹_›
      refine aA cG ?_
      exact ⟨hF_.set 22 rfl,⟨SP,cvF,cvR,ccsR,hN,e19,e20f,e20,e23,k20,k23,hI⟩⟩
     ·obtain rfl:=sV ‹_›
      have PS:=rL ‹_›
      obtain ⟨q1,q2⟩:=e20 ‹D 20=true›
      subst q1
      obtain ⟨va,vcap,hv,_⟩:=hI.rowSlice' (i:=2) rfl
      have hcl:cvR.cells=#[cvR]:=by rw [hv]; rfl
      refine cB hI 1 (n:=1) (by rw [hcl]; rfl) (by rw [cU]; rfl) rfl (Nat.le_of_ble_eq_true rfl) (by rw [hcl,hv]; simp [Value.oneCell']) fun w_ hI=>?_
      rw [hcl] at hI
      obtain ⟨cvF,hF⟩:∃ a,a=cvR:=⟨_,rfl⟩
      have e23:az D 23 23=true->cvF=cvR:=fun _=>hF
      have e20f:az D 23 20=false->cv=cvF/\cv=cvR/\ccs=ccsR:=fun h=>absurd ‹D 20=true› (by rw [show D 20=false from h]; decide)
      have k23:az D 23 23=true->az D 23 20=true:=fun _=>‹D 20=true›
      have hI:Inv w X ([.blk b6 (.cells #[a0,a1,a2,a3] ab),dL sp (cJ sb pv qv nc fuel used ((g26 st1).length:Int) gv0 cvF nv mo),chI cvR ccsR,noI nv ncs]++aq sb mb es3 ck3 tv3 tr3) SP w_:=by rw [hF]; exact hI
      exact ⟨hF_.set 23 trivial,⟨SP,cvF,cvR,ccsR,hN,e19,e20f,e20,e23,k20,k23,hI⟩⟩
     obtain ⟨rfl,rfl,rfl,rfl,Ej,rfl,rfl,rfl,rfl,rfl,rfl,rfl,rfl,rfl,rfl,rfl,OQ,rfl,rfl,PX,PS,rfl,rfl,_,_⟩:=hF_.all
     clear hF_ ci cd cj cc cm cr bO cR dt eP cI db d6 fx fS gN iU lH o5 gx rL sR sV tl
     obtain ⟨q1,q2⟩:=e20 (by assumption)
     have q3:=e23 (by assumption)
     subst q2
     rw [q3,<- q1] at hI
     refine ⟨SP,_,_,ms++[tr.length],hN,?_,?_,hI⟩
     ·rw [List.zip_append hml.symm]
      exact (hK.ch.monoR fun _ _=>RdCI.mono (hE13.trans hN).1).snoc ⟨a0,a1,a2,a3,.pointer gp,_,by rw [<- hnc],h1.mono (hE13.trans hN).1,h3.mono (hE13.trans hN).1,hL2.mono (hE13.trans hN).1 fun _ _ h=>h⟩ rfl
     ·exact (MkI.push (c:=⟨g,(an:Int),rest,l.drop (k+1),st,nodes.length⟩) hK.mkI).go hTG
    ·have he:l.drop (k+1)=[]:=List.drop_eq_nil_of_le (by omega)
     rw [if_pos he,List.append_nil]
     exact ⟨SN,cv,ccs,ms,Ext.refl _ _ _,hK.ch.monoR fun _ _=>RdCI.mono hE13.1,hK.mkI.go hTG,hI⟩
   clear hI
   intro _ _ _ _ _ _ _ _ _ _ _ _ _ _ _ _ _ _ _ _ _ _ _ _ _ _ _ _ w'
   rintro ⟨SJ,cv',ccs',ms',hEJ,hRJ,hMJ,hI⟩
   have hE1J:=hE13.trans hEJ
   obtain ⟨ng,ncap,hnv,-⟩:=hI.rowPtr (i:=3) rfl (j:=an) (by omega) hK.nd.hk
   subst hnv
   refine al ?_
   refine ae hI 1 rfl dD gd rfl ?_
   refine aE oK (by omega) ?_
   refine aA Hl ?_
   refine y5 hI 3 (j:=an) (f:=5) rfl aF (by omega) (by omega) (by omega) hK.nd.hk rfl rfl fun w' hI=>?_
   obtain ⟨ncs',hncs⟩:∃ a,a=ncs.set an ((ncs[an]'(by omega)).set 5 (.int .i64 (i:Int))):=⟨_,rfl⟩
   have hI:Inv w X ([.blk b6 (.cells #[a0,a1,a2,a3] ab),dL sp (cJ sb pv qv nc fuel used ((g26 st1).length:Int) gv0 cv' (.slice (some ⟨ng,0,none⟩) ncs.length ncap) mo),chI cv' ccs',noI (.slice (some ⟨ng,0,none⟩) ncs.length ncap) ncs']++aq sb mb es3 ck3 tv3 tr3) SJ w':=by
    rw [hncs]
    exact hI
   refine al ?_
   refine ae (u:=.slice (some ⟨pb,po,none⟩) p.length pcap) hI 1 rfl lU oq (by rw [hpv]; rfl) ?_
   refine aE aY hip ?_
   refine aA bf ?_
   refine bW (v:=kb) aj (by
    rw [hI.cellS (hE1J.1 _ _ hSp)]
    exact aJ hce 4 kb (by rw [List.getElem?_append_right (by omega),hhl]; rfl)) ?_
   have hbd':=hbd.monoT hE1J.1
   have hbl:=hpb cl (List.mem_of_getElem? hpi)
   refine aD hbd' ag ?_
   have hI:=hI.rowNil ab 4
   refine ⟨fun ix v w'=>∃ (j:Nat) (css:List (List Value)) (S6:ad),j<=cl.body.length/\ix=.int .i64 (j:Int)/\Ext w.heap.size X SJ S6/\Rows 4 (RdT S6) css ((cl.body.take j).map (cH st1.length))/\
     Inv w X (([.blk b6 (.cells #[a0,a1,a2,a3] ab),dL sp (cJ sb pv qv nc fuel used ((g26 st1).length:Int) gv0 cv' (.slice (some ⟨ng,0,none⟩) ncs.length ncap) mo),chI cv' ccs',noI (.slice (some ⟨ng,0,none⟩) ncs.length ncap) ncs']++aq sb mb es3 ck3 tv3 tr3)++[aB v ab 4 css]) S6 w',
    fun ix _ _=>cl.body.length - (intOf ix).toNat,⟨0,[],SJ,Nat.zero_le _,rfl,Ext.refl _ _ _,Rows.nil _ _,hI⟩,?_⟩
   clear hI
   intro xx _ vv _ _ _ _ _ _ _ _ _ _ w'
   rintro ⟨j,css,S6,hj,rfl,hE6,hR6,hI⟩
   refine bC ?_
   refine aH (fun hjl=>?_) (fun hjl=>?_)
   ·have hj':j<cl.body.length:=by omega
    have hcssl:css.length=j:=by rw [hR6.hc,List.length_map,List.length_take]; omega
    have hbt:=hcl1.body _ (List.getElem_mem hj')
    refine bM hI (hbd'.monoT hE6.1) ag ac hj' (fun _ _=>RdT.length) fun bcs hbcs=>?_
    refine aL hI aW fun b19 w' hI=>?_
    refine au hI 8 rfl ac (by simpa using hbcs.length) rfl (by simpa using hbcs.one) fun w' hI=>?_
    refine aw hI 8 ac rfl (by simpa using hbcs.length) ?_
    have hI:Inv w X (([.blk b6 (.cells #[a0,a1,a2,a3] ab),dL sp (cJ sb pv qv nc fuel used ((g26 st1).length:Int) gv0 cv' (.slice (some ⟨ng,0,none⟩) ncs.length ncap) mo),chI cv' ccs',noI (.slice (some ⟨ng,0,none⟩) ncs.length ncap) ncs']++aq sb mb es3 ck3 tv3 tr3)++[aB vv ab 4 css]) S6 w':=hI.sub (List.sublist_append_left _ [Item.blk b19 (.cells bcs.toArray ab)])
    refine Run.call0E fK fB hI (xB [.pointer (some ⟨b14,0,none⟩)] _ jD jj _ S6 bcs hbcs (AP hbt.1.1) hbt.1.2 (hfun.mono (hN.trans (hEJ.trans hE6)).1)) fun v' I' S7 w'=>?_
    rintro ⟨rfl,cs7,rfl,hT⟩ hE7 hI
    rw [nM st1.length _ hbt.1.1] at hT
    have hI:=hI.sub (List.sublist_append_left _ _)
    refine bP hI 7 cs7 bo (by omega) (by omega) rfl hT.length hT.one (by omega) (by omega) fun v' w' hI=>?_
    refine bi (by omega) ?_
    refine ⟨⟨j+1,css++[cs7],S7,hj',rfl,hE6.trans hE7,?_,hI⟩,by simp only [intOf,Int.toNat_natCast]; omega⟩
    rw [List.take_succ_eq_append_getElem hj',List.map_append]
    exact (hR6.monoR fun _ _=>RdT.mono hE7.1).snoc hT hT.length
   ·have:j=cl.body.length:=by omega
    subst this
    rw [List.take_length] at hR6
    obtain ⟨S7,hE7,hrd,hI⟩:=hI.lendExt
    have hts:=RowRd.rows (hR6.monoR fun _ _=>RdT.mono hE7.1) hrd
    have hEJ7:=hEJ.trans (hE6.trans hE7)
    refine Run.call0E FR Ev hI (Aw hts (h3.mono (hE13.trans hEJ7).1)) fun v' I' S8 w'=>?_
    rintro ⟨rfl,hGL⟩ hE8 hI
    have hI:=hI.sub (List.sublist_append_left _ _)
    obtain ⟨gp',rfl⟩:=hGL.ptr
    refine al ?_
    refine cq hI 1 rfl eN cE rfl rfl rfl fun w' hI=>?_
    have hJ2:Inv w X ([.blk b6 (.cells #[a0,a1,a2,a3] ab),dL sp (cJ sb pv qv nc fuel used ((g26 st1).length:Int) (.pointer gp') cv' (.slice (some ⟨ng,0,none⟩) ncs.length ncap) mo),chI cv' ccs',noI (.slice (some ⟨ng,0,none⟩) ncs.length ncap) ncs']++aq sb mb es3 ck3 tv3 tr3) S8 w':=hI
    repeat clear hI
    refine ⟨fun D JI JX JT PI Pm Px Ov Oo Kj KE Lv KD Lr w_=>Fx D 0 [Lr=.pointer (some ⟨sp,0,none⟩),KD=.pointer (some ⟨sp,0,none⟩),Lv=.pointer (some ⟨sp,0,none⟩),KE=.pointer (some ⟨sp,11,none⟩),Kj=.int .i64 mo,Oo=.pointer (some ⟨sp,0,none⟩),Ov=.pointer (some ⟨sp,0,none⟩),Px=.pointer (some ⟨sp,9,none⟩),Pm=cv',PI=.int .i64 (ccs'.length:Int),JT=.int .i64 (if mo<(ccs'.length:Int) then (ccs'.length:Int) else mo),JX=.pointer (some ⟨sp,0,none⟩),JI=.pointer (some ⟨sp,11,none⟩),True]/\∃ moF:Int,(D 13=false->mo=moF)/\(D 13=true->D 4=true)/\Inv w X ([.blk b6 (.cells #[a0,a1,a2,a3] ab),dL sp (cJ sb pv qv nc fuel used ((g26 st1).length:Int) (.pointer gp') cv' (.slice (some ⟨ng,0,none⟩) ncs.length ncap) moF),chI cv' ccs',noI (.slice (some ⟨ng,0,none⟩) ncs.length ncap) ncs']++aq sb mb es3 ck3 tv3 tr3) S8 w_,⟨Fx.nil _ _,⟨mo,fun _=>rfl,aM,hJ2.draw⟩⟩,⟨?_,?_,?_,?_,?_,?_,?_,?_,?_,?_,?_,?_,?_,?_,trivial⟩,?_⟩
    all_goals (intro D bv; intros; rename_i JI JX JT PI Pm Px Ov Oo Kj KE Lv KD Lr w_ hA_; have hF_:=hA_.1; obtain ⟨⟨ci,cd,cj,cc,cm,cr,bO,cR,dt,eP,cI,db,d6,fx,_⟩,⟨moF,e13,k13,hI⟩⟩:=hA_)
    ·exact ⟨hF_.set 0 rfl,⟨moF,e13,k13,hI⟩⟩
    ·exact ⟨hF_.set 1 rfl,⟨moF,e13,k13,hI⟩⟩
    ·obtain rfl:=cd ‹_›
     refine al ?_
     exact ⟨hF_.set 2 rfl,⟨moF,e13,k13,hI⟩⟩
    ·obtain rfl:=cj ‹_›
     refine aA pm ?_
     exact ⟨hF_.set 3 rfl,⟨moF,e13,k13,hI⟩⟩
    ·obtain rfl:=cc ‹_›
     have f13:D 13=false:=Bool.eq_false_iff.2 fun h=>by rw [k13 h] at bv; cases bv
     have q:=e13 f13
     refine aT (b:=sp) (v:=.int .i64 mo) hI 1 (c:=cJ sb pv qv nc fuel used ((g26 st1).length:Int) (.pointer gp') cv' (.slice (some ⟨ng,0,none⟩) ncs.length ncap) moF) aF rfl (by rw [q]; rfl) ?_
     have k13:az D 4 13=true->az D 4 4=true:=fun _=>rfl
     exact ⟨hF_.set 4 rfl,⟨moF,e13,k13,hI⟩⟩
    ·exact ⟨hF_.set 5 rfl,⟨moF,e13,k13,hI⟩⟩
    ·obtain rfl:=cr ‹_›
     refine al ?_
     exact ⟨hF_.set 6 rfl,⟨moF,e13,k13,hI⟩⟩
    ·obtain rfl:=bO ‹_›
     refine aA cG ?_
     exact ⟨hF_.set 7 rfl,⟨moF,e13,k13,hI⟩⟩
    ·obtain rfl:=cR ‹_›
     refine aT (b:=sp) (v:=cv') hI 1 (c:=cJ sb pv qv nc fuel used ((g26 st1).length:Int) (.pointer gp') cv' (.slice (some ⟨ng,0,none⟩) ncs.length ncap) moF) cU rfl rfl ?_
     exact ⟨hF_.set 8 (by first|assumption|trivial),⟨moF,e13,k13,hI⟩⟩
    ·have Ju:=dt ‹_›
     refine gt (e:=cO) (k:=9) (n:=ccs'.length) (xs:=ccs'.flatten) hI 2 (by rw [Ju]; rfl) er ?_
     exact ⟨hF_.set 9 rfl,⟨moF,e13,k13,hI⟩⟩
    ·obtain rfl:=cm ‹_›
     obtain rfl:=eP ‹_›
     refine Pr ?_
     exact ⟨hF_.set 10 rfl,⟨moF,e13,k13,hI⟩⟩
    ·obtain rfl:=ci ‹_›
     refine al ?_
     exact ⟨hF_.set 11 rfl,⟨moF,e13,k13,hI⟩⟩
    ·obtain rfl:=db ‹_›
     refine aA pm ?_
     exact ⟨hF_.set 12 rfl,⟨moF,e13,k13,hI⟩⟩
    ·obtain rfl:=d6 ‹_›
     obtain rfl:=cI ‹_›
     refine cB hI 1 (n:=1) rfl (by rw [aF]; rfl) rfl (Nat.le_of_ble_eq_true rfl) (by simp [Value.cells,Value.oneCell']) fun w_ hI=>?_
     obtain ⟨moF,hF⟩:∃ a,a=(if mo<(ccs'.length:Int) then (ccs'.length:Int) else mo):=⟨_,rfl⟩
     have e13:az D 13 13=false->mo=moF:=fun h=>Bool.noConfusion h
     have k13:az D 13 13=true->az D 13 4=true:=fun _=>by assumption
     have hI:Inv w X ([.blk b6 (.cells #[a0,a1,a2,a3] ab),dL sp (cJ sb pv qv nc fuel used ((g26 st1).length:Int) (.pointer gp') cv' (.slice (some ⟨ng,0,none⟩) ncs.length ncap) moF),chI cv' ccs',noI (.slice (some ⟨ng,0,none⟩) ncs.length ncap) ncs']++aq sb mb es3 ck3 tv3 tr3) S8 w_:=by rw [hF]; exact hI
     exact ⟨hF_.set 13 trivial,⟨moF,e13,k13,hI⟩⟩
    obtain ⟨rfl,rfl,rfl,rfl,rfl,rfl,rfl,rfl,Ju,rfl,rfl,rfl,rfl,_,_⟩:=hF_.all
    clear hF_ ci cd cj cc cm cr bO cR dt eP cI db d6 fx
    have hE38:=hEJ7.trans hE8
    have hsh:=hTr3.short
    have hu26:unb (g26 st1)=unb st1+26:=by unfold Go.Proofs.YtcpgagfdeflbkaaGreatDoor.g26; rw [lD]
    refine ⟨_,_,S8,rfl,hI.sub (List.sublist_cons_self _ _),hE13.trans hE38,rfl,es3,ck3,tv3,tr3,ms',_,cv',ccs',_,ncs',_,by rw [lF]; rfl,?_,hkm3.upS hE38.1,hRJ.monoR fun _ _=>RdCI.mono ((hE6.trans hE7).trans hE8).1,?_,hMJ,by show tr3.length+unb st2<=st2.length; omega⟩
    ·show GL S8 _ (pr cl st1.length chs.length an rest)
     rw [List.map_map,hcc] at hGL
     exact hGL
    ·show Rows 6 (RdNI S8) ncs' (Da nodes (an:Int).toNat i)
     rw [Int.toNat_natCast,Li _ _ _ han,hncs]
     obtain ⟨c0,c1,c2,c3,hce,hct⟩:=hK.nd.hR an han (by omega)
     refine (hK.nd.monoR fun _ _=>RdNI.mono (hE13.trans hE38).1).set an ⟨c0,c1,c2,c3,by rw [hce]; rfl,hct.mono (hE13.trans hE38).1⟩ ?_
     rw [List.length_set]
     exact hK.nd.hk _ (List.getElem_mem _)
  ·refine av (fun _=>?_) (fun hb=>by cases hb)
   refine al ?_
   refine ae hI 1 rfl dZ dz rfl ?_
   obtain ⟨ns,rfl,hund,hnn,hsh⟩:=hTr3
   have h26:unb (g26 st1)=unb st1+26:=by unfold g26; rw [lD]
   refine Run.callE (A:=[_,_,_,_]) gQ gM hI (qe (mark:=tr.length) hkm3 (by simp) (fun n hn=>by
    rw [List.drop_left] at hn
    obtain ⟨j,rfl,_⟩:=hnn n hn
    omega) (by rw [List.length_append]; omega)) fun v' I' S4 w'=>?_
   rintro ⟨eS,rfl,es4,tv4,rfl,hkm4⟩ _ hI
   rw [eS] at hI
   rw [List.drop_left,hund] at hkm4
   rw [List.take_left] at hI
   refine bi (by omega) ?_
   refine ⟨⟨k+1,g26 st1,es4,ck3,tv4,SN,hk',rfl,ht2,?_,by rw [lF]; omega,hE13,hkm4,hI⟩,by simp only [intOf,Int.toNat_natCast]; omega⟩
   rw [lF,hst1,yd hs1,cW hs1]
 ·have:k=l.length:=by omega
  subst this
  rw [List.drop_length] at ht1
  cases ht1
  refine ⟨_,_,S1,rfl,hI.sub (List.sublist_cons_self _ _),hE1,rfl,es1,ck1,tv1,tr,ms,gv0,cv,ccs,nv,ncs,mo,rfl,rfl,rfl,rfl,?_⟩
  have hK1:=hK.mono hE1.1
  refine ⟨by rw [<- hst1]; exact hkm1,hK1.ch,hK1.nd,hK1.mkI.go (TrG.grow st tr (by omega)),?_⟩
  have:=hK.tb
  rw [<- hst1,hst1,cW (by omega)]
  unfold bA
  rw [lD]
  omega
end
end Go.Proofs.YtcpgagfdeflbkaaGreatDoor
