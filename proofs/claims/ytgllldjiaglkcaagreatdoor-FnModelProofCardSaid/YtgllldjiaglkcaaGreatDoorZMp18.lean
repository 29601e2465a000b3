/- impl's search in memory: try. -/
import Derived.Test.YtgllldjiaglkcaaGreatDoorZMp17
import Derived.Test.YtgllldjiaglkcaaGreatDoorZMp15
namespace Go.Proofs.YtgllldjiaglkcaaGreatDoor
section
open Go Go.RowKit
abbrev dK (sb:Nat) (pv qv:Value) (nc:Bool) (fuel used fresh:Int) (gv cv nv:Value) (mo:Int):Array Value:=
 #[.pointer (some ⟨sb,0,none⟩),pv,qv,.bool false,.bool nc,.int .i64 fuel,.int .i64 used,.int .i64 fresh,gv,cv,nv,.int .i64 mo]
abbrev fx (sp:Nat) (c:Array Value):Item:=.blk sp (.cells c pB)
abbrev chI (cv:Value) (ccs:List (List Value)):Item:=aJ cv ez 9 ccs
abbrev noI (nv:Value) (ncs:List (List Value)):Item:=aJ nv iY 6 ncs
abbrev jA (a:Option Addr) (cap n l:Nat):Value:=.slice (if cap=l then a else a.map (·.add (l * 1))) (n - l) (cap - l)
abbrev chC (a0 a1 a2 a3:Value) (at_:Int) (gp:Option Addr) (lv:Value) (m n:Int):List Value:=[a0,a1,a2,a3,.int .i64 at_,.pointer gp,lv,.int .i64 m,.int .i64 n]
theorem Yx {a0 a1 a2 a3:Value} (h:∀ u∈[a0,a1,a2,a3],u.oneCell'=true) {at_:Int} {gp:Option Addr} {a:Option Addr} {c l n0:Nat} {m n:Int}:∀ u∈chC a0 a1 a2 a3 at_ gp (jA a c l n0) m n,u.oneCell'=true:=by
 intro u hu
 simp only [bN,jd,je] at hu
 rcases hu with rfl|rfl|rfl|rfl|rfl|rfl|rfl|rfl|rfl <;> first|rfl|exact h _ (by simp)
def RdCI (S:ae) (cs:List Value) (x:CI × Nat):Prop:=∃ a0 a1 a2 a3 gp lv,cs=[a0,a1,a2,a3,.int .i64 x.1.node,gp,lv,.int .i64 (x.2:Int),.int .i64 (x.1.taken:Int)]/\RdT S [a0,a1,a2,a3] x.1.goal/\GL S gp x.1.rest/\RdSl S 1 jz lv x.1.left
def RdNI (S:ae) (cs:List Value) (x:NI):Prop:=∃ a0 a1 a2 a3,cs=[a0,a1,a2,a3,.int .i64 x.up,.int .i64 x.clause]/\RdT S [a0,a1,a2,a3] x.goal
theorem RdCI.mono {S S':ae} (hs:Sle S S') {cs:List Value} {x:CI × Nat} (h:RdCI S cs x):RdCI S' cs x:=by
 obtain ⟨a0,a1,a2,a3,gp,lv,rfl,h1,h2,h3⟩:=h
 exact ⟨_,_,_,_,_,_,rfl,h1.mono hs,h2.mono hs,h3.mono hs fun _ _ h=>h⟩
theorem RdNI.mono {S S':ae} (hs:Sle S S') {cs:List Value} {x:NI} (h:RdNI S cs x):RdNI S' cs x:=by
 obtain ⟨a0,a1,a2,a3,rfl,h1⟩:=h
 exact ⟨_,_,_,_,rfl,h1.mono hs⟩
theorem KnownM.upS {S S':ae} {es:Array MapEntry} {st:al} (h:KnownM S es st) (hs:Sle S S'):KnownM S' es st:=
 ⟨fun e he=>by
  obtain ⟨n,t,cs,a,b,c,d⟩:=h.1 e he
  exact ⟨n,t,cs,a,b,c.mono hs,d⟩,h.2⟩
structure SeaK (S:ae) (chs:List CI) (nodes:List NI) (st:al) (ms:List Nat) (tr:List Int) (es:Array MapEntry) (ccs ncs:List (List Value)):Prop where
 km:KnownM S es st
 ch:Rows 9 (RdCI S) ccs (chs.zip ms)
 nd:Rows 6 (RdNI S) ncs nodes
 mkI:MkI chs ms st tr
 tb:tr.length+unb st<=st.length
theorem SeaK.mono {S S':ae} {chs:List CI} {nodes:List NI} {st:al} {ms:List Nat} {tr:List Int} {es:Array MapEntry} {ccs ncs:List (List Value)} (h:SeaK S chs nodes st ms tr es ccs ncs) (hs:Sle S S'):SeaK S' chs nodes st ms tr es ccs ncs:=
 ⟨h.km.upS hs,h.ch.monoR fun _ _=>RdCI.mono hs,h.nd.monoR fun _ _=>RdNI.mono hs,h.mkI,h.tb⟩
theorem KnownM.g26 {S:ae} {es:Array MapEntry} {st:al} (h:KnownM S es st):KnownM S es (g26 st):=by
 obtain ⟨h1,h2,h3⟩:=h
 refine ⟨fun e he=>?_,fun n t hn=>?_,h3⟩
 ·obtain ⟨n,t,cs,a,b,c,d⟩:=h1 e he
  have hlt:n<st.length:=(gx.1 d).1
  exact ⟨n,t,cs,a,b,c,by unfold Go.Proofs.YtgllldjiaglkcaaGreatDoor.g26; rw [z0 hlt]; exact d⟩
 ·unfold Go.Proofs.YtgllldjiaglkcaaGreatDoor.g26 at hn
  by_cases hlt:n<st.length
  ·rw [z0 hlt] at hn
   exact h2 n t hn
  ·rw [iu (by omega),XU] at hn
   split at hn <;> simp at hn
section
variable {P:Program} {w:World} {K:Value->World->Prop}
attribute [local irreducible] Run
theorem aaS {cs:List Bool} {a b:Int} (hk:K (.int .i64 (if a<b then b else a)) w):Run Tryz.prog (bM .max #[bV,bV] bV cs [.int .i64 a,.int .i64 b]) w K:=by
 refine Run.of ?_ hk
 simp [bM,builtin,Builtin.max_,Builtin.max2]
end
section
variable {P:Program} {w w0:World} {X:List Nat} {L:List Item} {S:ae} {K:Value->World->Prop}
attribute [local irreducible] Run CondV az aO
theorem kB (h:Inv w0 X L S w) (i:Nat) {T ty e:TypeId} {cs:List Bool} {k n:Nat} {v:Value} {xs:List Value} {Ek:TypeId × Nat} (hi:L[i]?=some (.row v e k n xs)) (hu:cG P T=some Ek) (hk:K (.int .i64 (n:Int)) w) :
  Run P (bM .len #[T] ty cs [v]) w K:=by
 have hm:w.ownsRow 0 e k v n xs:=h.its (.row v e k n xs) (cz hi)
 rcases hm.2 with ⟨rfl,hn⟩|⟨g,cap,cur,rfl,_⟩
 ·subst hn
  exact eV hu hk
 ·exact eV hu hk
end
def Nt (sp sb mb:Nat) (pv qv:Value) (nc:Bool) (fuel used:Int) (gv0:Value) (chs:List CI) (nodes:List NI) (st:al) (tr:List Int) (ms:List Nat) (g:T) (at_:Int) (rest:List GI) (o:Option HI) (n:Nat):Value->List Item->ae->Prop:=fun q I' S'=>
 q=.bool o.isSome/\∃ es' ck' tv' tr' ms' gv' cv' ccs' nv' ncs' mo',I'=[fx sp (dK sb pv qv nc fuel used n gv' cv' nv' mo'),chI cv' ccs',noI nv' ncs']++aA sb mb es' ck' tv' tr'/\
  match o with
  | none=>gv'=gv0/\tr'=tr/\ms'=ms/\SeaK S' chs nodes (cF st n) ms tr es' ccs' ncs'
  | some r=>GL S' gv' (kX chs nodes g at_ rest st r).goals/\SeaK S' (kX chs nodes g at_ rest st r).chs (kX chs nodes g at_ rest st r).nodes r.st ms' tr' es' ccs' ncs'
theorem TryI.inv {p:List C} {g:T} {x:Int} {l:List Int} {st:al} {o:Option HI} {n:Nat} (h:TryI p g (x::l) st o n):∃ (i:Nat) (cl:C) (r:Bool) (st':al),x=i/\p[i]?=some cl/\Uni (g26 st) (.one g (dx st.length cl.head)) r st'/\
  ((r=true/\o=some ⟨i,cl,st.length,l,st'⟩/\n=st.length+26) ∨ (r=false/\TryI p g l (g26 st) o n)):=by
 cases h with
 | hit h1 h2=>exact ⟨_,_,_,_,rfl,h1,h2,.inl ⟨rfl,rfl,rfl⟩⟩
 | miss h1 h2 h3=>exact ⟨_,_,_,_,rfl,h1,h2,.inr ⟨rfl,h3⟩⟩
theorem Xy (ns:List NI) (a:Nat) (i:Int) (h:a<ns.length):setN ns a i=ns.set a ⟨ns[a].goal,ns[a].up,i⟩:=by
 unfold setN
 apply wD
 intro j
 rw [List.getElem?_modify,C5]
 split
 ·rename_i e
  subst e
  rw [gL h]
  rfl
 ·cases ns[j]? <;> rfl
theorem KD {t:T} (h:okU 26 t):okV t:=Na t h
section
attribute [local irreducible] Run CondV az aO
set_option maxHeartbeats 2000000 in
theorem Lc {p:List C} (hp:∀ cl∈p,oP cl) (hpb:∀ cl∈p,cl.body.length<=1048576) {g:T} {l:List Int} {st:al} {o:Option HI} {n:Nat} (ht:TryI p g l st o n) (hgd:Good st.length st) (htb:tabM st) (hgo:(okU st.length g/\wT g<=1048576)/\okM g)
  (hn:st.length+26 * l.length<=900000) {S:ae} {gcs:List Value} {lv gv gv0 pv qv cv nv tv:Value} {rest:List GI} {chs:List CI} {nodes:List NI} {ms:List Nat} {tr:List Int} {es:Array MapEntry} {ccs ncs:List (List Value)}
  {sp sb mb ck:Nat} {nc:Bool} {fuel used at_ mo:Int} (h1:RdT S gcs g) (h2:RdSl S 1 jz lv l) (h3:GL S gv rest) (h4:RdSl S 5 (RdC S) pv p) (hK:SeaK S chs nodes st ms tr es ccs ncs) (hat:0<=at_/\at_<nodes.length) (hcl:chs.length<=1000000) :
  Tri Tryz.prog Gh [.pointer (some ⟨sp,0,none⟩),.agg gcs.toArray,.int .i64 at_,lv,gv] ([fx sp (dK sb pv qv nc fuel used st.length gv0 cv nv mo),chI cv ccs,noI nv ncs]++aA sb mb es ck tv tr) S
   (Nt sp sb mb pv qv nc fuel used gv0 chs nodes st tr ms g at_ rest o n):=by
 intro w hI
 obtain ⟨X,hX⟩:∃ X,X=bE ([fx sp (dK sb pv qv nc fuel used st.length gv0 cv nv mo),chI cv ccs,noI nv ncs]++aA sb mb es ck tv tr):=⟨_,rfl⟩
 rw [<- hX] at hI ⊢
 have hl4:=h1.length
 have htrl:tr.length<=900000:=by have:=hK.tb; omega
 refine ro.2 ?_
 dsimp only[ro,ry]
 refine bq hI fun b6 w' hI=>?_
 have hI:Inv w X ([.blk b6 (.cells gcs.toArray ab),fx sp (dK sb pv qv nc fuel used st.length gv0 cv nv mo),chI cv ccs,noI nv ncs]++aA sb mb es ck tv tr) S w':=hI.perm (cu (l₁:=[_]))
 refine aB ?_
 refine af hI 1 rfl fC fh rfl ?_
 refine aB ?_
 refine af hI 4 rfl f4 il rfl ?_
 refine kB hI 6 rfl dd ?_
 refine aF h2 dd ?_
 have hh2:=h2.le
 simp only [maxLen] at hh2
 refine ⟨fun i w'=>∃ (k:Nat) (st1:al) (es1:Array MapEntry) (ck1:Nat) (tv1:Value) (S1:ae),k<=l.length/\i=.int .i64 (k:Int)/\TryI p g (l.drop k) st1 o n/\st1=cF st st1.length/\st1.length=st.length+26 * k/\Ext w.heap.size X S S1/\KnownM S1 es1 st1/\
   Inv w X ([.blk b6 (.cells gcs.toArray ab),fx sp (dK sb pv qv nc fuel used st1.length gv0 cv nv mo),chI cv ccs,noI nv ncs]++aA sb mb es1 ck1 tv1 tr) S1 w',
  fun i _=>l.length - (intOf i).toNat,⟨0,st,es,ck,tv,S,be _,rfl,ht,(nz st).symm,rfl,Ext.refl _ _ _,hK.km,hI⟩,?_⟩
 clear hI
 intro t30 _ _ t151 t150 t149 t148 t147 t146 t145 t144 t143 t142 t141 t140 t139 _ _ _ _ _ _ _ _ _ _ _ _ _ _ _ _ _ _ _ _ _ _ _ _ _ _ _ _ _ _ _ _ _ _ _ _ _ _ t102 t101 t100 t99 t98 t97 t96 t95 t94 t93 t92 t91 t90 t89 t88 t87 t86 t85 t84 t83 t82 t81 t80 _ _ _ _ _ _ _ _ _ _ _ _ _ _ _ _ _ t63 t62 t61 t60 t59 t58 t57 t56 t55 t54 t53 t52 t51 t50 t49 t48 t47 _ _ _ _ _ _ _ _ _ _ _ _ _ _ _ _ _ _ _ _ w'
 rintro ⟨k,st1,es1,ck1,tv1,S1,hk,rfl,ht1,hst1,hlen1,hE1,hkm1,hI⟩
 refine bH ?_
 refine aL (fun hki=>?_) (fun hki=>?_)
 ·have hk':k<l.length:=by omega
  rw [cU hk'] at ht1
  obtain ⟨i,cl,r,st2,hxi,hpi,hu,hcase⟩:=ht1.inv
  have hip:i<p.length:=(gx.1 hpi).1
  have hcp:p[i]=cl:=(gx.1 hpi).2
  have hcl1:=hp cl (cz hpi)
  have hs1:st.length<=st1.length:=by omega
  have hg1:Good st1.length st1:=by have h:=hgd.to hs1; rwa [<- hst1] at h
  have ht1b:tabM st1:=by have h:=htb.to st1.length; rwa [<- hst1] at h
  have hgo1:(okU st1.length g/\wT g<=1048576)/\okM g:=⟨⟨iC hs1 _ hgo.1.1,hgo.1.2⟩,hgo.2⟩
  have hjj:=Wt hgo1.1 hcl1
  have hfr:st1.length<=900000:=by omega
  have hun1:unb st1+tr.length<=st1.length:=by
   have:=hK.tb
   rw [hst1,dU hs1]
   unfold cF
   rw [qY]
   omega
  have hun26:tr.length+unb (g26 st1)<=1000000:=by unfold g26; rw [qY]; omega
  refine i5 hI (h2.mono hE1.1 fun _ _ h=>h) dd aG hk' (fun cs hcs=>hcs) ?_
  rw [hxi]
  refine aB ?_
  refine af hI 1 rfl qr aG rfl ?_
  refine aT hI Ri fun b14 w' hI=>?_
  refine cW hI 7 (n:=1) rfl (by rw [aG]; rfl) rfl (jw rfl) (by simp [Value.cells]; rfl) fun w' hI=>?_
  have hI:Inv w X (([.blk b6 (.cells gcs.toArray ab),fx sp (dK sb pv qv nc fuel used st1.length gv0 cv nv mo),chI cv ccs,noI nv ncs]++aA sb mb es1 ck1 tv1 tr)++[.blk b14 (.cells #[.int .i64 (st1.length:Int)] bV)]) S1 w':=hI
  obtain ⟨S2,hI,hE2,hb14⟩:=Inv.pub1 hI
  refine aB ?_
  refine af hI 1 rfl qr aG rfl ?_
  refine bp (by omega) ?_
  refine aB ?_
  refine du hI 1 rfl qr aG rfl rfl rfl fun w' hI=>?_
  refine ia ?_
  have hE12:=hE1.trans hE2
  obtain ⟨pb,po,pcap,pc,pE,pfz,hpv,hSp,hRc⟩:=h4.at_ hip
  rw [hcp] at hRc
  obtain ⟨hd,kb,hce,hhd,hbd⟩:=hRc
  have hhl:=hhd.length
  have hfun:=U6 (S:=S2) (by_:=(st1.length:Int)) hb14 (by omega)
  have hfr26:((st1.length:Int)+26)=((g26 st1).length:Int):=by rw [qt]; omega
  have hJ0:Inv w X ([.blk b6 (.cells gcs.toArray ab),fx sp (dK sb pv qv nc fuel used ((g26 st1).length:Int) gv0 cv nv mo),chI cv ccs,noI nv ncs]++aA sb mb es1 ck1 tv1 tr) S2 w':=by rw [<- hfr26]; exact hI
  repeat clear hI
  refine ⟨fun D z4 x3 CC Cw Du DE DG CS CL zp ze wa vA vY ut nR oK w_=>Fx D 0 [oK=.pointer (some ⟨sp,0,none⟩),nR=.pointer (some ⟨sp,0,none⟩),ut=.pointer (some ⟨sp,0,none⟩),vY=.pointer (some ⟨sb,0,none⟩),vA=.agg gcs.toArray,wa=.pointer (some ⟨sp,0,none⟩),ze=.pointer (some ⟨sp,0,none⟩),zp=.pointer (some ⟨sp,1,none⟩),CL=.slice (some ⟨pb,po,none⟩) p.length pcap,CS=.int .i64 (i:Int),DG=.pointer (some ⟨pb,po+i * 5,none⟩),DE=.pointer (some ⟨pb,po+i * 5,none⟩),Du=.agg hd.toArray,Cw=.func (.func pA) #[] #[.pointer (some ⟨b14,0,none⟩)],True,x3=.bool r,z4=.bool (!r)]/\∃ (SN:ae) (es3:Array MapEntry) (ck3:Nat) (tv3:Value) (tr3:List Int),Ext w.heap.size X S2 SN/\(D 14=true->∃ cs,CC=.agg cs.toArray/\RdT SN cs (dx st1.length cl.head))/\(D 15=false->es1=es3/\ck1=ck3/\tv1=tv3/\tr=tr3)/\(D 15=true->KnownM SN es3 st2/\Tr (g26 st1) st2 tr tr3)/\Inv w X ([.blk b6 (.cells gcs.toArray ab),fx sp (dK sb pv qv nc fuel used ((g26 st1).length:Int) gv0 cv nv mo),chI cv ccs,noI nv ncs]++aA sb mb es3 ck3 tv3 tr3) SN w_,⟨Fx.nil _ _,⟨S2,es1,ck1,tv1,tr,Ext.refl _ _ _,aQ,fun _=>⟨rfl,rfl,rfl,rfl⟩,aQ,hJ0.draw⟩⟩,⟨?_,?_,?_,?_,?_,?_,?_,?_,?_,?_,?_,?_,?_,?_,?_,?_,?_,trivial⟩,?_⟩
  all_goals (intro D bF; intros; rename_i z4 x3 CC Cw Du DE DG CS CL zp ze wa vA vY ut nR oK w_ hA_; have hF_:=hA_.1; obtain ⟨⟨cj,ci,bR,ce,bP,bY,bZ,cH,c5,dI,bX,cr,cZ,eo,c8,eQ,fW,_⟩,⟨SN,es3,ck3,tv3,tr3,hN,e14,k15,e15,hI⟩⟩:=hA_)
  ·exact ⟨hF_.set 0 rfl,⟨SN,es3,ck3,tv3,tr3,hN,e14,k15,e15,hI⟩⟩
  ·obtain rfl:=cj ‹_›
   refine aB ?_
   exact ⟨hF_.set 1 rfl,⟨SN,es3,ck3,tv3,tr3,hN,e14,k15,e15,hI⟩⟩
  ·obtain rfl:=ci ‹_›
   refine au fC ?_
   exact ⟨hF_.set 2 rfl,⟨SN,es3,ck3,tv3,tr3,hN,e14,k15,e15,hI⟩⟩
  ·obtain rfl:=bR ‹_›
   refine aN (b:=sp) hI 1 (c:=dK sb pv qv nc fuel used ((g26 st1).length:Int) gv0 cv nv mo) fh rfl rfl ?_
   exact ⟨hF_.set 3 rfl,⟨SN,es3,ck3,tv3,tr3,hN,e14,k15,e15,hI⟩⟩
  ·refine av hI 0 ad rfl (by simpa using hl4) ?_
   exact ⟨hF_.set 4 rfl,⟨SN,es3,ck3,tv3,tr3,hN,e14,k15,e15,hI⟩⟩
  ·exact ⟨hF_.set 5 rfl,⟨SN,es3,ck3,tv3,tr3,hN,e14,k15,e15,hI⟩⟩
  ·obtain rfl:=bY ‹_›
   refine aB ?_
   exact ⟨hF_.set 6 rfl,⟨SN,es3,ck3,tv3,tr3,hN,e14,k15,e15,hI⟩⟩
  ·obtain rfl:=bZ ‹_›
   refine au qV ?_
   exact ⟨hF_.set 7 rfl,⟨SN,es3,ck3,tv3,tr3,hN,e14,k15,e15,hI⟩⟩
  ·obtain rfl:=cH ‹_›
   refine aN (b:=sp) hI 1 (c:=dK sb pv qv nc fuel used ((g26 st1).length:Int) gv0 cv nv mo) td rfl (by rw [hpv]; rfl) ?_
   exact ⟨hF_.set 8 rfl,⟨SN,es3,ck3,tv3,tr3,hN,e14,k15,e15,hI⟩⟩
  ·exact ⟨hF_.set 9 rfl,⟨SN,es3,ck3,tv3,tr3,hN,e14,k15,e15,hI⟩⟩
  ·obtain rfl:=c5 ‹_›
   obtain rfl:=dI ‹_›
   refine aE b0 hip ?_
   exact ⟨hF_.set 10 rfl,⟨SN,es3,ck3,tv3,tr3,hN,e14,k15,e15,hI⟩⟩
  ·obtain rfl:=bX ‹_›
   refine au cE ?_
   exact ⟨hF_.set 11 rfl,⟨SN,es3,ck3,tv3,tr3,hN,e14,k15,e15,hI⟩⟩
  ·obtain rfl:=cr ‹_›
   refine bL (cs:=hd) ad hhl (fun j v hj=>by rw [hI.cellS ((hE12.trans hN).1 _ _ hSp)]; exact aH hce j v (by rw [z0 (gx.1 hj).1]; exact hj)) ?_
   exact ⟨hF_.set 12 rfl,⟨SN,es3,ck3,tv3,tr3,hN,e14,k15,e15,hI⟩⟩
  ·exact ⟨hF_.set 13 rfl,⟨SN,es3,ck3,tv3,tr3,hN,e14,k15,e15,hI⟩⟩
  ·obtain rfl:=cZ ‹_›
   obtain rfl:=eo ‹_›
   refine Run.call0E im ie hI (xo [.pointer (some ⟨b14,0,none⟩)] _ nu nG cl.head SN hd (hhd.mono (hE12.trans hN).1) (KD hcl1.head.1.1) hcl1.head.1.2 (hfun.mono hN.1)) fun v' I' S4 w_=>?_
   rintro ⟨rfl,cs7,rfl,hT⟩ hE4 hI
   rw [s0 st1.length cl.head hcl1.head.1.1] at hT
   have hI:=hI.sub (dB _ _)
   have hN:=hN.trans hE4
   have e14:aD D 14 14=true->∃ cs,Value.agg cs7.toArray=.agg cs.toArray/\RdT S4 cs (dx st1.length cl.head):=fun _=>⟨cs7,rfl,hT⟩
   have e15:aD D 14 15=true->KnownM S4 es3 st2/\Tr (g26 st1) st2 tr tr3:=fun h=>⟨(e15 h).1.upS hE4.1,(e15 h).2⟩
   obtain ⟨SN,hSN⟩:∃ a,a=S4:=⟨_,rfl⟩
   subst hSN
   exact ⟨hF_.set 14 (by first|assumption|trivial),⟨SN,es3,ck3,tv3,tr3,hN,e14,k15,e15,hI⟩⟩
  ·obtain rfl:=ce ‹_›
   obtain rfl:=bP ‹_›
   have V9:=c8 ‹_›
   obtain ⟨rfl,rfl,rfl,rfl⟩:=k15 bF
   obtain ⟨cs7,rfl,hT7⟩:=e14 ‹D 14=true›
   refine Run.callE (A:=[_,_,_,_]) eW eX hI (iN (by omega) hg1.g26 hjj hu SN _ _ sb mb ck1 es1 tv1 tr (h1.mono (hE12.trans hN).1) hT7 ((hkm1.upS (hE2.trans hN).1).g26) hun26) fun v' I' S4 w_=>?_
   rintro ⟨eS,rfl,es3,ck3,tv3,tr3,rfl,hm3,_,hT3⟩ _ hI
   rw [eS] at hI
   have k15:aD D 15 15=false->es1=es3/\ck1=ck3/\tv1=tv3/\tr=tr3:=fun h=>Bool.noConfusion h
   have e15:aD D 15 15=true->KnownM SN es3 st2/\Tr (g26 st1) st2 tr tr3:=fun _=>⟨hm3,hT3⟩
   have e14:aD D 15 14=true->∃ cs,Value.agg cs7.toArray=.agg cs.toArray/\RdT SN cs (dx st1.length cl.head):=fun _=>⟨cs7,rfl,hT7⟩
   exact ⟨hF_.set 15 rfl,⟨SN,es3,ck3,tv3,tr3,hN,e14,k15,e15,hI⟩⟩
  ·obtain rfl:=eQ ‹_›
   refine bQ ?_
   exact ⟨hF_.set 16 rfl,⟨SN,es3,ck3,tv3,tr3,hN,e14,k15,e15,hI⟩⟩
  obtain ⟨rfl,rfl,rfl,rfl,rfl,rfl,rfl,rfl,rfl,rfl,rfl,rfl,rfl,rfl,V9,rfl,rfl,_⟩:=hF_.all
  clear hF_ cj ci bR ce bP bY bZ cH c5 dI bX cr cZ eo c8 eQ fW
  obtain ⟨hkm3,hTr3⟩:=e15 (by assumption)
  clear k15 e14 e15
  have hE13:=hE12.trans hN
  rcases hcase with ⟨rfl,ho,hn1⟩|⟨rfl,ht2⟩
  ·refine aw (fun hb=>by cases hb) (fun _=>?_)
   subst ho hn1
   obtain ⟨an,rfl⟩:∃ an:Nat,at_=an:=⟨at_.toNat,by omega⟩
   have han:an<nodes.length:=by omega
   obtain ⟨a0,a1,a2,a3,rfl⟩:=h1.four
   obtain ⟨gp,rfl⟩:=h3.ptr
   have hml:=hK.mkI.len
   have hcc:ccs.length=chs.length:=by have:=hK.ch.hc; rw [TW] at this; omega
   have hnc:=hK.nd.hc
   have hTG:TrG st st2 tr tr3:=by
    refine (TrG.grow st tr hs1).trans ?_
    rw [<- hst1]
    refine (TrG.grow st1 tr (wN _ 26)).trans ?_
    rw [<- RE]
    exact TrG.of hTr3
   have hst2:st2.length=st1.length+26:=by
    obtain ⟨ns,_,hu2,_⟩:=hTr3
    have:=congrArg List.length hu2
    rw [ql,qt] at this
    exact this
   obtain ⟨la,lcap,rfl,hlc1,hlc2,hlx⟩:=id h2
   have hL2:=h2.from (l:=k+1) (by omega)
   refine aB ?_
   refine af hI 1 rfl dY eD rfl ?_
   refine kB hI 2 rfl gP ?_
   refine ⟨fun w'=>∃ (SJ:ae) (cv':Value) (ccs':List (List Value)) (ms':List Nat),Ext w.heap.size X SN SJ/\Rows 9 (RdCI SJ) ccs' ((chs++(if l.drop (k+1)=[] then [] else ([⟨g,(an:Int),rest,l.drop (k+1),st,nodes.length⟩]:List CI))).zip ms')/\
    MkI (chs++(if l.drop (k+1)=[] then [] else ([⟨g,(an:Int),rest,l.drop (k+1),st,nodes.length⟩]:List CI))) ms' st2 tr3/\
    Inv w X ([.blk b6 (.cells #[a0,a1,a2,a3] ab),fx sp (dK sb pv qv nc fuel used ((g26 st1).length:Int) gv0 cv' nv mo),chI cv' ccs',noI nv ncs]++aA sb mb es3 ck3 tv3 tr3) SJ w',?_,?_⟩
   ·refine bp (by omega) ?_
    refine aF h2 dd ?_
    refine bH ?_
    refine aL (fun hk2=>?_) (fun hk2=>?_)
    ·have hne:l.drop (k+1)≠[]:=fun e=>by have:=congrArg List.length e; rw [vB,bU] at this; omega
     rw [ah hne]
     have hJ1:=hI
     clear hI
     have hN0:=hN
     clear hN
     refine ⟨fun D abF abL EH W0 Wy Uw Ur P8 OR PD Pl OO P3 PI NM O5 IG IQ Kw GX Ks Hl HQ w_=>Fx D 0 [HQ=.pointer (some ⟨sp,0,none⟩),Hl=.pointer (some ⟨sp,0,none⟩),Ks=.pointer (some ⟨sp,0,none⟩),GX=.pointer (some ⟨sp,9,none⟩),Kw=cv,IQ=.agg #[a0,a1,a2,a3],IG=.int .i64 (an:Int),O5=.pointer gp,NM=.slice la l.length lcap,PI=.int .i64 (k:Int),P3=.int .i64 ((k+1:Nat):Int),OO=jA la lcap l.length (k+1),Pl=.int .i64 (tr.length:Int),PD=.pointer (some ⟨sp,0,none⟩),OR=.pointer (some ⟨sp,0,none⟩),P8=.pointer (some ⟨sp,10,none⟩),Ur=nv,Uw=.int .i64 (ncs.length:Int),Wy=.agg (chC a0 a1 a2 a3 an gp (jA la lcap l.length (k+1)) tr.length ncs.length).toArray,True,True,abL=.pointer (some ⟨sp,0,none⟩),abF=.pointer (some ⟨sp,9,none⟩),True]/\∃ (SP:ae) (cvF cvR:Value) (ccsR:List (List Value)),Ext w.heap.size X SN SP/\(D 19=true->∃ b,W0=.slice (some ⟨b,0,none⟩) 1 1/\SP b=some (.cells (chC a0 a1 a2 a3 an gp (jA la lcap l.length (k+1)) tr.length ncs.length).toArray ez))/\(D 20=false->cv=cvF/\cv=cvR/\ccs=ccsR)/\(D 20=true->cvR=EH/\ccsR=ccs++[chC a0 a1 a2 a3 an gp (jA la lcap l.length (k+1)) tr.length ncs.length])/\(D 23=true->cvF=EH)/\(D 20=true->D 4=true)/\(D 23=true->D 20=true)/\Inv w X ([.blk b6 (.cells #[a0,a1,a2,a3] ab),fx sp (dK sb pv qv nc fuel used ((g26 st1).length:Int) gv0 cvF nv mo),chI cvR ccsR,noI nv ncs]++aA sb mb es3 ck3 tv3 tr3) SP w_,⟨Fx.nil _ _,⟨SN,cv,cv,ccs,Ext.refl _ _ _,aQ,fun _=>⟨rfl,rfl,rfl⟩,aQ,aQ,aQ,aQ,hJ1.draw⟩⟩,⟨?_,?_,?_,?_,?_,?_,?_,?_,?_,?_,?_,?_,?_,?_,?_,?_,?_,?_,?_,?_,?_,?_,?_,?_,trivial⟩,?_⟩
     all_goals (intro D bF; intros; rename_i abF abL EH W0 Wy Uw Ur P8 OR PD Pl OO P3 PI NM O5 IG IQ Kw GX Ks Hl HQ w_ hA_; have hF_:=hA_.1; obtain ⟨⟨cj,ci,bR,ce,bP,bY,bZ,cH,c5,dI,bX,cr,cZ,eo,c8,eQ,fW,hO,jJ,gw,lf,kM,lh,nq,_⟩,⟨SP,cvF,cvR,ccsR,hN,e19,e20f,e20,e23,k20,k23,hI⟩⟩:=hA_)
     ·exact ⟨hF_.set 0 rfl,⟨SP,cvF,cvR,ccsR,hN,e19,e20f,e20,e23,k20,k23,hI⟩⟩
     ·exact ⟨hF_.set 1 rfl,⟨SP,cvF,cvR,ccsR,hN,e19,e20f,e20,e23,k20,k23,hI⟩⟩
     ·obtain rfl:=ci ‹_›
      refine aB ?_
      exact ⟨hF_.set 2 rfl,⟨SP,cvF,cvR,ccsR,hN,e19,e20f,e20,e23,k20,k23,hI⟩⟩
     ·obtain rfl:=bR ‹_›
      refine au dY ?_
      exact ⟨hF_.set 3 rfl,⟨SP,cvF,cvR,ccsR,hN,e19,e20f,e20,e23,k20,k23,hI⟩⟩
     ·obtain rfl:=ce ‹_›
      have f20:D 20=false:=bB.2 fun h=>by rw [k20 h] at bF; cases bF
      have q:=(e20f f20).1
      refine aN (b:=sp) (v:=cv) hI 1 (c:=dK sb pv qv nc fuel used ((g26 st1).length:Int) gv0 cvF nv mo) eD rfl (by rw [q]; rfl) ?_
      have k20:aD D 4 20=true->aD D 4 4=true:=fun _=>rfl
      exact ⟨hF_.set 4 (by first|assumption|trivial),⟨SP,cvF,cvR,ccsR,hN,e19,e20f,e20,e23,k20,k23,hI⟩⟩
     ·refine av hI 0 ad rfl rfl ?_
      exact ⟨hF_.set 5 rfl,⟨SP,cvF,cvR,ccsR,hN,e19,e20f,e20,e23,k20,k23,hI⟩⟩
     ·exact ⟨hF_.set 6 rfl,⟨SP,cvF,cvR,ccsR,hN,e19,e20f,e20,e23,k20,k23,hI⟩⟩
     ·exact ⟨hF_.set 7 rfl,⟨SP,cvF,cvR,ccsR,hN,e19,e20f,e20,e23,k20,k23,hI⟩⟩
     ·exact ⟨hF_.set 8 rfl,⟨SP,cvF,cvR,ccsR,hN,e19,e20f,e20,e23,k20,k23,hI⟩⟩
     ·exact ⟨hF_.set 9 rfl,⟨SP,cvF,cvR,ccsR,hN,e19,e20f,e20,e23,k20,k23,hI⟩⟩
     ·obtain rfl:=dI ‹_›
      refine bp (by omega) ?_
      exact ⟨hF_.set 10 rfl,⟨SP,cvF,cvR,ccsR,hN,e19,e20f,e20,e23,k20,k23,hI⟩⟩
     ·obtain rfl:=c5 ‹_›
      obtain rfl:=bX ‹_›
      refine AF dd (by omega) ?_
      exact ⟨hF_.set 11 rfl,⟨SP,cvF,cvR,ccsR,hN,e19,e20f,e20,e23,k20,k23,hI⟩⟩
     ·exact ⟨hF_.set 12 rfl,⟨SP,cvF,cvR,ccsR,hN,e19,e20f,e20,e23,k20,k23,hI⟩⟩
     ·exact ⟨hF_.set 13 rfl,⟨SP,cvF,cvR,ccsR,hN,e19,e20f,e20,e23,k20,k23,hI⟩⟩
     ·obtain rfl:=eo ‹_›
      refine aB ?_
      exact ⟨hF_.set 14 rfl,⟨SP,cvF,cvR,ccsR,hN,e19,e20f,e20,e23,k20,k23,hI⟩⟩
     ·obtain rfl:=c8 ‹_›
      refine au dS ?_
      exact ⟨hF_.set 15 rfl,⟨SP,cvF,cvR,ccsR,hN,e19,e20f,e20,e23,k20,k23,hI⟩⟩
     ·obtain rfl:=eQ ‹_›
      refine aN (b:=sp) (v:=nv) hI 1 (c:=dK sb pv qv nc fuel used ((g26 st1).length:Int) gv0 cvF nv mo) gC rfl rfl ?_
      exact ⟨hF_.set 16 (by first|assumption|trivial),⟨SP,cvF,cvR,ccsR,hN,e19,e20f,e20,e23,k20,k23,hI⟩⟩
     ·have abG:=fW ‹_›
      refine kB (e:=iY) (k:=6) (n:=ncs.length) (xs:=ncs.flatten) hI 3 (by rw [abG]; rfl) gA ?_
      exact ⟨hF_.set 17 rfl,⟨SP,cvF,cvR,ccsR,hN,e19,e20f,e20,e23,k20,k23,hI⟩⟩
     ·obtain rfl:=bY ‹_›
      obtain rfl:=bZ ‹_›
      obtain rfl:=cH ‹_›
      obtain rfl:=cr ‹_›
      obtain rfl:=cZ ‹_›
      obtain rfl:=hO ‹_›
      refine JN ?_
      exact ⟨hF_.set 18 rfl,⟨SP,cvF,cvR,ccsR,hN,e19,e20f,e20,e23,k20,k23,hI⟩⟩
     ·obtain rfl:=jJ ‹_›
      refine er hI Dt rfl (by omega) (by omega) fun b19 w_ hI=>?_
      have hI:Inv w X (([.blk b6 (.cells #[a0,a1,a2,a3] ab),fx sp (dK sb pv qv nc fuel used ((g26 st1).length:Int) gv0 cvF nv mo),chI cvR ccsR,noI nv ncs]++aA sb mb es3 ck3 tv3 tr3)++[.blk b19 (.cells (chC a0 a1 a2 a3 an gp (jA la lcap l.length (k+1)) tr.length ncs.length).toArray ez)]) SP w_:=hI
      obtain ⟨SP,hI,hE5,hb19⟩:=Inv.pub1 hI
      have hN:=hN.trans hE5
      have e19:aD D 19 19=true->∃ b,Value.slice (some ⟨b19,0,none⟩) 1 1=.slice (some ⟨b,0,none⟩) 1 1/\SP b=some (.cells (chC a0 a1 a2 a3 an gp (jA la lcap l.length (k+1)) tr.length ncs.length).toArray ez):=fun _=>⟨b19,rfl,hb19⟩
      exact ⟨hF_.set 19 (by first|assumption|trivial),⟨SP,cvF,cvR,ccsR,hN,e19,e20f,e20,e23,k20,k23,hI⟩⟩
     ·have QG:=bP ‹_›
      have abZ:=gw ‹_›
      obtain ⟨b,q19,hb⟩:=e19 ‹D 19=true›
      subst q19
      obtain ⟨q1,rfl,rfl⟩:=e20f bF
      refine dZ hI 2 (chC a0 a1 a2 a3 an gp (jA la lcap l.length (k+1)) tr.length ncs.length) Dt (by omega) (n:=ccs.length) (xs:=ccs.flatten) (by rw [QG]; rfl) rfl (m:=1) (o:=0) (fun j u hj=>by rw [hI.cellS hb,cq]; simpa using hj) (Yx h1.one) (by omega) (by omega) fun cvR w_ hI=>?_
      obtain ⟨ccsR,hR⟩:∃ a,a=ccs++[chC a0 a1 a2 a3 an gp (jA la lcap l.length (k+1)) tr.length ncs.length]:=⟨_,rfl⟩
      rw [eF,<- hR] at hI
      have e20f:aD D 20 20=false->cv=cvF/\cv=cvR/\ccs=ccsR:=fun h=>Bool.noConfusion h
      have e20:aD D 20 20=true->cvR=cvR/\ccsR=ccs++[chC a0 a1 a2 a3 an gp (jA la lcap l.length (k+1)) tr.length ncs.length]:=fun _=>⟨rfl,hR⟩
      have e23:aD D 20 23=true->cvF=cvR:=fun h=>absurd (k23 h) (by rw [bF]; decide)
      have k20:aD D 20 20=true->aD D 20 4=true:=fun _=>‹D 4=true›
      have k23:aD D 20 23=true->aD D 20 20=true:=fun _=>rfl
      have e19:aD D 20 19=true->∃ b',Value.slice (some ⟨b,0,none⟩) 1 1=.slice (some ⟨b',0,none⟩) 1 1/\SP b'=some (.cells (chC a0 a1 a2 a3 an gp (jA la lcap l.length (k+1)) tr.length ncs.length).toArray ez):=fun _=>⟨b,rfl,hb⟩
      exact ⟨hF_.set 20 (by first|assumption|trivial),⟨SP,cvF,cvR,ccsR,hN,e19,e20f,e20,e23,k20,k23,hI⟩⟩
     ·obtain rfl:=cj ‹_›
      refine aB ?_
      exact ⟨hF_.set 21 rfl,⟨SP,cvF,cvR,ccsR,hN,e19,e20f,e20,e23,k20,k23,hI⟩⟩
     ·obtain rfl:=kM ‹_›
      refine au dY ?_
      exact ⟨hF_.set 22 rfl,⟨SP,cvF,cvR,ccsR,hN,e19,e20f,e20,e23,k20,k23,hI⟩⟩
     ·obtain rfl:=lh ‹_›
      have ab0:=lf ‹_›
      obtain ⟨q1,q2⟩:=e20 ‹D 20=true›
      subst q1
      obtain ⟨va,vcap,hv,_⟩:=hI.rowSlice' (i:=2) rfl
      have hcl:cvR.cells=#[cvR]:=by rw [hv]; rfl
      refine cW hI 1 (n:=1) (by rw [hcl]; rfl) (by rw [eD]; rfl) rfl (jw rfl) (by rw [hcl,hv]; simp [Value.oneCell']) fun w_ hI=>?_
      rw [hcl] at hI
      obtain ⟨cvF,hF⟩:∃ a,a=cvR:=⟨_,rfl⟩
      have e23:aD D 23 23=true->cvF=cvR:=fun _=>hF
      have e20f:aD D 23 20=false->cv=cvF/\cv=cvR/\ccs=ccsR:=fun h=>absurd ‹D 20=true› (by rw [show D 20=false from h]; decide)
      have k23:aD D 23 23=true->aD D 23 20=true:=fun _=>‹D 20=true›
      have hI:Inv w X ([.blk b6 (.cells #[a0,a1,a2,a3] ab),fx sp (dK sb pv qv nc fuel used ((g26 st1).length:Int) gv0 cvF nv mo),chI cvR ccsR,noI nv ncs]++aA sb mb es3 ck3 tv3 tr3) SP w_:=by rw [hF]; exact hI
      exact ⟨hF_.set 23 trivial,⟨SP,cvF,cvR,ccsR,hN,e19,e20f,e20,e23,k20,k23,hI⟩⟩
     obtain ⟨rfl,rfl,rfl,rfl,QG,rfl,rfl,rfl,rfl,rfl,rfl,rfl,rfl,rfl,rfl,rfl,abG,rfl,rfl,abZ,ab0,rfl,rfl,_,_⟩:=hF_.all
     clear hF_ cj ci bR ce bP bY bZ cH c5 dI bX cr cZ eo c8 eQ fW hO jJ gw lf kM lh nq
     obtain ⟨q1,q2⟩:=e20 (by assumption)
     have q3:=e23 (by assumption)
     subst q2
     rw [q3,<- q1] at hI
     refine ⟨SP,_,_,ms++[tr.length],hN,?_,?_,hI⟩
     ·rw [List.zip_append hml.symm]
      exact (hK.ch.monoR fun _ _=>RdCI.mono (hE13.trans hN).1).snoc ⟨a0,a1,a2,a3,.pointer gp,_,by rw [<- hnc],h1.mono (hE13.trans hN).1,h3.mono (hE13.trans hN).1,hL2.mono (hE13.trans hN).1 fun _ _ h=>h⟩ rfl
     ·exact (MkI.push (c:=⟨g,(an:Int),rest,l.drop (k+1),st,nodes.length⟩) hK.mkI).go hTG
    ·have he:l.drop (k+1)=[]:=jT (by omega)
     rw [ai he,dh]
     exact ⟨SN,cv,ccs,ms,Ext.refl _ _ _,hK.ch.monoR fun _ _=>RdCI.mono hE13.1,hK.mkI.go hTG,hI⟩
   clear hI
   intro _ _ _ _ _ _ _ _ _ _ _ _ _ _ _ _ _ _ _ _ _ _ _ _ _ _ _ _ w'
   rintro ⟨SJ,cv',ccs',ms',hEJ,hRJ,hMJ,hI⟩
   have hE1J:=hE13.trans hEJ
   obtain ⟨ng,ncap,hnv,-⟩:=hI.rowPtr (i:=3) rfl (j:=an) (by omega) hK.nd.hk
   subst hnv
   refine aB ?_
   refine af hI 1 rfl dS gC rfl ?_
   refine aE gA (by omega) ?_
   refine au H0 ?_
   refine H5 hI 3 (j:=an) (f:=5) rfl aG (by omega) (by omega) (by omega) hK.nd.hk rfl rfl fun w' hI=>?_
   obtain ⟨ncs',hncs⟩:∃ a,a=ncs.set an ((ncs[an]'(by omega)).set 5 (.int .i64 (i:Int))):=⟨_,rfl⟩
   have hI:Inv w X ([.blk b6 (.cells #[a0,a1,a2,a3] ab),fx sp (dK sb pv qv nc fuel used ((g26 st1).length:Int) gv0 cv' (.slice (some ⟨ng,0,none⟩) ncs.length ncap) mo),chI cv' ccs',noI (.slice (some ⟨ng,0,none⟩) ncs.length ncap) ncs']++aA sb mb es3 ck3 tv3 tr3) SJ w':=by
    rw [hncs]
    exact hI
   refine aB ?_
   refine af (u:=.slice (some ⟨pb,po,none⟩) p.length pcap) hI 1 rfl qV td (by rw [hpv]; rfl) ?_
   refine aE b0 hip ?_
   refine au bj ?_
   refine ct (v:=kb) aj (by
    rw [hI.cellS (hE1J.1 _ _ hSp)]
    exact aH hce 4 kb (by rw [iu (by omega),hhl]; rfl)) ?_
   have hbd':=hbd.monoT hE1J.1
   have hbl:=hpb cl (cz hpi)
   refine aF hbd' ag ?_
   have hI:=hI.rowNil ab 4
   refine ⟨fun ix v w'=>∃ (j:Nat) (css:List (List Value)) (S6:ae),j<=cl.body.length/\ix=.int .i64 (j:Int)/\Ext w.heap.size X SJ S6/\Rows 4 (RdT S6) css ((cl.body.take j).map (dx st1.length))/\
     Inv w X (([.blk b6 (.cells #[a0,a1,a2,a3] ab),fx sp (dK sb pv qv nc fuel used ((g26 st1).length:Int) gv0 cv' (.slice (some ⟨ng,0,none⟩) ncs.length ncap) mo),chI cv' ccs',noI (.slice (some ⟨ng,0,none⟩) ncs.length ncap) ncs']++aA sb mb es3 ck3 tv3 tr3)++[aJ v ab 4 css]) S6 w',
    fun ix _ _=>cl.body.length - (intOf ix).toNat,⟨0,[],SJ,be _,rfl,Ext.refl _ _ _,Rows.nil _ _,hI⟩,?_⟩
   clear hI
   intro xx _ vv _ _ _ _ _ _ _ _ _ _ w'
   rintro ⟨j,css,S6,hj,rfl,hE6,hR6,hI⟩
   refine bH ?_
   refine aL (fun hjl=>?_) (fun hjl=>?_)
   ·have hj':j<cl.body.length:=by omega
    have hcssl:css.length=j:=by rw [hR6.hc,kR,dX]; omega
    have hbt:=hcl1.body _ (bz hj')
    refine cL hI (hbd'.monoT hE6.1) ag ad hj' (fun _ _=>RdT.length) fun bcs hbcs=>?_
    refine aT hI aZ fun b19 w' hI=>?_
    refine aC hI 8 rfl ad (by simpa using hbcs.length) rfl (by simpa using hbcs.one) fun w' hI=>?_
    refine av hI 8 ad rfl (by simpa using hbcs.length) ?_
    have hI:Inv w X (([.blk b6 (.cells #[a0,a1,a2,a3] ab),fx sp (dK sb pv qv nc fuel used ((g26 st1).length:Int) gv0 cv' (.slice (some ⟨ng,0,none⟩) ncs.length ncap) mo),chI cv' ccs',noI (.slice (some ⟨ng,0,none⟩) ncs.length ncap) ncs']++aA sb mb es3 ck3 tv3 tr3)++[aJ vv ab 4 css]) S6 w':=hI.sub (dB _ [Item.blk b19 (.cells bcs.toArray ab)])
    refine Run.call0E im ie hI (xo [.pointer (some ⟨b14,0,none⟩)] _ nu nG _ S6 bcs hbcs (KD hbt.1.1) hbt.1.2 (hfun.mono (hN.trans (hEJ.trans hE6)).1)) fun v' I' S7 w'=>?_
    rintro ⟨rfl,cs7,rfl,hT⟩ hE7 hI
    rw [s0 st1.length _ hbt.1.1] at hT
    have hI:=hI.sub (dB _ _)
    refine d6 hI 7 cs7 bo (by omega) (by omega) rfl hT.length hT.one (by omega) (by omega) fun v' w' hI=>?_
    refine bp (by omega) ?_
    refine ⟨⟨j+1,css++[cs7],S7,hj',rfl,hE6.trans hE7,?_,hI⟩,by simp only [intOf,dv]; omega⟩
    rw [fl hj',Ue]
    exact (hR6.monoR fun _ _=>RdT.mono hE7.1).snoc hT hT.length
   ·have:j=cl.body.length:=by omega
    subst this
    rw [fJ] at hR6
    obtain ⟨S7,hE7,hrd,hI⟩:=hI.lendExt
    have hts:=RowRd.rows (hR6.monoR fun _ _=>RdT.mono hE7.1) hrd
    have hEJ7:=hEJ.trans (hE6.trans hE7)
    refine Run.call0E PV PW hI (KF hts (h3.mono (hE13.trans hEJ7).1)) fun v' I' S8 w'=>?_
    rintro ⟨rfl,hGL⟩ hE8 hI
    have hI:=hI.sub (dB _ _)
    obtain ⟨gp',rfl⟩:=hGL.ptr
    refine aB ?_
    refine du hI 1 rfl gq dC rfl rfl rfl fun w' hI=>?_
    have hJ2:Inv w X ([.blk b6 (.cells #[a0,a1,a2,a3] ab),fx sp (dK sb pv qv nc fuel used ((g26 st1).length:Int) (.pointer gp') cv' (.slice (some ⟨ng,0,none⟩) ncs.length ncap) mo),chI cv' ccs',noI (.slice (some ⟨ng,0,none⟩) ncs.length ncap) ncs']++aA sb mb es3 ck3 tv3 tr3) S8 w':=hI
    repeat clear hI
    refine ⟨fun D VR VY V4 aaM abA aaK aaO aaW XD XC XL WY Xn w_=>Fx D 0 [Xn=.pointer (some ⟨sp,0,none⟩),WY=.pointer (some ⟨sp,0,none⟩),XL=.pointer (some ⟨sp,0,none⟩),XC=.pointer (some ⟨sp,11,none⟩),XD=.int .i64 mo,aaW=.pointer (some ⟨sp,0,none⟩),aaO=.pointer (some ⟨sp,0,none⟩),aaK=.pointer (some ⟨sp,9,none⟩),abA=cv',aaM=.int .i64 (ccs'.length:Int),V4=.int .i64 (if mo<(ccs'.length:Int) then (ccs'.length:Int) else mo),VY=.pointer (some ⟨sp,0,none⟩),VR=.pointer (some ⟨sp,11,none⟩),True]/\∃ moF:Int,(D 13=false->mo=moF)/\(D 13=true->D 4=true)/\Inv w X ([.blk b6 (.cells #[a0,a1,a2,a3] ab),fx sp (dK sb pv qv nc fuel used ((g26 st1).length:Int) (.pointer gp') cv' (.slice (some ⟨ng,0,none⟩) ncs.length ncap) moF),chI cv' ccs',noI (.slice (some ⟨ng,0,none⟩) ncs.length ncap) ncs']++aA sb mb es3 ck3 tv3 tr3) S8 w_,⟨Fx.nil _ _,⟨mo,fun _=>rfl,aQ,hJ2.draw⟩⟩,⟨?_,?_,?_,?_,?_,?_,?_,?_,?_,?_,?_,?_,?_,?_,trivial⟩,?_⟩
    all_goals (intro D bF; intros; rename_i VR VY V4 aaM abA aaK aaO aaW XD XC XL WY Xn w_ hA_; have hF_:=hA_.1; obtain ⟨⟨cj,ci,bR,ce,bP,bY,bZ,cH,c5,dI,bX,cr,cZ,eo,_⟩,⟨moF,e13,k13,hI⟩⟩:=hA_)
    ·exact ⟨hF_.set 0 rfl,⟨moF,e13,k13,hI⟩⟩
    ·exact ⟨hF_.set 1 rfl,⟨moF,e13,k13,hI⟩⟩
    ·obtain rfl:=ci ‹_›
     refine aB ?_
     exact ⟨hF_.set 2 rfl,⟨moF,e13,k13,hI⟩⟩
    ·obtain rfl:=bR ‹_›
     refine au v6 ?_
     exact ⟨hF_.set 3 rfl,⟨moF,e13,k13,hI⟩⟩
    ·obtain rfl:=ce ‹_›
     have f13:D 13=false:=bB.2 fun h=>by rw [k13 h] at bF; cases bF
     have q:=e13 f13
     refine aN (b:=sp) (v:=.int .i64 mo) hI 1 (c:=dK sb pv qv nc fuel used ((g26 st1).length:Int) (.pointer gp') cv' (.slice (some ⟨ng,0,none⟩) ncs.length ncap) moF) aG rfl (by rw [q]; rfl) ?_
     have k13:aD D 4 13=true->aD D 4 4=true:=fun _=>rfl
     exact ⟨hF_.set 4 rfl,⟨moF,e13,k13,hI⟩⟩
    ·exact ⟨hF_.set 5 rfl,⟨moF,e13,k13,hI⟩⟩
    ·obtain rfl:=bY ‹_›
     refine aB ?_
     exact ⟨hF_.set 6 rfl,⟨moF,e13,k13,hI⟩⟩
    ·obtain rfl:=bZ ‹_›
     refine au dY ?_
     exact ⟨hF_.set 7 rfl,⟨moF,e13,k13,hI⟩⟩
    ·obtain rfl:=cH ‹_›
     refine aN (b:=sp) (v:=cv') hI 1 (c:=dK sb pv qv nc fuel used ((g26 st1).length:Int) (.pointer gp') cv' (.slice (some ⟨ng,0,none⟩) ncs.length ncap) moF) eD rfl rfl ?_
     exact ⟨hF_.set 8 (by first|assumption|trivial),⟨moF,e13,k13,hI⟩⟩
    ·have QF:=c5 ‹_›
     refine kB (e:=ez) (k:=9) (n:=ccs'.length) (xs:=ccs'.flatten) hI 2 (by rw [QF]; rfl) gP ?_
     exact ⟨hF_.set 9 rfl,⟨moF,e13,k13,hI⟩⟩
    ·obtain rfl:=bP ‹_›
     obtain rfl:=dI ‹_›
     refine aaS ?_
     exact ⟨hF_.set 10 rfl,⟨moF,e13,k13,hI⟩⟩
    ·obtain rfl:=cj ‹_›
     refine aB ?_
     exact ⟨hF_.set 11 rfl,⟨moF,e13,k13,hI⟩⟩
    ·obtain rfl:=cr ‹_›
     refine au v6 ?_
     exact ⟨hF_.set 12 rfl,⟨moF,e13,k13,hI⟩⟩
    ·obtain rfl:=cZ ‹_›
     obtain rfl:=bX ‹_›
     refine cW hI 1 (n:=1) rfl (by rw [aG]; rfl) rfl (jw rfl) (by simp [Value.cells,Value.oneCell']) fun w_ hI=>?_
     obtain ⟨moF,hF⟩:∃ a,a=(if mo<(ccs'.length:Int) then (ccs'.length:Int) else mo):=⟨_,rfl⟩
     have e13:aD D 13 13=false->mo=moF:=fun h=>Bool.noConfusion h
     have k13:aD D 13 13=true->aD D 13 4=true:=fun _=>by assumption
     have hI:Inv w X ([.blk b6 (.cells #[a0,a1,a2,a3] ab),fx sp (dK sb pv qv nc fuel used ((g26 st1).length:Int) (.pointer gp') cv' (.slice (some ⟨ng,0,none⟩) ncs.length ncap) moF),chI cv' ccs',noI (.slice (some ⟨ng,0,none⟩) ncs.length ncap) ncs']++aA sb mb es3 ck3 tv3 tr3) S8 w_:=by rw [hF]; exact hI
     exact ⟨hF_.set 13 trivial,⟨moF,e13,k13,hI⟩⟩
    obtain ⟨rfl,rfl,rfl,rfl,rfl,rfl,rfl,rfl,QF,rfl,rfl,rfl,rfl,_,_⟩:=hF_.all
    clear hF_ cj ci bR ce bP bY bZ cH c5 dI bX cr cZ eo
    have hE38:=hEJ7.trans hE8
    have hsh:=hTr3.short
    have hu26:unb (g26 st1)=unb st1+26:=by unfold Go.Proofs.YtgllldjiaglkcaaGreatDoor.g26; rw [qY]
    refine ⟨_,_,S8,rfl,hI.sub (iz _ _),hE13.trans hE38,rfl,es3,ck3,tv3,tr3,ms',_,cv',ccs',_,ncs',_,by rw [qt]; rfl,?_,hkm3.upS hE38.1,hRJ.monoR fun _ _=>RdCI.mono ((hE6.trans hE7).trans hE8).1,?_,hMJ,by show tr3.length+unb st2<=st2.length; omega⟩
    ·show GL S8 _ (nX cl st1.length chs.length an rest)
     rw [List.map_map,hcc] at hGL
     exact hGL
    ·show Rows 6 (RdNI S8) ncs' (setN nodes (an:Int).toNat i)
     rw [dv,Xy _ _ _ han,hncs]
     obtain ⟨c0,c1,c2,c3,hce,hct⟩:=hK.nd.hR an han (by omega)
     refine (hK.nd.monoR fun _ _=>RdNI.mono (hE13.trans hE38).1).set an ⟨c0,c1,c2,c3,by rw [hce]; rfl,hct.mono (hE13.trans hE38).1⟩ ?_
     rw [nZ]
     exact hK.nd.hk _ (bz _)
  ·refine aw (fun _=>?_) (fun hb=>by cases hb)
   refine aB ?_
   refine af hI 1 rfl fC fh rfl ?_
   obtain ⟨ns,rfl,hund,hnn,hsh⟩:=hTr3
   have h26:unb (g26 st1)=unb st1+26:=by unfold g26; rw [qY]
   refine Run.callE (A:=[_,_,_,_]) lq lx hI (xh (mark:=tr.length) hkm3 (by simp) (fun n hn=>by
    rw [Us] at hn
    obtain ⟨j,rfl,_⟩:=hnn n hn
    omega) (by rw [bA]; omega)) fun v' I' S4 w'=>?_
   rintro ⟨eS,rfl,es4,tv4,rfl,hkm4⟩ _ hI
   rw [eS] at hI
   rw [Us,hund] at hkm4
   rw [FB] at hI
   refine bp (by omega) ?_
   refine ⟨⟨k+1,g26 st1,es4,ck3,tv4,SN,hk',rfl,ht2,?_,by rw [qt]; omega,hE13,hkm4,hI⟩,by simp only [intOf,dv]; omega⟩
   rw [qt,hst1,Ie hs1,dU hs1]
 ·have:k=l.length:=by omega
  subst this
  rw [dO] at ht1
  cases ht1
  refine ⟨_,_,S1,rfl,hI.sub (iz _ _),hE1,rfl,es1,ck1,tv1,tr,ms,gv0,cv,ccs,nv,ncs,mo,rfl,rfl,rfl,rfl,?_⟩
  have hK1:=hK.mono hE1.1
  refine ⟨by rw [<- hst1]; exact hkm1,hK1.ch,hK1.nd,hK1.mkI.go (TrG.grow st tr (by omega)),?_⟩
  have:=hK.tb
  rw [<- hst1,hst1,dU (by omega)]
  unfold cF
  rw [qY]
  omega
end
end
section
open Go Go.RowKit
theorem aaA {a b c d e f g h i:Value}:∀ (j:Nat) (v:Value),([a,b,c,d]:List Value)[j]?=some v->(#[a,b,c,d,e,f,g,h,i]:Array Value)[0+j]?=some v
 | 0,_,h=>h
 | 1,_,h=>h
 | 2,_,h=>h
 | 3,_,h=>h
 | _+4,_,h=>by simp at h
theorem Rows.pop {α:Type} {k:Nat} {R:List Value->α->Prop} {css:List (List Value)} {ys:List α} {y:α} (h:Rows k R css (ys++[y])):∃ css0 cs,css=css0++[cs]/\Rows k R css0 ys/\R cs y/\cs.length=k:=by
 have hc:=h.hc
 rw [bA,bw,bU] at hc
 have hlt:ys.length<css.length:=by omega
 have h1:=h.take ys.length
 rw [FB] at h1
 refine ⟨css.take ys.length,css[ys.length],?_,h1,?_,h.hk _ (bz hlt)⟩
 ·conv=>lhs; rw [<- xd ys.length css,cU hlt]
  rw [jT (by omega)]
 ·have:=h.hR ys.length (by simp) hlt
  rwa [gd (aW _),List.getElem_singleton] at this
theorem LJ:∀ (st:al) (i:Nat),unb (st.set i none)<=unb st+1
 | [],i=>by simp [unb]
 | none::st,0=>by simp only [List.set_cons_zero,unb]; omega
 | some t::st,0=>by simp only [List.set_cons_zero,unb]; omega
 | none::st,i+1=>by
  have:=LJ st i
  simp only [Nb,unb]; omega
 | some t::st,i+1=>by
  have:=LJ st i
  simp only [Nb,unb]; omega
theorem NO (st:al):∀ ns:List Int,unb (fj st ns)<=unb st+ns.length
 | []=>aW _
 | n::ns=>by
  have h:=NO st ns
  have e:fj st (n::ns)=fj (fj st ns) [n]:=uD st [n] ns
  have h2:=LJ (fj st ns) n.toNat
  rw [e,show fj (fj st ns) [n]=(fj st ns).set n.toNat none from Cq _ [] n,bw]
  omega
theorem BackI.inv0 {p:List C} {n:Nat} {ns:List NI} {o:Option SI} (h:BackI p [] n ns o):o=none:=by
 generalize hl:([]:List CI)=l at h
 cases h with
 | nil=>rfl
 | hit=>simp at hl
 | miss=>simp at hl
theorem BackI.inv {p:List C} {cs:List CI} {c:CI} {n:Nat} {ns:List NI} {o:Option SI} (h:BackI p (cs++[c]) n ns o) :
  ∃ o1 m,TryI p c.goal c.left (cF c.binds n) o1 m/\((∃ r,o1=some r/\o=some (kX cs (ns.take c.taken) c.goal c.node c.rest (cF c.binds n) r)) ∨ (o1=none/\BackI p cs m (ns.take c.taken) o)):=by
 generalize hl:cs++[c]=l at h
 cases h with
 | nil=>simp at hl
 | hit h1=>
  obtain ⟨rfl,hc⟩:=V0 hl rfl
  simp only [lE,mC] at hc
  subst hc
  exact ⟨_,_,h1,.inl ⟨_,rfl,rfl⟩⟩
 | miss h1 h2=>
  obtain ⟨rfl,hc⟩:=V0 hl rfl
  simp only [lE,mC] at hc
  subst hc
  exact ⟨_,_,h1,.inr ⟨rfl,h2⟩⟩
def chN (sp:Nat) (w:World):Nat:=match w.heap[sp]? with
 | some (.cells c _ _)=>(match (c[9]?:Option Value) with|some (.slice _ n _)=>n|_=>0)
 | _=>0
def SeaQ (sp sb mb:Nat) (pv qv:Value) (nc:Bool) (fuel used:Int) (o:Option SI) (I':List Item) (S':ae):Prop:=
 ∃ (es':Array MapEntry) (ck':Nat) (tv':Value) (tr':List Int) (ms':List Nat) (gv' cv':Value) (ccs':List (List Value)) (nv':Value) (ncs':List (List Value)) (mo' fr':Int),
  I'=[fx sp (dK sb pv qv nc fuel used fr' gv' cv' nv' mo'),chI cv' ccs',noI nv' ncs']++aA sb mb es' ck' tv' tr'/\
  ∀ s,o=some s->fr'=s.st.length/\GL S' gv' s.goals/\SeaK S' s.chs s.nodes s.st ms' tr' es' ccs' ncs'
theorem Inv.chN {w0 w:World} {X:List Nat} {L:List Item} {S:ae} (h:Inv w0 X L S w) (i j:Nat) {sp sb:Nat} {pv qv:Value} {nc:Bool} {fuel used fr:Int} {gv cv nv:Value} {mo:Int} {ccs:List (List Value)}
  (hi:L[i]?=some (fx sp (dK sb pv qv nc fuel used fr gv cv nv mo))) (hj:L[j]?=some (chI cv ccs)):chN sp w=ccs.length:=by
 have h1:w.heap[sp]?=some (.cells (dK sb pv qv nc fuel used fr gv cv nv mo) pB):=h.its _ (cz hi)
 obtain ⟨a,cap,rfl,_⟩:=h.rowSlice' hj
 unfold Go.Proofs.YtgllldjiaglkcaaGreatDoor.chN
 rw [h1]
 rfl
section
attribute [local irreducible] Run CondV az aO
set_option maxHeartbeats 2000000 in
theorem xM {p:List C} (hp:∀ cl∈p,oP cl) (hpb:∀ cl∈p,cl.body.length<=1048576) {cs:List CI} {n:Nat} {ns:List NI} {o:Option SI} (hb:BackI p cs n ns o) (hcs:okCs p.length n ns.length cs) (hn:n+26 * ir cs<=900000) (hcl:cs.length<=1000000)
  {st:al} (hst:st.length=n) {S:ae} {gv pv qv cv nv tv:Value} {ms:List Nat} {tr:List Int} {es:Array MapEntry} {ccs ncs:List (List Value)} {sp sb mb ck:Nat} {nc:Bool} {fuel used mo:Int}
  (h4:RdSl S 5 (RdC S) pv p) (hK:SeaK S cs ns st ms tr es ccs ncs) :
  Tri Tryz.prog EY [.pointer (some ⟨sp,0,none⟩)] ([fx sp (dK sb pv qv nc fuel used n gv cv nv mo),chI cv ccs,noI nv ncs]++aA sb mb es ck tv tr) S
   fun q I' S'=>q=.int .i64 (if o.isSome then -1 else 0)/\SeaQ sp sb mb pv qv nc fuel used o I' S':=by
 intro w hI
 obtain ⟨X,hX⟩:∃ X,X=bE ([fx sp (dK sb pv qv nc fuel used n gv cv nv mo),chI cv ccs,noI nv ncs]++aA sb mb es ck tv tr):=⟨_,rfl⟩
 rw [<- hX] at hI ⊢
 refine pI.2 ?_
 dsimp only[pI,aM]
 refine ⟨fun w'=>∃ (cs:List CI) (n:Nat) (ns:List NI) (st:al) (S1:ae) (cv nv tv:Value) (ms:List Nat) (tr:List Int) (es:Array MapEntry) (ccs ncs:List (List Value)) (ck:Nat) (mo:Int),
   BackI p cs n ns o/\okCs p.length n ns.length cs/\n+26 * ir cs<=900000/\cs.length<=1000000/\st.length=n/\Ext w.heap.size X S S1/\SeaK S1 cs ns st ms tr es ccs ncs/\
   Inv w X ([fx sp (dK sb pv qv nc fuel used n gv cv nv mo),chI cv ccs,noI nv ncs]++aA sb mb es ck tv tr) S1 w',
  fun w'=>chN sp w',⟨cs,n,ns,st,S,cv,nv,tv,ms,tr,es,ccs,ncs,ck,mo,hb,hcs,hn,hcl,hst,Ext.refl _ _ _,hK,hI⟩,?_⟩
 clear hI hb hcs hn hcl hst hK hX
 clear cs n ns st cv nv tv ms tr es ccs ncs ck mo
 intro _ _ _ _ _ _ _ _ _ _ _ t49 t48 t47 t46 t45 t44 t43 t42 t41 t40 t39 t38 t37 t36 t35 t34 t33 _ _ _ _ _ _ _ _ _ _ _ _ _ _ _ _ _ _ _ _ _ _ _ _ _ _ _ _ _ _ w'
 rintro ⟨cs,n,ns,st,S1,cv,nv,tv,ms,tr,es,ccs,ncs,ck,mo,hb,hcs,hn,hcl,hst,hE1,hK,hI⟩
 have hml:=hK.mkI.len
 have hcc:ccs.length=cs.length:=by have:=hK.ch.hc; rw [TW] at this; omega
 have hchN:=hI.chN 0 1 rfl rfl
 refine aB ?_
 refine af hI 0 rfl dY eD rfl ?_
 refine kB hI 1 rfl gP ?_
 refine dA ?_
 refine aL (fun h0=>?_) (fun h0=>?_)
 ·obtain ⟨cs0,c,rfl⟩:∃ cs0 c,cs=cs0++[c]:=⟨cs.dropLast,cs.getLast (by intro e; have:=congrArg List.length e; rw [bU] at this; omega),(Uc _).symm⟩
  rw [bA,bw,bU] at hcc hml hcl
  obtain ⟨k1,k2,k3,k4⟩:=hcs.last
  obtain ⟨g1,g2,g3,g4⟩:=k2.grow k3
  have hgl:=dU k3
  obtain ⟨o1,m,hT,hcase⟩:=hb.inv
  obtain ⟨ms0,mk,rfl,hmk,hnn,hund,hMk,_⟩:=hK.mkI.pop
  have hml0:=hMk.len
  have hch:=hK.ch
  rw [List.zip_append hml0.symm] at hch
  obtain ⟨ccs0,chc,rfl,hR0,hRc,hcl9⟩:=hch.pop
  have hcc0:ccs0.length=cs0.length:=by rw [bA,bw,bU] at hcc; omega
  obtain ⟨a0,a1,a2,a3,gp,lv,rfl,hg1,hg2,hg3⟩:=hRc
  simp only at hg1 hg2 hg3
  obtain ⟨gp,rfl⟩:=hg2.ptr
  obtain ⟨la,lcap,hlv,-⟩:=id hg3
  rw [tX,ir,ir] at hn
  obtain ⟨cg,ccap,hcv,hcell⟩:=hI.rowPtr (i:=1) rfl (j:=ccs0.length) (by simp) (fun x hx=>by
   rcases bO.1 hx with hx|hx
   ·exact hR0.hk x hx
   ·rw [cd.1 hx]; rfl)
  subst hcv
  obtain ⟨na,ncap,rfl,hncap⟩:=hI.rowSlice' (i:=2) rfl
  refine aB ?_
  refine af hI 0 rfl dY eD rfl ?_
  refine kB hI 1 rfl gP ?_
  refine mx (by omega) ?_
  have hli:((ccs0++[[a0,a1,a2,a3,.int .i64 c.node,.pointer gp,lv,.int .i64 (mk:Int),.int .i64 (c.taken:Int)]]).length:Int) - 1=(ccs0.length:Int):=by rw [bA,bw,bU]; omega
  rw [hli]
  refine aB ?_
  refine af hI 0 rfl dY eD rfl ?_
  refine aE gP (by rw [bA,bw,bU]; omega) ?_
  refine bL (cs:=[a0,a1,a2,a3,.int .i64 c.node,.pointer gp,lv,.int .i64 (mk:Int),.int .i64 (c.taken:Int)]) Gt rfl (fun j v hj=>by
   rw [cq]
   refine hcell j v ?_
   rw [gd (aW _)]
   simpa using hj) ?_
  refine aT hI RG fun b4 w' hI=>?_
  refine aC hI 6 rfl Gt rfl rfl ?_ fun w' hI=>?_
  ·subst hlv
   intro u hu
   have hu':u∈[a0,a1,a2,a3,.int .i64 c.node,.pointer gp,.slice la c.left.length lcap,.int .i64 (mk:Int),.int .i64 (c.taken:Int)]:=hu
   simp only [bN,jd,je] at hu'
   rcases hu' with rfl|rfl|rfl|rfl|rfl|rfl|rfl|rfl|rfl <;> first|rfl|exact hg1.one _ (by simp)
  have hI:Inv w X ([.blk b4 (.cells #[a0,a1,a2,a3,.int .i64 c.node,.pointer gp,lv,.int .i64 (mk:Int),.int .i64 (c.taken:Int)] ez),fx sp (dK sb pv qv nc fuel used n gv (.slice (some ⟨cg,0,none⟩) (ccs0++[[a0,a1,a2,a3,.int .i64 c.node,.pointer gp,lv,.int .i64 (mk:Int),.int .i64 (c.taken:Int)]]).length ccap) (.slice na ncs.length ncap) mo),chI (.slice (some ⟨cg,0,none⟩) (ccs0++[[a0,a1,a2,a3,.int .i64 c.node,.pointer gp,lv,.int .i64 (mk:Int),.int .i64 (c.taken:Int)]]).length ccap) (ccs0++[[a0,a1,a2,a3,.int .i64 c.node,.pointer gp,lv,.int .i64 (mk:Int),.int .i64 (c.taken:Int)]]),noI (.slice na ncs.length ncap) ncs]++aA sb mb es ck tv tr) S1 w':=hI.perm (cu (l₁:=[_]))
  refine aB ?_
  refine af hI 1 rfl dY eD rfl ?_
  refine QM hI 2 rfl gP (n:=ccs0.length) (by rw [bA]; omega) ?_
  refine aB ?_
  refine du hI 1 rfl dY eD rfl rfl rfl fun w' hI=>?_
  have hI:=hI.cutRow (i:=2) rfl (n:=ccs0.length) (by rw [bA]; omega) (fun x hx=>by
   rcases bO.1 hx with hx|hx
   ·exact hR0.hk x hx
   ·rw [cd.1 hx]; rfl)
  rw [FB] at hI
  have hJ0:Inv w X ([.blk b4 (.cells #[a0,a1,a2,a3,.int .i64 c.node,.pointer gp,lv,.int .i64 (mk:Int),.int .i64 (c.taken:Int)] ez),fx sp (dK sb pv qv nc fuel used n gv (.slice (some ⟨cg,0,none⟩) ccs0.length ccap) (.slice na ncs.length ncap) mo),chI (.slice (some ⟨cg,0,none⟩) ccs0.length ccap) ccs0,noI (.slice na ncs.length ncap) ncs]++aA sb mb es ck tv tr) S1 w':=hI
  repeat clear hI
  clear hcell
  have htrl:tr.length<=900000:=by have:=hK.tb; omega
  refine ⟨fun D tI ll AB vN vL JI Ih w_=>Fx D 0 [Ih=.pointer (some ⟨sp,0,none⟩),JI=.pointer (some ⟨sp,0,none⟩),vL=.pointer (some ⟨sp,0,none⟩),vN=.pointer (some ⟨sb,0,none⟩),AB=.pointer (some ⟨b4,7,none⟩),ll=.int .i64 (mk:Int),True]/\∃ (es3:Array MapEntry) (tv3:Value) (tr3:List Int),(D 6=false->es=es3/\tv=tv3/\tr=tr3)/\(D 6=true->KnownM S1 es3 (fj st (tr.drop mk))/\tr3=tr.take mk)/\Inv w X ([.blk b4 (.cells #[a0,a1,a2,a3,.int .i64 c.node,.pointer gp,lv,.int .i64 (mk:Int),.int .i64 (c.taken:Int)] ez),fx sp (dK sb pv qv nc fuel used n gv (.slice (some ⟨cg,0,none⟩) ccs0.length ccap) (.slice na ncs.length ncap) mo),chI (.slice (some ⟨cg,0,none⟩) ccs0.length ccap) ccs0,noI (.slice na ncs.length ncap) ncs]++aA sb mb es3 ck tv3 tr3) S1 w_,⟨Fx.nil _ _,⟨es,tv,tr,fun _=>⟨rfl,rfl,rfl⟩,aQ,hJ0.draw⟩⟩,⟨?_,?_,?_,?_,?_,?_,?_,trivial⟩,?_⟩
  all_goals (intro D bF; intros; rename_i tI ll AB vN vL JI Ih w_ hA_; have hF_:=hA_.1; obtain ⟨⟨cj,ci,bR,ce,bP,bY,bZ,_⟩,⟨es3,tv3,tr3,e6f,e6,hI⟩⟩:=hA_)
  ·exact ⟨hF_.set 0 rfl,⟨es3,tv3,tr3,e6f,e6,hI⟩⟩
  ·obtain rfl:=cj ‹_›
   refine aB ?_
   exact ⟨hF_.set 1 rfl,⟨es3,tv3,tr3,e6f,e6,hI⟩⟩
  ·obtain rfl:=ci ‹_›
   refine au fC ?_
   exact ⟨hF_.set 2 rfl,⟨es3,tv3,tr3,e6f,e6,hI⟩⟩
  ·obtain rfl:=bR ‹_›
   refine aN (b:=sp) hI 1 (c:=dK sb pv qv nc fuel used n gv (.slice (some ⟨cg,0,none⟩) ccs0.length ccap) (.slice na ncs.length ncap) mo) fh rfl rfl ?_
   exact ⟨hF_.set 3 rfl,⟨es3,tv3,tr3,e6f,e6,hI⟩⟩
  ·refine au L7 ?_
   exact ⟨hF_.set 4 rfl,⟨es3,tv3,tr3,e6f,e6,hI⟩⟩
  ·obtain rfl:=bP ‹_›
   refine aN (b:=b4) hI 0 (c:=#[a0,a1,a2,a3,.int .i64 c.node,.pointer gp,lv,.int .i64 (mk:Int),.int .i64 (c.taken:Int)]) aG rfl rfl ?_
   exact ⟨hF_.set 5 rfl,⟨es3,tv3,tr3,e6f,e6,hI⟩⟩
  ·obtain rfl:=ce ‹_›
   obtain rfl:=bY ‹_›
   obtain ⟨rfl,rfl,rfl⟩:=e6f bF
   refine Run.callE (A:=[_,_,_,_]) lq lx hI (xh (mark:=mk) hK.km hmk hnn (by omega)) fun v' I' S4 w_=>?_
   rintro ⟨eS,rfl,es3,tv3,rfl,hkm3⟩ _ hI
   rw [eS] at hI
   obtain ⟨tr3,htr3⟩:∃ a,a=tr.take mk:=⟨_,rfl⟩
   rw [<- htr3] at hI
   have e6f:aD D 6 6=false->es=es3/\tv=tv3/\tr=tr3:=fun h=>Bool.noConfusion h
   have e6:aD D 6 6=true->KnownM S1 es3 (fj st (tr.drop mk))/\tr3=tr.take mk:=fun _=>⟨hkm3,htr3⟩
   exact ⟨hF_.set 6 (by first|assumption|trivial),⟨es3,tv3,tr3,e6f,e6,hI⟩⟩
  obtain ⟨rfl,rfl,rfl,rfl,rfl,rfl,NF,_⟩:=hF_.all
  clear hF_ cj ci bR ce bP bY bZ
  obtain ⟨hkm3,htr3⟩:=e6 (by assumption)
  rw [hund,hst] at hkm3
  clear e6 e6f
  have hJ1:=hI
  clear hI
  refine ⟨fun D ut nR oK sW vO wB tB mg qB vh w_=>Fx D 0 [vh=.pointer (some ⟨sp,0,none⟩),qB=.pointer (some ⟨sp,0,none⟩),mg=.pointer (some ⟨sp,0,none⟩),tB=.pointer (some ⟨sp,10,none⟩),wB=.slice na ncs.length ncap,vO=.pointer (some ⟨b4,8,none⟩),sW=.int .i64 (c.taken:Int),oK=.slice na c.taken ncap,nR=.pointer (some ⟨sp,0,none⟩),ut=.pointer (some ⟨sp,10,none⟩),True]/\∃ (nF:Nat),(D 10=false->ncs.length=nF)/\(D 10=true->D 4=true)/\(D 10=true->nF=c.taken)/\Inv w X ([.blk b4 (.cells #[a0,a1,a2,a3,.int .i64 c.node,.pointer gp,lv,.int .i64 (mk:Int),.int .i64 (c.taken:Int)] ez),fx sp (dK sb pv qv nc fuel used n gv (.slice (some ⟨cg,0,none⟩) ccs0.length ccap) (.slice na nF ncap) mo),chI (.slice (some ⟨cg,0,none⟩) ccs0.length ccap) ccs0,noI (.slice na ncs.length ncap) ncs]++aA sb mb es3 ck tv3 tr3) S1 w_,⟨Fx.nil _ _,⟨ncs.length,fun _=>rfl,aQ,aQ,hJ1.draw⟩⟩,⟨?_,?_,?_,?_,?_,?_,?_,?_,?_,?_,?_,trivial⟩,?_⟩
  all_goals (intro D bF; intros; rename_i ut nR oK sW vO wB tB mg qB vh w_ hA_; have hF_:=hA_.1; obtain ⟨⟨cj,ci,bR,ce,bP,bY,bZ,cH,c5,dI,bX,_⟩,⟨nF,e10f,k10,e10,hI⟩⟩:=hA_)
  ·exact ⟨hF_.set 0 rfl,⟨nF,e10f,k10,e10,hI⟩⟩
  ·exact ⟨hF_.set 1 rfl,⟨nF,e10f,k10,e10,hI⟩⟩
  ·obtain rfl:=ci ‹_›
   refine aB ?_
   exact ⟨hF_.set 2 rfl,⟨nF,e10f,k10,e10,hI⟩⟩
  ·obtain rfl:=bR ‹_›
   refine au dS ?_
   exact ⟨hF_.set 3 rfl,⟨nF,e10f,k10,e10,hI⟩⟩
  ·obtain rfl:=ce ‹_›
   have f10:D 10=false:=bB.2 fun h=>by rw [k10 h] at bF; cases bF
   have q:=e10f f10
   refine aN (b:=sp) (v:=.slice na ncs.length ncap) hI 1 (c:=dK sb pv qv nc fuel used n gv (.slice (some ⟨cg,0,none⟩) ccs0.length ccap) (.slice na nF ncap) mo) gC rfl (by rw [q]; rfl) ?_
   have k10:aD D 4 10=true->aD D 4 4=true:=fun _=>rfl
   exact ⟨hF_.set 4 rfl,⟨nF,e10f,k10,e10,hI⟩⟩
  ·refine au LR ?_
   exact ⟨hF_.set 5 rfl,⟨nF,e10f,k10,e10,hI⟩⟩
  ·obtain rfl:=bY ‹_›
   refine aN (b:=b4) hI 0 (c:=#[a0,a1,a2,a3,.int .i64 c.node,.pointer gp,lv,.int .i64 (mk:Int),.int .i64 (c.taken:Int)]) aG rfl rfl ?_
   exact ⟨hF_.set 6 rfl,⟨nF,e10f,k10,e10,hI⟩⟩
  ·obtain rfl:=bP ‹_›
   obtain rfl:=bZ ‹_›
   refine QM hI 3 rfl gA (n:=c.taken) (by have:=hK.nd.hc; omega) ?_
   exact ⟨hF_.set 7 rfl,⟨nF,e10f,k10,e10,hI⟩⟩
  ·obtain rfl:=cj ‹_›
   refine aB ?_
   exact ⟨hF_.set 8 rfl,⟨nF,e10f,k10,e10,hI⟩⟩
  ·obtain rfl:=c5 ‹_›
   refine au dS ?_
   exact ⟨hF_.set 9 rfl,⟨nF,e10f,k10,e10,hI⟩⟩
  ·obtain rfl:=dI ‹_›
   obtain rfl:=cH ‹_›
   refine cW hI 1 (n:=1) rfl (by rw [gC]; rfl) rfl (jw rfl) (by simp [Value.cells,Value.oneCell']) fun w_ hI=>?_
   obtain ⟨nF,hF⟩:∃ a,a=c.taken:=⟨_,rfl⟩
   have e10f:aD D 10 10=false->ncs.length=nF:=fun h=>Bool.noConfusion h
   have k10:aD D 10 10=true->aD D 10 4=true:=fun _=>by assumption
   have e10:aD D 10 10=true->nF=c.taken:=fun _=>hF
   have hI:Inv w X ([.blk b4 (.cells #[a0,a1,a2,a3,.int .i64 c.node,.pointer gp,lv,.int .i64 (mk:Int),.int .i64 (c.taken:Int)] ez),fx sp (dK sb pv qv nc fuel used n gv (.slice (some ⟨cg,0,none⟩) ccs0.length ccap) (.slice na nF ncap) mo),chI (.slice (some ⟨cg,0,none⟩) ccs0.length ccap) ccs0,noI (.slice na ncs.length ncap) ncs]++aA sb mb es3 ck tv3 tr3) S1 w_:=by rw [hF]; exact hI
   exact ⟨hF_.set 10 trivial,⟨nF,e10f,k10,e10,hI⟩⟩
  obtain ⟨rfl,rfl,rfl,rfl,rfl,rfl,rfl,rfl,rfl,rfl,_,_⟩:=hF_.all
  clear hF_ cj ci bR ce bP bY bZ cH c5 dI bX
  have q10:=e10 (by assumption)
  subst q10
  clear e10 e10f k10
  have hnl:=hK.nd.hc
  have hI:=hI.cutRow (i:=3) rfl (n:=c.taken) (by omega) hK.nd.hk
  obtain ⟨ncs0,hncs0⟩:∃ a,a=ncs.take c.taken:=⟨_,rfl⟩
  have hI:Inv w X ([.blk b4 (.cells #[a0,a1,a2,a3,.int .i64 c.node,.pointer gp,lv,.int .i64 (mk:Int),.int .i64 (c.taken:Int)] ez)]++([fx sp (dK sb pv qv nc fuel used (cF c.binds n).length gv (.slice (some ⟨cg,0,none⟩) ccs0.length ccap) (.slice na c.taken ncap) mo),chI (.slice (some ⟨cg,0,none⟩) ccs0.length ccap) ccs0,noI (.slice na c.taken ncap) ncs0]++aA sb mb es3 ck tv3 tr3)) S1 w_:=by
   rw [hgl,hncs0]
   exact hI
  refine au Nr ?_
  refine di hI 0 [a0,a1,a2,a3] ad rfl rfl aaA ?_
  refine af hI 0 rfl Mq aG rfl ?_
  refine af hI 0 rfl L0 il rfl ?_
  refine af hI 0 rfl LZ dC rfl ?_
  have htk:(ns.take c.taken).length=c.taken:=by rw [dX]; omega
  have hund':fj st (tr.drop mk)=cF c.binds n:=by rw [<- hst]; exact hund
  have hub:unb (cF c.binds n)<=unb st+(tr.drop mk).length:=by rw [<- hund']; exact NO _ _
  rw [vB] at hub
  have htb:=hK.tb
  have hKt:SeaK S1 cs0 (ns.take c.taken) (cF c.binds n) ms0 tr3 es3 ccs0 ncs0:=by
   refine ⟨hkm3,hR0,by rw [hncs0]; exact hK.nd.take _,?_,?_⟩
   ·rw [htr3,<- hst]; exact hMk
   ·rw [htr3,hgl,dX]; omega
  refine Run.callE (A:=[_]) r3 rU hI (Lc hp hpb hT g1 g2 g3 (by rw [hgl]; omega) hg1 hg3 hg2 (h4.mono hE1.1 fun _ _=>RdC.mono hE1.1) hKt ⟨k2.node.1,by rw [htk]; exact k2.node.2⟩ (by omega)) fun v' I' S4 w'=>?_
  rintro ⟨rfl,es4,ck4,tv4,tr4,ms4,gv4,cv4,ccs4,nv4,ncs4,mo4,rfl,hm⟩ hE4 hI
  have hI9:=hI.sub (iz _ _)
  obtain ⟨j1,j2,j3⟩:=hT.ok hp g1 g2 g3
  rw [hgl] at j1 j2
  rcases hcase with ⟨r,rfl,rfl⟩|⟨rfl,hb'⟩
  ·refine aw (fun _=>?_) (fun h=>by cases h)
   obtain ⟨_,_,_,j4,j5,_⟩:=j3 r rfl
   refine ⟨_,_,S4,rfl,hI9,hE1.trans hE4,rfl,es4,ck4,tv4,tr4,ms4,gv4,cv4,ccs4,nv4,ncs4,mo4,_,rfl,fun s hs=>?_⟩
   cases hs
   exact ⟨by show (m:Int)=(r.st.length:Int); omega,hm.1,hm.2⟩
  ·refine aw (fun h=>by cases h) (fun _=>?_)
   obtain ⟨rfl,rfl,rfl,hKn⟩:=hm
   have hm':=j2 rfl
   have hcc4:ccs4.length=cs0.length:=by have:=hKn.ch.hc; have h5:=hKn.mkI.len; rw [TW] at this; omega
   refine ⟨⟨cs0,m,ns.take c.taken,cF (cF c.binds n) m,S4,cv4,nv4,tv4,_,_,es4,ccs4,ncs4,ck4,mo4,hb',by rw [htk]; exact k1.mono j1 (aW _),by omega,by omega,dU (by rw [hgl]; exact j1),hE1.trans hE4,hKn,hI9⟩,?_⟩
   show chN sp _<chN sp _
   rw [hI9.chN 0 1 rfl rfl,hchN,bA,bw,bU]
   omega
 ·have:cs=[]:=gO (by omega)
  subst this
  obtain rfl:=hb.inv0
  exact ⟨_,_,S1,rfl,hI,hE1,rfl,es,ck,tv,tr,ms,gv,cv,ccs,nv,ncs,mo,_,rfl,fun s hs=>by cases hs⟩
end
end
section
open Go Go.RowKit
theorem RdT.unpub {S S3:ae} {sb mb ck:Nat} {m tv:Value} {es:Array MapEntry} (h1:S sb=some (.cells #[m,tv] cQ)) (h2:S mb=some (.map es ck)) (h3:∀ b o,S b=some o->b≠sb->b≠mb->S3 b=some o) {cs:List Value} {t:T} (h:RdT S cs t):RdT S3 cs t:=by
 induction h with
 | nil hk hn hs hc=>exact RdT.nil hk hn hs hc
 | @cons k n s kids b o cap c E fz hk hn hs hl hc hS hR ih=>
  cases kids with
  | nil=>exact RdT.nil hk hn hs hc
  | cons x xs=>
   have hx:=(hR 0 (by simp)).length
   refine RdT.cons hk hn hs hl hc (h3 _ _ hS ?_ ?_) ih
   ·rintro rfl
    rw [h1] at hS
    cases hS
    rw [aX,dX,vB] at hx
    simp at hx
    omega
   ·rintro rfl
    rw [h2] at hS
    cases hS
theorem Inv.unpub {w0 w:World} {X:List Nat} {B:List Item} {S S3:ae} (h:Inv w0 X B S w) (M:bm) (hM:∀ p∈M,S p.1=some p.2) (hnd:(bE (bv M)).Nodup) (hnew:∀ b∈bE (bv M),b∈X ∨ w0.heap.size<=b) (hs:Sle S3 S) (h3:∀ b∈bE (bv M),S3 b=none) :
  Inv w0 X (B++bv M) S3 w:=by
 refine ⟨h.size,h.os,h.tape,h.output,h.old,fun it hit=>?_,?_,fun b hb=>?_,fun b o hb=>⟨(h.pub b o (hs b o hb)).1,fun hb'=>?_⟩⟩
 ·rcases bO.1 hit with hit|hit
  ·exact h.its it hit
  ·obtain ⟨p,hp,rfl⟩:=eU.1 hit
   exact (h.pub _ _ (hM p hp)).1
 ·rw [bW,rc]
  refine ⟨h.nd,hnd,fun a ha b hb e=>?_⟩
  subst e
  obtain ⟨p,hp,rfl⟩:=iP.1 hb
  exact (h.pub _ _ (hM p hp)).2 ha
 ·rw [bW] at hb
  rcases bO.1 hb with hb|hb
  ·exact h.new b hb
  ·exact hnew b hb
 ·rw [bW] at hb'
  rcases bO.1 hb' with hb'|hb'
  ·exact (h.pub b o (hs b o hb)).2 hb'
  ·rw [h3 b hb'] at hb
   cases hb
section
attribute [local irreducible] Run CondV az aO
theorem mt {N:Nat} {st:al} (hg:Good N st) {t u:T} (hr:Res st (.one t u)) (ho:okU N t/\wT t<=1048576) {S:ae} {cs:List Value} {sb mb ck:Nat} {es:Array MapEntry} {tv:Value} {tr:List Int} (h:RdT S cs t) (hkm:KnownM S es st) :
  Tri Tryz.prog nO [.pointer (some ⟨sb,0,none⟩),.agg cs.toArray] (aA sb mb es ck tv tr) S fun q I' S'=>I'=aA sb mb es ck tv tr/\∃ cs':List Value,cs'.length=4/\(∀ x∈cs',x.oneCell'=true)/\q=.tuple #[.agg cs'.toArray,.bool (bI u)]/\(bI u=true->RdT S' cs' u):=by
 intro w hI
 obtain ⟨X,hX⟩:∃ X,X=bE (aA sb mb es ck tv tr):=⟨_,rfl⟩
 rw [<- hX] at hI ⊢
 have hI0:Inv w X ([dz tv tr]++bv [(sb,.cells #[.map (some mb),tv] cQ),(mb,.map es ck)]) S w:=hI.perm (cu (l₁:=[dz tv tr]) (l₂:=bv [(sb,.cells #[.map (some mb),tv] cQ),(mb,.map es ck)]))
 have hnd:=hI0.nd
 have hnew:=hI0.new
 rw [bW,rc] at hnd
 obtain ⟨S1,hI1,hE1,hins⟩:=Inv.pubExt hI0
 have hsb:=hins _ (aS ..)
 have hmb:=hins _ (aV _ (aS ..))
 have hst:StS S1 S1 sb st:=⟨mb,tv,es,ck,cQ,hsb,hmb,hkm.upS hE1.1⟩
 have hI1':Inv w X ([dz tv tr]++[]) S1 w:=by rw [dh]; exact hI1
 refine (SR hI1' (wd hg hr ho (h.mono hE1.1) hst)).mono ?_
 rintro e w' ⟨v,I',S',rfl,hI2,hE2,rfl,cs',hl,h1,rfl,hR⟩
 rw [dh] at hI2
 obtain ⟨S3,hS3⟩:∃ S3:ae,S3=fun b=>if b=sb ∨ b=mb then none else S' b:=⟨_,rfl⟩
 have hle3:Sle S3 S':=fun b o hb=>by
  rw [hS3] at hb
  simp only at hb
  split at hb
  ·cases hb
  ·exact hb
 have hback:∀ b o,S' b=some o->b≠sb->b≠mb->S3 b=some o:=fun b o hb h1 h2=>by
  rw [hS3]
  simp only
  rw [ah (by simp [h1,h2])]
  exact hb
 have hnot:∀ b o,S b=some o->b≠sb/\b≠mb:=fun b o hb=>by
  have:=(hI0.pub b o hb).2
  rw [bW] at this
  constructor
  ·rintro rfl; exact this (iA _ (by simp [bE,bv,Item.foot]))
  ·rintro rfl; exact this (iA _ (by simp [bE,bv,Item.foot]))
 have hI3:=hI2.unpub (S3:=S3) [(sb,.cells #[.map (some mb),tv] cQ),(mb,.map es ck)] (fun p hp=>by
   simp only [bN,jd,je] at hp
   rcases hp with rfl|rfl
   ·exact hE2.1 _ _ hsb
   ·exact hE2.1 _ _ hmb) hnd.2.1 (fun b hb=>hnew b (by rw [bW]; exact iA _ hb)) hle3 (fun b hb=>by
   have hb:b=sb ∨ b=mb:=by simpa [bE,bv,Item.foot] using hb
   rw [hS3]
   simp only
   rw [ai hb])
 refine ⟨_,_,S3,rfl,hI3.perm (cu (l₂:=[dz tv tr]) (l₁:=bv [(sb,.cells #[.map (some mb),tv] cQ),(mb,.map es ck)])),⟨fun b o hb=>?_,fun b o hb=>?_⟩,rfl,cs',hl,h1,rfl,fun hs=>?_⟩
 ·obtain ⟨n1,n2⟩:=hnot b o hb
  exact hback _ _ (hE2.1 _ _ (hE1.1 _ _ hb)) n1 n2
 ·rcases hE2.2 b o (hle3 b o hb) with h5|h5
  ·exact hE1.2 b o h5
  ·exact .inr h5
 ·exact RdT.unpub (hE2.1 _ _ hsb) (hE2.1 _ _ hmb) hback (hR hs)
end
end
end Go.Proofs.YtgllldjiaglkcaaGreatDoor
