/- impl's search in memory: a step. -/
import Derived.Test.YtcpgagfdeflbkaaGreatDoorZMv24
namespace Go.Proofs.YtcpgagfdeflbkaaGreatDoor
open Go Go.RowKit
theorem NK {a b c d e f g:Value}:∀ (j:Nat) (v:Value),([a,b,c,d]:List Value)[j]?=some v->(#[a,b,c,d,e,f,g]:Array Value)[0+j]?=some v
 | 0,_,h=>h
 | 1,_,h=>h
 | 2,_,h=>h
 | 3,_,h=>h
 | _+4,_,h=>by simp at h
theorem Fq {α β:Type}:∀ (k:Nat) (a:List α) (b:List β),(a.zip b).take k=(a.take k).zip (b.take k)
 | 0,a,b=>by simp
 | k+1,[],b=>by simp
 | k+1,x::xs,[]=>by simp
 | k+1,x::xs,y::ys=>by
  rw [List.zip_cons_cons,List.take_succ_cons,List.take_succ_cons,List.take_succ_cons,List.zip_cons_cons,Fq k xs ys]
theorem Ku {a0 a1 a2 a3:Value} (h:∀ u∈[a0,a1,a2,a3],u.oneCell'=true) {m n:Int}:∀ u∈[a0,a1,a2,a3,.int .i64 m,.int .i64 n],u.oneCell'=true:=by
 intro u hu
 simp only [List.mem_cons,List.not_mem_nil,or_false] at hu
 rcases hu with rfl|rfl|rfl|rfl|rfl|rfl <;> first|rfl|exact h _ (by simp)
theorem StepI.inv {p:List C} {nc:Bool} {s:SI} {o:Option SI} {e:Int} (h:StepI p nc s o e):∃ g gs t,s.goals=g::gs/\Res s.st (.one g.t t)/\
  ((bB t=false/\o=none/\e=3) ∨ (bB t=true/\
   ((fC t=true/\((nc=true/\o=none/\e=0) ∨ (nc=false/\o=some ⟨s.st,gs,s.chs.take g.cut.toNat,s.nodes++[⟨t,g.up,-1⟩]⟩/\e=-1))) ∨
       (fC t=false/\((cn t=true/\∃ st c,Blt s.st t c st/\((c=0/\o=some ⟨st,gs,s.chs,s.nodes++[⟨t,g.up,-1⟩]⟩/\e=-1) ∨ (c=1/\BackI p s.chs s.st.length (s.nodes++[⟨t,g.up,-1⟩]) o/\e=if o.isSome then -1 else 0) ∨ (c≠0/\c≠1/\o=none/\e=IA c))) ∨
    (cn t=false/\((fX p t=[]/\o=none/\e=8) ∨ (fX p t≠[]/\∃ o1 m,TryI p t (fX p t) s.st o1 m/\
     ((∃ r,o1=some r/\o=some (iH s.chs (s.nodes++[⟨t,g.up,-1⟩]) t s.nodes.length gs s.st r)/\e=-1) ∨ (o1=none/\BackI p s.chs m (s.nodes++[⟨t,g.up,-1⟩]) o/\e=if o.isSome then -1 else 0)))))))))):=by
 cases h with
 | large h1 h2 h3=>exact ⟨_,_,_,h1,h2,.inl ⟨h3,rfl,rfl⟩⟩
 | noCut h1 h2 h3 h4 h5=>exact ⟨_,_,_,h1,h2,.inr ⟨h3,.inl ⟨h4,.inl ⟨h5,rfl,rfl⟩⟩⟩⟩
 | cut h1 h2 h3 h4 h5=>exact ⟨_,_,_,h1,h2,.inr ⟨h3,.inl ⟨h4,.inr ⟨h5,rfl,rfl⟩⟩⟩⟩
 | solved h1 h2 h3 h4 h5 h6=>exact ⟨_,_,_,h1,h2,.inr ⟨h3,.inr ⟨h4,.inl ⟨h5,_,_,h6,.inl ⟨rfl,rfl,rfl⟩⟩⟩⟩⟩
 | fail h1 h2 h3 h4 h5 h6 h7=>exact ⟨_,_,_,h1,h2,.inr ⟨h3,.inr ⟨h4,.inl ⟨h5,_,_,h6,.inr (.inl ⟨rfl,h7,rfl⟩)⟩⟩⟩⟩
 | err h1 h2 h3 h4 h5 h6 h7 h8=>exact ⟨_,_,_,h1,h2,.inr ⟨h3,.inr ⟨h4,.inl ⟨h5,_,_,h6,.inr (.inr ⟨h7,h8,rfl,rfl⟩)⟩⟩⟩⟩
 | unknown h1 h2 h3 h4 h5 h6=>exact ⟨_,_,_,h1,h2,.inr ⟨h3,.inr ⟨h4,.inr ⟨h5,.inl ⟨h6,rfl,rfl⟩⟩⟩⟩⟩
 | took h1 h2 h3 h4 h5 h6 h7=>exact ⟨_,_,_,h1,h2,.inr ⟨h3,.inr ⟨h4,.inr ⟨h5,.inr ⟨h6,_,_,h7,.inl ⟨_,rfl,rfl,rfl⟩⟩⟩⟩⟩⟩
 | back h1 h2 h3 h4 h5 h6 h7 h8=>exact ⟨_,_,_,h1,h2,.inr ⟨h3,.inr ⟨h4,.inr ⟨h5,.inr ⟨h6,_,_,h7,.inr ⟨rfl,h8,rfl⟩⟩⟩⟩⟩⟩
theorem AQ (cs:List CI) (ns:List NI) (g:T) (a:Int) (rest:List GI) (b:ah) (r:HI):(iH cs ns g a rest b r).chs.length<=cs.length+1:=by
 show (cs++(if r.l=[] then [] else [_])).length<=_
 rw [List.length_append]
 split <;> simp
theorem BackI.chs {p:List C} {cs:List CI} {n:Nat} {ns:List NI} {o:Option SI} (h:BackI p cs n ns o):∀ s,o=some s->s.chs.length<=cs.length:=by
 induction h with
 | nil=>intro s h; cases h
 | @hit cs c n m ns r ht=>
  intro s hs
  cases hs
  have:=AQ cs (ns.take c.taken) c.goal c.node c.rest (bA c.binds n) r
  rw [List.length_append]
  exact this
 | miss _ _ ih=>
  intro s hs
  have:=ih s hs
  rw [List.length_append]
  omega
theorem StepI.chs {p:List C} {nc:Bool} {s s':SI} {e:Int} (h:StepI p nc s (some s') e):s'.chs.length<=s.chs.length+1:=by
 obtain ⟨g,gs,t,_,_,h⟩:=h.inv
 rcases h with ⟨_,h,_⟩|⟨_,h⟩
 ·cases h
 rcases h with ⟨_,h⟩|⟨_,h⟩
 ·rcases h with ⟨_,h,_⟩|⟨_,h,_⟩
  ·cases h
  ·cases h
   simp only [List.length_take]
   omega
 rcases h with ⟨_,st,c,_,h⟩|⟨_,h⟩
 ·rcases h with ⟨_,h,_⟩|⟨_,h,_⟩|⟨_,_,h,_⟩
  ·cases h; simp
  ·exact Nat.le_succ_of_le (h.chs _ rfl)
  ·cases h
 rcases h with ⟨_,h,_⟩|⟨_,o1,m,_,h⟩
 ·cases h
 rcases h with ⟨r,_,h,_⟩|⟨_,h,_⟩
 ·cases h
  exact AQ _ _ _ _ _ _ _
 ·exact Nat.le_succ_of_le (h.chs _ rfl)
theorem Inv.lendI {w0 w:World} {X:List Nat} {A:List Item} {S:ad} {v:Value} {ns:List Int} (h:Inv w0 X (A++[dl v ns]) S w):∃ S',Ext w0.heap.size X S S'/\RdSl S' 1 jW v ns/\Inv w0 X A S' w:=by
 obtain ⟨hl,ho⟩:=h.openRow
 rcases ho with ⟨rfl,h0⟩|⟨g,cap,cur,rfl,hnc,hcm,hcs,ht,hI⟩
 ·exact ⟨S,Ext.refl _ _ _,RowRd.ints (e:=bG) ⟨hl,.inl ⟨rfl,h0⟩⟩,h.sub (List.sublist_append_left _ _)⟩
 ·obtain ⟨S',h1,h2,h3⟩:=Inv.pub1 (A:=A) hI
  exact ⟨S',h2,RowRd.ints (e:=bG) ⟨hl,.inr ⟨g,cap,cur,rfl,h3,hnc,hcm,hcs,ht⟩⟩,h1⟩
section
attribute [local irreducible] Run CondV ao aI
theorem FA (c:Int) (S:ad):Pure Tryz.prog IP [.int .i64 c] S (.int .i64 (IA c)):=by
 intro w hI
 refine zl.2 ?_
 dsimp only[zl,aC]
 unfold IA
 refine ba ?_
 refine aH (fun h=>?_) (fun h=>?_)
 ·rw [if_pos h]; exact done hI rfl
 rw [if_neg h]
 refine ba ?_
 refine aH (fun h=>?_) (fun h=>?_)
 ·rw [if_pos h]; exact done hI rfl
 rw [if_neg h]
 refine ba ?_
 refine aH (fun h=>?_) (fun h=>?_)
 ·rw [if_pos h]; exact done hI rfl
 ·rw [if_neg h]; exact done hI rfl
end
abbrev m7 (sp sb mb:Nat) (pv qv:Value) (nc:Bool) (fuel used fr:Int) (gv cv:Value) (ccs:List (List Value)) (nv:Value) (ncs:List (List Value)) (mo:Int) (es:Array MapEntry) (ck:Nat) (tv:Value) (tr:List Int):List Item:=
 [dL sp (cJ sb pv qv nc fuel used fr gv cv nv mo),chI cv ccs,noI nv ncs]++aq sb mb es ck tv tr
theorem Ey {α:Type} (A B C:List α):List.Perm (A++B++C) (A++C++B):=by
 rw [List.append_assoc,List.append_assoc]
 exact List.Perm.append_left _ List.perm_append_comm
theorem SeaQ.none {sp sb mb:Nat} {pv qv:Value} {nc:Bool} {fuel used fr:Int} {gv cv:Value} {ccs:List (List Value)} {nv:Value} {ncs:List (List Value)} {mo:Int} {es:Array MapEntry} {ck:Nat} {tv:Value} {tr:List Int} {S:ad} :
  SeaQ sp sb mb pv qv nc fuel used Option.none (m7 sp sb mb pv qv nc fuel used fr gv cv ccs nv ncs mo es ck tv tr) S:=⟨es,ck,tv,tr,[],gv,cv,ccs,nv,ncs,mo,fr,rfl,fun s hs=>by cases hs⟩
section
attribute [local irreducible] Run CondV ao aI
set_option maxHeartbeats 4000000 in
theorem Hs {p:List C} (hp:∀ cl∈p,mI cl) (hpb:∀ cl∈p,cl.body.length<=1048576) (hpl:p.length<=20000) {nc:Bool} {s:SI} {o:Option SI} {e:Int} {fuel used:Int} (hu:0<=used/\used<=1000000)
  (hst:(used=fuel/\o=none/\e=2) ∨ (used≠fuel/\StepI p nc s o e)) (hs:tY p.length s) (hn:s.st.length+26 * eL s.chs+26 * p.length<=900000) (hcl:s.chs.length<=1000000) (hnl:s.nodes.length<=1000000)
  {S:ad} {gv pv qv cv nv tv:Value} {ms:List Nat} {tr:List Int} {es:Array MapEntry} {ccs ncs:List (List Value)} {sp sb mb ck:Nat} {mo:Int}
  (h4:RdSl S 5 (RdC S) pv p) (hG:GL S gv s.goals) (hK:SeaK S s.chs s.nodes s.st ms tr es ccs ncs) :
  Tri Tryz.prog wm [.pointer (some ⟨sp,0,none⟩)] (m7 sp sb mb pv qv nc fuel used s.st.length gv cv ccs nv ncs mo es ck tv tr) S
   fun q I' S'=>q=.int .i64 e/\∃ used',SeaQ sp sb mb pv qv nc fuel used' o I' S'/\(o.isSome=true->used'=used+1):=by
 intro w hI
 obtain ⟨X,hX⟩:∃ X,X=bp (m7 sp sb mb pv qv nc fuel used s.st.length gv cv ccs nv ncs mo es ck tv tr):=⟨_,rfl⟩
 rw [<- hX] at hI ⊢
 have htb:=hK.tb
 have hml:=hK.mkI.len
 have hcc:ccs.length=s.chs.length:=by have:=hK.ch.hc; rw [List.length_zip] at this; omega
 have hnc:=hK.nd.hc
 refine kA.2 ?_
 dsimp only[kA,aC]
 have hJ0:=hI
 clear hI
 refine ⟨fun D mL xy EY zp DU E3 GJ KZ x9 w_=>Fx D 0 [x9=.pointer (some ⟨sp,0,none⟩),KZ=.pointer (some ⟨sp,0,none⟩),GJ=.pointer (some ⟨sp,6,none⟩),E3=.int .i64 used,DU=.pointer (some ⟨sp,0,none⟩),zp=.pointer (some ⟨sp,0,none⟩),EY=.pointer (some ⟨sp,5,none⟩),xy=.int .i64 fuel,mL=.bool (decide (used=fuel))]/\Inv w X (m7 sp sb mb pv qv nc fuel used s.st.length gv cv ccs nv ncs mo es ck tv tr) S w_,⟨Fx.nil _ _,hJ0.draw⟩,⟨?_,?_,?_,?_,?_,?_,?_,?_,?_,trivial⟩,?_⟩
 all_goals (intro D bv; intros; rename_i mL xy EY zp DU E3 GJ KZ x9 w_ hA_; have hF_:=hA_.1; obtain ⟨⟨ci,cd,cj,cc,cm,cr,bO,cR,dt,_⟩,hI⟩:=hA_)
 ·exact ⟨hF_.set 0 rfl,hI⟩
 ·obtain rfl:=ci ‹_›
  refine al ?_
  exact ⟨hF_.set 1 rfl,hI⟩
 ·obtain rfl:=cd ‹_›
  refine aA lY ?_
  exact ⟨hF_.set 2 rfl,hI⟩
 ·obtain rfl:=cj ‹_›
  refine aT (b:=sp) hI 0 (c:=cJ sb pv qv nc fuel used s.st.length gv cv nv mo) aF rfl rfl ?_
  exact ⟨hF_.set 3 rfl,hI⟩
 ·exact ⟨hF_.set 4 rfl,hI⟩
 ·obtain rfl:=cm ‹_›
  refine al ?_
  exact ⟨hF_.set 5 rfl,hI⟩
 ·obtain rfl:=cr ‹_›
  refine aA CG ?_
  exact ⟨hF_.set 6 rfl,hI⟩
 ·obtain rfl:=bO ‹_›
  refine aT (b:=sp) hI 0 (c:=cJ sb pv qv nc fuel used s.st.length gv cv nv mo) aF rfl rfl ?_
  exact ⟨hF_.set 7 rfl,hI⟩
 ·obtain rfl:=cc ‹_›
  obtain rfl:=cR ‹_›
  refine ba ?_
  exact ⟨hF_.set 8 rfl,hI⟩
 obtain ⟨rfl,rfl,rfl,rfl,rfl,rfl,rfl,rfl,rfl,_⟩:=hF_.all
 clear hF_ ci cd cj cc cm cr bO cR dt
 refine aH (fun huf=>?_) (fun huf=>?_)
 ·rcases hst with ⟨_,rfl,rfl⟩|⟨h,_⟩
  ·exact ⟨_,_,S,rfl,hI,Ext.refl _ _ _,rfl,_,SeaQ.none,fun h=>by cases h⟩
  ·exact absurd huf h
 have hst:StepI p nc s o e:=by
  rcases hst with ⟨h,_⟩|⟨_,h⟩
  ·exact absurd h huf
  ·exact h
 obtain ⟨g,gs,t,hgs,hres,hcase⟩:=hst.inv
 have hgo:=hs.goals
 have hcu:=hs.cuts
 rw [hgs] at hG hgo hcu
 have hg1:=hgo g (List.mem_cons_self ..)
 obtain ⟨hut,hmt⟩:=qx hs.good hg1.1.1 hs.tab hres
 obtain ⟨gb,a0,a1,a2,a3,gnv,gE,gfz,rfl,hgb,hgt,hgn⟩:∃ gb a0 a1 a2 a3 gnv gE gfz,gv=.pointer (some ⟨gb,0,none⟩)/\S gb=some (.cells #[a0,a1,a2,a3,.int .i64 g.cut,.int .i64 g.up,gnv] gE gfz)/\RdT S [a0,a1,a2,a3] g.t/\GL S gnv gs:=by
  cases hG with
  | cons h1 h2 h3=>exact ⟨_,_,_,_,_,_,_,_,rfl,h1,h2,h3⟩
 refine al ?_
 refine ae hI 0 rfl lY aF rfl ?_
 refine bi (by omega) ?_
 refine al ?_
 refine cq hI 0 rfl lY aF rfl rfl rfl fun w' hI=>?_
 have hI:Inv w X (m7 sp sb mb pv qv nc fuel (used+1) s.st.length (.pointer (some ⟨gb,0,none⟩)) cv ccs nv ncs mo es ck tv tr) S w':=hI
 refine al ?_
 refine ae hI 0 rfl eN cE rfl ?_
 have hJ1:=hI
 repeat clear hI
 refine ⟨fun D x5 x4 GA JN wR FU KS H4 Iw Ke MS Na DM kL w_=>Fx D 0 [kL=.pointer (some ⟨sp,0,none⟩),DM=.pointer (some ⟨sp,0,none⟩),Na=.pointer (some ⟨sp,0,none⟩),MS=.pointer (some ⟨sb,0,none⟩),Ke=.pointer (some ⟨gb,0,none⟩),Iw=.pointer (some ⟨gb,0,none⟩),H4=.pointer (some ⟨gb,0,none⟩),KS=.agg #[a0,a1,a2,a3],True,True,True,GA=.bool (bB t),True,True,x5=.bool (bB t)]/\∃ (SN:ad) (cs':List Value) (b4:Nat) (c4:Array Value),Ext w.heap.size X S SN/\(D 8=true->cs'.length=4/\(∀ x∈cs',x.oneCell'=true)/\FU=.tuple #[.agg cs'.toArray,.bool (bB t)]/\(bB t=true->RdT SN cs' t))/\(D 9=true->D 8=true/\wR=.tuple #[.agg cs'.toArray,.bool (bB t)])/\(D 10=true->D 8=true/\JN=.agg cs'.toArray)/\(D 12=true->x4=.pointer (some ⟨b4,0,none⟩)/\c4.size=4)/\(D 13=true->D 8=true/\D 12=true/\c4=cs'.toArray)/\Inv w X (m7 sp sb mb pv qv nc fuel (used+1) s.st.length (.pointer (some ⟨gb,0,none⟩)) cv ccs nv ncs mo es ck tv tr++(match D 12 with|true=>[.blk b4 (.cells c4 ab)]|false=>[])) SN w_,⟨Fx.nil _ _,⟨S,[],0,#[],Ext.refl _ _ _,aM,aM,aM,aM,aM,by rw [List.append_nil]; exact hJ1.draw⟩⟩,⟨?_,?_,?_,?_,?_,?_,?_,?_,?_,?_,?_,?_,?_,?_,?_,trivial⟩,?_⟩
 all_goals (intro D bv; intros; rename_i x5 x4 GA JN wR FU KS H4 Iw Ke MS Na DM kL w_ hA_; have hF_:=hA_.1; obtain ⟨⟨ci,cd,cj,cc,cm,cr,bO,cR,dt,eP,cI,db,d6,fx,fS,_⟩,⟨SN,cs',b4,c4,hN,e8,e9,e10,e12,e13,hI⟩⟩:=hA_)
 ·exact ⟨hF_.set 0 rfl,⟨SN,cs',b4,c4,hN,e8,e9,e10,e12,e13,hI⟩⟩
 ·obtain rfl:=ci ‹_›
  refine al ?_
  exact ⟨hF_.set 1 rfl,⟨SN,cs',b4,c4,hN,e8,e9,e10,e12,e13,hI⟩⟩
 ·obtain rfl:=cd ‹_›
  refine aA dZ ?_
  exact ⟨hF_.set 2 rfl,⟨SN,cs',b4,c4,hN,e8,e9,e10,e12,e13,hI⟩⟩
 ·obtain rfl:=cj ‹_›
  refine aT (b:=sp) hI 0 (c:=cJ sb pv qv nc fuel (used+1) s.st.length (.pointer (some ⟨gb,0,none⟩)) cv nv mo) dz rfl rfl ?_
  exact ⟨hF_.set 3 rfl,⟨SN,cs',b4,c4,hN,e8,e9,e10,e12,e13,hI⟩⟩
 ·exact ⟨hF_.set 4 rfl,⟨SN,cs',b4,c4,hN,e8,e9,e10,e12,e13,hI⟩⟩
 ·obtain rfl:=cm ‹_›
  refine al ?_
  exact ⟨hF_.set 5 rfl,⟨SN,cs',b4,c4,hN,e8,e9,e10,e12,e13,hI⟩⟩
 ·obtain rfl:=cr ‹_›
  refine aA xO ?_
  exact ⟨hF_.set 6 rfl,⟨SN,cs',b4,c4,hN,e8,e9,e10,e12,e13,hI⟩⟩
 ·obtain rfl:=bO ‹_›
  refine bK (cs:=[a0,a1,a2,a3]) ac rfl (fun j v hj=>by rw [hI.cellS (hN.1 _ _ hgb)]; exact NK j v hj) ?_
  exact ⟨hF_.set 7 rfl,⟨SN,cs',b4,c4,hN,e8,e9,e10,e12,e13,hI⟩⟩
 ·obtain rfl:=cc ‹_›
  obtain rfl:=cR ‹_›
  have hI:=hI.perm (Ey [dL sp (cJ sb pv qv nc fuel (used+1) s.st.length (.pointer (some ⟨gb,0,none⟩)) cv nv mo),chI cv ccs,noI nv ncs] _ (aq sb mb es ck tv tr))
  refine Run.callE iA ir hI (oj hs.good hres hg1.1.1.1 (hgt.mono hN.1) (hK.km.upS hN.1)) fun v' I' S4 w_=>?_
  rintro ⟨rfl,cs',hl4,ho4,rfl,hR4⟩ hE4 hI
  have hI:=hI.perm (Ey [dL sp (cJ sb pv qv nc fuel (used+1) s.st.length (.pointer (some ⟨gb,0,none⟩)) cv nv mo),chI cv ccs,noI nv ncs] (aq sb mb es ck tv tr) _)
  have hN:=hN.trans hE4
  have e9:az D 8 9=true->az D 8 8=true/\wR=.tuple #[.agg cs'.toArray,.bool (bB t)]:=fun h=>absurd (e9 h).1 (by rw [bv]; decide)
  have e10:az D 8 10=true->az D 8 8=true/\JN=.agg cs'.toArray:=fun h=>absurd (e10 h).1 (by rw [bv]; decide)
  have e13:az D 8 13=true->az D 8 8=true/\az D 8 12=true/\c4=cs'.toArray:=fun h=>absurd (e13 h).1 (by rw [bv]; decide)
  obtain ⟨SN,hSN⟩:∃ a,a=S4:=⟨_,rfl⟩
  subst hSN
  have e8:az D 8 8=true->cs'.length=4/\(∀ x∈cs',x.oneCell'=true)/\Value.tuple #[.agg cs'.toArray,.bool (bB t)]=.tuple #[.agg cs'.toArray,.bool (bB t)]/\(bB t=true->RdT SN cs' t):=fun _=>⟨hl4,ho4,rfl,hR4⟩
  exact ⟨hF_.set 8 (by first|assumption|trivial),⟨SN,cs',b4,c4,hN,e8,e9,e10,e12,e13,hI⟩⟩
 ·have Ju:=dt ‹_›
  have e9:az D 9 9=true->az D 9 8=true/\FU=.tuple #[.agg cs'.toArray,.bool (bB t)]:=fun _=>⟨‹D 8=true›,(e8 ‹D 8=true›).2.2.1⟩
  exact ⟨hF_.set 9 (by first|assumption|trivial),⟨SN,cs',b4,c4,hN,e8,e9,e10,e12,e13,hI⟩⟩
 ·have LA:=eP ‹_›
  obtain ⟨q8,q9⟩:=e9 ‹D 9=true›
  subst q9
  refine ai rfl ?_
  have e10:az D 10 10=true->az D 10 8=true/\Value.agg cs'.toArray=.agg cs'.toArray:=fun _=>⟨q8,rfl⟩
  exact ⟨hF_.set 10 (by first|assumption|trivial),⟨SN,cs',b4,c4,hN,e8,e9,e10,e12,e13,hI⟩⟩
 ·have LA:=eP ‹_›
  obtain ⟨q8,q9⟩:=e9 ‹D 9=true›
  subst q9
  refine ai rfl ?_
  exact ⟨hF_.set 11 rfl,⟨SN,cs',b4,c4,hN,e8,e9,e10,e12,e13,hI⟩⟩
 ·rw [bv] at hI
  refine aL hI aW fun b4 w_ hI=>?_
  obtain ⟨c4,hc4⟩:∃ a:Array Value,a=#[.int .i64 0,.int .i64 0,.string ⟨#[]⟩,.slice none 0 0]:=⟨_,rfl⟩
  have e12:az D 12 12=true->Value.pointer (some ⟨b4,0,none⟩)=.pointer (some ⟨b4,0,none⟩)/\c4.size=4:=fun _=>⟨rfl,by rw [hc4]; rfl⟩
  have e13:az D 12 13=true->az D 12 8=true/\az D 12 12=true/\c4=cs'.toArray:=fun h=>absurd (e13 h).2.1 (by rw [bv]; decide)
  have hI:Inv w X (m7 sp sb mb pv qv nc fuel (used+1) s.st.length (.pointer (some ⟨gb,0,none⟩)) cv ccs nv ncs mo es ck tv tr++[.blk b4 (.cells c4 ab)]) SN w_:=by rw [hc4]; rw [List.append_nil] at hI; exact hI
  exact ⟨hF_.set 12 (by first|assumption|trivial),⟨SN,cs',b4,c4,hN,e8,e9,e10,e12,e13,hI⟩⟩
 ·have NN:=d6 ‹_›
  have NS:=cI ‹_›
  obtain ⟨q8,q10⟩:=e10 ‹D 10=true›
  obtain ⟨q12,q13⟩:=e12 ‹D 12=true›
  subst q10 q12
  rw [‹D 12=true›] at hI
  have hl4:=(e8 q8).1
  refine au hI 6 rfl ac (by simpa using hl4) q13 (by simpa using (e8 q8).2.1) fun w_ hI=>?_
  obtain ⟨c4,hc4⟩:∃ a,a=cs'.toArray:=⟨_,rfl⟩
  have e12:az D 13 12=true->Value.pointer (some ⟨b4,0,none⟩)=.pointer (some ⟨b4,0,none⟩)/\c4.size=4:=fun _=>⟨rfl,by rw [hc4]; simpa using hl4⟩
  have e13:az D 13 13=true->az D 13 8=true/\az D 13 12=true/\c4=cs'.toArray:=fun _=>⟨q8,‹D 12=true›,hc4⟩
  have hI:Inv w X (m7 sp sb mb pv qv nc fuel (used+1) s.st.length (.pointer (some ⟨gb,0,none⟩)) cv ccs nv ncs mo es ck tv tr++(match D 12 with|true=>[.blk b4 (.cells c4 ab)]|false=>[])) SN w_:=by rw [hc4,‹D 12=true›]; exact hI
  exact ⟨hF_.set 13 trivial,⟨SN,cs',b4,c4,hN,e8,e9,e10,e12,e13,hI⟩⟩
 ·obtain rfl:=db ‹_›
  exact ⟨hF_.set 14 rfl,⟨SN,cs',b4,c4,hN,e8,e9,e10,e12,e13,hI⟩⟩
 obtain ⟨rfl,rfl,rfl,rfl,rfl,rfl,rfl,rfl,Ju,LA,NS,rfl,NN,_,rfl,_⟩:=hF_.all
 clear hF_ ci cd cj cc cm cr bO cR dt eP cI db d6 fx fS
 obtain ⟨q8,q12,rfl⟩:=e13 (by assumption)
 obtain ⟨rfl,-⟩:=e12 q12
 obtain ⟨hl4,ho4,-,hR4⟩:=e8 q8
 rw [q12] at hI
 have hI:Inv w X ([.blk b4 (.cells cs'.toArray ab)]++m7 sp sb mb pv qv nc fuel (used+1) s.st.length (.pointer (some ⟨gb,0,none⟩)) cv ccs nv ncs mo es ck tv tr) SN w_:=hI.perm (List.perm_append_comm (l₁:=[_]))
 clear e8 e9 e10 e12 e13
 refine bU ?_
 rcases hcase with ⟨hsm,rfl,rfl⟩|⟨hsm,hcase⟩
 ·rw [hsm]
  refine av (fun _=>?_) (fun h=>by cases h)
  exact ⟨_,_,SN,rfl,hI.sub (List.sublist_cons_self _ _),hN,rfl,_,SeaQ.none,fun h=>by cases h⟩
 rw [hsm]
 refine av (fun h=>by cases h) (fun _=>?_)
 have hRt:=hR4 hsm
 obtain ⟨t0,t1,t2,t3,rfl⟩:=hRt.four
 have hE1:=hN
 have hnle:ncs.length<=1000000:=by omega
 refine al ?_
 refine ae hI 1 rfl dD gd rfl ?_
 refine gt hI 3 rfl oK ?_
 have hJ2:=hI
 clear hN
 repeat clear hI
 refine ⟨fun D xc xP wN xw zd xK x0 Bt AG Bv Bo AL AJ xf xZ w_=>Fx D 0 [xZ=.pointer (some ⟨sp,0,none⟩),xf=.pointer (some ⟨sp,0,none⟩),AJ=.pointer (some ⟨sp,0,none⟩),AL=.pointer (some ⟨sp,10,none⟩),Bo=nv,Bv=.agg #[t0,t1,t2,t3],AG=.pointer (some ⟨gb,0,none⟩),Bt=.pointer (some ⟨gb,0,none⟩),x0=.pointer (some ⟨gb,5,none⟩),xK=.int .i64 g.up,zd=.agg #[t0,t1,t2,t3,.int .i64 g.up,.int .i64 (-1)],True,True,xP=.pointer (some ⟨sp,0,none⟩),xc=.pointer (some ⟨sp,10,none⟩),True]/\∃ (SP:ad) (nvF nvR:Value) (ncsR:List (List Value)),Ext w.heap.size X SN SP/\(D 11=true->∃ b,xw=.slice (some ⟨b,0,none⟩) 1 1/\SP b=some (.cells #[t0,t1,t2,t3,.int .i64 g.up,.int .i64 (-1)] hH))/\(D 12=false->nv=nvF/\nv=nvR/\ncs=ncsR)/\(D 12=true->nvR=wN/\ncsR=ncs++[[t0,t1,t2,t3,.int .i64 g.up,.int .i64 (-1)]])/\(D 15=true->nvF=wN)/\(D 12=true->D 4=true)/\(D 15=true->D 12=true)/\Inv w X ([.blk b4 (.cells #[t0,t1,t2,t3] ab),dL sp (cJ sb pv qv nc fuel (used+1) s.st.length (.pointer (some ⟨gb,0,none⟩)) cv nvF mo),chI cv ccs,noI nvR ncsR]++aq sb mb es ck tv tr) SP w_,⟨Fx.nil _ _,⟨SN,nv,nv,ncs,Ext.refl _ _ _,aM,fun _=>⟨rfl,rfl,rfl⟩,aM,aM,aM,aM,hJ2.draw⟩⟩,⟨?_,?_,?_,?_,?_,?_,?_,?_,?_,?_,?_,?_,?_,?_,?_,?_,trivial⟩,?_⟩
 all_goals (intro D bv; intros; rename_i xc xP wN xw zd xK x0 Bt AG Bv Bo AL AJ xf xZ w_ hA_; have hF_:=hA_.1; obtain ⟨⟨ci,cd,cj,cc,cm,cr,bO,cR,dt,eP,cI,db,d6,fx,fS,gN,_⟩,⟨SP,nvF,nvR,ncsR,hN,e19,e20f,e20,e23,k20,k23,hI⟩⟩:=hA_)
 ·exact ⟨hF_.set 0 rfl,⟨SP,nvF,nvR,ncsR,hN,e19,e20f,e20,e23,k20,k23,hI⟩⟩
 ·exact ⟨hF_.set 1 rfl,⟨SP,nvF,nvR,ncsR,hN,e19,e20f,e20,e23,k20,k23,hI⟩⟩
 ·obtain rfl:=cd ‹_›
  refine al ?_
  exact ⟨hF_.set 2 rfl,⟨SP,nvF,nvR,ncsR,hN,e19,e20f,e20,e23,k20,k23,hI⟩⟩
 ·obtain rfl:=cj ‹_›
  refine aA dD ?_
  exact ⟨hF_.set 3 rfl,⟨SP,nvF,nvR,ncsR,hN,e19,e20f,e20,e23,k20,k23,hI⟩⟩
 ·obtain rfl:=cc ‹_›
  have f20:D 12=false:=Bool.eq_false_iff.2 fun h=>by rw [k20 h] at bv; cases bv
  have q:=(e20f f20).1
  refine aT (b:=sp) (v:=nv) hI 1 (c:=cJ sb pv qv nc fuel (used+1) s.st.length (.pointer (some ⟨gb,0,none⟩)) cv nvF mo) gd rfl (by rw [q]; rfl) ?_
  have k20:az D 4 12=true->az D 4 4=true:=fun _=>rfl
  exact ⟨hF_.set 4 (by first|assumption|trivial),⟨SP,nvF,nvR,ncsR,hN,e19,e20f,e20,e23,k20,k23,hI⟩⟩
 ·refine aw hI 0 ac rfl rfl ?_
  exact ⟨hF_.set 5 rfl,⟨SP,nvF,nvR,ncsR,hN,e19,e20f,e20,e23,k20,k23,hI⟩⟩
 ·exact ⟨hF_.set 6 rfl,⟨SP,nvF,nvR,ncsR,hN,e19,e20f,e20,e23,k20,k23,hI⟩⟩
 ·obtain rfl:=bO ‹_›
  refine al ?_
  exact ⟨hF_.set 7 rfl,⟨SP,nvF,nvR,ncsR,hN,e19,e20f,e20,e23,k20,k23,hI⟩⟩
 ·obtain rfl:=cR ‹_›
  refine aA yQ ?_
  exact ⟨hF_.set 8 rfl,⟨SP,nvF,nvR,ncsR,hN,e19,e20f,e20,e23,k20,k23,hI⟩⟩
 ·obtain rfl:=dt ‹_›
  refine bW aF (by rw [hI.cellS ((hE1.trans hN).1 _ _ hgb)]; rfl) ?_
  exact ⟨hF_.set 9 rfl,⟨SP,nvF,nvR,ncsR,hN,e19,e20f,e20,e23,k20,k23,hI⟩⟩
 ·obtain rfl:=cr ‹_›
  obtain rfl:=eP ‹_›
  refine Fp ?_
  exact ⟨hF_.set 10 rfl,⟨SP,nvF,nvR,ncsR,hN,e19,e20f,e20,e23,k20,k23,hI⟩⟩
 ·obtain rfl:=cI ‹_›
  refine du hI AM rfl (by omega) (by omega) fun b19 w_ hI=>?_
  have hI:Inv w X (([.blk b4 (.cells #[t0,t1,t2,t3] ab),dL sp (cJ sb pv qv nc fuel (used+1) s.st.length (.pointer (some ⟨gb,0,none⟩)) cv nvF mo),chI cv ccs,noI nvR ncsR]++aq sb mb es ck tv tr)++[.blk b19 (.cells #[t0,t1,t2,t3,.int .i64 g.up,.int .i64 (-1)] hH)]) SP w_:=hI
  obtain ⟨SP,hI,hE5,hb19⟩:=Inv.pub1 hI
  have hN:=hN.trans hE5
  have e19:az D 11 11=true->∃ b,Value.slice (some ⟨b19,0,none⟩) 1 1=.slice (some ⟨b,0,none⟩) 1 1/\SP b=some (.cells #[t0,t1,t2,t3,.int .i64 g.up,.int .i64 (-1)] hH):=fun _=>⟨b19,rfl,hb19⟩
  exact ⟨hF_.set 11 (by first|assumption|trivial),⟨SP,nvF,nvR,ncsR,hN,e19,e20f,e20,e23,k20,k23,hI⟩⟩
 ·have Ej:=cm ‹_›
  have PT:=db ‹_›
  obtain ⟨b,q19,hb⟩:=e19 ‹D 11=true›
  subst q19
  obtain ⟨q1,rfl,rfl⟩:=e20f bv
  refine cN hI 3 [t0,t1,t2,t3,.int .i64 g.up,.int .i64 (-1)] AM (by omega) (n:=ncs.length) (xs:=ncs.flatten) (by rw [Ej]; rfl) rfl (m:=1) (o:=0) (fun j u hj=>by rw [hI.cellS hb,Nat.zero_add]; simpa using hj) (Ku hRt.one) (by omega) (by omega) fun nvR w_ hI=>?_
  obtain ⟨ncsR,hR⟩:∃ a,a=ncs++[[t0,t1,t2,t3,.int .i64 g.up,.int .i64 (-1)]]:=⟨_,rfl⟩
  rw [dJ,<- hR] at hI
  have e20f:az D 12 12=false->nv=nvF/\nv=nvR/\ncs=ncsR:=fun h=>Bool.noConfusion h
  have e20:az D 12 12=true->nvR=nvR/\ncsR=ncs++[[t0,t1,t2,t3,.int .i64 g.up,.int .i64 (-1)]]:=fun _=>⟨rfl,hR⟩
  have e23:az D 12 15=true->nvF=nvR:=fun h=>absurd (k23 h) (by rw [bv]; decide)
  have k20:az D 12 12=true->az D 12 4=true:=fun _=>by assumption
  have k23:az D 12 15=true->az D 12 12=true:=fun _=>rfl
  have e19:az D 12 11=true->∃ b',Value.slice (some ⟨b,0,none⟩) 1 1=.slice (some ⟨b',0,none⟩) 1 1/\SP b'=some (.cells #[t0,t1,t2,t3,.int .i64 g.up,.int .i64 (-1)] hH):=fun _=>⟨b,rfl,hb⟩
  exact ⟨hF_.set 12 (by first|assumption|trivial),⟨SP,nvF,nvR,ncsR,hN,e19,e20f,e20,e23,k20,k23,hI⟩⟩
 ·obtain rfl:=ci ‹_›
  refine al ?_
  exact ⟨hF_.set 13 rfl,⟨SP,nvF,nvR,ncsR,hN,e19,e20f,e20,e23,k20,k23,hI⟩⟩
 ·obtain rfl:=fx ‹_›
  refine aA dD ?_
  exact ⟨hF_.set 14 rfl,⟨SP,nvF,nvR,ncsR,hN,e19,e20f,e20,e23,k20,k23,hI⟩⟩
 ·obtain rfl:=fS ‹_›
  have NN:=d6 ‹_›
  obtain ⟨q1,q2⟩:=e20 ‹D 12=true›
  subst q1
  obtain ⟨va,vcap,hv,_⟩:=hI.rowSlice' (i:=3) rfl
  have hcl:nvR.cells=#[nvR]:=by rw [hv]; rfl
  refine cB hI 1 (n:=1) (by rw [hcl]; rfl) (by rw [gd]; rfl) rfl (Nat.le_of_ble_eq_true rfl) (by rw [hcl,hv]; simp [Value.oneCell']) fun w_ hI=>?_
  rw [hcl] at hI
  obtain ⟨nvF,hF⟩:∃ a,a=nvR:=⟨_,rfl⟩
  have e23:az D 15 15=true->nvF=nvR:=fun _=>hF
  have e20f:az D 15 12=false->nv=nvF/\nv=nvR/\ncs=ncsR:=fun h=>absurd ‹D 12=true› (by rw [show D 12=false from h]; decide)
  have k23:az D 15 15=true->az D 15 12=true:=fun _=>‹D 12=true›
  have hI:Inv w X ([.blk b4 (.cells #[t0,t1,t2,t3] ab),dL sp (cJ sb pv qv nc fuel (used+1) s.st.length (.pointer (some ⟨gb,0,none⟩)) cv nvF mo),chI cv ccs,noI nvR ncsR]++aq sb mb es ck tv tr) SP w_:=by rw [hF]; exact hI
  exact ⟨hF_.set 15 trivial,⟨SP,nvF,nvR,ncsR,hN,e19,e20f,e20,e23,k20,k23,hI⟩⟩
 obtain ⟨rfl,rfl,rfl,rfl,Ej,rfl,rfl,rfl,rfl,rfl,rfl,PT,NN,rfl,rfl,_,_⟩:=hF_.all
 clear hF_ ci cd cj cc cm cr bO cR dt eP cI db d6 fx fS gN
 obtain ⟨q1,q2⟩:=e20 (by assumption)
 have q3:=e23 (by assumption)
 rw [q3,<- q1] at hI
 clear e19 e20f e20 e23 k20 k23 q3 q1
 have hE2:=hE1.trans hN
 have hnd2:Rows 6 (RdNI SP) ncsR (s.nodes++[⟨t,g.up,-1⟩]):=by
  rw [q2]
  exact (hK.nd.monoR fun _ _=>RdNI.mono hE2.1).snoc ⟨t0,t1,t2,t3,rfl,hRt.mono hN.1⟩ rfl
 have hnl2:(s.nodes++[(⟨t,g.up,-1⟩:NI)]).length=s.nodes.length+1:=by simp
 have hRt2:=hRt.mono hN.1
 refine aw hI 0 ac rfl rfl ?_
 refine Run.callPure yk yO hI (vd hRt2) fun w' hI=>?_
 obtain ⟨gnp,rfl⟩:=hgn.ptr
 rcases hcase with ⟨hct,hcase⟩|⟨hct,hcase⟩
 ·rw [hct]
  refine av (fun _=>?_) (fun h=>by cases h)
  refine al ?_
  refine ae hI 1 rfl C8 Id rfl ?_
  rcases hcase with ⟨rfl,rfl,rfl⟩|⟨rfl,rfl,rfl⟩
  ·refine av (fun _=>?_) (fun h=>by cases h)
   exact ⟨_,_,SP,rfl,hI.sub (List.sublist_cons_self _ _),hE2,rfl,_,SeaQ.none,fun h=>by cases h⟩
  ·refine av (fun h=>by cases h) (fun _=>?_)
   obtain ⟨ca,ccap,rfl,-⟩:=hI.rowSlice' (i:=2) rfl
   obtain ⟨kk,hkk⟩:∃ kk:Nat,g.cut=kk:=⟨g.cut.toNat,by have:=hg1.1.2; omega⟩
   have hkl:kk<=ccs.length:=by have:=hg1.2; omega
   have hJ3:=hI
   repeat clear hI
   refine ⟨fun D KL Kb MX MW Nb M5 Pn N7 OP OB Ps O3 w_=>Fx D 0 [O3=.pointer (some ⟨sp,0,none⟩),Ps=.pointer (some ⟨sp,0,none⟩),OB=.pointer (some ⟨sp,0,none⟩),OP=.pointer (some ⟨sp,9,none⟩),N7=.slice ca ccs.length ccap,Pn=.pointer (some ⟨gb,0,none⟩),M5=.pointer (some ⟨gb,0,none⟩),Nb=.pointer (some ⟨gb,4,none⟩),MW=.int .i64 (kk:Int),MX=.slice ca kk ccap,Kb=.pointer (some ⟨sp,0,none⟩),KL=.pointer (some ⟨sp,9,none⟩),True]/\∃ (nF:Nat),(D 12=false->ccs.length=nF)/\(D 12=true->D 4=true)/\(D 12=true->nF=kk)/\Inv w X ([.blk b4 (.cells #[t0,t1,t2,t3] ab),dL sp (cJ sb pv qv false fuel (used+1) s.st.length (.pointer (some ⟨gb,0,none⟩)) (.slice ca nF ccap) nvR mo),chI (.slice ca ccs.length ccap) ccs,noI nvR ncsR]++aq sb mb es ck tv tr) SP w_,⟨Fx.nil _ _,⟨ccs.length,fun _=>rfl,aM,aM,hJ3.draw⟩⟩,⟨?_,?_,?_,?_,?_,?_,?_,?_,?_,?_,?_,?_,?_,trivial⟩,?_⟩
   all_goals (intro D bv; intros; rename_i KL Kb MX MW Nb M5 Pn N7 OP OB Ps O3 w_ hA_; have hF_:=hA_.1; obtain ⟨⟨ci,cd,cj,cc,cm,cr,bO,cR,dt,eP,cI,db,d6,_⟩,⟨nF,e10f,k10,e10,hI⟩⟩:=hA_)
   ·exact ⟨hF_.set 0 rfl,⟨nF,e10f,k10,e10,hI⟩⟩
   ·exact ⟨hF_.set 1 rfl,⟨nF,e10f,k10,e10,hI⟩⟩
   ·obtain rfl:=cd ‹_›
    refine al ?_
    exact ⟨hF_.set 2 rfl,⟨nF,e10f,k10,e10,hI⟩⟩
   ·obtain rfl:=cj ‹_›
    refine aA cG ?_
    exact ⟨hF_.set 3 rfl,⟨nF,e10f,k10,e10,hI⟩⟩
   ·obtain rfl:=cc ‹_›
    have f10:D 12=false:=Bool.eq_false_iff.2 fun h=>by rw [k10 h] at bv; cases bv
    have q:=e10f f10
    refine aT (b:=sp) (v:=.slice ca ccs.length ccap) hI 1 (c:=cJ sb pv qv false fuel (used+1) s.st.length (.pointer (some ⟨gb,0,none⟩)) (.slice ca nF ccap) nvR mo) cU rfl (by rw [q]; rfl) ?_
    have k10:az D 4 12=true->az D 4 4=true:=fun _=>rfl
    exact ⟨hF_.set 4 rfl,⟨nF,e10f,k10,e10,hI⟩⟩
   ·exact ⟨hF_.set 5 rfl,⟨nF,e10f,k10,e10,hI⟩⟩
   ·obtain rfl:=cr ‹_›
    refine al ?_
    exact ⟨hF_.set 6 rfl,⟨nF,e10f,k10,e10,hI⟩⟩
   ·obtain rfl:=bO ‹_›
    refine aA yP ?_
    exact ⟨hF_.set 7 rfl,⟨nF,e10f,k10,e10,hI⟩⟩
   ·obtain rfl:=cR ‹_›
    refine bW (v:=.int .i64 (kk:Int)) aF (by rw [hI.cellS (hE2.1 _ _ hgb),<- hkk]; rfl) ?_
    exact ⟨hF_.set 8 rfl,⟨nF,e10f,k10,e10,hI⟩⟩
   ·obtain rfl:=cm ‹_›
    obtain rfl:=dt ‹_›
    refine GS hI 2 rfl er (n:=kk) hkl ?_
    exact ⟨hF_.set 9 rfl,⟨nF,e10f,k10,e10,hI⟩⟩
   ·obtain rfl:=ci ‹_›
    refine al ?_
    exact ⟨hF_.set 10 rfl,⟨nF,e10f,k10,e10,hI⟩⟩
   ·obtain rfl:=cI ‹_›
    refine aA cG ?_
    exact ⟨hF_.set 11 rfl,⟨nF,e10f,k10,e10,hI⟩⟩
   ·obtain rfl:=db ‹_›
    obtain rfl:=eP ‹_›
    refine cB hI 1 (n:=1) rfl (by rw [cU]; rfl) rfl (Nat.le_of_ble_eq_true rfl) (by simp [Value.cells,Value.oneCell']) fun w_ hI=>?_
    obtain ⟨nF,hF⟩:∃ a,a=kk:=⟨_,rfl⟩
    have e10f:az D 12 12=false->ccs.length=nF:=fun h=>Bool.noConfusion h
    have k10:az D 12 12=true->az D 12 4=true:=fun _=>by assumption
    have e10:az D 12 12=true->nF=kk:=fun _=>hF
    have hI:Inv w X ([.blk b4 (.cells #[t0,t1,t2,t3] ab),dL sp (cJ sb pv qv false fuel (used+1) s.st.length (.pointer (some ⟨gb,0,none⟩)) (.slice ca nF ccap) nvR mo),chI (.slice ca ccs.length ccap) ccs,noI nvR ncsR]++aq sb mb es ck tv tr) SP w_:=by rw [hF]; exact hI
    exact ⟨hF_.set 12 trivial,⟨nF,e10f,k10,e10,hI⟩⟩
   obtain ⟨rfl,rfl,rfl,rfl,rfl,rfl,rfl,rfl,rfl,rfl,rfl,rfl,_,_⟩:=hF_.all
   clear hF_ ci cd cj cc cm cr bO cR dt eP cI db d6
   have q10:=e10 (by assumption)
   rw [q10] at hI
   clear e10 e10f k10
   have hI:=hI.cutRow (i:=2) rfl (n:=kk) hkl hK.ch.hk
   refine al ?_
   refine aA iJ ?_
   refine bW (v:=.pointer gnp) cE (by rw [hI.cellS (hE2.1 _ _ hgb)]; rfl) ?_
   refine al ?_
   refine cq hI 1 rfl eN cE rfl rfl rfl fun w' hI=>?_
   refine ⟨_,_,SP,rfl,hI.sub (List.sublist_cons_self _ _),hE2,rfl,_,⟨es,ck,tv,tr,ms.take kk,.pointer gnp,.slice ca kk ccap,ccs.take kk,nvR,ncsR,mo,_,rfl,fun s' hs'=>?_⟩,fun _=>rfl⟩
   cases hs'
   refine ⟨rfl,hgn.mono hE2.1,hK.km.upS hE2.1,?_,hnd2,?_,htb⟩
   ·have:=(hK.ch.monoR fun _ _=>RdCI.mono hE2.1).take kk
    rw [Fq] at this
    rw [hkk]
    exact this
   ·rw [hkk]
    exact hK.mkI.cut (by omega)
 rw [hct]
 refine av (fun h=>by cases h) (fun _=>?_)
 refine aw hI 0 ac rfl rfl ?_
 refine Run.callPure lu lL hI (jM hRt2) fun w' hI=>?_
 have hwt:=fE hsm hut
 rcases hcase with ⟨hbt,st',c,hB,hcase⟩|⟨hbt,hcase⟩
 ·rw [hbt]
  refine av (fun _=>?_) (fun h=>by cases h)
  have hJ4:=hI
  repeat clear hI
  refine ⟨fun D x7 N5 O7 MM MQ M8 MP w_=>Fx D 0 [MP=.pointer (some ⟨sp,0,none⟩),M8=.pointer (some ⟨sp,0,none⟩),MQ=.pointer (some ⟨sp,0,none⟩),MM=.pointer (some ⟨sb,0,none⟩),O7=.agg #[t0,t1,t2,t3],N5=.int .i64 c,x7=.int .i64 c]/\∃ (es3:Array MapEntry) (ck3:Nat) (tv3:Value) (tr3:List Int),(D 5=false->es=es3/\ck=ck3/\tv=tv3/\tr=tr3)/\(D 5=true->KnownM SP es3 st'/\Tr s.st st' tr tr3)/\Inv w X ([.blk b4 (.cells #[t0,t1,t2,t3] ab),dL sp (cJ sb pv qv nc fuel (used+1) s.st.length (.pointer (some ⟨gb,0,none⟩)) cv nvR mo),chI cv ccs,noI nvR ncsR]++aq sb mb es3 ck3 tv3 tr3) SP w_,⟨Fx.nil _ _,⟨es,ck,tv,tr,fun _=>⟨rfl,rfl,rfl,rfl⟩,aM,hJ4.draw⟩⟩,⟨?_,?_,?_,?_,?_,?_,?_,trivial⟩,?_⟩
  all_goals (intro D bv; intros; rename_i x7 N5 O7 MM MQ M8 MP w_ hA_; have hF_:=hA_.1; obtain ⟨⟨ci,cd,cj,cc,cm,cr,bO,_⟩,⟨es3,ck3,tv3,tr3,e5f,e5,hI⟩⟩:=hA_)
  ·exact ⟨hF_.set 0 rfl,⟨es3,ck3,tv3,tr3,e5f,e5,hI⟩⟩
  ·obtain rfl:=ci ‹_›
   refine al ?_
   exact ⟨hF_.set 1 rfl,⟨es3,ck3,tv3,tr3,e5f,e5,hI⟩⟩
  ·obtain rfl:=cd ‹_›
   refine aA dZ ?_
   exact ⟨hF_.set 2 rfl,⟨es3,ck3,tv3,tr3,e5f,e5,hI⟩⟩
  ·obtain rfl:=cj ‹_›
   refine aT (b:=sp) hI 1 (c:=cJ sb pv qv nc fuel (used+1) s.st.length (.pointer (some ⟨gb,0,none⟩)) cv nvR mo) dz rfl rfl ?_
   exact ⟨hF_.set 3 rfl,⟨es3,ck3,tv3,tr3,e5f,e5,hI⟩⟩
  ·refine aw hI 0 ac rfl rfl ?_
   exact ⟨hF_.set 4 rfl,⟨es3,ck3,tv3,tr3,e5f,e5,hI⟩⟩
  ·obtain rfl:=cc ‹_›
   obtain rfl:=cm ‹_›
   obtain ⟨rfl,rfl,rfl,rfl⟩:=e5f bv
   refine Run.callE (A:=[_,_,_,_]) vP wy hI (CO (N:=s.st.length) (by omega) hs.good ⟨hut,by omega⟩ hmt.okN hbt hB hRt2 (hK.km.upS hE2.1) (by omega)) fun v' I' S4 w_=>?_
   rintro ⟨eS,rfl,es3,ck3,tv3,tr3,rfl,hkm3,_,hT3⟩ _ hI
   rw [eS] at hI
   have e5f:az D 5 5=false->es=es3/\ck=ck3/\tv=tv3/\tr=tr3:=fun h=>Bool.noConfusion h
   have e5:az D 5 5=true->KnownM SP es3 st'/\Tr s.st st' tr tr3:=fun _=>⟨hkm3,hT3⟩
   exact ⟨hF_.set 5 rfl,⟨es3,ck3,tv3,tr3,e5f,e5,hI⟩⟩
  ·obtain rfl:=cr ‹_›
   exact ⟨hF_.set 6 rfl,⟨es3,ck3,tv3,tr3,e5f,e5,hI⟩⟩
  obtain ⟨rfl,rfl,rfl,rfl,rfl,rfl,rfl,_⟩:=hF_.all
  clear hF_ ci cd cj cc cm cr bO
  obtain ⟨hkm3,hT3⟩:=e5 (by assumption)
  clear e5 e5f
  have hgd:=hB.good hs.good hbt ⟨hut,by omega⟩
  have hlen:=hgd.len
  have hsh:=hT3.short
  have hK3:SeaK SP s.chs (s.nodes++[⟨t,g.up,-1⟩]) st' ms tr3 es3 ccs ncsR:=⟨hkm3,hK.ch.monoR fun _ _=>RdCI.mono hE2.1,hnd2,hK.mkI.go (TrG.of hT3),by omega⟩
  refine ba ?_
  rcases hcase with ⟨rfl,rfl,rfl⟩|⟨rfl,hb,rfl⟩|⟨h0,h1,rfl,rfl⟩
  ·refine aH (fun _=>?_) (fun h=>absurd rfl h)
   refine al ?_
   refine aA iJ ?_
   refine bW (v:=.pointer gnp) cE (by rw [hI.cellS (hE2.1 _ _ hgb)]; rfl) ?_
   refine al ?_
   refine cq hI 1 rfl eN cE rfl rfl rfl fun w' hI=>?_
   refine ⟨_,_,SP,rfl,hI.sub (List.sublist_cons_self _ _),hE2,rfl,_,⟨es3,ck3,tv3,tr3,ms,.pointer gnp,cv,ccs,nvR,ncsR,mo,_,rfl,fun s' hs'=>?_⟩,fun _=>rfl⟩
   cases hs'
   exact ⟨by rw [hlen],hgn.mono hE2.1,hK3⟩
  ·refine aH (fun h=>by cases h) (fun _=>?_)
   refine ba ?_
   refine aH (fun _=>?_) (fun h=>absurd rfl h)
   refine Run.callE (A:=[_]) gg fY hI (p9 hp hpb hb (fq hs.chs _) (by omega) hcl hlen (h4.mono hE2.1 fun _ _=>RdC.mono hE2.1) hK3) fun v' I' S9 w'=>?_
   rintro ⟨rfl,hQ⟩ hE9 hI
   exact ⟨_,_,S9,rfl,hI.sub (List.sublist_cons_self _ _),hE2.trans hE9,rfl,_,hQ,fun _=>rfl⟩
  ·refine aH (fun h=>absurd h h0) (fun _=>?_)
   refine ba ?_
   refine aH (fun h=>absurd h h1) (fun _=>?_)
   refine Run.callPure Gv Hr hI (FA c SP) fun w' hI=>?_
   exact ⟨_,_,SP,rfl,hI.sub (List.sublist_cons_self _ _),hE2,rfl,_,SeaQ.none,fun h=>by cases h⟩
 rw [hbt]
 refine av (fun h=>by cases h) (fun _=>?_)
 obtain ⟨pa,pcap,hpv,-⟩:=id h4
 subst hpv
 have hpP:=h4.monoC hE2.1
 have hJ5:=hI
 repeat clear hI
 refine ⟨fun D x8 Lm Pv OO Pz ON Pi O4 w_=>Fx D 0 [O4=.pointer (some ⟨sp,0,none⟩),Pi=.pointer (some ⟨sp,0,none⟩),ON=.pointer (some ⟨sp,1,none⟩),Pz=.slice pa p.length pcap,OO=.agg #[t0,t1,t2,t3],Pv=.agg (dF t).cells.toArray,True,True]/\(D 7=true->D 6=true/\x8=Lm)/\Inv w X (([.blk b4 (.cells #[t0,t1,t2,t3] ab),dL sp (cJ sb (.slice pa p.length pcap) qv nc fuel (used+1) s.st.length (.pointer (some ⟨gb,0,none⟩)) cv nvR mo),chI cv ccs,noI nvR ncsR]++aq sb mb es ck tv tr)++(match D 6 with|true=>[dl Lm (fX p t)]|false=>[])) SP w_,⟨Fx.nil _ _,⟨aM,by rw [List.append_nil]; exact hJ5.draw⟩⟩,⟨?_,?_,?_,?_,?_,?_,?_,?_,trivial⟩,?_⟩
 all_goals (intro D bv; intros; rename_i x8 Lm Pv OO Pz ON Pi O4 w_ hA_; have hF_:=hA_.1; obtain ⟨⟨ci,cd,cj,cc,cm,cr,bO,cR,_⟩,⟨e7,hI⟩⟩:=hA_)
 ·exact ⟨hF_.set 0 rfl,⟨e7,hI⟩⟩
 ·obtain rfl:=ci ‹_›
  refine al ?_
  exact ⟨hF_.set 1 rfl,⟨e7,hI⟩⟩
 ·obtain rfl:=cd ‹_›
  refine aA lU ?_
  exact ⟨hF_.set 2 rfl,⟨e7,hI⟩⟩
 ·obtain rfl:=cj ‹_›
  refine aT (b:=sp) hI 1 (c:=cJ sb (.slice pa p.length pcap) qv nc fuel (used+1) s.st.length (.pointer (some ⟨gb,0,none⟩)) cv nvR mo) oq rfl rfl ?_
  exact ⟨hF_.set 3 rfl,⟨e7,hI⟩⟩
 ·refine aw hI 0 ac rfl rfl ?_
  exact ⟨hF_.set 4 rfl,⟨e7,hI⟩⟩
 ·obtain rfl:=cm ‹_›
  refine Run.callPure ug uv hI (lq hRt2) fun w_ hI=>?_
  exact ⟨hF_.set 5 rfl,⟨e7,hI⟩⟩
 ·obtain rfl:=cc ‹_›
  obtain rfl:=cr ‹_›
  rw [bv,List.append_nil] at hI
  refine Run.call0 vX vQ hI (um (dF t) hpP (by omega)) fun v1 I' S2 w_=>?_
  rintro ⟨rfl,rfl⟩ _ hI
  have e7:az D 6 7=true->az D 6 6=true/\x8=v1:=fun h=>absurd (e7 h).1 (by rw [bv]; decide)
  exact ⟨hF_.set 6 (by first|assumption|trivial),⟨e7,hI⟩⟩
 ·have Jc:=bO ‹_›
  have e7:az D 7 7=true->az D 7 6=true/\Lm=Lm:=fun _=>⟨by assumption,rfl⟩
  exact ⟨hF_.set 7 (by first|assumption|trivial),⟨e7,hI⟩⟩
 obtain ⟨rfl,rfl,rfl,rfl,rfl,rfl,Jc,Ly,_⟩:=hF_.all
 clear hF_ ci cd cj cc cm cr bO cR
 obtain ⟨q6,rfl⟩:=e7 (by assumption)
 rw [q6] at hI
 clear e7
 obtain ⟨S7,hE7,hRl,hI7⟩:=Inv.lendI hI
 clear hI
 obtain ⟨la,lcap,rfl,-⟩:=id hRl
 have hE27:=hE2.trans hE7
 refine aD hRl dd ?_
 refine ba ?_
 have hfl:(fX p t).length<=p.length:=oS _ _ _
 rcases hcase with ⟨hf,rfl,rfl⟩|⟨hf,o1,m,hT,hcase⟩
 ·refine aH (fun _=>?_) (fun h=>absurd (by rw [hf]; rfl) h)
  exact ⟨_,_,S7,rfl,hI7.sub (List.sublist_cons_self _ _),hE27,rfl,_,SeaQ.none,fun h=>by cases h⟩
 refine aH (fun h=>absurd (List.eq_nil_of_length_eq_zero (by omega)) hf) (fun _=>?_)
 refine ⟨fun v w'=>v=.slice la (fX p t).length lcap/\Inv w X ([.blk b4 (.cells #[t0,t1,t2,t3] ab)]++m7 sp sb mb (.slice pa p.length pcap) qv nc fuel (used+1) s.st.length (.pointer (some ⟨gb,0,none⟩)) cv ccs nvR ncsR mo es ck tv tr) S7 w',?_,?_⟩
 ·refine al ?_
  refine ae hI7 1 rfl BO Id rfl ?_
  refine av (fun h=>by cases h) (fun _=>?_)
  exact ⟨rfl,hI7⟩
 repeat clear hI7
 intro vl _ _ _ _ _ _ _ _ _ _ _ w'
 rintro ⟨rfl,hI⟩
 have hJ7:=hI
 clear hI
 have hK7:SeaK S7 s.chs (s.nodes++[⟨t,g.up,-1⟩]) s.st ms tr es ccs ncsR:=⟨hK.km.upS hE27.1,hK.ch.monoR fun _ _=>RdCI.mono hE27.1,hnd2.monoR fun _ _=>RdNI.mono hE7.1,hK.mkI,htb⟩
 refine ⟨fun D Kj KE Lv KD Lr Pf Oc PD OW w_=>Fx D 0 [OW=.pointer (some ⟨sp,0,none⟩),PD=.agg #[t0,t1,t2,t3],Oc=.int .i64 (ncs.length:Int),Pf=.slice la (fX p t).length lcap,Lr=.pointer (some ⟨gb,0,none⟩),KD=.pointer (some ⟨gb,0,none⟩),Lv=.pointer (some ⟨gb,6,none⟩),KE=.pointer gnp,True]/\∃ (I1:List Item) (S8:ad),(D 8=false->I1=m7 sp sb mb (.slice pa p.length pcap) qv nc fuel (used+1) s.st.length (.pointer (some ⟨gb,0,none⟩)) cv ccs nvR ncsR mo es ck tv tr/\S8=S7)/\(D 8=true->CT sp sb mb (.slice pa p.length pcap) qv nc fuel (used+1) (.pointer (some ⟨gb,0,none⟩)) s.chs (s.nodes++[⟨t,g.up,-1⟩]) s.st tr ms t (ncs.length:Int) gs o1 m Kj I1 S8)/\Ext w.heap.size X S7 S8/\Inv w X ([.blk b4 (.cells #[t0,t1,t2,t3] ab)]++I1) S8 w_,⟨Fx.nil _ _,⟨_,S7,fun _=>⟨rfl,rfl⟩,aM,Ext.refl _ _ _,hJ7.draw⟩⟩,⟨?_,?_,?_,?_,?_,?_,?_,?_,?_,trivial⟩,?_⟩
 all_goals (intro D bv; intros; rename_i Kj KE Lv KD Lr Pf Oc PD OW w_ hA_; have hF_:=hA_.1; obtain ⟨⟨ci,cd,cj,cc,cm,cr,bO,cR,dt,_⟩,⟨I1,S8,e8f,e8,hN8,hI⟩⟩:=hA_)
 ·exact ⟨hF_.set 0 rfl,⟨I1,S8,e8f,e8,hN8,hI⟩⟩
 ·refine aw hI 0 ac rfl rfl ?_
  exact ⟨hF_.set 1 rfl,⟨I1,S8,e8f,e8,hN8,hI⟩⟩
 ·exact ⟨hF_.set 2 rfl,⟨I1,S8,e8f,e8,hN8,hI⟩⟩
 ·exact ⟨hF_.set 3 rfl,⟨I1,S8,e8f,e8,hN8,hI⟩⟩
 ·exact ⟨hF_.set 4 rfl,⟨I1,S8,e8f,e8,hN8,hI⟩⟩
 ·obtain rfl:=cm ‹_›
  refine al ?_
  exact ⟨hF_.set 5 rfl,⟨I1,S8,e8f,e8,hN8,hI⟩⟩
 ·obtain rfl:=cr ‹_›
  refine aA iJ ?_
  exact ⟨hF_.set 6 rfl,⟨I1,S8,e8f,e8,hN8,hI⟩⟩
 ·obtain rfl:=bO ‹_›
  refine bW (v:=.pointer gnp) cE (by rw [hI.cellS ((hE27.trans hN8).1 _ _ hgb)]; rfl) ?_
  exact ⟨hF_.set 7 rfl,⟨I1,S8,e8f,e8,hN8,hI⟩⟩
 ·obtain rfl:=ci ‹_›
  obtain rfl:=cd ‹_›
  obtain rfl:=cj ‹_›
  obtain rfl:=cc ‹_›
  obtain rfl:=cR ‹_›
  obtain ⟨q1,q2⟩:=e8f bv
  rw [q1,q2] at hI
  refine Run.callE (A:=[_]) mG lZ hI (A0 hp hpb hT hs.good hs.tab ⟨⟨hut,by omega⟩,hmt⟩ (by omega) (hRt2.mono hE7.1) hRl (hgn.mono hE27.1) (h4.monoC hE27.1) hK7 ⟨by omega,by omega⟩ hcl) fun v' I1 S8 w_=>?_
  intro hPT hN8 hI
  have e8f:az D 8 8=false->I1=m7 sp sb mb (.slice pa p.length pcap) qv nc fuel (used+1) s.st.length (.pointer (some ⟨gb,0,none⟩)) cv ccs nvR ncsR mo es ck tv tr/\S8=S7:=fun h=>Bool.noConfusion h
  have e8:az D 8 8=true->CT sp sb mb (.slice pa p.length pcap) qv nc fuel (used+1) (.pointer (some ⟨gb,0,none⟩)) s.chs (s.nodes++[⟨t,g.up,-1⟩]) s.st tr ms t (ncs.length:Int) gs o1 m v' I1 S8:=fun _=>hPT
  exact ⟨hF_.set 8 (by first|assumption|trivial),⟨I1,S8,e8f,e8,hN8,hI⟩⟩
 obtain ⟨rfl,rfl,rfl,rfl,rfl,rfl,rfl,rfl,Ju,_⟩:=hF_.all
 clear hF_ ci cd cj cc cm cr bO cR dt
 have hPT:=e8 (by assumption)
 clear e8 e8f
 obtain ⟨rfl,es4,ck4,tv4,tr4,ms4,gv4,cv4,ccs4,nv4,ncs4,mo4,rfl,hm⟩:=hPT
 have hE9:=hE27.trans hN8
 have hI9:=hI.sub (List.sublist_cons_self _ _)
 obtain ⟨j1,j2,j3⟩:=hT.ok hp hs.good hs.tab ⟨⟨hut,by omega⟩,hmt⟩
 rcases hcase with ⟨r,rfl,rfl,rfl⟩|⟨rfl,hb,rfl⟩
 ·refine av (fun _=>?_) (fun h=>by cases h)
  obtain ⟨_,_,_,j4,j5,_⟩:=j3 r rfl
  refine ⟨_,_,S8,rfl,hI9,hE9,rfl,_,⟨es4,ck4,tv4,tr4,ms4,gv4,cv4,ccs4,nv4,ncs4,mo4,_,rfl,fun s' hs'=>?_⟩,fun _=>rfl⟩
  cases hs'
  rw [<- hnc]
  exact ⟨by show (m:Int)=(r.st.length:Int); omega,hm.1,hm.2⟩
 ·refine av (fun h=>by cases h) (fun _=>?_)
  obtain ⟨rfl,rfl,rfl,hKn⟩:=hm
  have hm':=j2 rfl
  refine Run.callE (A:=[]) gg fY hI9 (p9 hp hpb hb ((fq hs.chs _).mono j1 (Nat.le_refl _)) (by omega) hcl (cW j1) (h4.monoC hE9.1) hKn) fun v' I' S9 w'=>?_
  rintro ⟨rfl,hQ⟩ hE10 hI
  exact ⟨_,_,S9,rfl,hI,hE9.trans hE10,rfl,_,hQ,fun _=>rfl⟩
end
end Go.Proofs.YtcpgagfdeflbkaaGreatDoor
