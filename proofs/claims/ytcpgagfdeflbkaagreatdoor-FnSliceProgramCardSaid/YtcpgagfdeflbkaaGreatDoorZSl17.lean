/- impl's search in memory: a step. -/
import Derived.Test.YtcpgagfdeflbkaaGreatDoorZSl16
import Derived.Test.YtcpgagfdeflbkaaGreatDoorZSl4
namespace Go.Proofs.YtcpgagfdeflbkaaGreatDoor
section
open Go Go.RowKit
theorem RG {a b c d e f g:Value}:∀ (j:Nat) (v:Value),([a,b,c,d]:List Value)[j]?=some v->(#[a,b,c,d,e,f,g]:Array Value)[0+j]?=some v
 | 0,_,h=>h
 | 1,_,h=>h
 | 2,_,h=>h
 | 3,_,h=>h
 | _+4,_,h=>by simp at h
theorem Ht {α β:Type}:∀ (k:Nat) (a:List α) (b:List β),(a.zip b).take k=(a.take k).zip (b.take k)
 | 0,a,b=>by simp
 | k+1,[],b=>by simp
 | k+1,x::xs,[]=>by simp
 | k+1,x::xs,y::ys=>by
  rw [List.zip_cons_cons,qq,qq,qq,List.zip_cons_cons,Ht k xs ys]
theorem Of {a0 a1 a2 a3:Value} (h:∀ u∈[a0,a1,a2,a3],u.oneCell'=true) {m n:Int}:∀ u∈[a0,a1,a2,a3,.int .i64 m,.int .i64 n],u.oneCell'=true:=by
 intro u hu
 simp only [cQ,ji,jg] at hu
 rcases hu with rfl|rfl|rfl|rfl|rfl|rfl <;> first|rfl|exact h _ (by simp)
theorem StepI.inv {p:List C} {nc:Bool} {s:SI} {o:Option SI} {e:Int} (h:StepI p nc s o e):∃ g gs t,s.goals=g::gs/\Res s.st (.one g.t t)/\
  ((bS t=false/\o=none/\e=3) ∨ (bS t=true/\
   ((fp t=true/\((nc=true/\o=none/\e=0) ∨ (nc=false/\o=some ⟨s.st,gs,s.chs.take g.cut.toNat,s.nodes++[⟨t,g.up,-1⟩]⟩/\e=-1))) ∨
       (fp t=false/\((cr t=true/\∃ st c,Blt s.st t c st/\((c=0/\o=some ⟨st,gs,s.chs,s.nodes++[⟨t,g.up,-1⟩]⟩/\e=-1) ∨ (c=1/\BackI p s.chs s.st.length (s.nodes++[⟨t,g.up,-1⟩]) o/\e=if o.isSome then -1 else 0) ∨ (c≠0/\c≠1/\o=none/\e=NF c))) ∨
    (cr t=false/\((iz p t=[]/\o=none/\e=8) ∨ (iz p t≠[]/\∃ o1 m,TryI p t (iz p t) s.st o1 m/\
     ((∃ r,o1=some r/\o=some (jL s.chs (s.nodes++[⟨t,g.up,-1⟩]) t s.nodes.length gs s.st r)/\e=-1) ∨ (o1=none/\BackI p s.chs m (s.nodes++[⟨t,g.up,-1⟩]) o/\e=if o.isSome then -1 else 0)))))))))):=by
 cases h with
 | large h1 h2 h3=>exact ⟨_,_,_,h1,h2,.inl ⟨h3,rfl,rfl⟩⟩
 | noCut h1 h2 h3 h4 h5=>exact ⟨_,_,_,h1,h2,.inr ⟨h3,.inl ⟨h4,.inl ⟨h5,rfl,rfl⟩⟩⟩⟩
 | cut h1 h2 h3 h4 h5=>exact ⟨_,_,_,h1,h2,.inr ⟨h3,.inl ⟨h4,.inr ⟨h5,rfl,rfl⟩⟩⟩⟩
 | solved h1 h2 h3 h4 h5 h6=>exact ⟨_,_,_,h1,h2,.inr ⟨h3,.inr ⟨h4,.inl ⟨h5,_,_,h6,.inl ⟨rfl,rfl,rfl⟩⟩⟩⟩⟩
 | fail h1 h2 h3 h4 h5 h6 h7=>exact ⟨_,_,_,h1,h2,.inr ⟨h3,.inr ⟨h4,.inl ⟨h5,_,_,h6,.inr (.inl ⟨rfl,h7,rfl⟩)⟩⟩⟩⟩
 | err h1 h2 h3 h4 h5 h6 h7 h8=>exact ⟨_,_,_,h1,h2,.inr ⟨h3,.inr ⟨h4,.inl ⟨h5,_,_,h6,.inr (.inr ⟨h7,h8,rfl,rfl⟩)⟩⟩⟩⟩
 | unknown h1 h2 h3 h4 h5 h6=>exact ⟨_,_,_,h1,h2,.inr ⟨h3,.inr ⟨h4,.inr ⟨h5,.inl ⟨h6,rfl,rfl⟩⟩⟩⟩⟩
 | took h1 h2 h3 h4 h5 h6 h7=>exact ⟨_,_,_,h1,h2,.inr ⟨h3,.inr ⟨h4,.inr ⟨h5,.inr ⟨h6,_,_,h7,.inl ⟨_,rfl,rfl,rfl⟩⟩⟩⟩⟩⟩
 | back h1 h2 h3 h4 h5 h6 h7 h8=>exact ⟨_,_,_,h1,h2,.inr ⟨h3,.inr ⟨h4,.inr ⟨h5,.inr ⟨h6,_,_,h7,.inr ⟨rfl,h8,rfl⟩⟩⟩⟩⟩⟩
theorem Et (cs:List CI) (ns:List NI) (g:T) (a:Int) (rest:List GI) (b:aj) (r:HI):(jL cs ns g a rest b r).chs.length<=cs.length+1:=by
 show (cs++(if r.l=[] then [] else [_])).length<=_
 rw [bh]
 split <;> simp
theorem BackI.chs {p:List C} {cs:List CI} {n:Nat} {ns:List NI} {o:Option SI} (h:BackI p cs n ns o):∀ s,o=some s->s.chs.length<=cs.length:=by
 induction h with
 | nil=>intro s h; cases h
 | @hit cs c n m ns r ht=>
  intro s hs
  cases hs
  have:=Et cs (ns.take c.taken) c.goal c.node c.rest (bU c.binds n) r
  rw [bh]
  exact this
 | miss _ _ ih=>
  intro s hs
  have:=ih s hs
  rw [bh]
  omega
theorem StepI.chs {p:List C} {nc:Bool} {s s':SI} {e:Int} (h:StepI p nc s (some s') e):s'.chs.length<=s.chs.length+1:=by
 obtain ⟨g,gs,t,_,_,h⟩:=h.inv
 rcases h with ⟨_,h,_⟩|⟨_,h⟩
 ·cases h
 rcases h with ⟨_,h⟩|⟨_,h⟩
 ·rcases h with ⟨_,h,_⟩|⟨_,h,_⟩
  ·cases h
  ·cases h
   simp only [dN]
   omega
 rcases h with ⟨_,st,c,_,h⟩|⟨_,h⟩
 ·rcases h with ⟨_,h,_⟩|⟨_,h,_⟩|⟨_,_,h,_⟩
  ·cases h; simp
  ·exact KF (h.chs _ rfl)
  ·cases h
 rcases h with ⟨_,h,_⟩|⟨_,o1,m,_,h⟩
 ·cases h
 rcases h with ⟨r,_,h,_⟩|⟨_,h,_⟩
 ·cases h
  exact Et _ _ _ _ _ _ _
 ·exact KF (h.chs _ rfl)
theorem Inv.lendI {w0 w:World} {X:List Nat} {A:List Item} {S:ad} {v:Value} {ns:List Int} (h:Inv w0 X (A++[dX v ns]) S w):∃ S',Ext w0.heap.size X S S'/\RdSl S' 1 l4 v ns/\Inv w0 X A S' w:=by
 obtain ⟨hl,ho⟩:=h.openRow
 rcases ho with ⟨rfl,h0⟩|⟨g,cap,cur,rfl,hnc,hcm,hcs,ht,hI⟩
 ·exact ⟨S,Ext.refl _ _ _,RowRd.ints (e:=b0) ⟨hl,.inl ⟨rfl,h0⟩⟩,h.sub (dn _ _)⟩
 ·obtain ⟨S',h1,h2,h3⟩:=Inv.pub1 (A:=A) hI
  exact ⟨S',h2,RowRd.ints (e:=b0) ⟨hl,.inr ⟨g,cap,cur,rfl,h3,hnc,hcm,hcs,ht⟩⟩,h1⟩
section
attribute [local irreducible] Run CondV aq aK
theorem Ih (c:Int) (S:ad):Pure Tryz.prog Na [.int .i64 c] S (.int .i64 (NF c)):=by
 intro w hI
 refine Az.2 ?_
 dsimp only[Az,aG]
 unfold NF
 refine bl ?_
 refine aH (fun h=>?_) (fun h=>?_)
 ·rw [ai h]; exact done hI rfl
 rw [af h]
 refine bl ?_
 refine aH (fun h=>?_) (fun h=>?_)
 ·rw [ai h]; exact done hI rfl
 rw [af h]
 refine bl ?_
 refine aH (fun h=>?_) (fun h=>?_)
 ·rw [ai h]; exact done hI rfl
 ·rw [af h]; exact done hI rfl
end
abbrev qd (sp sb mb:Nat) (pv qv:Value) (nc:Bool) (fuel used fr:Int) (gv cv:Value) (ccs:List (List Value)) (nv:Value) (ncs:List (List Value)) (mo:Int) (es:Array MapEntry) (ck:Nat) (tv:Value) (tr:List Int):List Item:=
 [eJ sp (dt sb pv qv nc fuel used fr gv cv nv mo),chI cv ccs,noI nv ncs]++au sb mb es ck tv tr
theorem HA {α:Type} (A B C:List α):List.Perm (A++B++C) (A++C++B):=by
 rw [eI,eI]
 exact uI _ co
theorem SeaQ.none {sp sb mb:Nat} {pv qv:Value} {nc:Bool} {fuel used fr:Int} {gv cv:Value} {ccs:List (List Value)} {nv:Value} {ncs:List (List Value)} {mo:Int} {es:Array MapEntry} {ck:Nat} {tv:Value} {tr:List Int} {S:ad} :
  SeaQ sp sb mb pv qv nc fuel used Option.none (qd sp sb mb pv qv nc fuel used fr gv cv ccs nv ncs mo es ck tv tr) S:=⟨es,ck,tv,tr,[],gv,cv,ccs,nv,ncs,mo,fr,rfl,fun s hs=>by cases hs⟩
section
attribute [local irreducible] Run CondV aq aK
set_option maxHeartbeats 4000000 in
theorem KE {p:List C} (hp:∀ cl∈p,o7 cl) (hpb:∀ cl∈p,cl.body.length<=1048576) (hpl:p.length<=20000) {nc:Bool} {s:SI} {o:Option SI} {e:Int} {fuel used:Int} (hu:0<=used/\used<=1000000)
  (hst:(used=fuel/\o=none/\e=2) ∨ (used≠fuel/\StepI p nc s o e)) (hs:xd p.length s) (hn:s.st.length+26 * fY s.chs+26 * p.length<=900000) (hcl:s.chs.length<=1000000) (hnl:s.nodes.length<=1000000)
  {S:ad} {gv pv qv cv nv tv:Value} {ms:List Nat} {tr:List Int} {es:Array MapEntry} {ccs ncs:List (List Value)} {sp sb mb ck:Nat} {mo:Int}
  (h4:RdSl S 5 (RdC S) pv p) (hG:GL S gv s.goals) (hK:SeaK S s.chs s.nodes s.st ms tr es ccs ncs) :
  Tri Tryz.prog zt [.pointer (some ⟨sp,0,none⟩)] (qd sp sb mb pv qv nc fuel used s.st.length gv cv ccs nv ncs mo es ck tv tr) S
   fun q I' S'=>q=.int .i64 e/\∃ used',SeaQ sp sb mb pv qv nc fuel used' o I' S'/\(o.isSome=true->used'=used+1):=by
 intro w hI
 obtain ⟨X,hX⟩:∃ X,X=bu (qd sp sb mb pv qv nc fuel used s.st.length gv cv ccs nv ncs mo es ck tv tr):=⟨_,rfl⟩
 rw [<- hX] at hI ⊢
 have htb:=hK.tb
 have hml:=hK.mkI.len
 have hcc:ccs.length=s.chs.length:=by have:=hK.ch.hc; rw [MI] at this; omega
 have hnc:=hK.nd.hc
 refine mR.2 ?_
 dsimp only[mR,aG]
 have hJ0:=hI
 clear hI
 refine ⟨fun D mZ vm Cq wb Em En Hn Pl x9 w_=>Fx D 0 [x9=.pointer (some ⟨sp,0,none⟩),Pl=.pointer (some ⟨sp,0,none⟩),Hn=.pointer (some ⟨sp,6,none⟩),En=.int .i64 used,Em=.pointer (some ⟨sp,0,none⟩),wb=.pointer (some ⟨sp,0,none⟩),Cq=.pointer (some ⟨sp,5,none⟩),vm=.int .i64 fuel,mZ=.bool (decide (used=fuel))]/\Inv w X (qd sp sb mb pv qv nc fuel used s.st.length gv cv ccs nv ncs mo es ck tv tr) S w_,⟨Fx.nil _ _,hJ0.draw⟩,⟨?_,?_,?_,?_,?_,?_,?_,?_,?_,trivial⟩,?_⟩
 all_goals (intro D bI; intros; rename_i mZ vm Cq wb Em En Hn Pl x9 w_ hA_; have hF_:=hA_.1; obtain ⟨⟨cJ,cH,cK,cI,cN,cP,cz,dC,ek,_⟩,hI⟩:=hA_)
 ·exact ⟨hF_.set 0 rfl,hI⟩
 ·obtain rfl:=cJ ‹_›
  refine ar ?_
  exact ⟨hF_.set 1 rfl,hI⟩
 ·obtain rfl:=cH ‹_›
  refine aC nU ?_
  exact ⟨hF_.set 2 rfl,hI⟩
 ·obtain rfl:=cK ‹_›
  refine bb (b:=sp) hI 0 (c:=dt sb pv qv nc fuel used s.st.length gv cv nv mo) aI rfl rfl ?_
  exact ⟨hF_.set 3 rfl,hI⟩
 ·exact ⟨hF_.set 4 rfl,hI⟩
 ·obtain rfl:=cN ‹_›
  refine ar ?_
  exact ⟨hF_.set 5 rfl,hI⟩
 ·obtain rfl:=cP ‹_›
  refine aC Hj ?_
  exact ⟨hF_.set 6 rfl,hI⟩
 ·obtain rfl:=cz ‹_›
  refine bb (b:=sp) hI 0 (c:=dt sb pv qv nc fuel used s.st.length gv cv nv mo) aI rfl rfl ?_
  exact ⟨hF_.set 7 rfl,hI⟩
 ·obtain rfl:=cI ‹_›
  obtain rfl:=dC ‹_›
  refine bl ?_
  exact ⟨hF_.set 8 rfl,hI⟩
 obtain ⟨rfl,rfl,rfl,rfl,rfl,rfl,rfl,rfl,rfl,_⟩:=hF_.all
 clear hF_ cJ cH cK cI cN cP cz dC ek
 refine aH (fun huf=>?_) (fun huf=>?_)
 ·rcases hst with ⟨_,rfl,rfl⟩|⟨h,_⟩
  ·exact ⟨_,_,S,rfl,hI,Ext.refl _ _ _,rfl,_,SeaQ.none,fun h=>by cases h⟩
  ·exact absurd huf h
 have hst:StepI p nc s o e:=by
  rcases hst with ⟨h,_⟩|⟨_,h⟩
  ·exact absurd h huf
  ·exact h
 obtain ⟨g,gs,t,hgs,hres,hcase⟩:=hst.inv
 have hgo:=hs.goals
 have hcu:=hs.cuts
 rw [hgs] at hG hgo hcu
 have hg1:=hgo g (bq ..)
 obtain ⟨hut,hmt⟩:=vu hs.good hg1.1.1 hs.tab hres
 obtain ⟨gb,a0,a1,a2,a3,gnv,gE,gfz,rfl,hgb,hgt,hgn⟩:∃ gb a0 a1 a2 a3 gnv gE gfz,gv=.pointer (some ⟨gb,0,none⟩)/\S gb=some (.cells #[a0,a1,a2,a3,.int .i64 g.cut,.int .i64 g.up,gnv] gE gfz)/\RdT S [a0,a1,a2,a3] g.t/\GL S gnv gs:=by
  cases hG with
  | cons h1 h2 h3=>exact ⟨_,_,_,_,_,_,_,_,rfl,h1,h2,h3⟩
 refine ar ?_
 refine ae hI 0 rfl nU aI rfl ?_
 refine bn (by omega) ?_
 refine ar ?_
 refine cT hI 0 rfl nU aI rfl rfl rfl fun w' hI=>?_
 have hI:Inv w X (qd sp sb mb pv qv nc fuel (used+1) s.st.length (.pointer (some ⟨gb,0,none⟩)) cv ccs nv ncs mo es ck tv tr) S w':=hI
 refine ar ?_
 refine ae hI 0 rfl fR dj rfl ?_
 have hJ1:=hI
 repeat clear hI
 refine ⟨fun D x5 x4 KL Pi zV JO Px MR MA NR Re Rb Jz mG w_=>Fx D 0 [mG=.pointer (some ⟨sp,0,none⟩),Jz=.pointer (some ⟨sp,0,none⟩),Rb=.pointer (some ⟨sp,0,none⟩),Re=.pointer (some ⟨sb,0,none⟩),NR=.pointer (some ⟨gb,0,none⟩),MA=.pointer (some ⟨gb,0,none⟩),MR=.pointer (some ⟨gb,0,none⟩),Px=.agg #[a0,a1,a2,a3],True,True,True,KL=.bool (bS t),True,True,x5=.bool (bS t)]/\∃ (SN:ad) (cs':List Value) (b4:Nat) (c4:Array Value),Ext w.heap.size X S SN/\(D 8=true->cs'.length=4/\(∀ x∈cs',x.oneCell'=true)/\JO=.tuple #[.agg cs'.toArray,.bool (bS t)]/\(bS t=true->RdT SN cs' t))/\(D 9=true->D 8=true/\zV=.tuple #[.agg cs'.toArray,.bool (bS t)])/\(D 10=true->D 8=true/\Pi=.agg cs'.toArray)/\(D 12=true->x4=.pointer (some ⟨b4,0,none⟩)/\c4.size=4)/\(D 13=true->D 8=true/\D 12=true/\c4=cs'.toArray)/\Inv w X (qd sp sb mb pv qv nc fuel (used+1) s.st.length (.pointer (some ⟨gb,0,none⟩)) cv ccs nv ncs mo es ck tv tr++(match D 12 with|true=>[.blk b4 (.cells c4 ab)]|false=>[])) SN w_,⟨Fx.nil _ _,⟨S,[],0,#[],Ext.refl _ _ _,aQ,aQ,aQ,aQ,aQ,by rw [cX]; exact hJ1.draw⟩⟩,⟨?_,?_,?_,?_,?_,?_,?_,?_,?_,?_,?_,?_,?_,?_,?_,trivial⟩,?_⟩
 all_goals (intro D bI; intros; rename_i x5 x4 KL Pi zV JO Px MR MA NR Re Rb Jz mG w_ hA_; have hF_:=hA_.1; obtain ⟨⟨cJ,cH,cK,cI,cN,cP,cz,dC,ek,fZ,dr,dM,fj,gN,ic,_⟩,⟨SN,cs',b4,c4,hN,e8,e9,e10,e12,e13,hI⟩⟩:=hA_)
 ·exact ⟨hF_.set 0 rfl,⟨SN,cs',b4,c4,hN,e8,e9,e10,e12,e13,hI⟩⟩
 ·obtain rfl:=cJ ‹_›
  refine ar ?_
  exact ⟨hF_.set 1 rfl,⟨SN,cs',b4,c4,hN,e8,e9,e10,e12,e13,hI⟩⟩
 ·obtain rfl:=cH ‹_›
  refine aC fb ?_
  exact ⟨hF_.set 2 rfl,⟨SN,cs',b4,c4,hN,e8,e9,e10,e12,e13,hI⟩⟩
 ·obtain rfl:=cK ‹_›
  refine bb (b:=sp) hI 0 (c:=dt sb pv qv nc fuel (used+1) s.st.length (.pointer (some ⟨gb,0,none⟩)) cv nv mo) eE rfl rfl ?_
  exact ⟨hF_.set 3 rfl,⟨SN,cs',b4,c4,hN,e8,e9,e10,e12,e13,hI⟩⟩
 ·exact ⟨hF_.set 4 rfl,⟨SN,cs',b4,c4,hN,e8,e9,e10,e12,e13,hI⟩⟩
 ·obtain rfl:=cN ‹_›
  refine ar ?_
  exact ⟨hF_.set 5 rfl,⟨SN,cs',b4,c4,hN,e8,e9,e10,e12,e13,hI⟩⟩
 ·obtain rfl:=cP ‹_›
  refine aC A6 ?_
  exact ⟨hF_.set 6 rfl,⟨SN,cs',b4,c4,hN,e8,e9,e10,e12,e13,hI⟩⟩
 ·obtain rfl:=cz ‹_›
  refine cm (cs:=[a0,a1,a2,a3]) ac rfl (fun j v hj=>by rw [hI.cellS (hN.1 _ _ hgb)]; exact RG j v hj) ?_
  exact ⟨hF_.set 7 rfl,⟨SN,cs',b4,c4,hN,e8,e9,e10,e12,e13,hI⟩⟩
 ·obtain rfl:=cI ‹_›
  obtain rfl:=dC ‹_›
  have hI:=hI.perm (HA [eJ sp (dt sb pv qv nc fuel (used+1) s.st.length (.pointer (some ⟨gb,0,none⟩)) cv nv mo),chI cv ccs,noI nv ncs] _ (au sb mb es ck tv tr))
  refine Run.callE jZ jM hI (pA hs.good hres hg1.1.1.1 (hgt.mono hN.1) (hK.km.upS hN.1)) fun v' I' S4 w_=>?_
  rintro ⟨rfl,cs',hl4,ho4,rfl,hR4⟩ hE4 hI
  have hI:=hI.perm (HA [eJ sp (dt sb pv qv nc fuel (used+1) s.st.length (.pointer (some ⟨gb,0,none⟩)) cv nv mo),chI cv ccs,noI nv ncs] (au sb mb es ck tv tr) _)
  have hN:=hN.trans hE4
  have e9:aB D 8 9=true->aB D 8 8=true/\zV=.tuple #[.agg cs'.toArray,.bool (bS t)]:=fun h=>absurd (e9 h).1 (by rw [bI]; decide)
  have e10:aB D 8 10=true->aB D 8 8=true/\Pi=.agg cs'.toArray:=fun h=>absurd (e10 h).1 (by rw [bI]; decide)
  have e13:aB D 8 13=true->aB D 8 8=true/\aB D 8 12=true/\c4=cs'.toArray:=fun h=>absurd (e13 h).1 (by rw [bI]; decide)
  obtain ⟨SN,hSN⟩:∃ a,a=S4:=⟨_,rfl⟩
  subst hSN
  have e8:aB D 8 8=true->cs'.length=4/\(∀ x∈cs',x.oneCell'=true)/\Value.tuple #[.agg cs'.toArray,.bool (bS t)]=.tuple #[.agg cs'.toArray,.bool (bS t)]/\(bS t=true->RdT SN cs' t):=fun _=>⟨hl4,ho4,rfl,hR4⟩
  exact ⟨hF_.set 8 (by first|assumption|trivial),⟨SN,cs',b4,c4,hN,e8,e9,e10,e12,e13,hI⟩⟩
 ·have NO:=ek ‹_›
  have e9:aB D 9 9=true->aB D 9 8=true/\JO=.tuple #[.agg cs'.toArray,.bool (bS t)]:=fun _=>⟨‹D 8=true›,(e8 ‹D 8=true›).2.2.1⟩
  exact ⟨hF_.set 9 (by first|assumption|trivial),⟨SN,cs',b4,c4,hN,e8,e9,e10,e12,e13,hI⟩⟩
 ·have PR:=fZ ‹_›
  obtain ⟨q8,q9⟩:=e9 ‹D 9=true›
  subst q9
  refine al rfl ?_
  have e10:aB D 10 10=true->aB D 10 8=true/\Value.agg cs'.toArray=.agg cs'.toArray:=fun _=>⟨q8,rfl⟩
  exact ⟨hF_.set 10 (by first|assumption|trivial),⟨SN,cs',b4,c4,hN,e8,e9,e10,e12,e13,hI⟩⟩
 ·have PR:=fZ ‹_›
  obtain ⟨q8,q9⟩:=e9 ‹D 9=true›
  subst q9
  refine al rfl ?_
  exact ⟨hF_.set 11 rfl,⟨SN,cs',b4,c4,hN,e8,e9,e10,e12,e13,hI⟩⟩
 ·rw [bI] at hI
  refine aP hI aZ fun b4 w_ hI=>?_
  obtain ⟨c4,hc4⟩:∃ a:Array Value,a=#[.int .i64 0,.int .i64 0,.string ⟨#[]⟩,.slice none 0 0]:=⟨_,rfl⟩
  have e12:aB D 12 12=true->Value.pointer (some ⟨b4,0,none⟩)=.pointer (some ⟨b4,0,none⟩)/\c4.size=4:=fun _=>⟨rfl,by rw [hc4]; rfl⟩
  have e13:aB D 12 13=true->aB D 12 8=true/\aB D 12 12=true/\c4=cs'.toArray:=fun h=>absurd (e13 h).2.1 (by rw [bI]; decide)
  have hI:Inv w X (qd sp sb mb pv qv nc fuel (used+1) s.st.length (.pointer (some ⟨gb,0,none⟩)) cv ccs nv ncs mo es ck tv tr++[.blk b4 (.cells c4 ab)]) SN w_:=by rw [hc4]; rw [cX] at hI; exact hI
  exact ⟨hF_.set 12 (by first|assumption|trivial),⟨SN,cs',b4,c4,hN,e8,e9,e10,e12,e13,hI⟩⟩
 ·have RK:=fj ‹_›
  have RD:=dr ‹_›
  obtain ⟨q8,q10⟩:=e10 ‹D 10=true›
  obtain ⟨q12,q13⟩:=e12 ‹D 12=true›
  subst q10 q12
  rw [‹D 12=true›] at hI
  have hl4:=(e8 q8).1
  refine aA hI 6 rfl ac (by simpa using hl4) q13 (by simpa using (e8 q8).2.1) fun w_ hI=>?_
  obtain ⟨c4,hc4⟩:∃ a,a=cs'.toArray:=⟨_,rfl⟩
  have e12:aB D 13 12=true->Value.pointer (some ⟨b4,0,none⟩)=.pointer (some ⟨b4,0,none⟩)/\c4.size=4:=fun _=>⟨rfl,by rw [hc4]; simpa using hl4⟩
  have e13:aB D 13 13=true->aB D 13 8=true/\aB D 13 12=true/\c4=cs'.toArray:=fun _=>⟨q8,‹D 12=true›,hc4⟩
  have hI:Inv w X (qd sp sb mb pv qv nc fuel (used+1) s.st.length (.pointer (some ⟨gb,0,none⟩)) cv ccs nv ncs mo es ck tv tr++(match D 12 with|true=>[.blk b4 (.cells c4 ab)]|false=>[])) SN w_:=by rw [hc4,‹D 12=true›]; exact hI
  exact ⟨hF_.set 13 trivial,⟨SN,cs',b4,c4,hN,e8,e9,e10,e12,e13,hI⟩⟩
 ·obtain rfl:=dM ‹_›
  exact ⟨hF_.set 14 rfl,⟨SN,cs',b4,c4,hN,e8,e9,e10,e12,e13,hI⟩⟩
 obtain ⟨rfl,rfl,rfl,rfl,rfl,rfl,rfl,rfl,NO,PR,RD,rfl,RK,_,rfl,_⟩:=hF_.all
 clear hF_ cJ cH cK cI cN cP cz dC ek fZ dr dM fj gN ic
 obtain ⟨q8,q12,rfl⟩:=e13 (by assumption)
 obtain ⟨rfl,-⟩:=e12 q12
 obtain ⟨hl4,ho4,-,hR4⟩:=e8 q8
 rw [q12] at hI
 have hI:Inv w X ([.blk b4 (.cells cs'.toArray ab)]++qd sp sb mb pv qv nc fuel (used+1) s.st.length (.pointer (some ⟨gb,0,none⟩)) cv ccs nv ncs mo es ck tv tr) SN w_:=hI.perm (co (l₁:=[_]))
 clear e8 e9 e10 e12 e13
 refine ct ?_
 rcases hcase with ⟨hsm,rfl,rfl⟩|⟨hsm,hcase⟩
 ·rw [hsm]
  refine aw (fun _=>?_) (fun h=>by cases h)
  exact ⟨_,_,SN,rfl,hI.sub (gk _ _),hN,rfl,_,SeaQ.none,fun h=>by cases h⟩
 rw [hsm]
 refine aw (fun h=>by cases h) (fun _=>?_)
 have hRt:=hR4 hsm
 obtain ⟨t0,t1,t2,t3,rfl⟩:=hRt.four
 have hE1:=hN
 have hnle:ncs.length<=1000000:=by omega
 refine ar ?_
 refine ae hI 1 rfl eB iB rfl ?_
 refine iI hI 3 rfl rp ?_
 have hJ2:=hI
 clear hN
 repeat clear hI
 refine ⟨fun D CE BK zR Bq Ct B5 BI Eo EV DO Eh DN D6 CD Bn w_=>Fx D 0 [Bn=.pointer (some ⟨sp,0,none⟩),CD=.pointer (some ⟨sp,0,none⟩),D6=.pointer (some ⟨sp,0,none⟩),DN=.pointer (some ⟨sp,10,none⟩),Eh=nv,DO=.agg #[t0,t1,t2,t3],EV=.pointer (some ⟨gb,0,none⟩),Eo=.pointer (some ⟨gb,0,none⟩),BI=.pointer (some ⟨gb,5,none⟩),B5=.int .i64 g.up,Ct=.agg #[t0,t1,t2,t3,.int .i64 g.up,.int .i64 (-1)],True,True,BK=.pointer (some ⟨sp,0,none⟩),CE=.pointer (some ⟨sp,10,none⟩),True]/\∃ (SP:ad) (nvF nvR:Value) (ncsR:List (List Value)),Ext w.heap.size X SN SP/\(D 11=true->∃ b,Bq=.slice (some ⟨b,0,none⟩) 1 1/\SP b=some (.cells #[t0,t1,t2,t3,.int .i64 g.up,.int .i64 (-1)] jw))/\(D 12=false->nv=nvF/\nv=nvR/\ncs=ncsR)/\(D 12=true->nvR=zR/\ncsR=ncs++[[t0,t1,t2,t3,.int .i64 g.up,.int .i64 (-1)]])/\(D 15=true->nvF=zR)/\(D 12=true->D 4=true)/\(D 15=true->D 12=true)/\Inv w X ([.blk b4 (.cells #[t0,t1,t2,t3] ab),eJ sp (dt sb pv qv nc fuel (used+1) s.st.length (.pointer (some ⟨gb,0,none⟩)) cv nvF mo),chI cv ccs,noI nvR ncsR]++au sb mb es ck tv tr) SP w_,⟨Fx.nil _ _,⟨SN,nv,nv,ncs,Ext.refl _ _ _,aQ,fun _=>⟨rfl,rfl,rfl⟩,aQ,aQ,aQ,aQ,hJ2.draw⟩⟩,⟨?_,?_,?_,?_,?_,?_,?_,?_,?_,?_,?_,?_,?_,?_,?_,?_,trivial⟩,?_⟩
 all_goals (intro D bI; intros; rename_i CE BK zR Bq Ct B5 BI Eo EV DO Eh DN D6 CD Bn w_ hA_; have hF_:=hA_.1; obtain ⟨⟨cJ,cH,cK,cI,cN,cP,cz,dC,ek,fZ,dr,dM,fj,gN,ic,i9,_⟩,⟨SP,nvF,nvR,ncsR,hN,e19,e20f,e20,e23,k20,k23,hI⟩⟩:=hA_)
 ·exact ⟨hF_.set 0 rfl,⟨SP,nvF,nvR,ncsR,hN,e19,e20f,e20,e23,k20,k23,hI⟩⟩
 ·exact ⟨hF_.set 1 rfl,⟨SP,nvF,nvR,ncsR,hN,e19,e20f,e20,e23,k20,k23,hI⟩⟩
 ·obtain rfl:=cH ‹_›
  refine ar ?_
  exact ⟨hF_.set 2 rfl,⟨SP,nvF,nvR,ncsR,hN,e19,e20f,e20,e23,k20,k23,hI⟩⟩
 ·obtain rfl:=cK ‹_›
  refine aC eB ?_
  exact ⟨hF_.set 3 rfl,⟨SP,nvF,nvR,ncsR,hN,e19,e20f,e20,e23,k20,k23,hI⟩⟩
 ·obtain rfl:=cI ‹_›
  have f20:D 12=false:=cq.2 fun h=>by rw [k20 h] at bI; cases bI
  have q:=(e20f f20).1
  refine bb (b:=sp) (v:=nv) hI 1 (c:=dt sb pv qv nc fuel (used+1) s.st.length (.pointer (some ⟨gb,0,none⟩)) cv nvF mo) iB rfl (by rw [q]; rfl) ?_
  have k20:aB D 4 12=true->aB D 4 4=true:=fun _=>rfl
  exact ⟨hF_.set 4 (by first|assumption|trivial),⟨SP,nvF,nvR,ncsR,hN,e19,e20f,e20,e23,k20,k23,hI⟩⟩
 ·refine az hI 0 ac rfl rfl ?_
  exact ⟨hF_.set 5 rfl,⟨SP,nvF,nvR,ncsR,hN,e19,e20f,e20,e23,k20,k23,hI⟩⟩
 ·exact ⟨hF_.set 6 rfl,⟨SP,nvF,nvR,ncsR,hN,e19,e20f,e20,e23,k20,k23,hI⟩⟩
 ·obtain rfl:=cz ‹_›
  refine ar ?_
  exact ⟨hF_.set 7 rfl,⟨SP,nvF,nvR,ncsR,hN,e19,e20f,e20,e23,k20,k23,hI⟩⟩
 ·obtain rfl:=dC ‹_›
  refine aC Bj ?_
  exact ⟨hF_.set 8 rfl,⟨SP,nvF,nvR,ncsR,hN,e19,e20f,e20,e23,k20,k23,hI⟩⟩
 ·obtain rfl:=ek ‹_›
  refine cA aI (by rw [hI.cellS ((hE1.trans hN).1 _ _ hgb)]; rfl) ?_
  exact ⟨hF_.set 9 rfl,⟨SP,nvF,nvR,ncsR,hN,e19,e20f,e20,e23,k20,k23,hI⟩⟩
 ·obtain rfl:=cP ‹_›
  obtain rfl:=fZ ‹_›
  refine IY ?_
  exact ⟨hF_.set 10 rfl,⟨SP,nvF,nvR,ncsR,hN,e19,e20f,e20,e23,k20,k23,hI⟩⟩
 ·obtain rfl:=dr ‹_›
  refine d6 hI EB rfl (by omega) (by omega) fun b19 w_ hI=>?_
  have hI:Inv w X (([.blk b4 (.cells #[t0,t1,t2,t3] ab),eJ sp (dt sb pv qv nc fuel (used+1) s.st.length (.pointer (some ⟨gb,0,none⟩)) cv nvF mo),chI cv ccs,noI nvR ncsR]++au sb mb es ck tv tr)++[.blk b19 (.cells #[t0,t1,t2,t3,.int .i64 g.up,.int .i64 (-1)] jw)]) SP w_:=hI
  obtain ⟨SP,hI,hE5,hb19⟩:=Inv.pub1 hI
  have hN:=hN.trans hE5
  have e19:aB D 11 11=true->∃ b,Value.slice (some ⟨b19,0,none⟩) 1 1=.slice (some ⟨b,0,none⟩) 1 1/\SP b=some (.cells #[t0,t1,t2,t3,.int .i64 g.up,.int .i64 (-1)] jw):=fun _=>⟨b19,rfl,hb19⟩
  exact ⟨hF_.set 11 (by first|assumption|trivial),⟨SP,nvF,nvR,ncsR,hN,e19,e20f,e20,e23,k20,k23,hI⟩⟩
 ·have Ij:=cN ‹_›
  have Un:=dM ‹_›
  obtain ⟨b,q19,hb⟩:=e19 ‹D 11=true›
  subst q19
  obtain ⟨q1,rfl,rfl⟩:=e20f bI
  refine dy hI 3 [t0,t1,t2,t3,.int .i64 g.up,.int .i64 (-1)] EB (by omega) (n:=ncs.length) (xs:=ncs.flatten) (by rw [Ij]; rfl) rfl (m:=1) (o:=0) (fun j u hj=>by rw [hI.cellS hb,cZ]; simpa using hj) (Of hRt.one) (by omega) (by omega) fun nvR w_ hI=>?_
  obtain ⟨ncsR,hR⟩:∃ a,a=ncs++[[t0,t1,t2,t3,.int .i64 g.up,.int .i64 (-1)]]:=⟨_,rfl⟩
  rw [eK,<- hR] at hI
  have e20f:aB D 12 12=false->nv=nvF/\nv=nvR/\ncs=ncsR:=fun h=>Bool.noConfusion h
  have e20:aB D 12 12=true->nvR=nvR/\ncsR=ncs++[[t0,t1,t2,t3,.int .i64 g.up,.int .i64 (-1)]]:=fun _=>⟨rfl,hR⟩
  have e23:aB D 12 15=true->nvF=nvR:=fun h=>absurd (k23 h) (by rw [bI]; decide)
  have k20:aB D 12 12=true->aB D 12 4=true:=fun _=>by assumption
  have k23:aB D 12 15=true->aB D 12 12=true:=fun _=>rfl
  have e19:aB D 12 11=true->∃ b',Value.slice (some ⟨b,0,none⟩) 1 1=.slice (some ⟨b',0,none⟩) 1 1/\SP b'=some (.cells #[t0,t1,t2,t3,.int .i64 g.up,.int .i64 (-1)] jw):=fun _=>⟨b,rfl,hb⟩
  exact ⟨hF_.set 12 (by first|assumption|trivial),⟨SP,nvF,nvR,ncsR,hN,e19,e20f,e20,e23,k20,k23,hI⟩⟩
 ·obtain rfl:=cJ ‹_›
  refine ar ?_
  exact ⟨hF_.set 13 rfl,⟨SP,nvF,nvR,ncsR,hN,e19,e20f,e20,e23,k20,k23,hI⟩⟩
 ·obtain rfl:=gN ‹_›
  refine aC eB ?_
  exact ⟨hF_.set 14 rfl,⟨SP,nvF,nvR,ncsR,hN,e19,e20f,e20,e23,k20,k23,hI⟩⟩
 ·obtain rfl:=ic ‹_›
  have RK:=fj ‹_›
  obtain ⟨q1,q2⟩:=e20 ‹D 12=true›
  subst q1
  obtain ⟨va,vcap,hv,_⟩:=hI.rowSlice' (i:=3) rfl
  have hcl:nvR.cells=#[nvR]:=by rw [hv]; rfl
  refine df hI 1 (n:=1) (by rw [hcl]; rfl) (by rw [iB]; rfl) rfl (jS rfl) (by rw [hcl,hv]; simp [Value.oneCell']) fun w_ hI=>?_
  rw [hcl] at hI
  obtain ⟨nvF,hF⟩:∃ a,a=nvR:=⟨_,rfl⟩
  have e23:aB D 15 15=true->nvF=nvR:=fun _=>hF
  have e20f:aB D 15 12=false->nv=nvF/\nv=nvR/\ncs=ncsR:=fun h=>absurd ‹D 12=true› (by rw [show D 12=false from h]; decide)
  have k23:aB D 15 15=true->aB D 15 12=true:=fun _=>‹D 12=true›
  have hI:Inv w X ([.blk b4 (.cells #[t0,t1,t2,t3] ab),eJ sp (dt sb pv qv nc fuel (used+1) s.st.length (.pointer (some ⟨gb,0,none⟩)) cv nvF mo),chI cv ccs,noI nvR ncsR]++au sb mb es ck tv tr) SP w_:=by rw [hF]; exact hI
  exact ⟨hF_.set 15 trivial,⟨SP,nvF,nvR,ncsR,hN,e19,e20f,e20,e23,k20,k23,hI⟩⟩
 obtain ⟨rfl,rfl,rfl,rfl,Ij,rfl,rfl,rfl,rfl,rfl,rfl,Un,RK,rfl,rfl,_,_⟩:=hF_.all
 clear hF_ cJ cH cK cI cN cP cz dC ek fZ dr dM fj gN ic i9
 obtain ⟨q1,q2⟩:=e20 (by assumption)
 have q3:=e23 (by assumption)
 rw [q3,<- q1] at hI
 clear e19 e20f e20 e23 k20 k23 q3 q1
 have hE2:=hE1.trans hN
 have hnd2:Rows 6 (RdNI SP) ncsR (s.nodes++[⟨t,g.up,-1⟩]):=by
  rw [q2]
  exact (hK.nd.monoR fun _ _=>RdNI.mono hE2.1).snoc ⟨t0,t1,t2,t3,rfl,hRt.mono hN.1⟩ rfl
 have hnl2:(s.nodes++[(⟨t,g.up,-1⟩:NI)]).length=s.nodes.length+1:=by simp
 have hRt2:=hRt.mono hN.1
 refine az hI 0 ac rfl rfl ?_
 refine Run.callPure CH Bz hI (yn hRt2) fun w' hI=>?_
 obtain ⟨gnp,rfl⟩:=hgn.ptr
 rcases hcase with ⟨hct,hcase⟩|⟨hct,hcase⟩
 ·rw [hct]
  refine aw (fun _=>?_) (fun h=>by cases h)
  refine ar ?_
  refine ae hI 1 rfl Ft Mr rfl ?_
  rcases hcase with ⟨rfl,rfl,rfl⟩|⟨rfl,rfl,rfl⟩
  ·refine aw (fun _=>?_) (fun h=>by cases h)
   exact ⟨_,_,SP,rfl,hI.sub (gk _ _),hE2,rfl,_,SeaQ.none,fun h=>by cases h⟩
  ·refine aw (fun h=>by cases h) (fun _=>?_)
   obtain ⟨ca,ccap,rfl,-⟩:=hI.rowSlice' (i:=2) rfl
   obtain ⟨kk,hkk⟩:∃ kk:Nat,g.cut=kk:=⟨g.cut.toNat,by have:=hg1.1.2; omega⟩
   have hkl:kk<=ccs.length:=by have:=hg1.2; omega
   have hJ3:=hI
   repeat clear hI
   refine ⟨fun D N4 O2 Q5 QZ Rk Rg SH Sh SM TH Te TA w_=>Fx D 0 [TA=.pointer (some ⟨sp,0,none⟩),Te=.pointer (some ⟨sp,0,none⟩),TH=.pointer (some ⟨sp,0,none⟩),SM=.pointer (some ⟨sp,9,none⟩),Sh=.slice ca ccs.length ccap,SH=.pointer (some ⟨gb,0,none⟩),Rg=.pointer (some ⟨gb,0,none⟩),Rk=.pointer (some ⟨gb,4,none⟩),QZ=.int .i64 (kk:Int),Q5=.slice ca kk ccap,O2=.pointer (some ⟨sp,0,none⟩),N4=.pointer (some ⟨sp,9,none⟩),True]/\∃ (nF:Nat),(D 12=false->ccs.length=nF)/\(D 12=true->D 4=true)/\(D 12=true->nF=kk)/\Inv w X ([.blk b4 (.cells #[t0,t1,t2,t3] ab),eJ sp (dt sb pv qv false fuel (used+1) s.st.length (.pointer (some ⟨gb,0,none⟩)) (.slice ca nF ccap) nvR mo),chI (.slice ca ccs.length ccap) ccs,noI nvR ncsR]++au sb mb es ck tv tr) SP w_,⟨Fx.nil _ _,⟨ccs.length,fun _=>rfl,aQ,aQ,hJ3.draw⟩⟩,⟨?_,?_,?_,?_,?_,?_,?_,?_,?_,?_,?_,?_,?_,trivial⟩,?_⟩
   all_goals (intro D bI; intros; rename_i N4 O2 Q5 QZ Rk Rg SH Sh SM TH Te TA w_ hA_; have hF_:=hA_.1; obtain ⟨⟨cJ,cH,cK,cI,cN,cP,cz,dC,ek,fZ,dr,dM,fj,_⟩,⟨nF,e10f,k10,e10,hI⟩⟩:=hA_)
   ·exact ⟨hF_.set 0 rfl,⟨nF,e10f,k10,e10,hI⟩⟩
   ·exact ⟨hF_.set 1 rfl,⟨nF,e10f,k10,e10,hI⟩⟩
   ·obtain rfl:=cH ‹_›
    refine ar ?_
    exact ⟨hF_.set 2 rfl,⟨nF,e10f,k10,e10,hI⟩⟩
   ·obtain rfl:=cK ‹_›
    refine aC dp ?_
    exact ⟨hF_.set 3 rfl,⟨nF,e10f,k10,e10,hI⟩⟩
   ·obtain rfl:=cI ‹_›
    have f10:D 12=false:=cq.2 fun h=>by rw [k10 h] at bI; cases bI
    have q:=e10f f10
    refine bb (b:=sp) (v:=.slice ca ccs.length ccap) hI 1 (c:=dt sb pv qv false fuel (used+1) s.st.length (.pointer (some ⟨gb,0,none⟩)) (.slice ca nF ccap) nvR mo) dG rfl (by rw [q]; rfl) ?_
    have k10:aB D 4 12=true->aB D 4 4=true:=fun _=>rfl
    exact ⟨hF_.set 4 rfl,⟨nF,e10f,k10,e10,hI⟩⟩
   ·exact ⟨hF_.set 5 rfl,⟨nF,e10f,k10,e10,hI⟩⟩
   ·obtain rfl:=cP ‹_›
    refine ar ?_
    exact ⟨hF_.set 6 rfl,⟨nF,e10f,k10,e10,hI⟩⟩
   ·obtain rfl:=cz ‹_›
    refine aC Bl ?_
    exact ⟨hF_.set 7 rfl,⟨nF,e10f,k10,e10,hI⟩⟩
   ·obtain rfl:=dC ‹_›
    refine cA (v:=.int .i64 (kk:Int)) aI (by rw [hI.cellS (hE2.1 _ _ hgb),<- hkk]; rfl) ?_
    exact ⟨hF_.set 8 rfl,⟨nF,e10f,k10,e10,hI⟩⟩
   ·obtain rfl:=cN ‹_›
    obtain rfl:=ek ‹_›
    refine Ky hI 2 rfl fJ (n:=kk) hkl ?_
    exact ⟨hF_.set 9 rfl,⟨nF,e10f,k10,e10,hI⟩⟩
   ·obtain rfl:=cJ ‹_›
    refine ar ?_
    exact ⟨hF_.set 10 rfl,⟨nF,e10f,k10,e10,hI⟩⟩
   ·obtain rfl:=dr ‹_›
    refine aC dp ?_
    exact ⟨hF_.set 11 rfl,⟨nF,e10f,k10,e10,hI⟩⟩
   ·obtain rfl:=dM ‹_›
    obtain rfl:=fZ ‹_›
    refine df hI 1 (n:=1) rfl (by rw [dG]; rfl) rfl (jS rfl) (by simp [Value.cells,Value.oneCell']) fun w_ hI=>?_
    obtain ⟨nF,hF⟩:∃ a,a=kk:=⟨_,rfl⟩
    have e10f:aB D 12 12=false->ccs.length=nF:=fun h=>Bool.noConfusion h
    have k10:aB D 12 12=true->aB D 12 4=true:=fun _=>by assumption
    have e10:aB D 12 12=true->nF=kk:=fun _=>hF
    have hI:Inv w X ([.blk b4 (.cells #[t0,t1,t2,t3] ab),eJ sp (dt sb pv qv false fuel (used+1) s.st.length (.pointer (some ⟨gb,0,none⟩)) (.slice ca nF ccap) nvR mo),chI (.slice ca ccs.length ccap) ccs,noI nvR ncsR]++au sb mb es ck tv tr) SP w_:=by rw [hF]; exact hI
    exact ⟨hF_.set 12 trivial,⟨nF,e10f,k10,e10,hI⟩⟩
   obtain ⟨rfl,rfl,rfl,rfl,rfl,rfl,rfl,rfl,rfl,rfl,rfl,rfl,_,_⟩:=hF_.all
   clear hF_ cJ cH cK cI cN cP cz dC ek fZ dr dM fj
   have q10:=e10 (by assumption)
   rw [q10] at hI
   clear e10 e10f k10
   have hI:=hI.cutRow (i:=2) rfl (n:=kk) hkl hK.ch.hk
   refine ar ?_
   refine aC kE ?_
   refine cA (v:=.pointer gnp) dj (by rw [hI.cellS (hE2.1 _ _ hgb)]; rfl) ?_
   refine ar ?_
   refine cT hI 1 rfl fR dj rfl rfl rfl fun w' hI=>?_
   refine ⟨_,_,SP,rfl,hI.sub (gk _ _),hE2,rfl,_,⟨es,ck,tv,tr,ms.take kk,.pointer gnp,.slice ca kk ccap,ccs.take kk,nvR,ncsR,mo,_,rfl,fun s' hs'=>?_⟩,fun _=>rfl⟩
   cases hs'
   refine ⟨rfl,hgn.mono hE2.1,hK.km.upS hE2.1,?_,hnd2,?_,htb⟩
   ·have:=(hK.ch.monoR fun _ _=>RdCI.mono hE2.1).take kk
    rw [Ht] at this
    rw [hkk]
    exact this
   ·rw [hkk]
    exact hK.mkI.cut (by omega)
 rw [hct]
 refine aw (fun h=>by cases h) (fun _=>?_)
 refine az hI 0 ac rfl rfl ?_
 refine Run.callPure nt nj hI (lQ hRt2) fun w' hI=>?_
 have hwt:=gY hsm hut
 rcases hcase with ⟨hbt,st',c,hB,hcase⟩|⟨hbt,hcase⟩
 ·rw [hbt]
  refine aw (fun _=>?_) (fun h=>by cases h)
  have hJ4:=hI
  repeat clear hI
  refine ⟨fun D x7 Tx Sq Rj Rf Rn Rq w_=>Fx D 0 [Rq=.pointer (some ⟨sp,0,none⟩),Rn=.pointer (some ⟨sp,0,none⟩),Rf=.pointer (some ⟨sp,0,none⟩),Rj=.pointer (some ⟨sb,0,none⟩),Sq=.agg #[t0,t1,t2,t3],Tx=.int .i64 c,x7=.int .i64 c]/\∃ (es3:Array MapEntry) (ck3:Nat) (tv3:Value) (tr3:List Int),(D 5=false->es=es3/\ck=ck3/\tv=tv3/\tr=tr3)/\(D 5=true->KnownM SP es3 st'/\Tr s.st st' tr tr3)/\Inv w X ([.blk b4 (.cells #[t0,t1,t2,t3] ab),eJ sp (dt sb pv qv nc fuel (used+1) s.st.length (.pointer (some ⟨gb,0,none⟩)) cv nvR mo),chI cv ccs,noI nvR ncsR]++au sb mb es3 ck3 tv3 tr3) SP w_,⟨Fx.nil _ _,⟨es,ck,tv,tr,fun _=>⟨rfl,rfl,rfl,rfl⟩,aQ,hJ4.draw⟩⟩,⟨?_,?_,?_,?_,?_,?_,?_,trivial⟩,?_⟩
  all_goals (intro D bI; intros; rename_i x7 Tx Sq Rj Rf Rn Rq w_ hA_; have hF_:=hA_.1; obtain ⟨⟨cJ,cH,cK,cI,cN,cP,cz,_⟩,⟨es3,ck3,tv3,tr3,e5f,e5,hI⟩⟩:=hA_)
  ·exact ⟨hF_.set 0 rfl,⟨es3,ck3,tv3,tr3,e5f,e5,hI⟩⟩
  ·obtain rfl:=cJ ‹_›
   refine ar ?_
   exact ⟨hF_.set 1 rfl,⟨es3,ck3,tv3,tr3,e5f,e5,hI⟩⟩
  ·obtain rfl:=cH ‹_›
   refine aC fb ?_
   exact ⟨hF_.set 2 rfl,⟨es3,ck3,tv3,tr3,e5f,e5,hI⟩⟩
  ·obtain rfl:=cK ‹_›
   refine bb (b:=sp) hI 1 (c:=dt sb pv qv nc fuel (used+1) s.st.length (.pointer (some ⟨gb,0,none⟩)) cv nvR mo) eE rfl rfl ?_
   exact ⟨hF_.set 3 rfl,⟨es3,ck3,tv3,tr3,e5f,e5,hI⟩⟩
  ·refine az hI 0 ac rfl rfl ?_
   exact ⟨hF_.set 4 rfl,⟨es3,ck3,tv3,tr3,e5f,e5,hI⟩⟩
  ·obtain rfl:=cI ‹_›
   obtain rfl:=cN ‹_›
   obtain ⟨rfl,rfl,rfl,rfl⟩:=e5f bI
   refine Run.callE (A:=[_,_,_,_]) zH zl hI (Gm (N:=s.st.length) (by omega) hs.good ⟨hut,by omega⟩ hmt.okN hbt hB hRt2 (hK.km.upS hE2.1) (by omega)) fun v' I' S4 w_=>?_
   rintro ⟨eS,rfl,es3,ck3,tv3,tr3,rfl,hkm3,_,hT3⟩ _ hI
   rw [eS] at hI
   have e5f:aB D 5 5=false->es=es3/\ck=ck3/\tv=tv3/\tr=tr3:=fun h=>Bool.noConfusion h
   have e5:aB D 5 5=true->KnownM SP es3 st'/\Tr s.st st' tr tr3:=fun _=>⟨hkm3,hT3⟩
   exact ⟨hF_.set 5 rfl,⟨es3,ck3,tv3,tr3,e5f,e5,hI⟩⟩
  ·obtain rfl:=cP ‹_›
   exact ⟨hF_.set 6 rfl,⟨es3,ck3,tv3,tr3,e5f,e5,hI⟩⟩
  obtain ⟨rfl,rfl,rfl,rfl,rfl,rfl,rfl,_⟩:=hF_.all
  clear hF_ cJ cH cK cI cN cP cz
  obtain ⟨hkm3,hT3⟩:=e5 (by assumption)
  clear e5 e5f
  have hgd:=hB.good hs.good hbt ⟨hut,by omega⟩
  have hlen:=hgd.len
  have hsh:=hT3.short
  have hK3:SeaK SP s.chs (s.nodes++[⟨t,g.up,-1⟩]) st' ms tr3 es3 ccs ncsR:=⟨hkm3,hK.ch.monoR fun _ _=>RdCI.mono hE2.1,hnd2,hK.mkI.go (TrG.of hT3),by omega⟩
  refine bl ?_
  rcases hcase with ⟨rfl,rfl,rfl⟩|⟨rfl,hb,rfl⟩|⟨h0,h1,rfl,rfl⟩
  ·refine aH (fun _=>?_) (fun h=>absurd rfl h)
   refine ar ?_
   refine aC kE ?_
   refine cA (v:=.pointer gnp) dj (by rw [hI.cellS (hE2.1 _ _ hgb)]; rfl) ?_
   refine ar ?_
   refine cT hI 1 rfl fR dj rfl rfl rfl fun w' hI=>?_
   refine ⟨_,_,SP,rfl,hI.sub (gk _ _),hE2,rfl,_,⟨es3,ck3,tv3,tr3,ms,.pointer gnp,cv,ccs,nvR,ncsR,mo,_,rfl,fun s' hs'=>?_⟩,fun _=>rfl⟩
   cases hs'
   exact ⟨by rw [hlen],hgn.mono hE2.1,hK3⟩
  ·refine aH (fun h=>by cases h) (fun _=>?_)
   refine bl ?_
   refine aH (fun _=>?_) (fun h=>absurd rfl h)
   refine Run.callE (A:=[_]) iu ir hI (sJ hp hpb hb (gI hs.chs _) (by omega) hcl hlen (h4.mono hE2.1 fun _ _=>RdC.mono hE2.1) hK3) fun v' I' S9 w'=>?_
   rintro ⟨rfl,hQ⟩ hE9 hI
   exact ⟨_,_,S9,rfl,hI.sub (gk _ _),hE2.trans hE9,rfl,_,hQ,fun _=>rfl⟩
  ·refine aH (fun h=>absurd h h0) (fun _=>?_)
   refine bl ?_
   refine aH (fun h=>absurd h h1) (fun _=>?_)
   refine Run.callPure K8 JT hI (Ih c SP) fun w' hI=>?_
   exact ⟨_,_,SP,rfl,hI.sub (gk _ _),hE2,rfl,_,SeaQ.none,fun h=>by cases h⟩
 rw [hbt]
 refine aw (fun h=>by cases h) (fun _=>?_)
 obtain ⟨pa,pcap,hpv,-⟩:=id h4
 subst hpv
 have hpP:=h4.monoC hE2.1
 have hJ5:=hI
 repeat clear hI
 refine ⟨fun D x8 Og Tn SA SK Th Ss TN w_=>Fx D 0 [TN=.pointer (some ⟨sp,0,none⟩),Ss=.pointer (some ⟨sp,0,none⟩),Th=.pointer (some ⟨sp,1,none⟩),SK=.slice pa p.length pcap,SA=.agg #[t0,t1,t2,t3],Tn=.agg (bE t).cells.toArray,True,True]/\(D 7=true->D 6=true/\x8=Og)/\Inv w X (([.blk b4 (.cells #[t0,t1,t2,t3] ab),eJ sp (dt sb (.slice pa p.length pcap) qv nc fuel (used+1) s.st.length (.pointer (some ⟨gb,0,none⟩)) cv nvR mo),chI cv ccs,noI nvR ncsR]++au sb mb es ck tv tr)++(match D 6 with|true=>[dX Og (iz p t)]|false=>[])) SP w_,⟨Fx.nil _ _,⟨aQ,by rw [cX]; exact hJ5.draw⟩⟩,⟨?_,?_,?_,?_,?_,?_,?_,?_,trivial⟩,?_⟩
 all_goals (intro D bI; intros; rename_i x8 Og Tn SA SK Th Ss TN w_ hA_; have hF_:=hA_.1; obtain ⟨⟨cJ,cH,cK,cI,cN,cP,cz,dC,_⟩,⟨e7,hI⟩⟩:=hA_)
 ·exact ⟨hF_.set 0 rfl,⟨e7,hI⟩⟩
 ·obtain rfl:=cJ ‹_›
  refine ar ?_
  exact ⟨hF_.set 1 rfl,⟨e7,hI⟩⟩
 ·obtain rfl:=cH ‹_›
  refine aC nG ?_
  exact ⟨hF_.set 2 rfl,⟨e7,hI⟩⟩
 ·obtain rfl:=cK ‹_›
  refine bb (b:=sp) hI 1 (c:=dt sb (.slice pa p.length pcap) qv nc fuel (used+1) s.st.length (.pointer (some ⟨gb,0,none⟩)) cv nvR mo) pN rfl rfl ?_
  exact ⟨hF_.set 3 rfl,⟨e7,hI⟩⟩
 ·refine az hI 0 ac rfl rfl ?_
  exact ⟨hF_.set 4 rfl,⟨e7,hI⟩⟩
 ·obtain rfl:=cN ‹_›
  refine Run.callPure rg ro hI (jv hRt2) fun w_ hI=>?_
  exact ⟨hF_.set 5 rfl,⟨e7,hI⟩⟩
 ·obtain rfl:=cI ‹_›
  obtain rfl:=cP ‹_›
  rw [bI,cX] at hI
  refine Run.call0 oG oD hI (mH (bE t) hpP (by omega)) fun v1 I' S2 w_=>?_
  rintro ⟨rfl,rfl⟩ _ hI
  have e7:aB D 6 7=true->aB D 6 6=true/\x8=v1:=fun h=>absurd (e7 h).1 (by rw [bI]; decide)
  exact ⟨hF_.set 6 (by first|assumption|trivial),⟨e7,hI⟩⟩
 ·have M9:=cz ‹_›
  have e7:aB D 7 7=true->aB D 7 6=true/\Og=Og:=fun _=>⟨by assumption,rfl⟩
  exact ⟨hF_.set 7 (by first|assumption|trivial),⟨e7,hI⟩⟩
 obtain ⟨rfl,rfl,rfl,rfl,rfl,rfl,M9,PT,_⟩:=hF_.all
 clear hF_ cJ cH cK cI cN cP cz dC
 obtain ⟨q6,rfl⟩:=e7 (by assumption)
 rw [q6] at hI
 clear e7
 obtain ⟨S7,hE7,hRl,hI7⟩:=Inv.lendI hI
 clear hI
 obtain ⟨la,lcap,rfl,-⟩:=id hRl
 have hE27:=hE2.trans hE7
 refine aF hRl dD ?_
 refine bl ?_
 have hfl:(iz p t).length<=p.length:=mQ _ _ _
 rcases hcase with ⟨hf,rfl,rfl⟩|⟨hf,o1,m,hT,hcase⟩
 ·refine aH (fun _=>?_) (fun h=>absurd (by rw [hf]; rfl) h)
  exact ⟨_,_,S7,rfl,hI7.sub (gk _ _),hE27,rfl,_,SeaQ.none,fun h=>by cases h⟩
 refine aH (fun h=>absurd (iW (by omega)) hf) (fun _=>?_)
 refine ⟨fun v w'=>v=.slice la (iz p t).length lcap/\Inv w X ([.blk b4 (.cells #[t0,t1,t2,t3] ab)]++qd sp sb mb (.slice pa p.length pcap) qv nc fuel (used+1) s.st.length (.pointer (some ⟨gb,0,none⟩)) cv ccs nvR ncsR mo es ck tv tr) S7 w',?_,?_⟩
 ·refine ar ?_
  refine ae hI7 1 rfl E8 Mr rfl ?_
  refine aw (fun h=>by cases h) (fun _=>?_)
  exact ⟨rfl,hI7⟩
 repeat clear hI7
 intro vl _ _ _ _ _ _ _ _ _ _ _ w'
 rintro ⟨rfl,hI⟩
 have hJ7:=hI
 clear hI
 have hK7:SeaK S7 s.chs (s.nodes++[⟨t,g.up,-1⟩]) s.st ms tr es ccs ncsR:=⟨hK.km.upS hE27.1,hK.ch.monoR fun _ _=>RdCI.mono hE27.1,hnd2.monoR fun _ _=>RdNI.mono hE7.1,hK.mkI,htb⟩
 refine ⟨fun D Py OK OV NV NY Su SX SG Tg w_=>Fx D 0 [Tg=.pointer (some ⟨sp,0,none⟩),SG=.agg #[t0,t1,t2,t3],SX=.int .i64 (ncs.length:Int),Su=.slice la (iz p t).length lcap,NY=.pointer (some ⟨gb,0,none⟩),NV=.pointer (some ⟨gb,0,none⟩),OV=.pointer (some ⟨gb,6,none⟩),OK=.pointer gnp,True]/\∃ (I1:List Item) (S8:ad),(D 8=false->I1=qd sp sb mb (.slice pa p.length pcap) qv nc fuel (used+1) s.st.length (.pointer (some ⟨gb,0,none⟩)) cv ccs nvR ncsR mo es ck tv tr/\S8=S7)/\(D 8=true->FD sp sb mb (.slice pa p.length pcap) qv nc fuel (used+1) (.pointer (some ⟨gb,0,none⟩)) s.chs (s.nodes++[⟨t,g.up,-1⟩]) s.st tr ms t (ncs.length:Int) gs o1 m Py I1 S8)/\Ext w.heap.size X S7 S8/\Inv w X ([.blk b4 (.cells #[t0,t1,t2,t3] ab)]++I1) S8 w_,⟨Fx.nil _ _,⟨_,S7,fun _=>⟨rfl,rfl⟩,aQ,Ext.refl _ _ _,hJ7.draw⟩⟩,⟨?_,?_,?_,?_,?_,?_,?_,?_,?_,trivial⟩,?_⟩
 all_goals (intro D bI; intros; rename_i Py OK OV NV NY Su SX SG Tg w_ hA_; have hF_:=hA_.1; obtain ⟨⟨cJ,cH,cK,cI,cN,cP,cz,dC,ek,_⟩,⟨I1,S8,e8f,e8,hN8,hI⟩⟩:=hA_)
 ·exact ⟨hF_.set 0 rfl,⟨I1,S8,e8f,e8,hN8,hI⟩⟩
 ·refine az hI 0 ac rfl rfl ?_
  exact ⟨hF_.set 1 rfl,⟨I1,S8,e8f,e8,hN8,hI⟩⟩
 ·exact ⟨hF_.set 2 rfl,⟨I1,S8,e8f,e8,hN8,hI⟩⟩
 ·exact ⟨hF_.set 3 rfl,⟨I1,S8,e8f,e8,hN8,hI⟩⟩
 ·exact ⟨hF_.set 4 rfl,⟨I1,S8,e8f,e8,hN8,hI⟩⟩
 ·obtain rfl:=cN ‹_›
  refine ar ?_
  exact ⟨hF_.set 5 rfl,⟨I1,S8,e8f,e8,hN8,hI⟩⟩
 ·obtain rfl:=cP ‹_›
  refine aC kE ?_
  exact ⟨hF_.set 6 rfl,⟨I1,S8,e8f,e8,hN8,hI⟩⟩
 ·obtain rfl:=cz ‹_›
  refine cA (v:=.pointer gnp) dj (by rw [hI.cellS ((hE27.trans hN8).1 _ _ hgb)]; rfl) ?_
  exact ⟨hF_.set 7 rfl,⟨I1,S8,e8f,e8,hN8,hI⟩⟩
 ·obtain rfl:=cJ ‹_›
  obtain rfl:=cH ‹_›
  obtain rfl:=cK ‹_›
  obtain rfl:=cI ‹_›
  obtain rfl:=dC ‹_›
  obtain ⟨q1,q2⟩:=e8f bI
  rw [q1,q2] at hI
  refine Run.callE (A:=[_]) oO ob hI (Ep hp hpb hT hs.good hs.tab ⟨⟨hut,by omega⟩,hmt⟩ (by omega) (hRt2.mono hE7.1) hRl (hgn.mono hE27.1) (h4.monoC hE27.1) hK7 ⟨by omega,by omega⟩ hcl) fun v' I1 S8 w_=>?_
  intro hPT hN8 hI
  have e8f:aB D 8 8=false->I1=qd sp sb mb (.slice pa p.length pcap) qv nc fuel (used+1) s.st.length (.pointer (some ⟨gb,0,none⟩)) cv ccs nvR ncsR mo es ck tv tr/\S8=S7:=fun h=>Bool.noConfusion h
  have e8:aB D 8 8=true->FD sp sb mb (.slice pa p.length pcap) qv nc fuel (used+1) (.pointer (some ⟨gb,0,none⟩)) s.chs (s.nodes++[⟨t,g.up,-1⟩]) s.st tr ms t (ncs.length:Int) gs o1 m v' I1 S8:=fun _=>hPT
  exact ⟨hF_.set 8 (by first|assumption|trivial),⟨I1,S8,e8f,e8,hN8,hI⟩⟩
 obtain ⟨rfl,rfl,rfl,rfl,rfl,rfl,rfl,rfl,NO,_⟩:=hF_.all
 clear hF_ cJ cH cK cI cN cP cz dC ek
 have hPT:=e8 (by assumption)
 clear e8 e8f
 obtain ⟨rfl,es4,ck4,tv4,tr4,ms4,gv4,cv4,ccs4,nv4,ncs4,mo4,rfl,hm⟩:=hPT
 have hE9:=hE27.trans hN8
 have hI9:=hI.sub (gk _ _)
 obtain ⟨j1,j2,j3⟩:=hT.ok hp hs.good hs.tab ⟨⟨hut,by omega⟩,hmt⟩
 rcases hcase with ⟨r,rfl,rfl,rfl⟩|⟨rfl,hb,rfl⟩
 ·refine aw (fun _=>?_) (fun h=>by cases h)
  obtain ⟨_,_,_,j4,j5,_⟩:=j3 r rfl
  refine ⟨_,_,S8,rfl,hI9,hE9,rfl,_,⟨es4,ck4,tv4,tr4,ms4,gv4,cv4,ccs4,nv4,ncs4,mo4,_,rfl,fun s' hs'=>?_⟩,fun _=>rfl⟩
  cases hs'
  rw [<- hnc]
  exact ⟨by show (m:Int)=(r.st.length:Int); omega,hm.1,hm.2⟩
 ·refine aw (fun h=>by cases h) (fun _=>?_)
  obtain ⟨rfl,rfl,rfl,hKn⟩:=hm
  have hm':=j2 rfl
  refine Run.callE (A:=[]) iu ir hI9 (sJ hp hpb hb ((gI hs.chs _).mono j1 (aM _)) (by omega) hcl (dI j1) (h4.monoC hE9.1) hKn) fun v' I' S9 w'=>?_
  rintro ⟨rfl,hQ⟩ hE10 hI
  exact ⟨_,_,S9,rfl,hI,hE9.trans hE10,rfl,_,hQ,fun _=>rfl⟩
end
end
section
open Go Go.RowKit
theorem Gy {st:aj}:∀ {ts us:List T},Res st (.list ts us)->us.length=ts.length
 | _,_,.nil=>rfl
 | _,_,.cons _ h=>by rw [bk,bk,Gy h]
theorem Ck {N:Nat}:∀ {us:List T},(∀ u∈us,bS u=true/\okU N u)->wL us<=840 * us.length
 | [],_=>by simp [wL]
 | u::us,h=>by
  have h1:=gY (h u (bq ..)).1 (h u (bq ..)).2
  have h2:=Ck fun x hx=>h x (bv _ hx)
  rw [wL,bk]
  omega
theorem Bf {N:Nat} {n:Int} (h:0<=n/\n<N):okU N (QH n):=by
 show okU N (.mk 1 n emptyB [])
 rw [okU,cS]
 exact ⟨by decide,fun _=>⟨h.1,by omega,rfl,rfl⟩,trivial,zb⟩
theorem Qg (S:ad) {n:Int} (h:0<=n/\n<1000000000):RdT S [.int .i64 1,.int .i64 n,.string ⟨#[]⟩,.slice none 0 0] (QH n):=
 RdT.nil (by simp [inI]) (by simp only [inI]; omega) (show 0<=maxLen from aR _) (by simp [maxLen])
section
variable {P:Program} {w:World} {K:Value->World->Prop}
attribute [local irreducible] Run
theorem Ox {T e:TypeId} {cx cy:Bool} {p:Option Addr} (hT:P.underlying T=some (.pointer e)) (hk:K (.bool p.isSome) w):Run P (cw .neq T cx cy (.pointer p) (.pointer none)) w K:=by
 refine Run.of (v:=.bool p.isSome) (w':=w) ?_ hk
 have he:(Op.equal T (.pointer p) (.pointer none)).run P w=.ok p.isNone w:=by
  rw [Op.equal,Op.maxDepth,Op.equalIn.eq_def]
  cases p <;> simp [run_underlying hT]
 have hg:∀ x y,(eqGuard .neq T x y (.pointer p) (.pointer none)).run P w=.ok () w:=fun x y=>by unfold eqGuard; simp
 simp only [cw,binOp,Sem.run_bind,hg,Result.andThen_ok,he,Sem.run_pure]
 cases p <;> rfl
end
section
attribute [local irreducible] Run CondV aq aK
set_option maxHeartbeats 1000000 in
theorem FT {st:aj} (hg:Good st.length st) (hsl:st.length<=1000000) {vars:List Int} (hv:∀ n∈vars,0<=n/\n<st.length) (hvl:vars.length<=1000) {o:Option (List T)} (h:ValsI st vars o) {S:ad} {v:Value} (hvr:RdSl S 1 l4 v vars)
  {sb mb ck:Nat} {es:Array MapEntry} {tv:Value} {tr:List Int} (hkm:KnownM S es st) :
  Tri Tryz.prog xl [.pointer (some ⟨sb,0,none⟩),v] (au sb mb es ck tv tr) S fun q I' S'=>I'=au sb mb es ck tv tr/\match o with
   | none=>q=.tuple #[.slice none 0 0,.bool false]
   | some vs=>∃ u,q=.tuple #[u,.bool true]/\RdSl S' 4 (RdT S') u vs:=by
 intro w hI
 obtain ⟨X,hX⟩:∃ X,X=bu (au sb mb es ck tv tr):=⟨_,rfl⟩
 rw [<- hX] at hI ⊢
 obtain ⟨us,hus,ho⟩:=h
 have hul:=Gy hus
 rw [pF] at hul
 have hok:∀ (k:Nat) (hk:k<us.length),okU st.length us[k]:=fun k hk=>by
  refine lg hg (Gb hus k (by rw [pF]; omega) hk) ?_
  rw [EJ]
  exact Bf (hv _ (bQ _))
 refine ld.2 ?_
 dsimp only[ld,aO]
 refine aF hvr dD ?_
 have hI:Inv w X ([aE (.slice none 0 0) ab 4 []]++au sb mb es ck tv tr) S w:=(hI.rowNil ab 4).perm (co (l₁:=[_]))
 refine ⟨fun i t w'=>∃ (k:Nat) (css:List (List Value)) (S1:ad),k<=vars.length/\i=.int .i64 (k:Int)/\Ext w.heap.size X S S1/\Rows 4 (RdT S1) css (us.take k)/\(us.take k).all bS=true/\Inv w X ([aE t ab 4 css]++au sb mb es ck tv tr) S1 w',
  fun i _ _=>vars.length - (intOf i).toNat,⟨0,[],S,aR _,rfl,Ext.refl _ _ _,Rows.nil _ _,rfl,hI⟩,?_⟩
 clear hI
 intro ii _ tt _ _ _ _ _ _ _ _ _ _ _ _ _ _ _ _ _ _ _ _ _ w'
 rintro ⟨k,css,S1,hk,rfl,hE,hR,hall,hI⟩
 have hcl:=hR.hc
 rw [dN] at hcl
 refine bL ?_
 refine aH (fun hki=>?_) (fun hki=>?_)
 ·have hk':k<vars.length:=by omega
  have hku:k<us.length:=by omega
  have hvk:=hv _ (bQ hk')
  refine hY hI (hvr.mono hE.1 fun _ _ h=>h) dD aI hk' (fun cs hcs=>hcs) ?_
  refine Run.callPure lP lJ hI (kA _ S1) fun w' hI=>?_
  have hrk:=Gb hus k (by rw [pF]; omega) hku
  rw [EJ] at hrk
  refine Run.callE (A:=[_]) jZ jM hI (pA (cs:=[.int .i64 1,.int .i64 vars[k],.string ⟨#[]⟩,.slice none 0 0]) hg hrk ⟨Bf hvk,by show (0+0+0:Nat)<=1048576; omega⟩ (Qg S1 ⟨hvk.1,by omega⟩) (hkm.upS hE.1)) fun v' I' S2 w'=>?_
  rintro ⟨rfl,cs',hl4,ho4,rfl,hR4⟩ hE2 hI
  refine al rfl ?_
  refine al rfl ?_
  refine aP hI aZ fun b9 w' hI=>?_
  refine aA hI 4 rfl ac (by simpa using hl4) rfl (by simpa using ho4) fun w' hI=>?_
  refine ct ?_
  cases hsm:bS us[k] with
  | false=>
   refine aw (fun _=>?_) (fun h=>by cases h)
   have hna:us.all bS=false:=List.all_eq_false.2 ⟨us[k],bQ hku,by rw [hsm]; decide⟩
   rw [hna] at ho
   rw [af (by simp)] at ho
   subst ho
   have hI:Inv w X (([aE tt ab 4 css]++au sb mb es ck tv tr)++[.blk b9 (.cells cs'.toArray ab)]) S2 w':=hI
   exact ⟨_,_,S2,rfl,(hI.sub (dn _ _)).sub (dz _ _),hE.trans hE2,rfl,rfl⟩
  | true=>
   refine aw (fun h=>by cases h) (fun _=>?_)
   refine az hI 4 ac rfl (by simpa using hl4) ?_
   have hI:Inv w X (([aE tt ab 4 css]++au sb mb es ck tv tr)++[.blk b9 (.cells cs'.toArray ab)]) S2 w':=hI
   have hI:=hI.sub (dn _ _)
   refine cM hI 0 cs' bA (by omega) (by omega) rfl hl4 ho4 (by omega) (by omega) fun v' w' hI=>?_
   refine bn (by omega) ?_
   refine ⟨⟨k+1,css++[cs'],S2,hk',rfl,hE.trans hE2,?_,?_,hI⟩,by simp only [intOf,dF]; omega⟩
   ·rw [fy hku]
    exact (hR.monoR fun _ _=>RdT.mono hE2.1).snoc (hR4 hsm) hl4
   ·rw [fy hku,List.all_append,hall]
    simp [hsm]
 ·have hke:k=us.length:=by omega
  rw [hke,fM] at hR hall
  have hws:=Ck (us:=us) fun u hu=>by
   obtain ⟨i,hi,rfl⟩:=yf hu
   exact ⟨ed.1 hall _ hu,hok i hi⟩
  have hcw:=Fp us
  have hI:Inv w X (au sb mb es ck tv tr++[aE tt ab 4 css]) S1 _:=hI.perm co
  obtain ⟨S2,hE2,hrd,hI2⟩:=hI.lendExt
  have hts:=RowRd.rows (hR.monoR fun _ _=>RdT.mono hE2.1) hrd
  refine Run.call0 qB py hI2 (nn hts (by omega)) fun v1 I' S3 w'=>?_
  rintro ⟨rfl,rfl⟩ _ hI3
  refine iI hI3 3 rfl dD ?_
  refine eU ?_
  have hI4:=hI3.sub (dn _ _)
  rw [hall] at ho
  refine aH (fun hgt=>?_) (fun hgt=>?_)
  ·rw [af (by omega)] at ho
   subst ho
   exact ⟨_,_,_,rfl,hI4,hE.trans hE2,rfl,rfl⟩
  ·rw [ai ⟨rfl,by omega⟩] at ho
   subst ho
   refine Run.call0E zN zy hI4 (xc hts (by omega)) fun v' I' S5 w'=>?_
   rintro ⟨rfl,M,rfl,hT⟩ hE5 hI5
   obtain ⟨S9,hI9,hE9,hins⟩:=Inv.pubExt hI5
   exact ⟨_,_,S9,rfl,hI9,(hE.trans hE2).trans (hE5.trans hE9),rfl,_,rfl,hT.rd hins fun _ _ _ hi h=>h.rd hi⟩
end
end
section
open Go Go.RowKit
theorem RunI.invG {p:List C} {vars:List Int} {most n:Nat} {s:SI} {out:List (List T)} {r:List (List T) × Int} (h:RunI p vars most n s out r) (hg:s.goals≠[]) :
  (n=0/\r=(out,2)) ∨ ∃ m o e,n=m+1/\StepI p false s o e/\((o=none/\r=(out,e)) ∨ ∃ s',o=some s'/\RunI p vars most m s' out r):=by
 cases h with
 | fuel _=>exact .inl ⟨rfl,rfl⟩
 | stop _ h=>exact .inr ⟨_,_,_,rfl,h,.inl ⟨rfl,rfl⟩⟩
 | step _ h h'=>exact .inr ⟨_,_,_,rfl,h,.inr ⟨_,rfl,h'⟩⟩
 | more h=>exact absurd h hg
 | large h=>exact absurd h hg
 | last h=>exact absurd h hg
 | next h=>exact absurd h hg
theorem RunI.invN {p:List C} {vars:List Int} {most n:Nat} {s:SI} {out:List (List T)} {r:List (List T) × Int} (h:RunI p vars most n s out r) (hg:s.goals=[]) :
  (out.length=most/\r=(out,1)) ∨ (out.length≠most/\∃ v,ValsI s.st vars v/\((v=none/\r=(out,3)) ∨ ∃ vs o,v=some vs/\BackI p s.chs s.st.length s.nodes o/\((o=none/\r=(out++[vs],0)) ∨ ∃ s',o=some s'/\RunI p vars most n s' (out++[vs]) r))):=by
 cases h with
 | fuel h=>exact absurd hg h
 | stop h=>exact absurd hg h
 | step h=>exact absurd hg h
 | more _ h=>exact .inl ⟨h,rfl⟩
 | large _ h h'=>exact .inr ⟨h,_,h',.inl ⟨rfl,rfl⟩⟩
 | last _ h h' h''=>exact .inr ⟨h,_,h',.inr ⟨_,_,rfl,h'',.inl ⟨rfl,rfl⟩⟩⟩
 | next _ h h' h'' h3=>exact .inr ⟨h,_,h',.inr ⟨_,_,rfl,h'',.inr ⟨_,rfl,h3⟩⟩⟩
theorem QM (c:Int):NF c≠-1:=by
 unfold NF
 split
 ·decide
 ·split
  ·decide
  ·split <;> decide
theorem StepI.ne {p:List C} {nc:Bool} {s:SI} {e:Int} (h:StepI p nc s none e):e≠-1:=by
 obtain ⟨g,gs,t,_,_,h⟩:=h.inv
 rcases h with ⟨_,_,rfl⟩|⟨_,h⟩
 ·decide
 rcases h with ⟨_,h⟩|⟨_,h⟩
 ·rcases h with ⟨_,_,rfl⟩|⟨_,h,_⟩
  ·decide
  ·cases h
 rcases h with ⟨_,st,c,_,h⟩|⟨_,h⟩
 ·rcases h with ⟨_,h,_⟩|⟨_,_,rfl⟩|⟨_,_,_,rfl⟩
  ·cases h
  ·decide
  ·exact QM c
 rcases h with ⟨_,_,rfl⟩|⟨_,o1,m,_,h⟩
 ·decide
 rcases h with ⟨r,_,h,_⟩|⟨_,_,rfl⟩
 ·cases h
 ·decide
def RdAns (S:ad) (cs:List Value) (ts:List T):Prop:=∃ v,cs=[v]/\RdSl S 4 (RdT S) v ts
theorem RdAns.mono {S S':ad} (hs:Sle S S') {cs:List Value} {ts:List T} (h:RdAns S cs ts):RdAns S' cs ts:=by
 obtain ⟨v,rfl,h⟩:=h
 exact ⟨v,rfl,h.monoT hs⟩
def lenZ:Value->Nat
 | .slice _ n _=>n
 | _=>0
def fuN (sp:Nat) (w:World):Nat:=match w.heap[sp]? with
 | some (.cells c _ _)=>(match (c[5]?:Option Value),(c[6]?:Option Value) with|some (.int _ a),some (.int _ b)=>(a - b).toNat|_,_=>0)
 | _=>0
def PH (sp most:Nat) (t9 t10:Value) (w:World):Nat:=match t10 with
 | .int _ x=>if x=-1 then 1+fuN sp w+(most - lenZ t9) else 0
 | _=>0
theorem Inv.fuN {w0 w:World} {X:List Nat} {L:List Item} {S:ad} (h:Inv w0 X L S w) (i:Nat) {sp sb:Nat} {pv qv:Value} {nc:Bool} {fuel used fr:Int} {gv cv nv:Value} {mo:Int}
  (hi:L[i]?=some (eJ sp (dt sb pv qv nc fuel used fr gv cv nv mo))):fuN sp w=(fuel - used).toNat:=by
 have h1:w.heap[sp]?=some (.cells (dt sb pv qv nc fuel used fr gv cv nv mo) mY):=h.its _ (du hi)
 unfold Go.Proofs.YtcpgagfdeflbkaaGreatDoor.fuN
 rw [h1]
 rfl
theorem Inv.lenZ {w0 w:World} {X:List Nat} {L:List Item} {S:ad} (h:Inv w0 X L S w) (i:Nat) {v:Value} {e:TypeId} {k n:Nat} {xs:List Value} (hi:L[i]?=some (.row v e k n xs)):lenZ v=n:=by
 obtain ⟨a,cap,rfl,_⟩:=h.rowSlice' hi
 rfl
section
variable {w:World} {K:Value->World->Prop}
attribute [local irreducible] Run
theorem Kc {p:Option Addr} {n m:Nat} (hk:K (.agg #[.slice p n m]) w):Run Tryz.prog (cn dH [(0,.slice p n m)]) w K:=by
 refine Run.of (v:=.agg #[.slice p n m]) (w':=w) ?_ hk
 unfold cn
 rw [Sem.run_bind,run_build w dH _ #[.slice p n m] (by kernel_rfl),Result.andThen_ok]
 rfl
end
theorem Gx (S:ad):Pure Tryz.prog y3 [] S (.tuple #[]):=by
 intro w hI
 refine vC.2 ?_
 dsimp only[vC,oJ]
 exact done hI rfl
structure Sf (p:List C) (n:Nat) (s:SI):Prop where
 ok:xd p.length s
 h26:26<=s.st.length
 hn:s.st.length+26 * fY s.chs+26 * p.length * (n+1)<=900000
 hc:s.chs.length+n<=100000
 hl:s.nodes.length+n<=100000
section
attribute [local irreducible] Run CondV aq aK
set_option maxHeartbeats 4000000 in
theorem NQ {p:List C} (hp:∀ cl∈p,o7 cl) (hpb:∀ cl∈p,cl.body.length<=1048576) (hpl:p.length<=20000) {q:List T} {most n:Nat} (hmo:most<=1000) {s:SI} {r:List (List T) × Int} (hr:RunI p (ef q []) most n s [] r)
  (hs:Sf p n s) (hv:∀ n∈ef q [],0<=n/\n<26) (hvl:(ef q []).length<=1000) (hcq:cR q<=1000000000) {fuel used:Int} (hu:0<=used) (hfu:used+n=fuel) (hf:fuel<=100000)
  {S:ad} {gv pv qv cv nv tv:Value} {ms:List Nat} {tr:List Int} {es:Array MapEntry} {ccs ncs:List (List Value)} {sp sb mb ck:Nat} {mo:Int}
  (h4:RdSl S 5 (RdC S) pv p) (hq:RdSl S 4 (RdT S) qv q) (hG:GL S gv s.goals) (hK:SeaK S s.chs s.nodes s.st ms tr es ccs ncs) :
  Tri Tryz.prog Cg [.pointer (some ⟨sp,0,none⟩),.int .i64 (most:Int),.func (.func y3) #[] #[]] (qd sp sb mb pv qv false fuel used s.st.length gv cv ccs nv ncs mo es ck tv tr) S
   fun x I' S'=>∃ v css,x=.tuple #[v,.int .i64 r.2]/\I'=[aE v dH 1 css]/\Rows 1 (RdAns S') css r.1:=by
 intro w hI
 obtain ⟨X,hX⟩:∃ X,X=bu (qd sp sb mb pv qv false fuel used s.st.length gv cv ccs nv ncs mo es ck tv tr):=⟨_,rfl⟩
 rw [<- hX] at hI ⊢
 refine oy.2 ?_
 dsimp only[oy,gM]
 refine ar ?_
 refine ae hI 0 rfl Fh ao rfl ?_
 refine Run.call0 qB py hI (nn hq hcq) fun v1 I' S3 w'=>?_
 rintro ⟨rfl,rfl⟩ _ hI3
 obtain ⟨S0,hE0,hvr,hI0⟩:=Inv.lendI hI3
 generalize hvars:ef q []=vars at hr hv hvl hvr
 have hI0:Inv w X ([aE (.slice none 0 0) dH 1 []]++qd sp sb mb pv qv false fuel used s.st.length gv cv ccs nv ncs mo es ck tv tr) S0 w':=(hI0.rowNil dH 1).perm (co (l₁:=[_]))
 refine ⟨fun t9 t10 w'=>∃ (out:List (List T)) (css:List (List Value)) (S1:ad),Ext w.heap.size X S0 S1/\Rows 1 (RdAns S1) css out/\
   ((∃ (n:Nat) (s:SI) (used:Int) (gv cv nv tv:Value) (ms:List Nat) (tr:List Int) (es:Array MapEntry) (ccs ncs:List (List Value)) (ck:Nat) (mo:Int),t10=.int .i64 (-1)/\RunI p vars most n s out r/\Sf p n s/\0<=used/\used+n=fuel/\out.length<=most/\
    GL S1 gv s.goals/\SeaK S1 s.chs s.nodes s.st ms tr es ccs ncs/\Inv w X ([aE t9 dH 1 css]++qd sp sb mb pv qv false fuel used s.st.length gv cv ccs nv ncs mo es ck tv tr) S1 w') ∨
       (∃ e L',e≠-1/\t10=.int .i64 e/\r=(out,e)/\Inv w X ([aE t9 dH 1 css]++L') S1 w')),
  PH sp most,⟨[],[],S0,Ext.refl _ _ _,Rows.nil _ _,.inl ⟨n,s,used,gv,cv,nv,tv,ms,tr,es,ccs,ncs,ck,mo,rfl,hr,hs,hu,hfu,aR _,hG.mono hE0.1,hK.mono hE0.1,hI0⟩⟩,?_⟩
 clear hI hI3 hI0 hr hs hu hfu hG hK hX
 clear hI0
 clear n s used gv cv nv tv ms tr es ccs ncs ck mo
 have h40:=h4.monoC hE0.1
 intro _ _ t9 _ _ _ _ _ _ _ _ _ _ _ _ _ _ _ _ _ _ _ _ _ _ _ _ _ _ t10 _ _ _ _ _ _ _ _ _ _ _ w'
 rintro ⟨out,css,S1,hE1,hR,hcase⟩
 have hcl:=hR.hc
 rcases hcase with ⟨n,s,used,gv,cv,nv,tv,ms,tr,es,ccs,ncs,ck,mo,rfl,hr,hs,hu,hfu,hol,hG,hK,hI⟩|⟨e,L',he,rfl,hre,hI⟩
 ·refine bl ?_
  refine aH (fun _=>?_) (fun h=>absurd rfl h)
  have hfn:=hI.fuN 1 rfl
  have hln:=hI.lenZ 0 rfl
  refine Run.callPure Gp Hl hI (Gx S1) fun w2 hI=>?_
  refine ar ?_
  refine ae hI 1 rfl fR dj rfl ?_
  obtain ⟨gp,rfl⟩:=hG.ptr
  refine Ox (e:=lD) (by kernel_rfl) ?_
  have hs1:=hs.hn
  have hs2:=hs.hc
  have hs3:=hs.hl
  have hmul:26 * p.length * (n+1)=26 * p.length * n+26 * p.length:=Nat.mul_succ _ _
  by_cases hg:s.goals=[]
  ·rw [hg] at hG
   cases hG
   refine aw (fun h=>by cases h) (fun _=>?_)
   refine iI hI 0 rfl eq ?_
   refine bl ?_
   rcases hr.invN hg with ⟨hm,hre⟩|⟨hm,v,hval,hnext⟩
   ·refine aH (fun _=>?_) (fun h=>absurd (by omega) h)
    exact ⟨_,_,S1,rfl,hI.sub (dn _ _),hE0.trans hE1,_,css,by rw [hre],rfl,by rw [hre]; exact hR⟩
   ·refine aH (fun h=>absurd (by omega) hm) (fun _=>?_)
    refine ar ?_
    refine ae hI 1 rfl fb eE rfl ?_
    have h26:=hs.h26
    refine Run.callE (A:=[_,_,_,_]) uB uv hI (FT hs.ok.good (by omega) (fun n hn=>⟨(hv n hn).1,by have:=(hv n hn).2; omega⟩) hvl hval (hvr.mono hE1.1 fun _ _ h=>h) hK.km) fun v' I' S2 w3=>?_
    rintro ⟨rfl,hm2⟩ hE2 hI2
    rcases hnext with ⟨rfl,hre⟩|⟨vs,o,rfl,hb,hnext⟩
    ·simp only at hm2
     subst hm2
     refine al rfl ?_
     refine al rfl ?_
     refine ct ?_
     refine aw (fun _=>?_) (fun h=>by cases h)
     exact ⟨_,_,S2,rfl,hI2.sub (dn [_] _),(hE0.trans hE1).trans hE2,_,css,by rw [hre],rfl,by rw [hre]; exact hR.monoR fun _ _=>RdAns.mono hE2.1⟩
    ·obtain ⟨u,rfl,hus⟩:=hm2
     obtain ⟨ua,ucap,rfl,-⟩:=id hus
     refine al rfl ?_
     refine al rfl ?_
     refine ct ?_
     refine aw (fun h=>by cases h) (fun _=>?_)
     refine Kc ?_
     refine cM hI2 0 [.slice ua vs.length ucap] H4 (by omega) (by omega) rfl rfl (by simp [Value.oneCell']) (by omega) (by omega) fun t9' w4 hI4=>?_
     refine Run.callE (A:=[_]) iu ir hI4 (sJ hp hpb hb hs.ok.chs (by omega) (by omega) rfl ((h40.monoC hE1.1).monoC hE2.1) (hK.mono hE2.1)) fun v' I' S5 w5=>?_
     rintro ⟨rfl,hQ⟩ hE5 hI5
     have hE25:=hE2.trans hE5
     obtain ⟨es4,ck4,tv4,tr4,ms4,gv4,cv4,ccs4,nv4,ncs4,mo4,fr4,rfl,hsome⟩:=hQ
     have hR5:Rows 1 (RdAns S5) (css++[[.slice ua vs.length ucap]]) (out++[vs]):=(hR.monoR fun _ _=>RdAns.mono hE25.1).snoc ⟨_,rfl,hus.monoT hE5.1⟩ rfl
     rcases hnext with ⟨rfl,hre⟩|⟨s',rfl,hr'⟩
     ·refine ⟨⟨out++[vs],_,S5,hE1.trans hE25,hR5,.inr ⟨0,_,by decide,rfl,hre,hI5⟩⟩,?_⟩
      unfold PH
      simp only [Option.isSome_none,H0,if_false,if_true]
      rw [af (by decide)]
      omega
     ·obtain ⟨j1,j2,j3,j4⟩:=hb.ok hp hs.ok.chs s' rfl
      have j5:=hb.chs s' rfl
      obtain ⟨rfl,hG4,hK4⟩:=hsome s' rfl
      refine ⟨⟨out++[vs],_,S5,hE1.trans hE25,hR5,.inl ⟨n,s',used,gv4,cv4,nv4,tv4,ms4,tr4,es4,ccs4,ncs4,ck4,mo4,rfl,hr',⟨j1,by omega,by omega,by omega,by omega⟩,hu,hfu,by rw [bh,bk,bG]; omega,hG4,hK4,hI5⟩⟩,?_⟩
      unfold PH
      have hf2:=hI5.fuN 1 rfl
      have hl2:=hI5.lenZ 0 rfl
      simp only [Option.isSome_some,if_true]
      rw [hf2,hfn,hln,hl2,bh,bk,bG]
      omega
  ·have hgs:gp.isSome=true:=by
    cases gp with
    | none=>
     generalize hgl:s.goals=gl at hG hg
     cases hG with
     | nil=>exact absurd rfl hg
    | some=>rfl
   rw [hgs]
   refine aw (fun _=>?_) (fun h=>by cases h)
   obtain ⟨o,e,hst,hnext⟩:∃ o e,((used=fuel/\o=none/\e=2) ∨ (used≠fuel/\StepI p false s o e))/\((o=none/\e≠-1/\r=(out,e)) ∨ ∃ s' m,n=m+1/\o=some s'/\StepI p false s (some s') e/\RunI p vars most m s' out r):=by
    rcases hr.invG hg with ⟨rfl,h2⟩|⟨m,o,e,rfl,h2,h3⟩
    ·exact ⟨none,2,.inl ⟨by omega,rfl,rfl⟩,.inl ⟨rfl,by decide,h2⟩⟩
    ·refine ⟨o,e,.inr ⟨by omega,h2⟩,?_⟩
     rcases h3 with ⟨rfl,h3⟩|⟨s',rfl,h3⟩
     ·exact .inl ⟨rfl,h2.ne,h3⟩
     ·exact .inr ⟨s',m,rfl,rfl,h2,h3⟩
   refine Run.callE (A:=[_]) xz wH hI (KE hp hpb hpl ⟨hu,by omega⟩ hst hs.ok (by omega) (by omega) (by omega) (h40.monoC hE1.1) hG hK) fun v' I' S4 w4=>?_
   rintro ⟨rfl,used',hQ,hus⟩ hE4 hI4
   obtain ⟨es4,ck4,tv4,tr4,ms4,gv4,cv4,ccs4,nv4,ncs4,mo4,fr4,rfl,hsome⟩:=hQ
   rcases hnext with ⟨rfl,hne,hre⟩|⟨s',m,rfl,rfl,hst',hr'⟩
   ·refine ⟨⟨out,css,S4,hE1.trans hE4,hR.monoR fun _ _=>RdAns.mono hE4.1,.inr ⟨e,_,hne,rfl,hre,hI4⟩⟩,?_⟩
    unfold PH
    simp only [af hne,if_true]
    omega
   ·obtain ⟨j1,j2,j3,rfl,j5⟩:=hst'.ok hp hs.ok s' rfl
    have j6:=hst'.chs
    obtain ⟨rfl,hG4,hK4⟩:=hsome s' rfl
    obtain rfl:=hus rfl
    have hmul':26 * p.length * (m+1)=26 * p.length * m+26 * p.length:=Nat.mul_succ _ _
    have h26:=hs.h26
    refine ⟨⟨out,css,S4,hE1.trans hE4,hR.monoR fun _ _=>RdAns.mono hE4.1,.inl ⟨m,s',used+1,gv4,cv4,nv4,tv4,ms4,tr4,es4,ccs4,ncs4,ck4,mo4,rfl,hr',⟨j1,by omega,by omega,by omega,by omega⟩,by omega,by omega,hol,hG4,hK4,hI4⟩⟩,?_⟩
    unfold PH
    have hf2:=hI4.fuN 1 rfl
    simp only [if_true]
    rw [hf2,hfn,hln]
    omega
 ·refine bl ?_
  refine aH (fun h=>absurd h he) (fun _=>?_)
  exact ⟨_,_,S1,rfl,hI.sub (dn _ _),hE0.trans hE1,_,css,by rw [hre],rfl,by rw [hre]; exact hR⟩
end
end
section
open Go Go.RowKit
mutual
theorem NJ:∀ (t:T) (l:List Int),okV t->(∀ m∈l,0<=m/\m<26)->∀ m∈vI t l,0<=m/\m<26
 | .mk k n s ks,l,ho,hl=>by
  rw [okV] at ho
  rw [vI]
  refine xf ks _ ho.2 fun m hm=>?_
  split at hm
  ·rename_i hk
   unfold sE at hm
   split at hm
   ·exact hl m hm
   ·rcases cd.1 hm with hm|hm
    ·exact hl m hm
    ·have:=ho.1 hk
     rw [bY.1 hm]
     omega
  ·exact hl m hm
theorem xf:∀ (ts:List T) (l:List Int),Bm ts->(∀ m∈l,0<=m/\m<26)->∀ m∈ef ts l,0<=m/\m<26
 | [],l,_,hl=>hl
 | t::ts,l,ho,hl=>by
  rw [Bm] at ho
  rw [ef]
  exact xf ts _ ho.2 (NJ t l ho.1 hl)
end
end
end Go.Proofs.YtcpgagfdeflbkaaGreatDoor
