/- impl's search in memory: a step. -/
import Derived.Test.YtgllldjiaglkcaaGreatDoorZMp18
import Derived.Test.YtgllldjiaglkcaaGreatDoorZMp5
import Derived.Test.YtgllldjiaglkcaaGreatDoorZMp4
namespace Go.Proofs.YtgllldjiaglkcaaGreatDoor
section
open Go Go.RowKit
theorem ZC {a b c d e f g:Value}:∀ (j:Nat) (v:Value),([a,b,c,d]:List Value)[j]?=some v->(#[a,b,c,d,e,f,g]:Array Value)[0+j]?=some v
 | 0,_,h=>h
 | 1,_,h=>h
 | 2,_,h=>h
 | 3,_,h=>h
 | _+4,_,h=>by simp at h
theorem OX {α β:Type}:∀ (k:Nat) (a:List α) (b:List β),(a.zip b).take k=(a.take k).zip (b.take k)
 | 0,a,b=>by simp
 | k+1,[],b=>by simp
 | k+1,x::xs,[]=>by simp
 | k+1,x::xs,y::ys=>by
  rw [List.zip_cons_cons,tO,tO,tO,List.zip_cons_cons,OX k xs ys]
theorem OW {a0 a1 a2 a3:Value} (h:∀ u∈[a0,a1,a2,a3],u.oneCell'=true) {m n:Int}:∀ u∈[a0,a1,a2,a3,.int .i64 m,.int .i64 n],u.oneCell'=true:=by
 intro u hu
 simp only [bN,jd,je] at hu
 rcases hu with rfl|rfl|rfl|rfl|rfl|rfl <;> first|rfl|exact h _ (by simp)
theorem StepI.inv {p:List C} {nc:Bool} {s:SI} {o:Option SI} {e:Int} (h:StepI p nc s o e):∃ g gs t,s.goals=g::gs/\Res s.st (.one g.t t)/\
  ((bI t=false/\o=none/\e=3) ∨ (bI t=true/\
   ((fS t=true/\((nc=true/\o=none/\e=0) ∨ (nc=false/\o=some ⟨s.st,gs,s.chs.take g.cut.toNat,s.nodes++[⟨t,g.up,-1⟩]⟩/\e=-1))) ∨
       (fS t=false/\((cI t=true/\∃ st c,Blt s.st t c st/\((c=0/\o=some ⟨st,gs,s.chs,s.nodes++[⟨t,g.up,-1⟩]⟩/\e=-1) ∨ (c=1/\BackI p s.chs s.st.length (s.nodes++[⟨t,g.up,-1⟩]) o/\e=if o.isSome then -1 else 0) ∨ (c≠0/\c≠1/\o=none/\e=UU c))) ∨
    (cI t=false/\((ku p t=[]/\o=none/\e=8) ∨ (ku p t≠[]/\∃ o1 m,TryI p t (ku p t) s.st o1 m/\
     ((∃ r,o1=some r/\o=some (kX s.chs (s.nodes++[⟨t,g.up,-1⟩]) t s.nodes.length gs s.st r)/\e=-1) ∨ (o1=none/\BackI p s.chs m (s.nodes++[⟨t,g.up,-1⟩]) o/\e=if o.isSome then -1 else 0)))))))))):=by
 cases h with
 | large h1 h2 h3=>exact ⟨_,_,_,h1,h2,.inl ⟨h3,rfl,rfl⟩⟩
 | noCut h1 h2 h3 h4 h5=>exact ⟨_,_,_,h1,h2,.inr ⟨h3,.inl ⟨h4,.inl ⟨h5,rfl,rfl⟩⟩⟩⟩
 | cut h1 h2 h3 h4 h5=>exact ⟨_,_,_,h1,h2,.inr ⟨h3,.inl ⟨h4,.inr ⟨h5,rfl,rfl⟩⟩⟩⟩
 | solved h1 h2 h3 h4 h5 h6=>exact ⟨_,_,_,h1,h2,.inr ⟨h3,.inr ⟨h4,.inl ⟨h5,_,_,h6,.inl ⟨rfl,rfl,rfl⟩⟩⟩⟩⟩
 | fail h1 h2 h3 h4 h5 h6 h7=>exact ⟨_,_,_,h1,h2,.inr ⟨h3,.inr ⟨h4,.inl ⟨h5,_,_,h6,.inr (.inl ⟨rfl,h7,rfl⟩)⟩⟩⟩⟩
 | err h1 h2 h3 h4 h5 h6 h7 h8=>exact ⟨_,_,_,h1,h2,.inr ⟨h3,.inr ⟨h4,.inl ⟨h5,_,_,h6,.inr (.inr ⟨h7,h8,rfl,rfl⟩)⟩⟩⟩⟩
 | unknown h1 h2 h3 h4 h5 h6=>exact ⟨_,_,_,h1,h2,.inr ⟨h3,.inr ⟨h4,.inr ⟨h5,.inl ⟨h6,rfl,rfl⟩⟩⟩⟩⟩
 | took h1 h2 h3 h4 h5 h6 h7=>exact ⟨_,_,_,h1,h2,.inr ⟨h3,.inr ⟨h4,.inr ⟨h5,.inr ⟨h6,_,_,h7,.inl ⟨_,rfl,rfl,rfl⟩⟩⟩⟩⟩⟩
 | back h1 h2 h3 h4 h5 h6 h7 h8=>exact ⟨_,_,_,h1,h2,.inr ⟨h3,.inr ⟨h4,.inr ⟨h5,.inr ⟨h6,_,_,h7,.inr ⟨rfl,h8,rfl⟩⟩⟩⟩⟩⟩
theorem KS (cs:List CI) (ns:List NI) (g:T) (a:Int) (rest:List GI) (b:al) (r:HI):(kX cs ns g a rest b r).chs.length<=cs.length+1:=by
 show (cs++(if r.l=[] then [] else [_])).length<=_
 rw [bA]
 split <;> simp
theorem BackI.chs {p:List C} {cs:List CI} {n:Nat} {ns:List NI} {o:Option SI} (h:BackI p cs n ns o):∀ s,o=some s->s.chs.length<=cs.length:=by
 induction h with
 | nil=>intro s h; cases h
 | @hit cs c n m ns r ht=>
  intro s hs
  cases hs
  have:=KS cs (ns.take c.taken) c.goal c.node c.rest (cF c.binds n) r
  rw [bA]
  exact this
 | miss _ _ ih=>
  intro s hs
  have:=ih s hs
  rw [bA]
  omega
theorem StepI.chs {p:List C} {nc:Bool} {s s':SI} {e:Int} (h:StepI p nc s (some s') e):s'.chs.length<=s.chs.length+1:=by
 obtain ⟨g,gs,t,_,_,h⟩:=h.inv
 rcases h with ⟨_,h,_⟩|⟨_,h⟩
 ·cases h
 rcases h with ⟨_,h⟩|⟨_,h⟩
 ·rcases h with ⟨_,h,_⟩|⟨_,h,_⟩
  ·cases h
  ·cases h
   simp only [dX]
   omega
 rcases h with ⟨_,st,c,_,h⟩|⟨_,h⟩
 ·rcases h with ⟨_,h,_⟩|⟨_,h,_⟩|⟨_,_,h,_⟩
  ·cases h; simp
  ·exact SZ (h.chs _ rfl)
  ·cases h
 rcases h with ⟨_,h,_⟩|⟨_,o1,m,_,h⟩
 ·cases h
 rcases h with ⟨r,_,h,_⟩|⟨_,h,_⟩
 ·cases h
  exact KS _ _ _ _ _ _ _
 ·exact SZ (h.chs _ rfl)
theorem Inv.lendI {w0 w:World} {X:List Nat} {A:List Item} {S:ae} {v:Value} {ns:List Int} (h:Inv w0 X (A++[dz v ns]) S w):∃ S',Ext w0.heap.size X S S'/\RdSl S' 1 jz v ns/\Inv w0 X A S' w:=by
 obtain ⟨hl,ho⟩:=h.openRow
 rcases ho with ⟨rfl,h0⟩|⟨g,cap,cur,rfl,hnc,hcm,hcs,ht,hI⟩
 ·exact ⟨S,Ext.refl _ _ _,RowRd.ints (e:=bV) ⟨hl,.inl ⟨rfl,h0⟩⟩,h.sub (dB _ _)⟩
 ·obtain ⟨S',h1,h2,h3⟩:=Inv.pub1 (A:=A) hI
  exact ⟨S',h2,RowRd.ints (e:=bV) ⟨hl,.inr ⟨g,cap,cur,rfl,h3,hnc,hcm,hcs,ht⟩⟩,h1⟩
section
attribute [local irreducible] Run CondV az aO
theorem PY (c:Int) (S:ae):Pure Tryz.prog UW [.int .i64 c] S (.int .i64 (UU c)):=by
 intro w hI
 refine HE.2 ?_
 dsimp only[HE,aM]
 unfold UU
 refine bl ?_
 refine aL (fun h=>?_) (fun h=>?_)
 ·rw [ai h]; exact done hI rfl
 rw [ah h]
 refine bl ?_
 refine aL (fun h=>?_) (fun h=>?_)
 ·rw [ai h]; exact done hI rfl
 rw [ah h]
 refine bl ?_
 refine aL (fun h=>?_) (fun h=>?_)
 ·rw [ai h]; exact done hI rfl
 ·rw [ah h]; exact done hI rfl
end
abbrev qD (sp sb mb:Nat) (pv qv:Value) (nc:Bool) (fuel used fr:Int) (gv cv:Value) (ccs:List (List Value)) (nv:Value) (ncs:List (List Value)) (mo:Int) (es:Array MapEntry) (ck:Nat) (tv:Value) (tr:List Int):List Item:=
 [fx sp (dK sb pv qv nc fuel used fr gv cv nv mo),chI cv ccs,noI nv ncs]++aA sb mb es ck tv tr
theorem mA {α:Type} (A B C:List α):List.Perm (A++B++C) (A++C++B):=by
 rw [eK,eK]
 exact DZ _ cu
theorem SeaQ.none {sp sb mb:Nat} {pv qv:Value} {nc:Bool} {fuel used fr:Int} {gv cv:Value} {ccs:List (List Value)} {nv:Value} {ncs:List (List Value)} {mo:Int} {es:Array MapEntry} {ck:Nat} {tv:Value} {tr:List Int} {S:ae} :
  SeaQ sp sb mb pv qv nc fuel used Option.none (qD sp sb mb pv qv nc fuel used fr gv cv ccs nv ncs mo es ck tv tr) S:=⟨es,ck,tv,tr,[],gv,cv,ccs,nv,ncs,mo,fr,rfl,fun s hs=>by cases hs⟩
section
attribute [local irreducible] Run CondV az aO
set_option maxHeartbeats 4000000 in
theorem GQ {p:List C} (hp:∀ cl∈p,oP cl) (hpb:∀ cl∈p,cl.body.length<=1048576) (hpl:p.length<=20000) {nc:Bool} {s:SI} {o:Option SI} {e:Int} {fuel used:Int} (hu:0<=used/\used<=1000000)
  (hst:(used=fuel/\o=none/\e=2) ∨ (used≠fuel/\StepI p nc s o e)) (hs:xR p.length s) (hn:s.st.length+26 * ir s.chs+26 * p.length<=900000) (hcl:s.chs.length<=1000000) (hnl:s.nodes.length<=1000000)
  {S:ae} {gv pv qv cv nv tv:Value} {ms:List Nat} {tr:List Int} {es:Array MapEntry} {ccs ncs:List (List Value)} {sp sb mb ck:Nat} {mo:Int}
  (h4:RdSl S 5 (RdC S) pv p) (hG:GL S gv s.goals) (hK:SeaK S s.chs s.nodes s.st ms tr es ccs ncs) :
  Tri Tryz.prog Ey [.pointer (some ⟨sp,0,none⟩)] (qD sp sb mb pv qv nc fuel used s.st.length gv cv ccs nv ncs mo es ck tv tr) S
   fun q I' S'=>q=.int .i64 e/\∃ used',SeaQ sp sb mb pv qv nc fuel used' o I' S'/\(o.isSome=true->used'=used+1):=by
 intro w hI
 obtain ⟨X,hX⟩:∃ X,X=bE (qD sp sb mb pv qv nc fuel used s.st.length gv cv ccs nv ncs mo es ck tv tr):=⟨_,rfl⟩
 rw [<- hX] at hI ⊢
 have htb:=hK.tb
 have hml:=hK.mkI.len
 have hcc:ccs.length=s.chs.length:=by have:=hK.ch.hc; rw [TW] at this; omega
 have hnc:=hK.nd.hc
 refine pO.2 ?_
 dsimp only[pO,aM]
 have hJ0:=hI
 clear hI
 refine ⟨fun D lN pr wJ AJ vC wi Gi GJ x9 w_=>Fx D 0 [x9=.pointer (some ⟨sp,0,none⟩),GJ=.pointer (some ⟨sp,0,none⟩),Gi=.pointer (some ⟨sp,6,none⟩),wi=.int .i64 used,vC=.pointer (some ⟨sp,0,none⟩),AJ=.pointer (some ⟨sp,0,none⟩),wJ=.pointer (some ⟨sp,5,none⟩),pr=.int .i64 fuel,lN=.bool (decide (used=fuel))]/\Inv w X (qD sp sb mb pv qv nc fuel used s.st.length gv cv ccs nv ncs mo es ck tv tr) S w_,⟨Fx.nil _ _,hJ0.draw⟩,⟨?_,?_,?_,?_,?_,?_,?_,?_,?_,trivial⟩,?_⟩
 all_goals (intro D bF; intros; rename_i lN pr wJ AJ vC wi Gi GJ x9 w_ hA_; have hF_:=hA_.1; obtain ⟨⟨cj,ci,bR,ce,bP,bY,bZ,cH,c5,_⟩,hI⟩:=hA_)
 ·exact ⟨hF_.set 0 rfl,hI⟩
 ·obtain rfl:=cj ‹_›
  refine aB ?_
  exact ⟨hF_.set 1 rfl,hI⟩
 ·obtain rfl:=ci ‹_›
  refine au qC ?_
  exact ⟨hF_.set 2 rfl,hI⟩
 ·obtain rfl:=bR ‹_›
  refine aN (b:=sp) hI 0 (c:=dK sb pv qv nc fuel used s.st.length gv cv nv mo) aG rfl rfl ?_
  exact ⟨hF_.set 3 rfl,hI⟩
 ·exact ⟨hF_.set 4 rfl,hI⟩
 ·obtain rfl:=bP ‹_›
  refine aB ?_
  exact ⟨hF_.set 5 rfl,hI⟩
 ·obtain rfl:=bY ‹_›
  refine au Nd ?_
  exact ⟨hF_.set 6 rfl,hI⟩
 ·obtain rfl:=bZ ‹_›
  refine aN (b:=sp) hI 0 (c:=dK sb pv qv nc fuel used s.st.length gv cv nv mo) aG rfl rfl ?_
  exact ⟨hF_.set 7 rfl,hI⟩
 ·obtain rfl:=ce ‹_›
  obtain rfl:=cH ‹_›
  refine bl ?_
  exact ⟨hF_.set 8 rfl,hI⟩
 obtain ⟨rfl,rfl,rfl,rfl,rfl,rfl,rfl,rfl,rfl,_⟩:=hF_.all
 clear hF_ cj ci bR ce bP bY bZ cH c5
 refine aL (fun huf=>?_) (fun huf=>?_)
 ·rcases hst with ⟨_,rfl,rfl⟩|⟨h,_⟩
  ·exact ⟨_,_,S,rfl,hI,Ext.refl _ _ _,rfl,_,SeaQ.none,fun h=>by cases h⟩
  ·exact absurd huf h
 have hst:StepI p nc s o e:=by
  rcases hst with ⟨h,_⟩|⟨_,h⟩
  ·exact absurd h huf
  ·exact h
 obtain ⟨g,gs,t,hgs,hres,hcase⟩:=hst.inv
 have hgo:=hs.goals
 have hcu:=hs.cuts
 rw [hgs] at hG hgo hcu
 have hg1:=hgo g (aS ..)
 obtain ⟨hut,hmt⟩:=u7 hs.good hg1.1.1 hs.tab hres
 obtain ⟨gb,a0,a1,a2,a3,gnv,gE,gfz,rfl,hgb,hgt,hgn⟩:∃ gb a0 a1 a2 a3 gnv gE gfz,gv=.pointer (some ⟨gb,0,none⟩)/\S gb=some (.cells #[a0,a1,a2,a3,.int .i64 g.cut,.int .i64 g.up,gnv] gE gfz)/\RdT S [a0,a1,a2,a3] g.t/\GL S gnv gs:=by
  cases hG with
  | cons h1 h2 h3=>exact ⟨_,_,_,_,_,_,_,_,rfl,h1,h2,h3⟩
 refine aB ?_
 refine af hI 0 rfl qC aG rfl ?_
 refine bp (by omega) ?_
 refine aB ?_
 refine du hI 0 rfl qC aG rfl rfl rfl fun w' hI=>?_
 have hI:Inv w X (qD sp sb mb pv qv nc fuel (used+1) s.st.length (.pointer (some ⟨gb,0,none⟩)) cv ccs nv ncs mo es ck tv tr) S w':=hI
 refine aB ?_
 refine af hI 0 rfl gq dC rfl ?_
 have hJ1:=hI
 repeat clear hI
 refine ⟨fun D x5 x4 vh tI su ll AB vN vL JI Ih Km zY lj w_=>Fx D 0 [lj=.pointer (some ⟨sp,0,none⟩),zY=.pointer (some ⟨sp,0,none⟩),Km=.pointer (some ⟨sp,0,none⟩),Ih=.pointer (some ⟨sb,0,none⟩),JI=.pointer (some ⟨gb,0,none⟩),vL=.pointer (some ⟨gb,0,none⟩),vN=.pointer (some ⟨gb,0,none⟩),AB=.agg #[a0,a1,a2,a3],True,True,True,vh=.bool (bI t),True,True,x5=.bool (bI t)]/\∃ (SN:ae) (cs':List Value) (b4:Nat) (c4:Array Value),Ext w.heap.size X S SN/\(D 8=true->cs'.length=4/\(∀ x∈cs',x.oneCell'=true)/\ll=.tuple #[.agg cs'.toArray,.bool (bI t)]/\(bI t=true->RdT SN cs' t))/\(D 9=true->D 8=true/\su=.tuple #[.agg cs'.toArray,.bool (bI t)])/\(D 10=true->D 8=true/\tI=.agg cs'.toArray)/\(D 12=true->x4=.pointer (some ⟨b4,0,none⟩)/\c4.size=4)/\(D 13=true->D 8=true/\D 12=true/\c4=cs'.toArray)/\Inv w X (qD sp sb mb pv qv nc fuel (used+1) s.st.length (.pointer (some ⟨gb,0,none⟩)) cv ccs nv ncs mo es ck tv tr++(match D 12 with|true=>[.blk b4 (.cells c4 ab)]|false=>[])) SN w_,⟨Fx.nil _ _,⟨S,[],0,#[],Ext.refl _ _ _,aQ,aQ,aQ,aQ,aQ,by rw [dh]; exact hJ1.draw⟩⟩,⟨?_,?_,?_,?_,?_,?_,?_,?_,?_,?_,?_,?_,?_,?_,?_,trivial⟩,?_⟩
 all_goals (intro D bF; intros; rename_i x5 x4 vh tI su ll AB vN vL JI Ih Km zY lj w_ hA_; have hF_:=hA_.1; obtain ⟨⟨cj,ci,bR,ce,bP,bY,bZ,cH,c5,dI,bX,cr,cZ,eo,c8,_⟩,⟨SN,cs',b4,c4,hN,e8,e9,e10,e12,e13,hI⟩⟩:=hA_)
 ·exact ⟨hF_.set 0 rfl,⟨SN,cs',b4,c4,hN,e8,e9,e10,e12,e13,hI⟩⟩
 ·obtain rfl:=cj ‹_›
  refine aB ?_
  exact ⟨hF_.set 1 rfl,⟨SN,cs',b4,c4,hN,e8,e9,e10,e12,e13,hI⟩⟩
 ·obtain rfl:=ci ‹_›
  refine au fC ?_
  exact ⟨hF_.set 2 rfl,⟨SN,cs',b4,c4,hN,e8,e9,e10,e12,e13,hI⟩⟩
 ·obtain rfl:=bR ‹_›
  refine aN (b:=sp) hI 0 (c:=dK sb pv qv nc fuel (used+1) s.st.length (.pointer (some ⟨gb,0,none⟩)) cv nv mo) fh rfl rfl ?_
  exact ⟨hF_.set 3 rfl,⟨SN,cs',b4,c4,hN,e8,e9,e10,e12,e13,hI⟩⟩
 ·exact ⟨hF_.set 4 rfl,⟨SN,cs',b4,c4,hN,e8,e9,e10,e12,e13,hI⟩⟩
 ·obtain rfl:=bP ‹_›
  refine aB ?_
  exact ⟨hF_.set 5 rfl,⟨SN,cs',b4,c4,hN,e8,e9,e10,e12,e13,hI⟩⟩
 ·obtain rfl:=bY ‹_›
  refine au HW ?_
  exact ⟨hF_.set 6 rfl,⟨SN,cs',b4,c4,hN,e8,e9,e10,e12,e13,hI⟩⟩
 ·obtain rfl:=bZ ‹_›
  refine bL (cs:=[a0,a1,a2,a3]) ad rfl (fun j v hj=>by rw [hI.cellS (hN.1 _ _ hgb)]; exact ZC j v hj) ?_
  exact ⟨hF_.set 7 rfl,⟨SN,cs',b4,c4,hN,e8,e9,e10,e12,e13,hI⟩⟩
 ·obtain rfl:=ce ‹_›
  obtain rfl:=cH ‹_›
  have hI:=hI.perm (mA [fx sp (dK sb pv qv nc fuel (used+1) s.st.length (.pointer (some ⟨gb,0,none⟩)) cv nv mo),chI cv ccs,noI nv ncs] _ (aA sb mb es ck tv tr))
  refine Run.callE gi gt hI (mt hs.good hres hg1.1.1.1 (hgt.mono hN.1) (hK.km.upS hN.1)) fun v' I' S4 w_=>?_
  rintro ⟨rfl,cs',hl4,ho4,rfl,hR4⟩ hE4 hI
  have hI:=hI.perm (mA [fx sp (dK sb pv qv nc fuel (used+1) s.st.length (.pointer (some ⟨gb,0,none⟩)) cv nv mo),chI cv ccs,noI nv ncs] (aA sb mb es ck tv tr) _)
  have hN:=hN.trans hE4
  have e9:aD D 8 9=true->aD D 8 8=true/\su=.tuple #[.agg cs'.toArray,.bool (bI t)]:=fun h=>absurd (e9 h).1 (by rw [bF]; decide)
  have e10:aD D 8 10=true->aD D 8 8=true/\tI=.agg cs'.toArray:=fun h=>absurd (e10 h).1 (by rw [bF]; decide)
  have e13:aD D 8 13=true->aD D 8 8=true/\aD D 8 12=true/\c4=cs'.toArray:=fun h=>absurd (e13 h).1 (by rw [bF]; decide)
  obtain ⟨SN,hSN⟩:∃ a,a=S4:=⟨_,rfl⟩
  subst hSN
  have e8:aD D 8 8=true->cs'.length=4/\(∀ x∈cs',x.oneCell'=true)/\Value.tuple #[.agg cs'.toArray,.bool (bI t)]=.tuple #[.agg cs'.toArray,.bool (bI t)]/\(bI t=true->RdT SN cs' t):=fun _=>⟨hl4,ho4,rfl,hR4⟩
  exact ⟨hF_.set 8 (by first|assumption|trivial),⟨SN,cs',b4,c4,hN,e8,e9,e10,e12,e13,hI⟩⟩
 ·have QF:=c5 ‹_›
  have e9:aD D 9 9=true->aD D 9 8=true/\ll=.tuple #[.agg cs'.toArray,.bool (bI t)]:=fun _=>⟨‹D 8=true›,(e8 ‹D 8=true›).2.2.1⟩
  exact ⟨hF_.set 9 (by first|assumption|trivial),⟨SN,cs',b4,c4,hN,e8,e9,e10,e12,e13,hI⟩⟩
 ·have X8:=dI ‹_›
  obtain ⟨q8,q9⟩:=e9 ‹D 9=true›
  subst q9
  refine ar rfl ?_
  have e10:aD D 10 10=true->aD D 10 8=true/\Value.agg cs'.toArray=.agg cs'.toArray:=fun _=>⟨q8,rfl⟩
  exact ⟨hF_.set 10 (by first|assumption|trivial),⟨SN,cs',b4,c4,hN,e8,e9,e10,e12,e13,hI⟩⟩
 ·have X8:=dI ‹_›
  obtain ⟨q8,q9⟩:=e9 ‹D 9=true›
  subst q9
  refine ar rfl ?_
  exact ⟨hF_.set 11 rfl,⟨SN,cs',b4,c4,hN,e8,e9,e10,e12,e13,hI⟩⟩
 ·rw [bF] at hI
  refine aT hI aZ fun b4 w_ hI=>?_
  obtain ⟨c4,hc4⟩:∃ a:Array Value,a=#[.int .i64 0,.int .i64 0,.string ⟨#[]⟩,.slice none 0 0]:=⟨_,rfl⟩
  have e12:aD D 12 12=true->Value.pointer (some ⟨b4,0,none⟩)=.pointer (some ⟨b4,0,none⟩)/\c4.size=4:=fun _=>⟨rfl,by rw [hc4]; rfl⟩
  have e13:aD D 12 13=true->aD D 12 8=true/\aD D 12 12=true/\c4=cs'.toArray:=fun h=>absurd (e13 h).2.1 (by rw [bF]; decide)
  have hI:Inv w X (qD sp sb mb pv qv nc fuel (used+1) s.st.length (.pointer (some ⟨gb,0,none⟩)) cv ccs nv ncs mo es ck tv tr++[.blk b4 (.cells c4 ab)]) SN w_:=by rw [hc4]; rw [dh] at hI; exact hI
  exact ⟨hF_.set 12 (by first|assumption|trivial),⟨SN,cs',b4,c4,hN,e8,e9,e10,e12,e13,hI⟩⟩
 ·have WJ:=cZ ‹_›
  have M1:=bX ‹_›
  obtain ⟨q8,q10⟩:=e10 ‹D 10=true›
  obtain ⟨q12,q13⟩:=e12 ‹D 12=true›
  subst q10 q12
  rw [‹D 12=true›] at hI
  have hl4:=(e8 q8).1
  refine aC hI 6 rfl ad (by simpa using hl4) q13 (by simpa using (e8 q8).2.1) fun w_ hI=>?_
  obtain ⟨c4,hc4⟩:∃ a,a=cs'.toArray:=⟨_,rfl⟩
  have e12:aD D 13 12=true->Value.pointer (some ⟨b4,0,none⟩)=.pointer (some ⟨b4,0,none⟩)/\c4.size=4:=fun _=>⟨rfl,by rw [hc4]; simpa using hl4⟩
  have e13:aD D 13 13=true->aD D 13 8=true/\aD D 13 12=true/\c4=cs'.toArray:=fun _=>⟨q8,‹D 12=true›,hc4⟩
  have hI:Inv w X (qD sp sb mb pv qv nc fuel (used+1) s.st.length (.pointer (some ⟨gb,0,none⟩)) cv ccs nv ncs mo es ck tv tr++(match D 12 with|true=>[.blk b4 (.cells c4 ab)]|false=>[])) SN w_:=by rw [hc4,‹D 12=true›]; exact hI
  exact ⟨hF_.set 13 trivial,⟨SN,cs',b4,c4,hN,e8,e9,e10,e12,e13,hI⟩⟩
 ·obtain rfl:=cr ‹_›
  exact ⟨hF_.set 14 rfl,⟨SN,cs',b4,c4,hN,e8,e9,e10,e12,e13,hI⟩⟩
 obtain ⟨rfl,rfl,rfl,rfl,rfl,rfl,rfl,rfl,QF,X8,M1,rfl,WJ,_,rfl,_⟩:=hF_.all
 clear hF_ cj ci bR ce bP bY bZ cH c5 dI bX cr cZ eo c8
 obtain ⟨q8,q12,rfl⟩:=e13 (by assumption)
 obtain ⟨rfl,-⟩:=e12 q12
 obtain ⟨hl4,ho4,-,hR4⟩:=e8 q8
 rw [q12] at hI
 have hI:Inv w X ([.blk b4 (.cells cs'.toArray ab)]++qD sp sb mb pv qv nc fuel (used+1) s.st.length (.pointer (some ⟨gb,0,none⟩)) cv ccs nv ncs mo es ck tv tr) SN w_:=hI.perm (cu (l₁:=[_]))
 clear e8 e9 e10 e12 e13
 refine bQ ?_
 rcases hcase with ⟨hsm,rfl,rfl⟩|⟨hsm,hcase⟩
 ·rw [hsm]
  refine aw (fun _=>?_) (fun h=>by cases h)
  exact ⟨_,_,SN,rfl,hI.sub (iz _ _),hN,rfl,_,SeaQ.none,fun h=>by cases h⟩
 rw [hsm]
 refine aw (fun h=>by cases h) (fun _=>?_)
 have hRt:=hR4 hsm
 obtain ⟨t0,t1,t2,t3,rfl⟩:=hRt.four
 have hE1:=hN
 have hnle:ncs.length<=1000000:=by omega
 refine aB ?_
 refine af hI 1 rfl dS gC rfl ?_
 refine kB hI 3 rfl gA ?_
 have hJ2:=hI
 clear hN
 repeat clear hI
 refine ⟨fun D x3 CC Cw Du DE DG CS CL zp ze wa vA vY ut nR w_=>Fx D 0 [nR=.pointer (some ⟨sp,0,none⟩),ut=.pointer (some ⟨sp,0,none⟩),vY=.pointer (some ⟨sp,0,none⟩),vA=.pointer (some ⟨sp,10,none⟩),wa=nv,ze=.agg #[t0,t1,t2,t3],zp=.pointer (some ⟨gb,0,none⟩),CL=.pointer (some ⟨gb,0,none⟩),CS=.pointer (some ⟨gb,5,none⟩),DG=.int .i64 g.up,DE=.agg #[t0,t1,t2,t3,.int .i64 g.up,.int .i64 (-1)],True,True,CC=.pointer (some ⟨sp,0,none⟩),x3=.pointer (some ⟨sp,10,none⟩),True]/\∃ (SP:ae) (nvF nvR:Value) (ncsR:List (List Value)),Ext w.heap.size X SN SP/\(D 11=true->∃ b,Du=.slice (some ⟨b,0,none⟩) 1 1/\SP b=some (.cells #[t0,t1,t2,t3,.int .i64 g.up,.int .i64 (-1)] iY))/\(D 12=false->nv=nvF/\nv=nvR/\ncs=ncsR)/\(D 12=true->nvR=Cw/\ncsR=ncs++[[t0,t1,t2,t3,.int .i64 g.up,.int .i64 (-1)]])/\(D 15=true->nvF=Cw)/\(D 12=true->D 4=true)/\(D 15=true->D 12=true)/\Inv w X ([.blk b4 (.cells #[t0,t1,t2,t3] ab),fx sp (dK sb pv qv nc fuel (used+1) s.st.length (.pointer (some ⟨gb,0,none⟩)) cv nvF mo),chI cv ccs,noI nvR ncsR]++aA sb mb es ck tv tr) SP w_,⟨Fx.nil _ _,⟨SN,nv,nv,ncs,Ext.refl _ _ _,aQ,fun _=>⟨rfl,rfl,rfl⟩,aQ,aQ,aQ,aQ,hJ2.draw⟩⟩,⟨?_,?_,?_,?_,?_,?_,?_,?_,?_,?_,?_,?_,?_,?_,?_,?_,trivial⟩,?_⟩
 all_goals (intro D bF; intros; rename_i x3 CC Cw Du DE DG CS CL zp ze wa vA vY ut nR w_ hA_; have hF_:=hA_.1; obtain ⟨⟨cj,ci,bR,ce,bP,bY,bZ,cH,c5,dI,bX,cr,cZ,eo,c8,eQ,_⟩,⟨SP,nvF,nvR,ncsR,hN,e19,e20f,e20,e23,k20,k23,hI⟩⟩:=hA_)
 ·exact ⟨hF_.set 0 rfl,⟨SP,nvF,nvR,ncsR,hN,e19,e20f,e20,e23,k20,k23,hI⟩⟩
 ·exact ⟨hF_.set 1 rfl,⟨SP,nvF,nvR,ncsR,hN,e19,e20f,e20,e23,k20,k23,hI⟩⟩
 ·obtain rfl:=ci ‹_›
  refine aB ?_
  exact ⟨hF_.set 2 rfl,⟨SP,nvF,nvR,ncsR,hN,e19,e20f,e20,e23,k20,k23,hI⟩⟩
 ·obtain rfl:=bR ‹_›
  refine au dS ?_
  exact ⟨hF_.set 3 rfl,⟨SP,nvF,nvR,ncsR,hN,e19,e20f,e20,e23,k20,k23,hI⟩⟩
 ·obtain rfl:=ce ‹_›
  have f20:D 12=false:=bB.2 fun h=>by rw [k20 h] at bF; cases bF
  have q:=(e20f f20).1
  refine aN (b:=sp) (v:=nv) hI 1 (c:=dK sb pv qv nc fuel (used+1) s.st.length (.pointer (some ⟨gb,0,none⟩)) cv nvF mo) gC rfl (by rw [q]; rfl) ?_
  have k20:aD D 4 12=true->aD D 4 4=true:=fun _=>rfl
  exact ⟨hF_.set 4 (by first|assumption|trivial),⟨SP,nvF,nvR,ncsR,hN,e19,e20f,e20,e23,k20,k23,hI⟩⟩
 ·refine av hI 0 ad rfl rfl ?_
  exact ⟨hF_.set 5 rfl,⟨SP,nvF,nvR,ncsR,hN,e19,e20f,e20,e23,k20,k23,hI⟩⟩
 ·exact ⟨hF_.set 6 rfl,⟨SP,nvF,nvR,ncsR,hN,e19,e20f,e20,e23,k20,k23,hI⟩⟩
 ·obtain rfl:=bZ ‹_›
  refine aB ?_
  exact ⟨hF_.set 7 rfl,⟨SP,nvF,nvR,ncsR,hN,e19,e20f,e20,e23,k20,k23,hI⟩⟩
 ·obtain rfl:=cH ‹_›
  refine au FT ?_
  exact ⟨hF_.set 8 rfl,⟨SP,nvF,nvR,ncsR,hN,e19,e20f,e20,e23,k20,k23,hI⟩⟩
 ·obtain rfl:=c5 ‹_›
  refine ct aG (by rw [hI.cellS ((hE1.trans hN).1 _ _ hgb)]; rfl) ?_
  exact ⟨hF_.set 9 rfl,⟨SP,nvF,nvR,ncsR,hN,e19,e20f,e20,e23,k20,k23,hI⟩⟩
 ·obtain rfl:=bY ‹_›
  obtain rfl:=dI ‹_›
  refine QE ?_
  exact ⟨hF_.set 10 rfl,⟨SP,nvF,nvR,ncsR,hN,e19,e20f,e20,e23,k20,k23,hI⟩⟩
 ·obtain rfl:=bX ‹_›
  refine er hI JV rfl (by omega) (by omega) fun b19 w_ hI=>?_
  have hI:Inv w X (([.blk b4 (.cells #[t0,t1,t2,t3] ab),fx sp (dK sb pv qv nc fuel (used+1) s.st.length (.pointer (some ⟨gb,0,none⟩)) cv nvF mo),chI cv ccs,noI nvR ncsR]++aA sb mb es ck tv tr)++[.blk b19 (.cells #[t0,t1,t2,t3,.int .i64 g.up,.int .i64 (-1)] iY)]) SP w_:=hI
  obtain ⟨SP,hI,hE5,hb19⟩:=Inv.pub1 hI
  have hN:=hN.trans hE5
  have e19:aD D 11 11=true->∃ b,Value.slice (some ⟨b19,0,none⟩) 1 1=.slice (some ⟨b,0,none⟩) 1 1/\SP b=some (.cells #[t0,t1,t2,t3,.int .i64 g.up,.int .i64 (-1)] iY):=fun _=>⟨b19,rfl,hb19⟩
  exact ⟨hF_.set 11 (by first|assumption|trivial),⟨SP,nvF,nvR,ncsR,hN,e19,e20f,e20,e23,k20,k23,hI⟩⟩
 ·have QG:=bP ‹_›
  have VK:=cr ‹_›
  obtain ⟨b,q19,hb⟩:=e19 ‹D 11=true›
  subst q19
  obtain ⟨q1,rfl,rfl⟩:=e20f bF
  refine dZ hI 3 [t0,t1,t2,t3,.int .i64 g.up,.int .i64 (-1)] JV (by omega) (n:=ncs.length) (xs:=ncs.flatten) (by rw [QG]; rfl) rfl (m:=1) (o:=0) (fun j u hj=>by rw [hI.cellS hb,cq]; simpa using hj) (OW hRt.one) (by omega) (by omega) fun nvR w_ hI=>?_
  obtain ⟨ncsR,hR⟩:∃ a,a=ncs++[[t0,t1,t2,t3,.int .i64 g.up,.int .i64 (-1)]]:=⟨_,rfl⟩
  rw [eF,<- hR] at hI
  have e20f:aD D 12 12=false->nv=nvF/\nv=nvR/\ncs=ncsR:=fun h=>Bool.noConfusion h
  have e20:aD D 12 12=true->nvR=nvR/\ncsR=ncs++[[t0,t1,t2,t3,.int .i64 g.up,.int .i64 (-1)]]:=fun _=>⟨rfl,hR⟩
  have e23:aD D 12 15=true->nvF=nvR:=fun h=>absurd (k23 h) (by rw [bF]; decide)
  have k20:aD D 12 12=true->aD D 12 4=true:=fun _=>by assumption
  have k23:aD D 12 15=true->aD D 12 12=true:=fun _=>rfl
  have e19:aD D 12 11=true->∃ b',Value.slice (some ⟨b,0,none⟩) 1 1=.slice (some ⟨b',0,none⟩) 1 1/\SP b'=some (.cells #[t0,t1,t2,t3,.int .i64 g.up,.int .i64 (-1)] iY):=fun _=>⟨b,rfl,hb⟩
  exact ⟨hF_.set 12 (by first|assumption|trivial),⟨SP,nvF,nvR,ncsR,hN,e19,e20f,e20,e23,k20,k23,hI⟩⟩
 ·obtain rfl:=cj ‹_›
  refine aB ?_
  exact ⟨hF_.set 13 rfl,⟨SP,nvF,nvR,ncsR,hN,e19,e20f,e20,e23,k20,k23,hI⟩⟩
 ·obtain rfl:=eo ‹_›
  refine au dS ?_
  exact ⟨hF_.set 14 rfl,⟨SP,nvF,nvR,ncsR,hN,e19,e20f,e20,e23,k20,k23,hI⟩⟩
 ·obtain rfl:=c8 ‹_›
  have WJ:=cZ ‹_›
  obtain ⟨q1,q2⟩:=e20 ‹D 12=true›
  subst q1
  obtain ⟨va,vcap,hv,_⟩:=hI.rowSlice' (i:=3) rfl
  have hcl:nvR.cells=#[nvR]:=by rw [hv]; rfl
  refine cW hI 1 (n:=1) (by rw [hcl]; rfl) (by rw [gC]; rfl) rfl (jw rfl) (by rw [hcl,hv]; simp [Value.oneCell']) fun w_ hI=>?_
  rw [hcl] at hI
  obtain ⟨nvF,hF⟩:∃ a,a=nvR:=⟨_,rfl⟩
  have e23:aD D 15 15=true->nvF=nvR:=fun _=>hF
  have e20f:aD D 15 12=false->nv=nvF/\nv=nvR/\ncs=ncsR:=fun h=>absurd ‹D 12=true› (by rw [show D 12=false from h]; decide)
  have k23:aD D 15 15=true->aD D 15 12=true:=fun _=>‹D 12=true›
  have hI:Inv w X ([.blk b4 (.cells #[t0,t1,t2,t3] ab),fx sp (dK sb pv qv nc fuel (used+1) s.st.length (.pointer (some ⟨gb,0,none⟩)) cv nvF mo),chI cv ccs,noI nvR ncsR]++aA sb mb es ck tv tr) SP w_:=by rw [hF]; exact hI
  exact ⟨hF_.set 15 trivial,⟨SP,nvF,nvR,ncsR,hN,e19,e20f,e20,e23,k20,k23,hI⟩⟩
 obtain ⟨rfl,rfl,rfl,rfl,QG,rfl,rfl,rfl,rfl,rfl,rfl,VK,WJ,rfl,rfl,_,_⟩:=hF_.all
 clear hF_ cj ci bR ce bP bY bZ cH c5 dI bX cr cZ eo c8 eQ
 obtain ⟨q1,q2⟩:=e20 (by assumption)
 have q3:=e23 (by assumption)
 rw [q3,<- q1] at hI
 clear e19 e20f e20 e23 k20 k23 q3 q1
 have hE2:=hE1.trans hN
 have hnd2:Rows 6 (RdNI SP) ncsR (s.nodes++[⟨t,g.up,-1⟩]):=by
  rw [q2]
  exact (hK.nd.monoR fun _ _=>RdNI.mono hE2.1).snoc ⟨t0,t1,t2,t3,rfl,hRt.mono hN.1⟩ rfl
 have hnl2:(s.nodes++[(⟨t,g.up,-1⟩:NI)]).length=s.nodes.length+1:=by simp
 have hRt2:=hRt.mono hN.1
 refine av hI 0 ad rfl rfl ?_
 refine Run.callPure ml mu hI (lg hRt2) fun w' hI=>?_
 obtain ⟨gnp,rfl⟩:=hgn.ptr
 rcases hcase with ⟨hct,hcase⟩|⟨hct,hcase⟩
 ·rw [hct]
  refine aw (fun _=>?_) (fun h=>by cases h)
  refine aB ?_
  refine af hI 1 rfl yK Ma rfl ?_
  rcases hcase with ⟨rfl,rfl,rfl⟩|⟨rfl,rfl,rfl⟩
  ·refine aw (fun _=>?_) (fun h=>by cases h)
   exact ⟨_,_,SP,rfl,hI.sub (iz _ _),hE2,rfl,_,SeaQ.none,fun h=>by cases h⟩
  ·refine aw (fun h=>by cases h) (fun _=>?_)
   obtain ⟨ca,ccap,rfl,-⟩:=hI.rowSlice' (i:=2) rfl
   obtain ⟨kk,hkk⟩:∃ kk:Nat,g.cut=kk:=⟨g.cut.toNat,by have:=hg1.1.2; omega⟩
   have hkl:kk<=ccs.length:=by have:=hg1.2; omega
   have hJ3:=hI
   repeat clear hI
   refine ⟨fun D Hl HQ N4 Ph FL TJ Tk T8 T6 UE O1 NG w_=>Fx D 0 [NG=.pointer (some ⟨sp,0,none⟩),O1=.pointer (some ⟨sp,0,none⟩),UE=.pointer (some ⟨sp,0,none⟩),T6=.pointer (some ⟨sp,9,none⟩),T8=.slice ca ccs.length ccap,Tk=.pointer (some ⟨gb,0,none⟩),TJ=.pointer (some ⟨gb,0,none⟩),FL=.pointer (some ⟨gb,4,none⟩),Ph=.int .i64 (kk:Int),N4=.slice ca kk ccap,HQ=.pointer (some ⟨sp,0,none⟩),Hl=.pointer (some ⟨sp,9,none⟩),True]/\∃ (nF:Nat),(D 12=false->ccs.length=nF)/\(D 12=true->D 4=true)/\(D 12=true->nF=kk)/\Inv w X ([.blk b4 (.cells #[t0,t1,t2,t3] ab),fx sp (dK sb pv qv false fuel (used+1) s.st.length (.pointer (some ⟨gb,0,none⟩)) (.slice ca nF ccap) nvR mo),chI (.slice ca ccs.length ccap) ccs,noI nvR ncsR]++aA sb mb es ck tv tr) SP w_,⟨Fx.nil _ _,⟨ccs.length,fun _=>rfl,aQ,aQ,hJ3.draw⟩⟩,⟨?_,?_,?_,?_,?_,?_,?_,?_,?_,?_,?_,?_,?_,trivial⟩,?_⟩
   all_goals (intro D bF; intros; rename_i Hl HQ N4 Ph FL TJ Tk T8 T6 UE O1 NG w_ hA_; have hF_:=hA_.1; obtain ⟨⟨cj,ci,bR,ce,bP,bY,bZ,cH,c5,dI,bX,cr,cZ,_⟩,⟨nF,e10f,k10,e10,hI⟩⟩:=hA_)
   ·exact ⟨hF_.set 0 rfl,⟨nF,e10f,k10,e10,hI⟩⟩
   ·exact ⟨hF_.set 1 rfl,⟨nF,e10f,k10,e10,hI⟩⟩
   ·obtain rfl:=ci ‹_›
    refine aB ?_
    exact ⟨hF_.set 2 rfl,⟨nF,e10f,k10,e10,hI⟩⟩
   ·obtain rfl:=bR ‹_›
    refine au dY ?_
    exact ⟨hF_.set 3 rfl,⟨nF,e10f,k10,e10,hI⟩⟩
   ·obtain rfl:=ce ‹_›
    have f10:D 12=false:=bB.2 fun h=>by rw [k10 h] at bF; cases bF
    have q:=e10f f10
    refine aN (b:=sp) (v:=.slice ca ccs.length ccap) hI 1 (c:=dK sb pv qv false fuel (used+1) s.st.length (.pointer (some ⟨gb,0,none⟩)) (.slice ca nF ccap) nvR mo) eD rfl (by rw [q]; rfl) ?_
    have k10:aD D 4 12=true->aD D 4 4=true:=fun _=>rfl
    exact ⟨hF_.set 4 rfl,⟨nF,e10f,k10,e10,hI⟩⟩
   ·exact ⟨hF_.set 5 rfl,⟨nF,e10f,k10,e10,hI⟩⟩
   ·obtain rfl:=bY ‹_›
    refine aB ?_
    exact ⟨hF_.set 6 rfl,⟨nF,e10f,k10,e10,hI⟩⟩
   ·obtain rfl:=bZ ‹_›
    refine au FP ?_
    exact ⟨hF_.set 7 rfl,⟨nF,e10f,k10,e10,hI⟩⟩
   ·obtain rfl:=cH ‹_›
    refine ct (v:=.int .i64 (kk:Int)) aG (by rw [hI.cellS (hE2.1 _ _ hgb),<- hkk]; rfl) ?_
    exact ⟨hF_.set 8 rfl,⟨nF,e10f,k10,e10,hI⟩⟩
   ·obtain rfl:=bP ‹_›
    obtain rfl:=c5 ‹_›
    refine QM hI 2 rfl gP (n:=kk) hkl ?_
    exact ⟨hF_.set 9 rfl,⟨nF,e10f,k10,e10,hI⟩⟩
   ·obtain rfl:=cj ‹_›
    refine aB ?_
    exact ⟨hF_.set 10 rfl,⟨nF,e10f,k10,e10,hI⟩⟩
   ·obtain rfl:=bX ‹_›
    refine au dY ?_
    exact ⟨hF_.set 11 rfl,⟨nF,e10f,k10,e10,hI⟩⟩
   ·obtain rfl:=cr ‹_›
    obtain rfl:=dI ‹_›
    refine cW hI 1 (n:=1) rfl (by rw [eD]; rfl) rfl (jw rfl) (by simp [Value.cells,Value.oneCell']) fun w_ hI=>?_
    obtain ⟨nF,hF⟩:∃ a,a=kk:=⟨_,rfl⟩
    have e10f:aD D 12 12=false->ccs.length=nF:=fun h=>Bool.noConfusion h
    have k10:aD D 12 12=true->aD D 12 4=true:=fun _=>by assumption
    have e10:aD D 12 12=true->nF=kk:=fun _=>hF
    have hI:Inv w X ([.blk b4 (.cells #[t0,t1,t2,t3] ab),fx sp (dK sb pv qv false fuel (used+1) s.st.length (.pointer (some ⟨gb,0,none⟩)) (.slice ca nF ccap) nvR mo),chI (.slice ca ccs.length ccap) ccs,noI nvR ncsR]++aA sb mb es ck tv tr) SP w_:=by rw [hF]; exact hI
    exact ⟨hF_.set 12 trivial,⟨nF,e10f,k10,e10,hI⟩⟩
   obtain ⟨rfl,rfl,rfl,rfl,rfl,rfl,rfl,rfl,rfl,rfl,rfl,rfl,_,_⟩:=hF_.all
   clear hF_ cj ci bR ce bP bY bZ cH c5 dI bX cr cZ
   have q10:=e10 (by assumption)
   rw [q10] at hI
   clear e10 e10f k10
   have hI:=hI.cutRow (i:=2) rfl (n:=kk) hkl hK.ch.hk
   refine aB ?_
   refine au nf ?_
   refine ct (v:=.pointer gnp) dC (by rw [hI.cellS (hE2.1 _ _ hgb)]; rfl) ?_
   refine aB ?_
   refine du hI 1 rfl gq dC rfl rfl rfl fun w' hI=>?_
   refine ⟨_,_,SP,rfl,hI.sub (iz _ _),hE2,rfl,_,⟨es,ck,tv,tr,ms.take kk,.pointer gnp,.slice ca kk ccap,ccs.take kk,nvR,ncsR,mo,_,rfl,fun s' hs'=>?_⟩,fun _=>rfl⟩
   cases hs'
   refine ⟨rfl,hgn.mono hE2.1,hK.km.upS hE2.1,?_,hnd2,?_,htb⟩
   ·have:=(hK.ch.monoR fun _ _=>RdCI.mono hE2.1).take kk
    rw [OX] at this
    rw [hkk]
    exact this
   ·rw [hkk]
    exact hK.mkI.cut (by omega)
 rw [hct]
 refine aw (fun h=>by cases h) (fun _=>?_)
 refine av hI 0 ad rfl rfl ?_
 refine Run.callPure jy jx hI (iS hRt2) fun w' hI=>?_
 have hwt:=gj hsm hut
 rcases hcase with ⟨hbt,st',c,hB,hcase⟩|⟨hbt,hcase⟩
 ·rw [hbt]
  refine aw (fun _=>?_) (fun h=>by cases h)
  have hJ4:=hI
  repeat clear hI
  refine ⟨fun D x7 Uw Ur P8 OR PD Pl w_=>Fx D 0 [Pl=.pointer (some ⟨sp,0,none⟩),PD=.pointer (some ⟨sp,0,none⟩),OR=.pointer (some ⟨sp,0,none⟩),P8=.pointer (some ⟨sb,0,none⟩),Ur=.agg #[t0,t1,t2,t3],Uw=.int .i64 c,x7=.int .i64 c]/\∃ (es3:Array MapEntry) (ck3:Nat) (tv3:Value) (tr3:List Int),(D 5=false->es=es3/\ck=ck3/\tv=tv3/\tr=tr3)/\(D 5=true->KnownM SP es3 st'/\Tr s.st st' tr tr3)/\Inv w X ([.blk b4 (.cells #[t0,t1,t2,t3] ab),fx sp (dK sb pv qv nc fuel (used+1) s.st.length (.pointer (some ⟨gb,0,none⟩)) cv nvR mo),chI cv ccs,noI nvR ncsR]++aA sb mb es3 ck3 tv3 tr3) SP w_,⟨Fx.nil _ _,⟨es,ck,tv,tr,fun _=>⟨rfl,rfl,rfl,rfl⟩,aQ,hJ4.draw⟩⟩,⟨?_,?_,?_,?_,?_,?_,?_,trivial⟩,?_⟩
  all_goals (intro D bF; intros; rename_i x7 Uw Ur P8 OR PD Pl w_ hA_; have hF_:=hA_.1; obtain ⟨⟨cj,ci,bR,ce,bP,bY,bZ,_⟩,⟨es3,ck3,tv3,tr3,e5f,e5,hI⟩⟩:=hA_)
  ·exact ⟨hF_.set 0 rfl,⟨es3,ck3,tv3,tr3,e5f,e5,hI⟩⟩
  ·obtain rfl:=cj ‹_›
   refine aB ?_
   exact ⟨hF_.set 1 rfl,⟨es3,ck3,tv3,tr3,e5f,e5,hI⟩⟩
  ·obtain rfl:=ci ‹_›
   refine au fC ?_
   exact ⟨hF_.set 2 rfl,⟨es3,ck3,tv3,tr3,e5f,e5,hI⟩⟩
  ·obtain rfl:=bR ‹_›
   refine aN (b:=sp) hI 1 (c:=dK sb pv qv nc fuel (used+1) s.st.length (.pointer (some ⟨gb,0,none⟩)) cv nvR mo) fh rfl rfl ?_
   exact ⟨hF_.set 3 rfl,⟨es3,ck3,tv3,tr3,e5f,e5,hI⟩⟩
  ·refine av hI 0 ad rfl rfl ?_
   exact ⟨hF_.set 4 rfl,⟨es3,ck3,tv3,tr3,e5f,e5,hI⟩⟩
  ·obtain rfl:=ce ‹_›
   obtain rfl:=bP ‹_›
   obtain ⟨rfl,rfl,rfl,rfl⟩:=e5f bF
   refine Run.callE (A:=[_,_,_,_]) rq rZ hI (y8 (N:=s.st.length) (by omega) hs.good ⟨hut,by omega⟩ hmt.okN hbt hB hRt2 (hK.km.upS hE2.1) (by omega)) fun v' I' S4 w_=>?_
   rintro ⟨eS,rfl,es3,ck3,tv3,tr3,rfl,hkm3,_,hT3⟩ _ hI
   rw [eS] at hI
   have e5f:aD D 5 5=false->es=es3/\ck=ck3/\tv=tv3/\tr=tr3:=fun h=>Bool.noConfusion h
   have e5:aD D 5 5=true->KnownM SP es3 st'/\Tr s.st st' tr tr3:=fun _=>⟨hkm3,hT3⟩
   exact ⟨hF_.set 5 rfl,⟨es3,ck3,tv3,tr3,e5f,e5,hI⟩⟩
  ·obtain rfl:=bY ‹_›
   exact ⟨hF_.set 6 rfl,⟨es3,ck3,tv3,tr3,e5f,e5,hI⟩⟩
  obtain ⟨rfl,rfl,rfl,rfl,rfl,rfl,rfl,_⟩:=hF_.all
  clear hF_ cj ci bR ce bP bY bZ
  obtain ⟨hkm3,hT3⟩:=e5 (by assumption)
  clear e5 e5f
  have hgd:=hB.good hs.good hbt ⟨hut,by omega⟩
  have hlen:=hgd.len
  have hsh:=hT3.short
  have hK3:SeaK SP s.chs (s.nodes++[⟨t,g.up,-1⟩]) st' ms tr3 es3 ccs ncsR:=⟨hkm3,hK.ch.monoR fun _ _=>RdCI.mono hE2.1,hnd2,hK.mkI.go (TrG.of hT3),by omega⟩
  refine bl ?_
  rcases hcase with ⟨rfl,rfl,rfl⟩|⟨rfl,hb,rfl⟩|⟨h0,h1,rfl,rfl⟩
  ·refine aL (fun _=>?_) (fun h=>absurd rfl h)
   refine aB ?_
   refine au nf ?_
   refine ct (v:=.pointer gnp) dC (by rw [hI.cellS (hE2.1 _ _ hgb)]; rfl) ?_
   refine aB ?_
   refine du hI 1 rfl gq dC rfl rfl rfl fun w' hI=>?_
   refine ⟨_,_,SP,rfl,hI.sub (iz _ _),hE2,rfl,_,⟨es3,ck3,tv3,tr3,ms,.pointer gnp,cv,ccs,nvR,ncsR,mo,_,rfl,fun s' hs'=>?_⟩,fun _=>rfl⟩
   cases hs'
   exact ⟨by rw [hlen],hgn.mono hE2.1,hK3⟩
  ·refine aL (fun h=>by cases h) (fun _=>?_)
   refine bl ?_
   refine aL (fun _=>?_) (fun h=>absurd rfl h)
   refine Run.callE (A:=[_]) jV j7 hI (xM hp hpb hb (gB hs.chs _) (by omega) hcl hlen (h4.mono hE2.1 fun _ _=>RdC.mono hE2.1) hK3) fun v' I' S9 w'=>?_
   rintro ⟨rfl,hQ⟩ hE9 hI
   exact ⟨_,_,S9,rfl,hI.sub (iz _ _),hE2.trans hE9,rfl,_,hQ,fun _=>rfl⟩
  ·refine aL (fun h=>absurd h h0) (fun _=>?_)
   refine bl ?_
   refine aL (fun h=>absurd h h1) (fun _=>?_)
   refine Run.callPure Rz Rv hI (PY c SP) fun w' hI=>?_
   exact ⟨_,_,SP,rfl,hI.sub (iz _ _),hE2,rfl,_,SeaQ.none,fun h=>by cases h⟩
 rw [hbt]
 refine aw (fun h=>by cases h) (fun _=>?_)
 obtain ⟨pa,pcap,hpv,-⟩:=id h4
 subst hpv
 have hpP:=h4.monoC hE2.1
 have hJ5:=hI
 repeat clear hI
 refine ⟨fun D x8 Wu aaN abf aa7 aav aa5 aaJ w_=>Fx D 0 [aaJ=.pointer (some ⟨sp,0,none⟩),aa5=.pointer (some ⟨sp,0,none⟩),aav=.pointer (some ⟨sp,1,none⟩),aa7=.slice pa p.length pcap,abf=.agg #[t0,t1,t2,t3],aaN=.agg (dk t).cells.toArray,True,True]/\(D 7=true->D 6=true/\x8=Wu)/\Inv w X (([.blk b4 (.cells #[t0,t1,t2,t3] ab),fx sp (dK sb (.slice pa p.length pcap) qv nc fuel (used+1) s.st.length (.pointer (some ⟨gb,0,none⟩)) cv nvR mo),chI cv ccs,noI nvR ncsR]++aA sb mb es ck tv tr)++(match D 6 with|true=>[dz Wu (ku p t)]|false=>[])) SP w_,⟨Fx.nil _ _,⟨aQ,by rw [dh]; exact hJ5.draw⟩⟩,⟨?_,?_,?_,?_,?_,?_,?_,?_,trivial⟩,?_⟩
 all_goals (intro D bF; intros; rename_i x8 Wu aaN abf aa7 aav aa5 aaJ w_ hA_; have hF_:=hA_.1; obtain ⟨⟨cj,ci,bR,ce,bP,bY,bZ,cH,_⟩,⟨e7,hI⟩⟩:=hA_)
 ·exact ⟨hF_.set 0 rfl,⟨e7,hI⟩⟩
 ·obtain rfl:=cj ‹_›
  refine aB ?_
  exact ⟨hF_.set 1 rfl,⟨e7,hI⟩⟩
 ·obtain rfl:=ci ‹_›
  refine au qV ?_
  exact ⟨hF_.set 2 rfl,⟨e7,hI⟩⟩
 ·obtain rfl:=bR ‹_›
  refine aN (b:=sp) hI 1 (c:=dK sb (.slice pa p.length pcap) qv nc fuel (used+1) s.st.length (.pointer (some ⟨gb,0,none⟩)) cv nvR mo) td rfl rfl ?_
  exact ⟨hF_.set 3 rfl,⟨e7,hI⟩⟩
 ·refine av hI 0 ad rfl rfl ?_
  exact ⟨hF_.set 4 rfl,⟨e7,hI⟩⟩
 ·obtain rfl:=bP ‹_›
  refine Run.callPure Kd KM hI (AL hRt2) fun w_ hI=>?_
  exact ⟨hF_.set 5 rfl,⟨e7,hI⟩⟩
 ·obtain rfl:=ce ‹_›
  obtain rfl:=bY ‹_›
  rw [bF,dh] at hI
  refine Run.call0 Eo Ed hI (Cp (dk t) hpP (by omega)) fun v1 I' S2 w_=>?_
  rintro ⟨rfl,rfl⟩ _ hI
  have e7:aD D 6 7=true->aD D 6 6=true/\x8=v1:=fun h=>absurd (e7 h).1 (by rw [bF]; decide)
  exact ⟨hF_.set 6 (by first|assumption|trivial),⟨e7,hI⟩⟩
 ·have NF:=bZ ‹_›
  have e7:aD D 7 7=true->aD D 7 6=true/\Wu=Wu:=fun _=>⟨by assumption,rfl⟩
  exact ⟨hF_.set 7 (by first|assumption|trivial),⟨e7,hI⟩⟩
 obtain ⟨rfl,rfl,rfl,rfl,rfl,rfl,NF,Io,_⟩:=hF_.all
 clear hF_ cj ci bR ce bP bY bZ cH
 obtain ⟨q6,rfl⟩:=e7 (by assumption)
 rw [q6] at hI
 clear e7
 obtain ⟨S7,hE7,hRl,hI7⟩:=Inv.lendI hI
 clear hI
 obtain ⟨la,lcap,rfl,-⟩:=id hRl
 have hE27:=hE2.trans hE7
 refine aF hRl dd ?_
 refine bl ?_
 have hfl:(ku p t).length<=p.length:=uW _ _ _
 rcases hcase with ⟨hf,rfl,rfl⟩|⟨hf,o1,m,hT,hcase⟩
 ·refine aL (fun _=>?_) (fun h=>absurd (by rw [hf]; rfl) h)
  exact ⟨_,_,S7,rfl,hI7.sub (iz _ _),hE27,rfl,_,SeaQ.none,fun h=>by cases h⟩
 refine aL (fun h=>absurd (gO (by omega)) hf) (fun _=>?_)
 refine ⟨fun v w'=>v=.slice la (ku p t).length lcap/\Inv w X ([.blk b4 (.cells #[t0,t1,t2,t3] ab)]++qD sp sb mb (.slice pa p.length pcap) qv nc fuel (used+1) s.st.length (.pointer (some ⟨gb,0,none⟩)) cv ccs nvR ncsR mo es ck tv tr) S7 w',?_,?_⟩
 ·refine aB ?_
  refine af hI7 1 rfl Ne Ma rfl ?_
  refine aw (fun h=>by cases h) (fun _=>?_)
  exact ⟨rfl,hI7⟩
 repeat clear hI7
 intro vl _ _ _ _ _ _ _ _ _ _ _ w'
 rintro ⟨rfl,hI⟩
 have hJ7:=hI
 clear hI
 have hK7:SeaK S7 s.chs (s.nodes++[⟨t,g.up,-1⟩]) s.st ms tr es ccs ncsR:=⟨hK.km.upS hE27.1,hK.ch.monoR fun _ _=>RdCI.mono hE27.1,hnd2.monoR fun _ _=>RdNI.mono hE7.1,hK.mkI,htb⟩
 refine ⟨fun D XD XC XL WY Xn aa9 abm aaT abt w_=>Fx D 0 [abt=.pointer (some ⟨sp,0,none⟩),aaT=.agg #[t0,t1,t2,t3],abm=.int .i64 (ncs.length:Int),aa9=.slice la (ku p t).length lcap,Xn=.pointer (some ⟨gb,0,none⟩),WY=.pointer (some ⟨gb,0,none⟩),XL=.pointer (some ⟨gb,6,none⟩),XC=.pointer gnp,True]/\∃ (I1:List Item) (S8:ae),(D 8=false->I1=qD sp sb mb (.slice pa p.length pcap) qv nc fuel (used+1) s.st.length (.pointer (some ⟨gb,0,none⟩)) cv ccs nvR ncsR mo es ck tv tr/\S8=S7)/\(D 8=true->Nt sp sb mb (.slice pa p.length pcap) qv nc fuel (used+1) (.pointer (some ⟨gb,0,none⟩)) s.chs (s.nodes++[⟨t,g.up,-1⟩]) s.st tr ms t (ncs.length:Int) gs o1 m XD I1 S8)/\Ext w.heap.size X S7 S8/\Inv w X ([.blk b4 (.cells #[t0,t1,t2,t3] ab)]++I1) S8 w_,⟨Fx.nil _ _,⟨_,S7,fun _=>⟨rfl,rfl⟩,aQ,Ext.refl _ _ _,hJ7.draw⟩⟩,⟨?_,?_,?_,?_,?_,?_,?_,?_,?_,trivial⟩,?_⟩
 all_goals (intro D bF; intros; rename_i XD XC XL WY Xn aa9 abm aaT abt w_ hA_; have hF_:=hA_.1; obtain ⟨⟨cj,ci,bR,ce,bP,bY,bZ,cH,c5,_⟩,⟨I1,S8,e8f,e8,hN8,hI⟩⟩:=hA_)
 ·exact ⟨hF_.set 0 rfl,⟨I1,S8,e8f,e8,hN8,hI⟩⟩
 ·refine av hI 0 ad rfl rfl ?_
  exact ⟨hF_.set 1 rfl,⟨I1,S8,e8f,e8,hN8,hI⟩⟩
 ·exact ⟨hF_.set 2 rfl,⟨I1,S8,e8f,e8,hN8,hI⟩⟩
 ·exact ⟨hF_.set 3 rfl,⟨I1,S8,e8f,e8,hN8,hI⟩⟩
 ·exact ⟨hF_.set 4 rfl,⟨I1,S8,e8f,e8,hN8,hI⟩⟩
 ·obtain rfl:=bP ‹_›
  refine aB ?_
  exact ⟨hF_.set 5 rfl,⟨I1,S8,e8f,e8,hN8,hI⟩⟩
 ·obtain rfl:=bY ‹_›
  refine au nf ?_
  exact ⟨hF_.set 6 rfl,⟨I1,S8,e8f,e8,hN8,hI⟩⟩
 ·obtain rfl:=bZ ‹_›
  refine ct (v:=.pointer gnp) dC (by rw [hI.cellS ((hE27.trans hN8).1 _ _ hgb)]; rfl) ?_
  exact ⟨hF_.set 7 rfl,⟨I1,S8,e8f,e8,hN8,hI⟩⟩
 ·obtain rfl:=cj ‹_›
  obtain rfl:=ci ‹_›
  obtain rfl:=bR ‹_›
  obtain rfl:=ce ‹_›
  obtain rfl:=cH ‹_›
  obtain ⟨q1,q2⟩:=e8f bF
  rw [q1,q2] at hI
  refine Run.callE (A:=[_]) r3 rU hI (Lc hp hpb hT hs.good hs.tab ⟨⟨hut,by omega⟩,hmt⟩ (by omega) (hRt2.mono hE7.1) hRl (hgn.mono hE27.1) (h4.monoC hE27.1) hK7 ⟨by omega,by omega⟩ hcl) fun v' I1 S8 w_=>?_
  intro hPT hN8 hI
  have e8f:aD D 8 8=false->I1=qD sp sb mb (.slice pa p.length pcap) qv nc fuel (used+1) s.st.length (.pointer (some ⟨gb,0,none⟩)) cv ccs nvR ncsR mo es ck tv tr/\S8=S7:=fun h=>Bool.noConfusion h
  have e8:aD D 8 8=true->Nt sp sb mb (.slice pa p.length pcap) qv nc fuel (used+1) (.pointer (some ⟨gb,0,none⟩)) s.chs (s.nodes++[⟨t,g.up,-1⟩]) s.st tr ms t (ncs.length:Int) gs o1 m v' I1 S8:=fun _=>hPT
  exact ⟨hF_.set 8 (by first|assumption|trivial),⟨I1,S8,e8f,e8,hN8,hI⟩⟩
 obtain ⟨rfl,rfl,rfl,rfl,rfl,rfl,rfl,rfl,QF,_⟩:=hF_.all
 clear hF_ cj ci bR ce bP bY bZ cH c5
 have hPT:=e8 (by assumption)
 clear e8 e8f
 obtain ⟨rfl,es4,ck4,tv4,tr4,ms4,gv4,cv4,ccs4,nv4,ncs4,mo4,rfl,hm⟩:=hPT
 have hE9:=hE27.trans hN8
 have hI9:=hI.sub (iz _ _)
 obtain ⟨j1,j2,j3⟩:=hT.ok hp hs.good hs.tab ⟨⟨hut,by omega⟩,hmt⟩
 rcases hcase with ⟨r,rfl,rfl,rfl⟩|⟨rfl,hb,rfl⟩
 ·refine aw (fun _=>?_) (fun h=>by cases h)
  obtain ⟨_,_,_,j4,j5,_⟩:=j3 r rfl
  refine ⟨_,_,S8,rfl,hI9,hE9,rfl,_,⟨es4,ck4,tv4,tr4,ms4,gv4,cv4,ccs4,nv4,ncs4,mo4,_,rfl,fun s' hs'=>?_⟩,fun _=>rfl⟩
  cases hs'
  rw [<- hnc]
  exact ⟨by show (m:Int)=(r.st.length:Int); omega,hm.1,hm.2⟩
 ·refine aw (fun h=>by cases h) (fun _=>?_)
  obtain ⟨rfl,rfl,rfl,hKn⟩:=hm
  have hm':=j2 rfl
  refine Run.callE (A:=[]) jV j7 hI9 (xM hp hpb hb ((gB hs.chs _).mono j1 (aW _)) (by omega) hcl (dU j1) (h4.monoC hE9.1) hKn) fun v' I' S9 w'=>?_
  rintro ⟨rfl,hQ⟩ hE10 hI
  exact ⟨_,_,S9,rfl,hI,hE9.trans hE10,rfl,_,hQ,fun _=>rfl⟩
end
end
section
open Go Go.RowKit
theorem Fc {st:al}:∀ {ts us:List T},Res st (.list ts us)->us.length=ts.length
 | _,_,.nil=>rfl
 | _,_,.cons _ h=>by rw [bw,bw,Fc h]
theorem GN {N:Nat}:∀ {us:List T},(∀ u∈us,bI u=true/\okU N u)->wL us<=840 * us.length
 | [],_=>by simp [wL]
 | u::us,h=>by
  have h1:=gj (h u (aS ..)).1 (h u (aS ..)).2
  have h2:=GN fun x hx=>h x (aV _ hx)
  rw [wL,bw]
  omega
theorem H8 {N:Nat} {n:Int} (h:0<=n/\n<N):okU N (Ys n):=by
 show okU N (.mk 1 n emptyB [])
 rw [okU,dw]
 exact ⟨by decide,fun _=>⟨h.1,by omega,rfl,rfl⟩,trivial,C7⟩
theorem YZ (S:ae) {n:Int} (h:0<=n/\n<1000000000):RdT S [.int .i64 1,.int .i64 n,.string ⟨#[]⟩,.slice none 0 0] (Ys n):=
 RdT.nil (by simp [inI]) (by simp only [inI]; omega) (show 0<=maxLen from be _) (by simp [maxLen])
section
variable {P:Program} {w:World} {K:Value->World->Prop}
attribute [local irreducible] Run
theorem Ow {T e:TypeId} {cx cy:Bool} {p:Option Addr} (hT:P.underlying T=some (.pointer e)) (hk:K (.bool p.isSome) w):Run P (cK .neq T cx cy (.pointer p) (.pointer none)) w K:=by
 refine Run.of (v:=.bool p.isSome) (w':=w) ?_ hk
 have he:(Op.equal T (.pointer p) (.pointer none)).run P w=.ok p.isNone w:=by
  rw [Op.equal,Op.maxDepth,Op.equalIn.eq_def]
  cases p <;> simp [run_underlying hT]
 have hg:∀ x y,(eqGuard .neq T x y (.pointer p) (.pointer none)).run P w=.ok () w:=fun x y=>by unfold eqGuard; simp
 simp only [cK,binOp,Sem.run_bind,hg,Result.andThen_ok,he,Sem.run_pure]
 cases p <;> rfl
end
section
attribute [local irreducible] Run CondV az aO
set_option maxHeartbeats 1000000 in
theorem Nj {st:al} (hg:Good st.length st) (hsl:st.length<=1000000) {vars:List Int} (hv:∀ n∈vars,0<=n/\n<st.length) (hvl:vars.length<=1000) {o:Option (List T)} (h:ValsI st vars o) {S:ae} {v:Value} (hvr:RdSl S 1 jz v vars)
  {sb mb ck:Nat} {es:Array MapEntry} {tv:Value} {tr:List Int} (hkm:KnownM S es st) :
  Tri Tryz.prog Bn [.pointer (some ⟨sb,0,none⟩),v] (aA sb mb es ck tv tr) S fun q I' S'=>I'=aA sb mb es ck tv tr/\match o with
   | none=>q=.tuple #[.slice none 0 0,.bool false]
   | some vs=>∃ u,q=.tuple #[u,.bool true]/\RdSl S' 4 (RdT S') u vs:=by
 intro w hI
 obtain ⟨X,hX⟩:∃ X,X=bE (aA sb mb es ck tv tr):=⟨_,rfl⟩
 rw [<- hX] at hI ⊢
 obtain ⟨us,hus,ho⟩:=h
 have hul:=Fc hus
 rw [kR] at hul
 have hok:∀ (k:Nat) (hk:k<us.length),okU st.length us[k]:=fun k hk=>by
  refine jD hg (Fk hus k (by rw [kR]; omega) hk) ?_
  rw [H6]
  exact H8 (hv _ (bz _))
 refine od.2 ?_
 dsimp only[od,aY]
 refine aF hvr dd ?_
 have hI:Inv w X ([aJ (.slice none 0 0) ab 4 []]++aA sb mb es ck tv tr) S w:=(hI.rowNil ab 4).perm (cu (l₁:=[_]))
 refine ⟨fun i t w'=>∃ (k:Nat) (css:List (List Value)) (S1:ae),k<=vars.length/\i=.int .i64 (k:Int)/\Ext w.heap.size X S S1/\Rows 4 (RdT S1) css (us.take k)/\(us.take k).all bI=true/\Inv w X ([aJ t ab 4 css]++aA sb mb es ck tv tr) S1 w',
  fun i _ _=>vars.length - (intOf i).toNat,⟨0,[],S,be _,rfl,Ext.refl _ _ _,Rows.nil _ _,rfl,hI⟩,?_⟩
 clear hI
 intro ii _ tt _ _ _ _ _ _ _ _ _ _ _ _ _ _ _ _ _ _ _ _ _ w'
 rintro ⟨k,css,S1,hk,rfl,hE,hR,hall,hI⟩
 have hcl:=hR.hc
 rw [dX] at hcl
 refine bH ?_
 refine aL (fun hki=>?_) (fun hki=>?_)
 ·have hk':k<vars.length:=by omega
  have hku:k<us.length:=by omega
  have hvk:=hv _ (bz hk')
  refine i5 hI (hvr.mono hE.1 fun _ _ h=>h) dd aG hk' (fun cs hcs=>hcs) ?_
  refine Run.callPure oM oR hI (mG _ S1) fun w' hI=>?_
  have hrk:=Fk hus k (by rw [kR]; omega) hku
  rw [H6] at hrk
  refine Run.callE (A:=[_]) gi gt hI (mt (cs:=[.int .i64 1,.int .i64 vars[k],.string ⟨#[]⟩,.slice none 0 0]) hg hrk ⟨H8 hvk,by show (0+0+0:Nat)<=1048576; omega⟩ (YZ S1 ⟨hvk.1,by omega⟩) (hkm.upS hE.1)) fun v' I' S2 w'=>?_
  rintro ⟨rfl,cs',hl4,ho4,rfl,hR4⟩ hE2 hI
  refine ar rfl ?_
  refine ar rfl ?_
  refine aT hI aZ fun b9 w' hI=>?_
  refine aC hI 4 rfl ad (by simpa using hl4) rfl (by simpa using ho4) fun w' hI=>?_
  refine bQ ?_
  cases hsm:bI us[k] with
  | false=>
   refine aw (fun _=>?_) (fun h=>by cases h)
   have hna:us.all bI=false:=W6.2 ⟨us[k],bz hku,by rw [hsm]; decide⟩
   rw [hna] at ho
   rw [ah (by simp)] at ho
   subst ho
   have hI:Inv w X (([aJ tt ab 4 css]++aA sb mb es ck tv tr)++[.blk b9 (.cells cs'.toArray ab)]) S2 w':=hI
   exact ⟨_,_,S2,rfl,(hI.sub (dB _ _)).sub (ei _ _),hE.trans hE2,rfl,rfl⟩
  | true=>
   refine aw (fun h=>by cases h) (fun _=>?_)
   refine av hI 4 ad rfl (by simpa using hl4) ?_
   have hI:Inv w X (([aJ tt ab 4 css]++aA sb mb es ck tv tr)++[.blk b9 (.cells cs'.toArray ab)]) S2 w':=hI
   have hI:=hI.sub (dB _ _)
   refine d6 hI 0 cs' bo (by omega) (by omega) rfl hl4 ho4 (by omega) (by omega) fun v' w' hI=>?_
   refine bp (by omega) ?_
   refine ⟨⟨k+1,css++[cs'],S2,hk',rfl,hE.trans hE2,?_,?_,hI⟩,by simp only [intOf,dv]; omega⟩
   ·rw [fl hku]
    exact (hR.monoR fun _ _=>RdT.mono hE2.1).snoc (hR4 hsm) hl4
   ·rw [fl hku,List.all_append,hall]
    simp [hsm]
 ·have hke:k=us.length:=by omega
  rw [hke,fJ] at hR hall
  have hws:=GN (us:=us) fun u hu=>by
   obtain ⟨i,hi,rfl⟩:=zo hu
   exact ⟨dE.1 hall _ hu,hok i hi⟩
  have hcw:=BZ us
  have hI:Inv w X (aA sb mb es ck tv tr++[aJ tt ab 4 css]) S1 _:=hI.perm cu
  obtain ⟨S2,hE2,hrd,hI2⟩:=hI.lendExt
  have hts:=RowRd.rows (hR.monoR fun _ _=>RdT.mono hE2.1) hrd
  refine Run.call0 n8 oE hI2 (lO hts (by omega)) fun v1 I' S3 w'=>?_
  rintro ⟨rfl,rfl⟩ _ hI3
  refine kB hI3 3 rfl dd ?_
  refine dA ?_
  have hI4:=hI3.sub (dB _ _)
  rw [hall] at ho
  refine aL (fun hgt=>?_) (fun hgt=>?_)
  ·rw [ah (by omega)] at ho
   subst ho
   exact ⟨_,_,_,rfl,hI4,hE.trans hE2,rfl,rfl⟩
  ·rw [ai ⟨rfl,by omega⟩] at ho
   subst ho
   refine Run.call0E rQ rl hI4 (pi hts (by omega)) fun v' I' S5 w'=>?_
   rintro ⟨rfl,M,rfl,hT⟩ hE5 hI5
   obtain ⟨S9,hI9,hE9,hins⟩:=Inv.pubExt hI5
   exact ⟨_,_,S9,rfl,hI9,(hE.trans hE2).trans (hE5.trans hE9),rfl,_,rfl,hT.rd hins fun _ _ _ hi h=>h.rd hi⟩
end
end
section
open Go Go.RowKit
theorem RunI.invG {p:List C} {vars:List Int} {most n:Nat} {s:SI} {out:List (List T)} {r:List (List T) × Int} (h:RunI p vars most n s out r) (hg:s.goals≠[]) :
  (n=0/\r=(out,2)) ∨ ∃ m o e,n=m+1/\StepI p false s o e/\((o=none/\r=(out,e)) ∨ ∃ s',o=some s'/\RunI p vars most m s' out r):=by
 cases h with
 | fuel _=>exact .inl ⟨rfl,rfl⟩
 | stop _ h=>exact .inr ⟨_,_,_,rfl,h,.inl ⟨rfl,rfl⟩⟩
 | step _ h h'=>exact .inr ⟨_,_,_,rfl,h,.inr ⟨_,rfl,h'⟩⟩
 | more h=>exact absurd h hg
 | large h=>exact absurd h hg
 | last h=>exact absurd h hg
 | next h=>exact absurd h hg
theorem RunI.invN {p:List C} {vars:List Int} {most n:Nat} {s:SI} {out:List (List T)} {r:List (List T) × Int} (h:RunI p vars most n s out r) (hg:s.goals=[]) :
  (out.length=most/\r=(out,1)) ∨ (out.length≠most/\∃ v,ValsI s.st vars v/\((v=none/\r=(out,3)) ∨ ∃ vs o,v=some vs/\BackI p s.chs s.st.length s.nodes o/\((o=none/\r=(out++[vs],0)) ∨ ∃ s',o=some s'/\RunI p vars most n s' (out++[vs]) r))):=by
 cases h with
 | fuel h=>exact absurd hg h
 | stop h=>exact absurd hg h
 | step h=>exact absurd hg h
 | more _ h=>exact .inl ⟨h,rfl⟩
 | large _ h h'=>exact .inr ⟨h,_,h',.inl ⟨rfl,rfl⟩⟩
 | last _ h h' h''=>exact .inr ⟨h,_,h',.inr ⟨_,_,rfl,h'',.inl ⟨rfl,rfl⟩⟩⟩
 | next _ h h' h'' h3=>exact .inr ⟨h,_,h',.inr ⟨_,_,rfl,h'',.inr ⟨_,rfl,h3⟩⟩⟩
theorem Yb (c:Int):UU c≠-1:=by
 unfold UU
 split
 ·decide
 ·split
  ·decide
  ·split <;> decide
theorem StepI.ne {p:List C} {nc:Bool} {s:SI} {e:Int} (h:StepI p nc s none e):e≠-1:=by
 obtain ⟨g,gs,t,_,_,h⟩:=h.inv
 rcases h with ⟨_,_,rfl⟩|⟨_,h⟩
 ·decide
 rcases h with ⟨_,h⟩|⟨_,h⟩
 ·rcases h with ⟨_,_,rfl⟩|⟨_,h,_⟩
  ·decide
  ·cases h
 rcases h with ⟨_,st,c,_,h⟩|⟨_,h⟩
 ·rcases h with ⟨_,h,_⟩|⟨_,_,rfl⟩|⟨_,_,_,rfl⟩
  ·cases h
  ·decide
  ·exact Yb c
 rcases h with ⟨_,_,rfl⟩|⟨_,o1,m,_,h⟩
 ·decide
 rcases h with ⟨r,_,h,_⟩|⟨_,_,rfl⟩
 ·cases h
 ·decide
def RdAns (S:ae) (cs:List Value) (ts:List T):Prop:=∃ v,cs=[v]/\RdSl S 4 (RdT S) v ts
theorem RdAns.mono {S S':ae} (hs:Sle S S') {cs:List Value} {ts:List T} (h:RdAns S cs ts):RdAns S' cs ts:=by
 obtain ⟨v,rfl,h⟩:=h
 exact ⟨v,rfl,h.monoT hs⟩
def lenZ:Value->Nat
 | .slice _ n _=>n
 | _=>0
def fuN (sp:Nat) (w:World):Nat:=match w.heap[sp]? with
 | some (.cells c _ _)=>(match (c[5]?:Option Value),(c[6]?:Option Value) with|some (.int _ a),some (.int _ b)=>(a - b).toNat|_,_=>0)
 | _=>0
def Ww (sp most:Nat) (t9 t10:Value) (w:World):Nat:=match t10 with
 | .int _ x=>if x=-1 then 1+fuN sp w+(most - lenZ t9) else 0
 | _=>0
theorem Inv.fuN {w0 w:World} {X:List Nat} {L:List Item} {S:ae} (h:Inv w0 X L S w) (i:Nat) {sp sb:Nat} {pv qv:Value} {nc:Bool} {fuel used fr:Int} {gv cv nv:Value} {mo:Int}
  (hi:L[i]?=some (fx sp (dK sb pv qv nc fuel used fr gv cv nv mo))):fuN sp w=(fuel - used).toNat:=by
 have h1:w.heap[sp]?=some (.cells (dK sb pv qv nc fuel used fr gv cv nv mo) pB):=h.its _ (cz hi)
 unfold Go.Proofs.YtgllldjiaglkcaaGreatDoor.fuN
 rw [h1]
 rfl
theorem Inv.lenZ {w0 w:World} {X:List Nat} {L:List Item} {S:ae} (h:Inv w0 X L S w) (i:Nat) {v:Value} {e:TypeId} {k n:Nat} {xs:List Value} (hi:L[i]?=some (.row v e k n xs)):lenZ v=n:=by
 obtain ⟨a,cap,rfl,_⟩:=h.rowSlice' hi
 rfl
section
variable {w:World} {K:Value->World->Prop}
attribute [local irreducible] Run
theorem Q8 {p:Option Addr} {n m:Nat} (hk:K (.agg #[.slice p n m]) w):Run Tryz.prog (cB fp [(0,.slice p n m)]) w K:=by
 refine Run.of (v:=.agg #[.slice p n m]) (w':=w) ?_ hk
 unfold cB
 rw [Sem.run_bind,run_build w fp _ #[.slice p n m] (by kernel_rfl),Result.andThen_ok]
 rfl
end
theorem LT (S:ae):Pure Tryz.prog DC [] S (.tuple #[]):=by
 intro w hI
 refine yI.2 ?_
 dsimp only[yI,rv]
 exact done hI rfl
structure Xi (p:List C) (n:Nat) (s:SI):Prop where
 ok:xR p.length s
 h26:26<=s.st.length
 hn:s.st.length+26 * ir s.chs+26 * p.length * (n+1)<=900000
 hc:s.chs.length+n<=100000
 hl:s.nodes.length+n<=100000
section
attribute [local irreducible] Run CondV az aO
set_option maxHeartbeats 4000000 in
theorem VE {p:List C} (hp:∀ cl∈p,oP cl) (hpb:∀ cl∈p,cl.body.length<=1048576) (hpl:p.length<=20000) {q:List T} {most n:Nat} (hmo:most<=1000) {s:SI} {r:List (List T) × Int} (hr:RunI p (cN q []) most n s [] r)
  (hs:Xi p n s) (hv:∀ n∈cN q [],0<=n/\n<26) (hvl:(cN q []).length<=1000) (hcq:cV q<=1000000000) {fuel used:Int} (hu:0<=used) (hfu:used+n=fuel) (hf:fuel<=100000)
  {S:ae} {gv pv qv cv nv tv:Value} {ms:List Nat} {tr:List Int} {es:Array MapEntry} {ccs ncs:List (List Value)} {sp sb mb ck:Nat} {mo:Int}
  (h4:RdSl S 5 (RdC S) pv p) (hq:RdSl S 4 (RdT S) qv q) (hG:GL S gv s.goals) (hK:SeaK S s.chs s.nodes s.st ms tr es ccs ncs) :
  Tri Tryz.prog Hv [.pointer (some ⟨sp,0,none⟩),.int .i64 (most:Int),.func (.func DC) #[] #[]] (qD sp sb mb pv qv false fuel used s.st.length gv cv ccs nv ncs mo es ck tv tr) S
   fun x I' S'=>∃ v css,x=.tuple #[v,.int .i64 r.2]/\I'=[aJ v fp 1 css]/\Rows 1 (RdAns S') css r.1:=by
 intro w hI
 obtain ⟨X,hX⟩:∃ X,X=bE (qD sp sb mb pv qv false fuel used s.st.length gv cv ccs nv ncs mo es ck tv tr):=⟨_,rfl⟩
 rw [<- hX] at hI ⊢
 refine ru.2 ?_
 dsimp only[ru,dN]
 refine aB ?_
 refine af hI 0 rfl LU aj rfl ?_
 refine Run.call0 n8 oE hI (lO hq hcq) fun v1 I' S3 w'=>?_
 rintro ⟨rfl,rfl⟩ _ hI3
 obtain ⟨S0,hE0,hvr,hI0⟩:=Inv.lendI hI3
 generalize hvars:cN q []=vars at hr hv hvl hvr
 have hI0:Inv w X ([aJ (.slice none 0 0) fp 1 []]++qD sp sb mb pv qv false fuel used s.st.length gv cv ccs nv ncs mo es ck tv tr) S0 w':=(hI0.rowNil fp 1).perm (cu (l₁:=[_]))
 refine ⟨fun t9 t10 w'=>∃ (out:List (List T)) (css:List (List Value)) (S1:ae),Ext w.heap.size X S0 S1/\Rows 1 (RdAns S1) css out/\
   ((∃ (n:Nat) (s:SI) (used:Int) (gv cv nv tv:Value) (ms:List Nat) (tr:List Int) (es:Array MapEntry) (ccs ncs:List (List Value)) (ck:Nat) (mo:Int),t10=.int .i64 (-1)/\RunI p vars most n s out r/\Xi p n s/\0<=used/\used+n=fuel/\out.length<=most/\
    GL S1 gv s.goals/\SeaK S1 s.chs s.nodes s.st ms tr es ccs ncs/\Inv w X ([aJ t9 fp 1 css]++qD sp sb mb pv qv false fuel used s.st.length gv cv ccs nv ncs mo es ck tv tr) S1 w') ∨
       (∃ e L',e≠-1/\t10=.int .i64 e/\r=(out,e)/\Inv w X ([aJ t9 fp 1 css]++L') S1 w')),
  Ww sp most,⟨[],[],S0,Ext.refl _ _ _,Rows.nil _ _,.inl ⟨n,s,used,gv,cv,nv,tv,ms,tr,es,ccs,ncs,ck,mo,rfl,hr,hs,hu,hfu,be _,hG.mono hE0.1,hK.mono hE0.1,hI0⟩⟩,?_⟩
 clear hI hI3 hI0 hr hs hu hfu hG hK hX
 clear hI0
 clear n s used gv cv nv tv ms tr es ccs ncs ck mo
 have h40:=h4.monoC hE0.1
 intro _ _ t9 _ _ _ _ _ _ _ _ _ _ _ _ _ _ _ _ _ _ _ _ _ _ _ _ _ _ t10 _ _ _ _ _ _ _ _ _ _ _ w'
 rintro ⟨out,css,S1,hE1,hR,hcase⟩
 have hcl:=hR.hc
 rcases hcase with ⟨n,s,used,gv,cv,nv,tv,ms,tr,es,ccs,ncs,ck,mo,rfl,hr,hs,hu,hfu,hol,hG,hK,hI⟩|⟨e,L',he,rfl,hre,hI⟩
 ·refine bl ?_
  refine aL (fun _=>?_) (fun h=>absurd rfl h)
  have hfn:=hI.fuN 1 rfl
  have hln:=hI.lenZ 0 rfl
  refine Run.callPure Mt LK hI (LT S1) fun w2 hI=>?_
  refine aB ?_
  refine af hI 1 rfl gq dC rfl ?_
  obtain ⟨gp,rfl⟩:=hG.ptr
  refine Ow (e:=lk) (by kernel_rfl) ?_
  have hs1:=hs.hn
  have hs2:=hs.hc
  have hs3:=hs.hl
  have hmul:26 * p.length * (n+1)=26 * p.length * n+26 * p.length:=Ii _ _
  by_cases hg:s.goals=[]
  ·rw [hg] at hG
   cases hG
   refine aw (fun h=>by cases h) (fun _=>?_)
   refine kB hI 0 rfl oi ?_
   refine bl ?_
   rcases hr.invN hg with ⟨hm,hre⟩|⟨hm,v,hval,hnext⟩
   ·refine aL (fun _=>?_) (fun h=>absurd (by omega) h)
    exact ⟨_,_,S1,rfl,hI.sub (dB _ _),hE0.trans hE1,_,css,by rw [hre],rfl,by rw [hre]; exact hR⟩
   ·refine aL (fun h=>absurd (by omega) hm) (fun _=>?_)
    refine aB ?_
    refine af hI 1 rfl fC fh rfl ?_
    have h26:=hs.h26
    refine Run.callE (A:=[_,_,_,_]) y0 ye hI (Nj hs.ok.good (by omega) (fun n hn=>⟨(hv n hn).1,by have:=(hv n hn).2; omega⟩) hvl hval (hvr.mono hE1.1 fun _ _ h=>h) hK.km) fun v' I' S2 w3=>?_
    rintro ⟨rfl,hm2⟩ hE2 hI2
    rcases hnext with ⟨rfl,hre⟩|⟨vs,o,rfl,hb,hnext⟩
    ·simp only at hm2
     subst hm2
     refine ar rfl ?_
     refine ar rfl ?_
     refine bQ ?_
     refine aw (fun _=>?_) (fun h=>by cases h)
     exact ⟨_,_,S2,rfl,hI2.sub (dB [_] _),(hE0.trans hE1).trans hE2,_,css,by rw [hre],rfl,by rw [hre]; exact hR.monoR fun _ _=>RdAns.mono hE2.1⟩
    ·obtain ⟨u,rfl,hus⟩:=hm2
     obtain ⟨ua,ucap,rfl,-⟩:=id hus
     refine ar rfl ?_
     refine ar rfl ?_
     refine bQ ?_
     refine aw (fun h=>by cases h) (fun _=>?_)
     refine Q8 ?_
     refine d6 hI2 0 [.slice ua vs.length ucap] Ok (by omega) (by omega) rfl rfl (by simp [Value.oneCell']) (by omega) (by omega) fun t9' w4 hI4=>?_
     refine Run.callE (A:=[_]) jV j7 hI4 (xM hp hpb hb hs.ok.chs (by omega) (by omega) rfl ((h40.monoC hE1.1).monoC hE2.1) (hK.mono hE2.1)) fun v' I' S5 w5=>?_
     rintro ⟨rfl,hQ⟩ hE5 hI5
     have hE25:=hE2.trans hE5
     obtain ⟨es4,ck4,tv4,tr4,ms4,gv4,cv4,ccs4,nv4,ncs4,mo4,fr4,rfl,hsome⟩:=hQ
     have hR5:Rows 1 (RdAns S5) (css++[[.slice ua vs.length ucap]]) (out++[vs]):=(hR.monoR fun _ _=>RdAns.mono hE25.1).snoc ⟨_,rfl,hus.monoT hE5.1⟩ rfl
     rcases hnext with ⟨rfl,hre⟩|⟨s',rfl,hr'⟩
     ·refine ⟨⟨out++[vs],_,S5,hE1.trans hE25,hR5,.inr ⟨0,_,by decide,rfl,hre,hI5⟩⟩,?_⟩
      unfold Ww
      simp only [Option.isSome_none,JS,if_false,if_true]
      rw [ah (by decide)]
      omega
     ·obtain ⟨j1,j2,j3,j4⟩:=hb.ok hp hs.ok.chs s' rfl
      have j5:=hb.chs s' rfl
      obtain ⟨rfl,hG4,hK4⟩:=hsome s' rfl
      refine ⟨⟨out++[vs],_,S5,hE1.trans hE25,hR5,.inl ⟨n,s',used,gv4,cv4,nv4,tv4,ms4,tr4,es4,ccs4,ncs4,ck4,mo4,rfl,hr',⟨j1,by omega,by omega,by omega,by omega⟩,hu,hfu,by rw [bA,bw,bU]; omega,hG4,hK4,hI5⟩⟩,?_⟩
      unfold Ww
      have hf2:=hI5.fuN 1 rfl
      have hl2:=hI5.lenZ 0 rfl
      simp only [Option.isSome_some,if_true]
      rw [hf2,hfn,hln,hl2,bA,bw,bU]
      omega
  ·have hgs:gp.isSome=true:=by
    cases gp with
    | none=>
     generalize hgl:s.goals=gl at hG hg
     cases hG with
     | nil=>exact absurd rfl hg
    | some=>rfl
   rw [hgs]
   refine aw (fun _=>?_) (fun h=>by cases h)
   obtain ⟨o,e,hst,hnext⟩:∃ o e,((used=fuel/\o=none/\e=2) ∨ (used≠fuel/\StepI p false s o e))/\((o=none/\e≠-1/\r=(out,e)) ∨ ∃ s' m,n=m+1/\o=some s'/\StepI p false s (some s') e/\RunI p vars most m s' out r):=by
    rcases hr.invG hg with ⟨rfl,h2⟩|⟨m,o,e,rfl,h2,h3⟩
    ·exact ⟨none,2,.inl ⟨by omega,rfl,rfl⟩,.inl ⟨rfl,by decide,h2⟩⟩
    ·refine ⟨o,e,.inr ⟨by omega,h2⟩,?_⟩
     rcases h3 with ⟨rfl,h3⟩|⟨s',rfl,h3⟩
     ·exact .inl ⟨rfl,h2.ne,h3⟩
     ·exact .inr ⟨s',m,rfl,rfl,h2,h3⟩
   refine Run.callE (A:=[_]) pf pC hI (GQ hp hpb hpl ⟨hu,by omega⟩ hst hs.ok (by omega) (by omega) (by omega) (h40.monoC hE1.1) hG hK) fun v' I' S4 w4=>?_
   rintro ⟨rfl,used',hQ,hus⟩ hE4 hI4
   obtain ⟨es4,ck4,tv4,tr4,ms4,gv4,cv4,ccs4,nv4,ncs4,mo4,fr4,rfl,hsome⟩:=hQ
   rcases hnext with ⟨rfl,hne,hre⟩|⟨s',m,rfl,rfl,hst',hr'⟩
   ·refine ⟨⟨out,css,S4,hE1.trans hE4,hR.monoR fun _ _=>RdAns.mono hE4.1,.inr ⟨e,_,hne,rfl,hre,hI4⟩⟩,?_⟩
    unfold Ww
    simp only [ah hne,if_true]
    omega
   ·obtain ⟨j1,j2,j3,rfl,j5⟩:=hst'.ok hp hs.ok s' rfl
    have j6:=hst'.chs
    obtain ⟨rfl,hG4,hK4⟩:=hsome s' rfl
    obtain rfl:=hus rfl
    have hmul':26 * p.length * (m+1)=26 * p.length * m+26 * p.length:=Ii _ _
    have h26:=hs.h26
    refine ⟨⟨out,css,S4,hE1.trans hE4,hR.monoR fun _ _=>RdAns.mono hE4.1,.inl ⟨m,s',used+1,gv4,cv4,nv4,tv4,ms4,tr4,es4,ccs4,ncs4,ck4,mo4,rfl,hr',⟨j1,by omega,by omega,by omega,by omega⟩,by omega,by omega,hol,hG4,hK4,hI4⟩⟩,?_⟩
    unfold Ww
    have hf2:=hI4.fuN 1 rfl
    simp only [if_true]
    rw [hf2,hfn,hln]
    omega
 ·refine bl ?_
  refine aL (fun h=>absurd h he) (fun _=>?_)
  exact ⟨_,_,S1,rfl,hI.sub (dB _ _),hE0.trans hE1,_,css,by rw [hre],rfl,by rw [hre]; exact hR⟩
end
end
section
open Go Go.RowKit
mutual
theorem UX:∀ (t:T) (l:List Int),okV t->(∀ m∈l,0<=m/\m<26)->∀ m∈fO t l,0<=m/\m<26
 | .mk k n s ks,l,ho,hl=>by
  rw [okV] at ho
  rw [fO]
  refine Bq ks _ ho.2 fun m hm=>?_
  split at hm
  ·rename_i hk
   unfold ly at hm
   split at hm
   ·exact hl m hm
   ·rcases bO.1 hm with hm|hm
    ·exact hl m hm
    ·have:=ho.1 hk
     rw [cd.1 hm]
     omega
  ·exact hl m hm
theorem Bq:∀ (ts:List T) (l:List Int),s8 ts->(∀ m∈l,0<=m/\m<26)->∀ m∈cN ts l,0<=m/\m<26
 | [],l,_,hl=>hl
 | t::ts,l,ho,hl=>by
  rw [s8] at ho
  rw [cN]
  exact Bq ts _ ho.2 (UX t l ho.1 hl)
end
end
end Go.Proofs.YtgllldjiaglkcaaGreatDoor
