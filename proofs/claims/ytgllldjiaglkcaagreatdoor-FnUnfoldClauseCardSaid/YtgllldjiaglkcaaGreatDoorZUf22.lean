/- impl's store as the caller's own: resolve, values. -/
import Derived.Test.YtgllldjiaglkcaaGreatDoorZUf21
namespace Go.Proofs.YtgllldjiaglkcaaGreatDoor
section
open Go Go.RowKit
theorem RdT.unpub {S S3:ae} {sb mb ck:Nat} {m tv:Value} {i:Array MapEntry} (l:S sb=some (.cells #[m,tv] c5)) (q:S mb=some (.map i ck)) (r:∀ b o,S b=some o->b≠sb->b≠mb->S3 b=some o) {cs:List Value} {t:T} (h:RdT S cs t):RdT S3 cs t:=by
 induction h with
 | nil hk hn f hc=>exact RdT.nil hk hn f hc
 | @cons k n s kids b o cap c E D hk hn f hl hc a hR B=>
  cases kids with
  | nil=>exact RdT.nil hk hn f hc
  | cons x xs=>
   have g:=(hR 0 (by simp)).length;refine RdT.cons hk hn f hl hc (r _ _ a ?_ ?_) B
   ·rintro rfl;rw [l] at a;cases a;rw [aX,cM,mi] at g;simp at g;omega
   ·rintro rfl;rw [q] at a;cases a
theorem Inv.unpub {w0 w:World} {X:List Nat} {B:List Item} {S S3:ae} (h:Inv w0 X B S w) (M:bh) (q:∀ p∈M,S p.1=some p.2) (l:(bP (aV M)).Nodup) (i:∀ b∈bP (aV M),b∈X ∨ w0.heap.size<=b) (r:Sle S3 S) (t:∀ b∈bP (aV M),S3 b=none) :
  Inv w0 X (B++aV M) S3 w:=by
 refine ⟨h.size,h.os,h.tape,h.output,h.old,fun it hit=>?_,?_,fun b f=>?_,fun b o f=>⟨(h.pub b o (r b o f)).1,fun g=>?_⟩⟩
 ·rcases bF.1 hit with hit|hit
  ·exact h.its it hit
  ·obtain ⟨p,m,rfl⟩:=dp.1 hit;exact (h.pub _ _ (q p m)).1
 ·rw [bZ,oB];refine ⟨h.nd,l,fun a D b f e=>?_⟩;subst e;obtain ⟨p,m,rfl⟩:=iQ.1 f;exact (h.pub _ _ (q p m)).2 D
 ·rw [bZ] at f;rcases bF.1 f with f|f
  ·exact h.new b f
  ·exact i b f
 ·rw [bZ] at g;rcases bF.1 g with g|g
  ·exact (h.pub b o (r b o f)).2 g
  ·rw [t b g] at f;cases f
section
attribute [local irreducible] Run CondV aq aK
theorem ug {N:Nat} {st:aj} (hg:Good N st) {t u:T} (hr:Res st (.one t u)) (ho:okU N t/\wT t<=1048576) {S:ae} {cs:List Value} {sb mb ck:Nat} {l:Array MapEntry} {tv:Value} {tr:List Int} (h:RdT S cs t) (a0:KnownM S l st) :
  Tri Tryz.prog ni [.pointer (some ⟨sb,0,none⟩),.agg cs.toArray] (aB sb mb l ck tv tr) S fun q I' S'=>I'=aB sb mb l ck tv tr/\∃ g:List Value,g.length=4/\(∀ x∈g,x.oneCell'=true)/\q=.tuple #[.agg g.toArray,.bool (bv u)]/\(bv u=true->RdT S' g u):=by
 intro w hI;obtain ⟨X,hX⟩:∃ X,X=bP (aB sb mb l ck tv tr):=⟨_,rfl⟩
 rw [<- hX] at hI ⊢;have r:Inv w X ([dk tv tr]++aV [(sb,.cells #[.map (some mb),tv] c5),(mb,.map l ck)]) S w:=hI.perm (cj (l₁:=[dk tv tr]) (l₂:=aV [(sb,.cells #[.map (some mb),tv] c5),(mb,.map l ck)]));have U:=r.nd;have V:=r.new;rw [bZ,oB] at U;obtain ⟨S1,a1,m,B⟩:=Inv.pubExt r;have J:=B _ (aM ..);have M:=B _ (aR _ (aM ..));have a2:StS S1 S1 sb st:=⟨mb,tv,l,ck,c5,J,M,a0.upS m.1⟩
 have Y:Inv w X ([dk tv tr]++[]) S1 w:=by rw [bV]; exact a1
 refine (Pw Y (wb hg hr ho (h.mono m.1) a2)).mono ?_;rintro e w' ⟨v,I',S',rfl,O,f,rfl,g,hl,h1,rfl,hR⟩;rw [bV] at O;obtain ⟨S3,G⟩:∃ S3:ae,S3=fun b=>if b=sb ∨ b=mb then none else S' b:=⟨_,rfl⟩
 have D:Sle S3 S':=fun b o a=>by
  rw [G] at a;simp only at a;split at a
  ·cases a
  ·exact a
 have i:∀ b o,S' b=some o->b≠sb->b≠mb->S3 b=some o:=fun b o a h1 h2=>by
  rw [G];simp only;rw [ag (by simp [h1,h2])];exact a
 have Z:∀ b o,S b=some o->b≠sb/\b≠mb:=fun b o a=>by
  have:=(r.pub b o a).2;rw [bZ] at this;constructor
  ·rintro rfl; exact this (fb _ (by simp [bP,aV,Item.foot]))
  ·rintro rfl; exact this (fb _ (by simp [bP,aV,Item.foot]))
 have a3:=O.unpub (S3:=S3) [(sb,.cells #[.map (some mb),tv] c5),(mb,.map l ck)] (fun p hp=>by
   simp only [bY,i6,i9] at hp;rcases hp with rfl|rfl
   ·exact f.1 _ _ J
   ·exact f.1 _ _ M) U.2.1 (fun b a=>V b (by rw [bZ]; exact fb _ a)) D (fun b a=>by
   have a:b=sb ∨ b=mb:=by simpa [bP,aV,Item.foot] using a
   rw [G];simp only;rw [ai a])
 refine ⟨_,_,S3,rfl,a3.perm (cj (l₂:=[dk tv tr]) (l₁:=aV [(sb,.cells #[.map (some mb),tv] c5),(mb,.map l ck)])),⟨fun b o a=>?_,fun b o a=>?_⟩,rfl,g,hl,h1,rfl,fun hs=>?_⟩
 ·obtain ⟨n1,n2⟩:=Z b o a;exact i _ _ (f.1 _ _ (m.1 _ _ a)) n1 n2
 ·rcases f.2 b o (D b o a) with h5|h5
  ·exact m.2 b o h5
  ·exact .inr h5
 ·exact RdT.unpub (f.1 _ _ J) (f.1 _ _ M) i (hR hs)
end
end
section
open Go Go.RowKit
theorem YM {a b c d e f g:Value}:∀ (j:Nat) (v:Value),([a,b,c,d]:List Value)[j]?=some v->(#[a,b,c,d,e,f,g]:Array Value)[0+j]?=some v
 | 0,_,h=>h
 | 1,_,h=>h
 | 2,_,h=>h
 | 3,_,h=>h
 | _+4,_,h=>by simp at h
theorem OH {α β:Type}:∀ (k:Nat) (a:List α) (b:List β),(a.zip b).take k=(a.take k).zip (b.take k)
 | 0,a,b=>by simp
 | k+1,[],b=>by simp
 | k+1,x::xs,[]=>by simp
 | k+1,x::xs,y::ys=>by
  rw [List.zip_cons_cons,tT,tT,tT,List.zip_cons_cons,OH k xs ys]
theorem Ux {a f g i:Value} (h:∀ u∈[a,f,g,i],u.oneCell'=true) {m n:Int}:∀ u∈[a,f,g,i,.int .i64 m,.int .i64 n],u.oneCell'=true:=by
 intro u l;simp only [bY,i6,i9] at l;rcases l with rfl|rfl|rfl|rfl|rfl|rfl <;> first|rfl|exact h _ (by simp)
theorem StepI.inv {p:List C} {nc:Bool} {s:SI} {o:Option SI} {e:Int} (h:StepI p nc s o e):∃ g gs t,s.goals=g::gs/\Res s.st (.one g.t t)/\
  ((bv t=false/\o=none/\e=3) ∨ (bv t=true/\
   ((ez t=true/\((nc=true/\o=none/\e=0) ∨ (nc=false/\o=some ⟨s.st,gs,s.chs.take g.cut.toNat,s.nodes++[⟨t,g.up,-1⟩]⟩/\e=-1))) ∨
       (ez t=false/\((bU t=true/\∃ st c,Blt s.st t c st/\((c=0/\o=some ⟨st,gs,s.chs,s.nodes++[⟨t,g.up,-1⟩]⟩/\e=-1) ∨ (c=1/\BackI p s.chs s.st.length (s.nodes++[⟨t,g.up,-1⟩]) o/\e=if o.isSome then -1 else 0) ∨ (c≠0/\c≠1/\o=none/\e=Ni c))) ∨
    (bU t=false/\((eY p t=[]/\o=none/\e=8) ∨ (eY p t≠[]/\∃ G m,TryI p t (eY p t) s.st G m/\
     ((∃ r,G=some r/\o=some (gC s.chs (s.nodes++[⟨t,g.up,-1⟩]) t s.nodes.length gs s.st r)/\e=-1) ∨ (G=none/\BackI p s.chs m (s.nodes++[⟨t,g.up,-1⟩]) o/\e=if o.isSome then -1 else 0)))))))))):=by
 cases h with
 | large a f i=>exact ⟨_,_,_,a,f,.inl ⟨i,rfl,rfl⟩⟩
 | noCut a f i l q=>exact ⟨_,_,_,a,f,.inr ⟨i,.inl ⟨l,.inl ⟨q,rfl,rfl⟩⟩⟩⟩
 | cut a f i l q=>exact ⟨_,_,_,a,f,.inr ⟨i,.inl ⟨l,.inr ⟨q,rfl,rfl⟩⟩⟩⟩
 | solved a f i l q B=>exact ⟨_,_,_,a,f,.inr ⟨i,.inr ⟨l,.inl ⟨q,_,_,B,.inl ⟨rfl,rfl,rfl⟩⟩⟩⟩⟩
 | fail a f i l q B D=>exact ⟨_,_,_,a,f,.inr ⟨i,.inr ⟨l,.inl ⟨q,_,_,B,.inr (.inl ⟨rfl,D,rfl⟩)⟩⟩⟩⟩
 | err a f i l q B D J=>exact ⟨_,_,_,a,f,.inr ⟨i,.inr ⟨l,.inl ⟨q,_,_,B,.inr (.inr ⟨D,J,rfl,rfl⟩)⟩⟩⟩⟩
 | unknown a f i l q B=>exact ⟨_,_,_,a,f,.inr ⟨i,.inr ⟨l,.inr ⟨q,.inl ⟨B,rfl,rfl⟩⟩⟩⟩⟩
 | took a f i l q B D=>exact ⟨_,_,_,a,f,.inr ⟨i,.inr ⟨l,.inr ⟨q,.inr ⟨B,_,_,D,.inl ⟨_,rfl,rfl,rfl⟩⟩⟩⟩⟩⟩
 | back a f i l q B D J=>exact ⟨_,_,_,a,f,.inr ⟨i,.inr ⟨l,.inr ⟨q,.inr ⟨B,_,_,D,.inr ⟨rfl,J,rfl⟩⟩⟩⟩⟩⟩
theorem IZ (cs:List CI) (ns:List NI) (g:T) (a:Int) (rest:List GI) (b:aj) (r:HI):(gC cs ns g a rest b r).chs.length<=cs.length+1:=by
 show (cs++(if r.l=[] then [] else [_])).length<=_;rw [bA];split <;> simp
theorem BackI.chs {p:List C} {cs:List CI} {n:Nat} {ns:List NI} {o:Option SI} (h:BackI p cs n ns o):∀ s,o=some s->s.chs.length<=cs.length:=by
 induction h with
 | nil=>intro s h; cases h
 | @hit cs c n m ns r g=>
  intro s a;cases a;have:=IZ cs (ns.take c.taken) c.goal c.node c.rest (bI c.binds n) r;rw [bA];exact this
 | miss _ _ f=>
  intro s a;have:=f s a;rw [bA];omega
theorem StepI.chs {p:List C} {nc:Bool} {s a:SI} {e:Int} (h:StepI p nc s (some a) e):a.chs.length<=s.chs.length+1:=by
 obtain ⟨g,gs,t,_,_,h⟩:=h.inv;rcases h with ⟨_,h,_⟩|⟨_,h⟩
 ·cases h
 rcases h with ⟨_,h⟩|⟨_,h⟩
 ·rcases h with ⟨_,h,_⟩|⟨_,h,_⟩
  ·cases h
  ·cases h;simp only [cM];omega
 rcases h with ⟨_,st,c,_,h⟩|⟨_,h⟩
 ·rcases h with ⟨_,h,_⟩|⟨_,h,_⟩|⟨_,_,h,_⟩
  ·cases h; simp
  ·exact PQ (h.chs _ rfl)
  ·cases h
 rcases h with ⟨_,h,_⟩|⟨_,f,m,_,h⟩
 ·cases h
 rcases h with ⟨r,_,h,_⟩|⟨_,h,_⟩
 ·cases h;exact IZ _ _ _ _ _ _ _
 ·exact PQ (h.chs _ rfl)
theorem Inv.lendI {w0 w:World} {X:List Nat} {A:List Item} {S:ae} {v:Value} {ns:List Int} (h:Inv w0 X (A++[dk v ns]) S w):∃ S',Ext w0.heap.size X S S'/\RdSl S' 1 jD v ns/\Inv w0 X A S' w:=by
 obtain ⟨hl,m⟩:=h.openRow;rcases m with ⟨rfl,t⟩|⟨g,cap,a,rfl,f,i,l,B,D⟩
 ·exact ⟨S,Ext.refl _ _ _,RowRd.ints (e:=cO) ⟨hl,.inl ⟨rfl,t⟩⟩,h.sub (dt _ _)⟩
 ·obtain ⟨S',o,q,r⟩:=Inv.pub1 (A:=A) D;exact ⟨S',q,RowRd.ints (e:=cO) ⟨hl,.inr ⟨g,cap,a,rfl,r,f,i,l,B⟩⟩,o⟩
section
attribute [local irreducible] Run CondV aq aK
theorem NV (c:Int) (S:ae):Pure Tryz.prog SE [.int .i64 c] S (.int .i64 (Ni c)):=by
 intro w a;refine E8.2 ?_;dsimp only[E8,aO];unfold Ni;refine bw ?_;refine aL (fun h=>?_) (fun h=>?_)
 ·rw [ai h]; exact done a rfl
 rw [ag h];refine bw ?_;refine aL (fun h=>?_) (fun h=>?_)
 ·rw [ai h]; exact done a rfl
 rw [ag h];refine bw ?_;refine aL (fun h=>?_) (fun h=>?_)
 ·rw [ai h]; exact done a rfl
 ·rw [ag h]; exact done a rfl
end
abbrev sV (sp sb mb:Nat) (pv qv:Value) (nc:Bool) (fuel used fr:Int) (gv cv:Value) (ccs:List (List Value)) (nv:Value) (ncs:List (List Value)) (mo:Int) (es:Array MapEntry) (ck:Nat) (tv:Value) (tr:List Int):List Item:=
 [fL sp (dX sb pv qv nc fuel used fr gv cv nv mo),chI cv ccs,noI nv ncs]++aB sb mb es ck tv tr
theorem MI {α:Type} (A B C:List α):List.Perm (A++B++C) (A++C++B):=by
 rw [dx,dx];exact zL _ cj
theorem SeaQ.none {sp sb mb:Nat} {f g:Value} {nc:Bool} {fuel used fr:Int} {h cv:Value} {a:List (List Value)} {nv:Value} {ncs:List (List Value)} {mo:Int} {i:Array MapEntry} {ck:Nat} {tv:Value} {tr:List Int} {S:ae} :
  SeaQ sp sb mb f g nc fuel used Option.none (sV sp sb mb f g nc fuel used fr h cv a nv ncs mo i ck tv tr) S:=⟨i,ck,tv,tr,[],h,cv,a,nv,ncs,mo,fr,rfl,fun s l=>by cases l⟩
section
attribute [local irreducible] Run CondV aq aK
set_option maxHeartbeats 4000000 in
theorem P6 {p:List C} (hp:∀ cl∈p,ie cl) (f7:∀ cl∈p,cl.body.length<=1048576) (n2:p.length<=20000) {nc:Bool} {s:SI} {o:Option SI} {e:Int} {fuel used:Int} (hu:0<=used/\used<=1000000)
  (e3:(used=fuel/\o=none/\e=2) ∨ (used≠fuel/\StepI p nc s o e)) (hs:uB p.length s) (hn:s.st.length+26 * io s.chs+26 * p.length<=900000) (c7:s.chs.length<=1000000) (n3:s.nodes.length<=1000000)
  {S:ae} {gv pv qv cv nv tv:Value} {ms:List Nat} {tr:List Int} {es:Array MapEntry} {O ncs:List (List Value)} {sp sb mb ck:Nat} {mo:Int}
  (h4:RdSl S 5 (RdC S) pv p) (hG:GL S gv s.goals) (hK:SeaK S s.chs s.nodes s.st ms tr es O ncs) :
  Tri Tryz.prog DI [.pointer (some ⟨sp,0,none⟩)] (sV sp sb mb pv qv nc fuel used s.st.length gv cv O nv ncs mo es ck tv tr) S
   fun q I' S'=>q=.int .i64 e/\∃ d9,SeaQ sp sb mb pv qv nc fuel d9 o I' S'/\(o.isSome=true->d9=used+1):=by
 intro w f;obtain ⟨X,hX⟩:∃ X,X=bP (sV sp sb mb pv qv nc fuel used s.st.length gv cv O nv ncs mo es ck tv tr):=⟨_,rfl⟩
 rw [<- hX] at f ⊢;have i5:=hK.tb;have n4:=hK.mkI.len;have n5:O.length=s.chs.length:=by have:=hK.ch.hc; rw [KM] at this; omega
 have l4:=hK.nd.hc;refine ph.2 ?_;dsimp only[ph,aO];have l5:=f;clear f;refine ⟨fun D jX rb wt Hi Rn Sv Io Mh x9 w_=>Fx D 0 [x9=.pointer (some ⟨sp,0,none⟩),Mh=.pointer (some ⟨sp,0,none⟩),Io=.pointer (some ⟨sp,6,none⟩),Sv=.int .i64 used,Rn=.pointer (some ⟨sp,0,none⟩),Hi=.pointer (some ⟨sp,0,none⟩),wt=.pointer (some ⟨sp,5,none⟩),rb=.int .i64 fuel,jX=.bool (decide (used=fuel))]/\Inv w X (sV sp sb mb pv qv nc fuel used s.st.length gv cv O nv ncs mo es ck tv tr) S w_,⟨Fx.nil _ _,l5.draw⟩,⟨?_,?_,?_,?_,?_,?_,?_,?_,?_,trivial⟩,?_⟩;all_goals (intro D bH; intros; rename_i jX rb wt Hi Rn Sv Io Mh x9 w_ a5; have l:=a5.1; obtain ⟨⟨cI,cJ,cH,cD,cL,cN,cq,dg,dG,_⟩,f⟩:=a5)
 ·exact ⟨l.set 0 rfl,f⟩
 ·obtain rfl:=cI ‹_›;refine aE ?_;exact ⟨l.set 1 rfl,f⟩
 ·obtain rfl:=cJ ‹_›;refine aw qw ?_;exact ⟨l.set 2 rfl,f⟩
 ·obtain rfl:=cH ‹_›;refine aT (b:=sp) f 0 (c:=dX sb pv qv nc fuel used s.st.length gv cv nv mo) aG rfl rfl ?_;exact ⟨l.set 3 rfl,f⟩
 ·exact ⟨l.set 4 rfl,f⟩
 ·obtain rfl:=cL ‹_›;refine aE ?_;exact ⟨l.set 5 rfl,f⟩
 ·obtain rfl:=cN ‹_›;refine aw Mf ?_;exact ⟨l.set 6 rfl,f⟩
 ·obtain rfl:=cq ‹_›;refine aT (b:=sp) f 0 (c:=dX sb pv qv nc fuel used s.st.length gv cv nv mo) aG rfl rfl ?_;exact ⟨l.set 7 rfl,f⟩
 ·obtain rfl:=cD ‹_›;obtain rfl:=dg ‹_›;refine bw ?_;exact ⟨l.set 8 rfl,f⟩
 obtain ⟨rfl,rfl,rfl,rfl,rfl,rfl,rfl,rfl,rfl,_⟩:=l.all;clear l cI cJ cH cD cL cN cq dg dG;refine aL (fun g0=>?_) (fun g0=>?_)
 ·rcases e3 with ⟨_,rfl,rfl⟩|⟨h,_⟩
  ·exact ⟨_,_,S,rfl,f,Ext.refl _ _ _,rfl,_,SeaQ.none,fun h=>by cases h⟩
  ·exact absurd g0 h
 have e3:StepI p nc s o e:=by
  rcases e3 with ⟨h,_⟩|⟨_,h⟩
  ·exact absurd h g0
  ·exact h
 obtain ⟨g,gs,t,j7,f4,Y⟩:=e3.inv;have i6:=hs.goals;have l6:=hs.cuts;rw [j7] at hG i6 l6;have f2:=i6 g (aM ..);obtain ⟨d6,g2⟩:=oh hs.good f2.1.1 hs.tab f4;obtain ⟨gb,a0,a1,a2,a3,g3,gE,i1,rfl,c8,j8,e6⟩:∃ gb a0 a1 a2 a3 g3 gE i1,gv=.pointer (some ⟨gb,0,none⟩)/\S gb=some (.cells #[a0,a1,a2,a3,.int .i64 g.cut,.int .i64 g.up,g3] gE i1)/\RdT S [a0,a1,a2,a3] g.t/\GL S g3 gs:=by
  cases hG with
  | cons h1 h2 h3=>exact ⟨_,_,_,_,_,_,_,_,rfl,h1,h2,h3⟩
 refine aE ?_;refine af f 0 rfl qw aG rfl ?_;refine bC (by omega) ?_;refine aE ?_;refine dj f 0 rfl qw aG rfl rfl rfl fun w' f=>?_;have f:Inv w X (sV sp sb mb pv qv nc fuel (used+1) s.st.length (.pointer (some ⟨gb,0,none⟩)) cv O nv ncs mo es ck tv tr) S w':=f;refine aE ?_;refine af f 0 rfl ic dP rfl ?_;have l8:=f;repeat clear f
 refine ⟨fun D x5 x4 xC oJ ji qd vj sy sr Ab AE CS sA ir w_=>Fx D 0 [ir=.pointer (some ⟨sp,0,none⟩),sA=.pointer (some ⟨sp,0,none⟩),CS=.pointer (some ⟨sp,0,none⟩),AE=.pointer (some ⟨sb,0,none⟩),Ab=.pointer (some ⟨gb,0,none⟩),sr=.pointer (some ⟨gb,0,none⟩),sy=.pointer (some ⟨gb,0,none⟩),vj=.agg #[a0,a1,a2,a3],True,True,True,xC=.bool (bv t),True,True,x5=.bool (bv t)]/\∃ (SN:ae) (J:List Value) (b4:Nat) (c4:Array Value),Ext w.heap.size X S SN/\(D 8=true->J.length=4/\(∀ x∈J,x.oneCell'=true)/\qd=.tuple #[.agg J.toArray,.bool (bv t)]/\(bv t=true->RdT SN J t))/\(D 9=true->D 8=true/\ji=.tuple #[.agg J.toArray,.bool (bv t)])/\(D 10=true->D 8=true/\oJ=.agg J.toArray)/\(D 12=true->x4=.pointer (some ⟨b4,0,none⟩)/\c4.size=4)/\(D 13=true->D 8=true/\D 12=true/\c4=J.toArray)/\Inv w X (sV sp sb mb pv qv nc fuel (used+1) s.st.length (.pointer (some ⟨gb,0,none⟩)) cv O nv ncs mo es ck tv tr++(match D 12 with|true=>[.blk b4 (.cells c4 ab)]|false=>[])) SN w_,⟨Fx.nil _ _,⟨S,[],0,#[],Ext.refl _ _ _,aI,aI,aI,aI,aI,by rw [bV]; exact l8.draw⟩⟩,⟨?_,?_,?_,?_,?_,?_,?_,?_,?_,?_,?_,?_,?_,?_,?_,trivial⟩,?_⟩;all_goals (intro D bH; intros; rename_i x5 x4 xC oJ ji qd vj sy sr Ab AE CS sA ir w_ a5; have l:=a5.1; obtain ⟨⟨cI,cJ,cH,cD,cL,cN,cq,dg,dG,dL,cT,dn,dN,fE,gy,_⟩,⟨SN,J,b4,c4,hN,e8,e9,M,a6,a4,f⟩⟩:=a5)
 ·exact ⟨l.set 0 rfl,⟨SN,J,b4,c4,hN,e8,e9,M,a6,a4,f⟩⟩
 ·obtain rfl:=cI ‹_›;refine aE ?_;exact ⟨l.set 1 rfl,⟨SN,J,b4,c4,hN,e8,e9,M,a6,a4,f⟩⟩
 ·obtain rfl:=cJ ‹_›;refine aw gd ?_;exact ⟨l.set 2 rfl,⟨SN,J,b4,c4,hN,e8,e9,M,a6,a4,f⟩⟩
 ·obtain rfl:=cH ‹_›;refine aT (b:=sp) f 0 (c:=dX sb pv qv nc fuel (used+1) s.st.length (.pointer (some ⟨gb,0,none⟩)) cv nv mo) fu rfl rfl ?_;exact ⟨l.set 3 rfl,⟨SN,J,b4,c4,hN,e8,e9,M,a6,a4,f⟩⟩
 ·exact ⟨l.set 4 rfl,⟨SN,J,b4,c4,hN,e8,e9,M,a6,a4,f⟩⟩
 ·obtain rfl:=cL ‹_›;refine aE ?_;exact ⟨l.set 5 rfl,⟨SN,J,b4,c4,hN,e8,e9,M,a6,a4,f⟩⟩
 ·obtain rfl:=cN ‹_›;refine aw Gx ?_;exact ⟨l.set 6 rfl,⟨SN,J,b4,c4,hN,e8,e9,M,a6,a4,f⟩⟩
 ·obtain rfl:=cq ‹_›;refine ci (cs:=[a0,a1,a2,a3]) ad rfl (fun j v hj=>by rw [f.cellS (hN.1 _ _ c8)]; exact YM j v hj) ?_;exact ⟨l.set 7 rfl,⟨SN,J,b4,c4,hN,e8,e9,M,a6,a4,f⟩⟩
 ·obtain rfl:=cD ‹_›;obtain rfl:=dg ‹_›;have f:=f.perm (MI [fL sp (dX sb pv qv nc fuel (used+1) s.st.length (.pointer (some ⟨gb,0,none⟩)) cv nv mo),chI cv O,noI nv ncs] _ (aB sb mb es ck tv tr));refine Run.callE iZ i0 f (ug hs.good f4 f2.1.1.1 (j8.mono hN.1) (hK.km.upS hN.1)) fun v' I' S4 w_=>?_;rintro ⟨rfl,J,d1,g9,rfl,f8⟩ j6 f;have f:=f.perm (MI [fL sp (dX sb pv qv nc fuel (used+1) s.st.length (.pointer (some ⟨gb,0,none⟩)) cv nv mo),chI cv O,noI nv ncs] (aB sb mb es ck tv tr) _);have hN:=hN.trans j6;have e9:ao D 8 9=true->ao D 8 8=true/\ji=.tuple #[.agg J.toArray,.bool (bv t)]:=fun h=>absurd (e9 h).1 (by rw [bH]; decide);have M:ao D 8 10=true->ao D 8 8=true/\oJ=.agg J.toArray:=fun h=>absurd (M h).1 (by rw [bH]; decide);have a4:ao D 8 13=true->ao D 8 8=true/\ao D 8 12=true/\c4=J.toArray:=fun h=>absurd (a4 h).1 (by rw [bH]; decide);obtain ⟨SN,j9⟩:∃ a,a=S4:=⟨_,rfl⟩
  subst j9;have e8:ao D 8 8=true->J.length=4/\(∀ x∈J,x.oneCell'=true)/\Value.tuple #[.agg J.toArray,.bool (bv t)]=.tuple #[.agg J.toArray,.bool (bv t)]/\(bv t=true->RdT SN J t):=fun _=>⟨d1,g9,rfl,f8⟩
  exact ⟨l.set 8 (by first|assumption|trivial),⟨SN,J,b4,c4,hN,e8,e9,M,a6,a4,f⟩⟩
 ·have DH:=dG ‹_›;have e9:ao D 9 9=true->ao D 9 8=true/\qd=.tuple #[.agg J.toArray,.bool (bv t)]:=fun _=>⟨‹D 8=true›,(e8 ‹D 8=true›).2.2.1⟩
  exact ⟨l.set 9 (by first|assumption|trivial),⟨SN,J,b4,c4,hN,e8,e9,M,a6,a4,f⟩⟩
 ·have Eb:=dL ‹_›;obtain ⟨q8,q9⟩:=e9 ‹D 9=true›;subst q9;refine av rfl ?_;have M:ao D 10 10=true->ao D 10 8=true/\Value.agg J.toArray=.agg J.toArray:=fun _=>⟨q8,rfl⟩
  exact ⟨l.set 10 (by first|assumption|trivial),⟨SN,J,b4,c4,hN,e8,e9,M,a6,a4,f⟩⟩
 ·have Eb:=dL ‹_›;obtain ⟨q8,q9⟩:=e9 ‹D 9=true›;subst q9;refine av rfl ?_;exact ⟨l.set 11 rfl,⟨SN,J,b4,c4,hN,e8,e9,M,a6,a4,f⟩⟩
 ·rw [bH] at f;refine aQ f bj fun b4 w_ f=>?_;obtain ⟨c4,c9⟩:∃ a:Array Value,a=#[.int .i64 0,.int .i64 0,.string ⟨#[]⟩,.slice none 0 0]:=⟨_,rfl⟩
  have a6:ao D 12 12=true->Value.pointer (some ⟨b4,0,none⟩)=.pointer (some ⟨b4,0,none⟩)/\c4.size=4:=fun _=>⟨rfl,by rw [c9]; rfl⟩
  have a4:ao D 12 13=true->ao D 12 8=true/\ao D 12 12=true/\c4=J.toArray:=fun h=>absurd (a4 h).2.1 (by rw [bH]; decide);have f:Inv w X (sV sp sb mb pv qv nc fuel (used+1) s.st.length (.pointer (some ⟨gb,0,none⟩)) cv O nv ncs mo es ck tv tr++[.blk b4 (.cells c4 ab)]) SN w_:=by rw [c9]; rw [bV] at f; exact f
  exact ⟨l.set 12 (by first|assumption|trivial),⟨SN,J,b4,c4,hN,e8,e9,M,a6,a4,f⟩⟩
 ·have Qd:=dN ‹_›;have AB:=cT ‹_›;obtain ⟨q8,g4⟩:=M ‹D 10=true›;obtain ⟨f0,k0⟩:=a6 ‹D 12=true›;subst g4 f0;rw [‹D 12=true›] at f;have d1:=(e8 q8).1;refine au f 6 rfl ad (by simpa using d1) k0 (by simpa using (e8 q8).2.1) fun w_ f=>?_;obtain ⟨c4,c9⟩:∃ a,a=J.toArray:=⟨_,rfl⟩
  have a6:ao D 13 12=true->Value.pointer (some ⟨b4,0,none⟩)=.pointer (some ⟨b4,0,none⟩)/\c4.size=4:=fun _=>⟨rfl,by rw [c9]; simpa using d1⟩
  have a4:ao D 13 13=true->ao D 13 8=true/\ao D 13 12=true/\c4=J.toArray:=fun _=>⟨q8,‹D 12=true›,c9⟩
  have f:Inv w X (sV sp sb mb pv qv nc fuel (used+1) s.st.length (.pointer (some ⟨gb,0,none⟩)) cv O nv ncs mo es ck tv tr++(match D 12 with|true=>[.blk b4 (.cells c4 ab)]|false=>[])) SN w_:=by rw [c9,‹D 12=true›]; exact f
  exact ⟨l.set 13 trivial,⟨SN,J,b4,c4,hN,e8,e9,M,a6,a4,f⟩⟩
 ·obtain rfl:=dn ‹_›;exact ⟨l.set 14 rfl,⟨SN,J,b4,c4,hN,e8,e9,M,a6,a4,f⟩⟩
 obtain ⟨rfl,rfl,rfl,rfl,rfl,rfl,rfl,rfl,DH,Eb,AB,rfl,Qd,_,rfl,_⟩:=l.all;clear l cI cJ cH cD cL cN cq dg dG dL cT dn dN fE gy;obtain ⟨q8,f0,rfl⟩:=a4 (by assumption);obtain ⟨rfl,-⟩:=a6 f0;obtain ⟨d1,g9,-,f8⟩:=e8 q8;rw [f0] at f;have f:Inv w X ([.blk b4 (.cells J.toArray ab)]++sV sp sb mb pv qv nc fuel (used+1) s.st.length (.pointer (some ⟨gb,0,none⟩)) cv O nv ncs mo es ck tv tr) SN w_:=f.perm (cj (l₁:=[_]));clear e8 e9 M a6 a4;refine cw ?_;rcases Y with ⟨e0,rfl,rfl⟩|⟨e0,Y⟩
 ·rw [e0];refine aD (fun _=>?_) (fun h=>by cases h);exact ⟨_,_,SN,rfl,f.sub (fH _ _),hN,rfl,_,SeaQ.none,fun h=>by cases h⟩
 rw [e0];refine aD (fun h=>by cases h) (fun _=>?_);have f3:=f8 e0;obtain ⟨t0,t1,t2,t3,rfl⟩:=f3.four;have i7:=hN;have n0:ncs.length<=1000000:=by omega
 refine aE ?_;refine af f 1 rfl ft jU rfl ?_;refine kN f 3 rfl uS ?_;have l9:=f;clear hN;repeat clear f
 refine ⟨fun D EQ Gi Eh Fa EG E3 GO JR Jd Gr r8 Cu Cw zl yZ w_=>Fx D 0 [yZ=.pointer (some ⟨sp,0,none⟩),zl=.pointer (some ⟨sp,0,none⟩),Cw=.pointer (some ⟨sp,0,none⟩),Cu=.pointer (some ⟨sp,10,none⟩),r8=nv,Gr=.agg #[t0,t1,t2,t3],Jd=.pointer (some ⟨gb,0,none⟩),JR=.pointer (some ⟨gb,0,none⟩),GO=.pointer (some ⟨gb,5,none⟩),E3=.int .i64 g.up,EG=.agg #[t0,t1,t2,t3,.int .i64 g.up,.int .i64 (-1)],True,True,Gi=.pointer (some ⟨sp,0,none⟩),EQ=.pointer (some ⟨sp,10,none⟩),True]/\∃ (SP:ae) (V G:Value) (B:List (List Value)),Ext w.heap.size X SN SP/\(D 11=true->∃ b,Fa=.slice (some ⟨b,0,none⟩) 1 1/\SP b=some (.cells #[t0,t1,t2,t3,.int .i64 g.up,.int .i64 (-1)] lX))/\(D 12=false->nv=V/\nv=G/\ncs=B)/\(D 12=true->G=Eh/\B=ncs++[[t0,t1,t2,t3,.int .i64 g.up,.int .i64 (-1)]])/\(D 15=true->V=Eh)/\(D 12=true->D 4=true)/\(D 15=true->D 12=true)/\Inv w X ([.blk b4 (.cells #[t0,t1,t2,t3] ab),fL sp (dX sb pv qv nc fuel (used+1) s.st.length (.pointer (some ⟨gb,0,none⟩)) cv V mo),chI cv O,noI G B]++aB sb mb es ck tv tr) SP w_,⟨Fx.nil _ _,⟨SN,nv,nv,ncs,Ext.refl _ _ _,aI,fun _=>⟨rfl,rfl,rfl⟩,aI,aI,aI,aI,l9.draw⟩⟩,⟨?_,?_,?_,?_,?_,?_,?_,?_,?_,?_,?_,?_,?_,?_,?_,?_,trivial⟩,?_⟩;all_goals (intro D bH; intros; rename_i EQ Gi Eh Fa EG E3 GO JR Jd Gr r8 Cu Cw zl yZ w_ a5; have l:=a5.1; obtain ⟨⟨cI,cJ,cH,cD,cL,cN,cq,dg,dG,dL,cT,dn,dN,fE,gy,gP,_⟩,⟨SP,V,G,B,hN,a7,U,a8,a9,b0,b1,f⟩⟩:=a5)
 ·exact ⟨l.set 0 rfl,⟨SP,V,G,B,hN,a7,U,a8,a9,b0,b1,f⟩⟩
 ·exact ⟨l.set 1 rfl,⟨SP,V,G,B,hN,a7,U,a8,a9,b0,b1,f⟩⟩
 ·obtain rfl:=cJ ‹_›;refine aE ?_;exact ⟨l.set 2 rfl,⟨SP,V,G,B,hN,a7,U,a8,a9,b0,b1,f⟩⟩
 ·obtain rfl:=cH ‹_›;refine aw ft ?_;exact ⟨l.set 3 rfl,⟨SP,V,G,B,hN,a7,U,a8,a9,b0,b1,f⟩⟩
 ·obtain rfl:=cD ‹_›;have m0:D 12=false:=bx.2 fun h=>by rw [b0 h] at bH; cases bH
  have q:=(U m0).1;refine aT (b:=sp) (v:=nv) f 1 (c:=dX sb pv qv nc fuel (used+1) s.st.length (.pointer (some ⟨gb,0,none⟩)) cv V mo) jU rfl (by rw [q]; rfl) ?_;have b0:ao D 4 12=true->ao D 4 4=true:=fun _=>rfl;exact ⟨l.set 4 (by first|assumption|trivial),⟨SP,V,G,B,hN,a7,U,a8,a9,b0,b1,f⟩⟩
 ·refine aC f 0 ad rfl rfl ?_;exact ⟨l.set 5 rfl,⟨SP,V,G,B,hN,a7,U,a8,a9,b0,b1,f⟩⟩
 ·exact ⟨l.set 6 rfl,⟨SP,V,G,B,hN,a7,U,a8,a9,b0,b1,f⟩⟩
 ·obtain rfl:=cq ‹_›;refine aE ?_;exact ⟨l.set 7 rfl,⟨SP,V,G,B,hN,a7,U,a8,a9,b0,b1,f⟩⟩
 ·obtain rfl:=dg ‹_›;refine aw GY ?_;exact ⟨l.set 8 rfl,⟨SP,V,G,B,hN,a7,U,a8,a9,b0,b1,f⟩⟩
 ·obtain rfl:=dG ‹_›;refine cQ aG (by rw [f.cellS ((i7.trans hN).1 _ _ c8)]; rfl) ?_;exact ⟨l.set 9 rfl,⟨SP,V,G,B,hN,a7,U,a8,a9,b0,b1,f⟩⟩
 ·obtain rfl:=cN ‹_›;obtain rfl:=dL ‹_›;refine M7 ?_;exact ⟨l.set 10 rfl,⟨SP,V,G,B,hN,a7,U,a8,a9,b0,b1,f⟩⟩
 ·obtain rfl:=cT ‹_›;refine dB f Jk rfl (by omega) (by omega) fun g1 w_ f=>?_;have f:Inv w X (([.blk b4 (.cells #[t0,t1,t2,t3] ab),fL sp (dX sb pv qv nc fuel (used+1) s.st.length (.pointer (some ⟨gb,0,none⟩)) cv V mo),chI cv O,noI G B]++aB sb mb es ck tv tr)++[.blk g1 (.cells #[t0,t1,t2,t3,.int .i64 g.up,.int .i64 (-1)] lX)]) SP w_:=f;obtain ⟨SP,f,k1,i2⟩:=Inv.pub1 f;have hN:=hN.trans k1;have a7:ao D 11 11=true->∃ b,Value.slice (some ⟨g1,0,none⟩) 1 1=.slice (some ⟨b,0,none⟩) 1 1/\SP b=some (.cells #[t0,t1,t2,t3,.int .i64 g.up,.int .i64 (-1)] lX):=fun _=>⟨g1,rfl,i2⟩
  exact ⟨l.set 11 (by first|assumption|trivial),⟨SP,V,G,B,hN,a7,U,a8,a9,b0,b1,f⟩⟩
 ·have D1:=cL ‹_›;have YF:=dn ‹_›;obtain ⟨b,k2,hb⟩:=a7 ‹D 11=true›;subst k2;obtain ⟨q1,rfl,rfl⟩:=U bH;refine dE f 3 [t0,t1,t2,t3,.int .i64 g.up,.int .i64 (-1)] Jk (by omega) (n:=ncs.length) (xs:=ncs.flatten) (by rw [D1]; rfl) rfl (m:=1) (o:=0) (fun j u hj=>by rw [f.cellS hb,cP]; simpa using hj) (Ux f3.one) (by omega) (by omega) fun G w_ f=>?_;obtain ⟨B,hR⟩:∃ a,a=ncs++[[t0,t1,t2,t3,.int .i64 g.up,.int .i64 (-1)]]:=⟨_,rfl⟩
  rw [eE,<- hR] at f;have U:ao D 12 12=false->nv=V/\nv=G/\ncs=B:=fun h=>Bool.noConfusion h;have a8:ao D 12 12=true->G=G/\B=ncs++[[t0,t1,t2,t3,.int .i64 g.up,.int .i64 (-1)]]:=fun _=>⟨rfl,hR⟩
  have a9:ao D 12 15=true->V=G:=fun h=>absurd (b1 h) (by rw [bH]; decide);have b0:ao D 12 12=true->ao D 12 4=true:=fun _=>by assumption
  have b1:ao D 12 15=true->ao D 12 12=true:=fun _=>rfl;have a7:ao D 12 11=true->∃ b',Value.slice (some ⟨b,0,none⟩) 1 1=.slice (some ⟨b',0,none⟩) 1 1/\SP b'=some (.cells #[t0,t1,t2,t3,.int .i64 g.up,.int .i64 (-1)] lX):=fun _=>⟨b,rfl,hb⟩
  exact ⟨l.set 12 (by first|assumption|trivial),⟨SP,V,G,B,hN,a7,U,a8,a9,b0,b1,f⟩⟩
 ·obtain rfl:=cI ‹_›;refine aE ?_;exact ⟨l.set 13 rfl,⟨SP,V,G,B,hN,a7,U,a8,a9,b0,b1,f⟩⟩
 ·obtain rfl:=fE ‹_›;refine aw ft ?_;exact ⟨l.set 14 rfl,⟨SP,V,G,B,hN,a7,U,a8,a9,b0,b1,f⟩⟩
 ·obtain rfl:=gy ‹_›;have Qd:=dN ‹_›;obtain ⟨q1,q2⟩:=a8 ‹D 12=true›;subst q1;obtain ⟨va,m9,hv,_⟩:=f.rowSlice' (i:=3) rfl;have c7:G.cells=#[G]:=by rw [hv]; rfl
  refine dy f 1 (n:=1) (by rw [c7]; rfl) (by rw [jU]; rfl) rfl (mL rfl) (by rw [c7,hv]; simp [Value.oneCell']) fun w_ f=>?_;rw [c7] at f;obtain ⟨V,hF⟩:∃ a,a=G:=⟨_,rfl⟩
  have a9:ao D 15 15=true->V=G:=fun _=>hF;have U:ao D 15 12=false->nv=V/\nv=G/\ncs=B:=fun h=>absurd ‹D 12=true› (by rw [show D 12=false from h]; decide);have b1:ao D 15 15=true->ao D 15 12=true:=fun _=>‹D 12=true›;have f:Inv w X ([.blk b4 (.cells #[t0,t1,t2,t3] ab),fL sp (dX sb pv qv nc fuel (used+1) s.st.length (.pointer (some ⟨gb,0,none⟩)) cv V mo),chI cv O,noI G B]++aB sb mb es ck tv tr) SP w_:=by rw [hF]; exact f
  exact ⟨l.set 15 trivial,⟨SP,V,G,B,hN,a7,U,a8,a9,b0,b1,f⟩⟩
 obtain ⟨rfl,rfl,rfl,rfl,D1,rfl,rfl,rfl,rfl,rfl,rfl,YF,Qd,rfl,rfl,_,_⟩:=l.all;clear l cI cJ cH cD cL cN cq dg dG dL cT dn dN fE gy gP;obtain ⟨q1,q2⟩:=a8 (by assumption);have q3:=a9 (by assumption);rw [q3,<- q1] at f;clear a7 U a8 a9 b0 b1 q3 q1;have b2:=i7.trans hN;have d7:Rows 6 (RdNI SP) B (s.nodes++[⟨t,g.up,-1⟩]):=by
  rw [q2];exact (hK.nd.monoR fun _ _=>RdNI.mono b2.1).snoc ⟨t0,t1,t2,t3,rfl,f3.mono hN.1⟩ rfl
 have n1:(s.nodes++[(⟨t,g.up,-1⟩:NI)]).length=s.nodes.length+1:=by simp
 have c6:=f3.mono hN.1;refine aC f 0 ad rfl rfl ?_;refine Run.callPure wX xl f (uA c6) fun w' f=>?_;obtain ⟨d0,rfl⟩:=e6.ptr;rcases Y with ⟨g8,Y⟩|⟨g8,Y⟩
 ·rw [g8];refine aD (fun _=>?_) (fun h=>by cases h);refine aE ?_;refine af f 1 rfl Lz R9 rfl ?_;rcases Y with ⟨rfl,rfl,rfl⟩|⟨rfl,rfl,rfl⟩
  ·refine aD (fun _=>?_) (fun h=>by cases h);exact ⟨_,_,SP,rfl,f.sub (fH _ _),b2,rfl,_,SeaQ.none,fun h=>by cases h⟩
  ·refine aD (fun h=>by cases h) (fun _=>?_);obtain ⟨ca,b7,rfl,-⟩:=f.rowSlice' (i:=2) rfl;obtain ⟨kk,g5⟩:∃ kk:Nat,g.cut=kk:=⟨g.cut.toNat,by have:=f2.1.2; omega⟩
   have i8:kk<=O.length:=by have:=f2.2; omega
   have m1:=f;repeat clear f
   refine ⟨fun D RZ RG T0 VB UU TO Ud Wu Ws V5 Xs X5 w_=>Fx D 0 [X5=.pointer (some ⟨sp,0,none⟩),Xs=.pointer (some ⟨sp,0,none⟩),V5=.pointer (some ⟨sp,0,none⟩),Ws=.pointer (some ⟨sp,9,none⟩),Wu=.slice ca O.length b7,Ud=.pointer (some ⟨gb,0,none⟩),TO=.pointer (some ⟨gb,0,none⟩),UU=.pointer (some ⟨gb,4,none⟩),VB=.int .i64 (kk:Int),T0=.slice ca kk b7,RG=.pointer (some ⟨sp,0,none⟩),RZ=.pointer (some ⟨sp,9,none⟩),True]/\∃ (nF:Nat),(D 12=false->O.length=nF)/\(D 12=true->D 4=true)/\(D 12=true->nF=kk)/\Inv w X ([.blk b4 (.cells #[t0,t1,t2,t3] ab),fL sp (dX sb pv qv false fuel (used+1) s.st.length (.pointer (some ⟨gb,0,none⟩)) (.slice ca nF b7) G mo),chI (.slice ca O.length b7) O,noI G B]++aB sb mb es ck tv tr) SP w_,⟨Fx.nil _ _,⟨O.length,fun _=>rfl,aI,aI,m1.draw⟩⟩,⟨?_,?_,?_,?_,?_,?_,?_,?_,?_,?_,?_,?_,?_,trivial⟩,?_⟩;all_goals (intro D bH; intros; rename_i RZ RG T0 VB UU TO Ud Wu Ws V5 Xs X5 w_ a5; have l:=a5.1; obtain ⟨⟨cI,cJ,cH,cD,cL,cN,cq,dg,dG,dL,cT,dn,dN,_⟩,⟨nF,Z,b3,M,f⟩⟩:=a5)
   ·exact ⟨l.set 0 rfl,⟨nF,Z,b3,M,f⟩⟩
   ·exact ⟨l.set 1 rfl,⟨nF,Z,b3,M,f⟩⟩
   ·obtain rfl:=cJ ‹_›;refine aE ?_;exact ⟨l.set 2 rfl,⟨nF,Z,b3,M,f⟩⟩
   ·obtain rfl:=cH ‹_›;refine aw dV ?_;exact ⟨l.set 3 rfl,⟨nF,Z,b3,M,f⟩⟩
   ·obtain rfl:=cD ‹_›;have m2:D 12=false:=bx.2 fun h=>by rw [b3 h] at bH; cases bH
    have q:=Z m2;refine aT (b:=sp) (v:=.slice ca O.length b7) f 1 (c:=dX sb pv qv false fuel (used+1) s.st.length (.pointer (some ⟨gb,0,none⟩)) (.slice ca nF b7) G mo) eA rfl (by rw [q]; rfl) ?_;have b3:ao D 4 12=true->ao D 4 4=true:=fun _=>rfl;exact ⟨l.set 4 rfl,⟨nF,Z,b3,M,f⟩⟩
   ·exact ⟨l.set 5 rfl,⟨nF,Z,b3,M,f⟩⟩
   ·obtain rfl:=cN ‹_›;refine aE ?_;exact ⟨l.set 6 rfl,⟨nF,Z,b3,M,f⟩⟩
   ·obtain rfl:=cq ‹_›;refine aw Ft ?_;exact ⟨l.set 7 rfl,⟨nF,Z,b3,M,f⟩⟩
   ·obtain rfl:=dg ‹_›;refine cQ (v:=.int .i64 (kk:Int)) aG (by rw [f.cellS (b2.1 _ _ c8),<- g5]; rfl) ?_;exact ⟨l.set 8 rfl,⟨nF,Z,b3,M,f⟩⟩
   ·obtain rfl:=cL ‹_›;obtain rfl:=dG ‹_›;refine PS f 2 rfl ib (n:=kk) i8 ?_;exact ⟨l.set 9 rfl,⟨nF,Z,b3,M,f⟩⟩
   ·obtain rfl:=cI ‹_›;refine aE ?_;exact ⟨l.set 10 rfl,⟨nF,Z,b3,M,f⟩⟩
   ·obtain rfl:=cT ‹_›;refine aw dV ?_;exact ⟨l.set 11 rfl,⟨nF,Z,b3,M,f⟩⟩
   ·obtain rfl:=dn ‹_›;obtain rfl:=dL ‹_›;refine dy f 1 (n:=1) rfl (by rw [eA]; rfl) rfl (mL rfl) (by simp [Value.cells,Value.oneCell']) fun w_ f=>?_;obtain ⟨nF,hF⟩:∃ a,a=kk:=⟨_,rfl⟩
    have Z:ao D 12 12=false->O.length=nF:=fun h=>Bool.noConfusion h;have b3:ao D 12 12=true->ao D 12 4=true:=fun _=>by assumption
    have M:ao D 12 12=true->nF=kk:=fun _=>hF;have f:Inv w X ([.blk b4 (.cells #[t0,t1,t2,t3] ab),fL sp (dX sb pv qv false fuel (used+1) s.st.length (.pointer (some ⟨gb,0,none⟩)) (.slice ca nF b7) G mo),chI (.slice ca O.length b7) O,noI G B]++aB sb mb es ck tv tr) SP w_:=by rw [hF]; exact f
    exact ⟨l.set 12 trivial,⟨nF,Z,b3,M,f⟩⟩
   obtain ⟨rfl,rfl,rfl,rfl,rfl,rfl,rfl,rfl,rfl,rfl,rfl,rfl,_,_⟩:=l.all;clear l cI cJ cH cD cL cN cq dg dG dL cT dn dN;have g4:=M (by assumption);rw [g4] at f;clear M Z b3;have f:=f.cutRow (i:=2) rfl (n:=kk) i8 hK.ch.hk;refine aE ?_;refine aw mH ?_;refine cQ (v:=.pointer d0) dP (by rw [f.cellS (b2.1 _ _ c8)]; rfl) ?_;refine aE ?_;refine dj f 1 rfl ic dP rfl rfl rfl fun w' f=>?_;refine ⟨_,_,SP,rfl,f.sub (fH _ _),b2,rfl,_,⟨es,ck,tv,tr,ms.take kk,.pointer d0,.slice ca kk b7,O.take kk,G,B,mo,_,rfl,fun s' d4=>?_⟩,fun _=>rfl⟩;cases d4;refine ⟨rfl,e6.mono b2.1,hK.km.upS b2.1,?_,d7,?_,i5⟩
   ·have:=(hK.ch.monoR fun _ _=>RdCI.mono b2.1).take kk;rw [OH] at this;rw [g5];exact this
   ·rw [g5];exact hK.mkI.cut (by omega)
 rw [g8];refine aD (fun h=>by cases h) (fun _=>?_);refine aC f 0 ad rfl rfl ?_;refine Run.callPure qo qR f (oI c6) fun w' f=>?_;have n6:=fF e0 d6;rcases Y with ⟨e1,e2,c,hB,Y⟩|⟨e1,Y⟩
 ·rw [e1];refine aD (fun _=>?_) (fun h=>by cases h);have m3:=f;repeat clear f
  refine ⟨fun D x7 h5 XT V3 TQ U3 TW w_=>Fx D 0 [TW=.pointer (some ⟨sp,0,none⟩),U3=.pointer (some ⟨sp,0,none⟩),TQ=.pointer (some ⟨sp,0,none⟩),V3=.pointer (some ⟨sb,0,none⟩),XT=.agg #[t0,t1,t2,t3],h5=.int .i64 c,x7=.int .i64 c]/\∃ (b5:Array MapEntry) (b8:Nat) (b9:Value) (b6:List Int),(D 5=false->es=b5/\ck=b8/\tv=b9/\tr=b6)/\(D 5=true->KnownM SP b5 e2/\Tr s.st e2 tr b6)/\Inv w X ([.blk b4 (.cells #[t0,t1,t2,t3] ab),fL sp (dX sb pv qv nc fuel (used+1) s.st.length (.pointer (some ⟨gb,0,none⟩)) cv G mo),chI cv O,noI G B]++aB sb mb b5 b8 b9 b6) SP w_,⟨Fx.nil _ _,⟨es,ck,tv,tr,fun _=>⟨rfl,rfl,rfl,rfl⟩,aI,m3.draw⟩⟩,⟨?_,?_,?_,?_,?_,?_,?_,trivial⟩,?_⟩;all_goals (intro D bH; intros; rename_i x7 h5 XT V3 TQ U3 TW w_ a5; have l:=a5.1; obtain ⟨⟨cI,cJ,cH,cD,cL,cN,cq,_⟩,⟨b5,b8,b9,b6,c5,e5,f⟩⟩:=a5)
  ·exact ⟨l.set 0 rfl,⟨b5,b8,b9,b6,c5,e5,f⟩⟩
  ·obtain rfl:=cI ‹_›;refine aE ?_;exact ⟨l.set 1 rfl,⟨b5,b8,b9,b6,c5,e5,f⟩⟩
  ·obtain rfl:=cJ ‹_›;refine aw gd ?_;exact ⟨l.set 2 rfl,⟨b5,b8,b9,b6,c5,e5,f⟩⟩
  ·obtain rfl:=cH ‹_›;refine aT (b:=sp) f 1 (c:=dX sb pv qv nc fuel (used+1) s.st.length (.pointer (some ⟨gb,0,none⟩)) cv G mo) fu rfl rfl ?_;exact ⟨l.set 3 rfl,⟨b5,b8,b9,b6,c5,e5,f⟩⟩
  ·refine aC f 0 ad rfl rfl ?_;exact ⟨l.set 4 rfl,⟨b5,b8,b9,b6,c5,e5,f⟩⟩
  ·obtain rfl:=cD ‹_›;obtain rfl:=cL ‹_›;obtain ⟨rfl,rfl,rfl,rfl⟩:=c5 bH;refine Run.callE (A:=[_,_,_,_]) DM DN f (Md (N:=s.st.length) (by omega) hs.good ⟨d6,by omega⟩ g2.okN e1 hB c6 (hK.km.upS b2.1) (by omega)) fun v' I' S4 w_=>?_;rintro ⟨eS,rfl,b5,b8,b9,b6,rfl,d2,_,e4⟩ _ f;rw [eS] at f;have c5:ao D 5 5=false->es=b5/\ck=b8/\tv=b9/\tr=b6:=fun h=>Bool.noConfusion h;have e5:ao D 5 5=true->KnownM SP b5 e2/\Tr s.st e2 tr b6:=fun _=>⟨d2,e4⟩
   exact ⟨l.set 5 rfl,⟨b5,b8,b9,b6,c5,e5,f⟩⟩
  ·obtain rfl:=cN ‹_›;exact ⟨l.set 6 rfl,⟨b5,b8,b9,b6,c5,e5,f⟩⟩
  obtain ⟨rfl,rfl,rfl,rfl,rfl,rfl,rfl,_⟩:=l.all;clear l cI cJ cH cD cL cN cq;obtain ⟨d2,e4⟩:=e5 (by assumption);clear e5 c5;have m4:=hB.good hs.good e1 ⟨d6,by omega⟩;have f6:=m4.len;have n7:=e4.short;have i9:SeaK SP s.chs (s.nodes++[⟨t,g.up,-1⟩]) e2 ms b6 b5 O B:=⟨d2,hK.ch.monoR fun _ _=>RdCI.mono b2.1,d7,hK.mkI.go (TrG.of e4),by omega⟩
  refine bw ?_;rcases Y with ⟨rfl,rfl,rfl⟩|⟨rfl,hb,rfl⟩|⟨h0,h1,rfl,rfl⟩
  ·refine aL (fun _=>?_) (fun h=>absurd rfl h);refine aE ?_;refine aw mH ?_;refine cQ (v:=.pointer d0) dP (by rw [f.cellS (b2.1 _ _ c8)]; rfl) ?_;refine aE ?_;refine dj f 1 rfl ic dP rfl rfl rfl fun w' f=>?_;refine ⟨_,_,SP,rfl,f.sub (fH _ _),b2,rfl,_,⟨b5,b8,b9,b6,ms,.pointer d0,cv,O,G,B,mo,_,rfl,fun s' d4=>?_⟩,fun _=>rfl⟩;cases d4;exact ⟨by rw [f6],e6.mono b2.1,i9⟩
  ·refine aL (fun h=>by cases h) (fun _=>?_);refine bw ?_;refine aL (fun _=>?_) (fun h=>absurd rfl h);refine Run.callE (A:=[_]) kz jT f (xi hp f7 hb (fJ hs.chs _) (by omega) c7 f6 (h4.mono b2.1 fun _ _=>RdC.mono b2.1) i9) fun v' I' S9 w'=>?_;rintro ⟨rfl,hQ⟩ d3 f;exact ⟨_,_,S9,rfl,f.sub (fH _ _),b2.trans d3,rfl,_,hQ,fun _=>rfl⟩
  ·refine aL (fun h=>absurd h h0) (fun _=>?_);refine bw ?_;refine aL (fun h=>absurd h h1) (fun _=>?_);refine Run.callPure Pe PO f (NV c SP) fun w' f=>?_;exact ⟨_,_,SP,rfl,f.sub (fH _ _),b2,rfl,_,SeaQ.none,fun h=>by cases h⟩
 rw [e1];refine aD (fun h=>by cases h) (fun _=>?_);obtain ⟨pa,c0,k3,-⟩:=id h4;subst k3;have m5:=h4.monoC b2.1;have m6:=f;repeat clear f
 refine ⟨fun D x8 VC ZO ZY Zt Zl ZP h6 w_=>Fx D 0 [h6=.pointer (some ⟨sp,0,none⟩),ZP=.pointer (some ⟨sp,0,none⟩),Zl=.pointer (some ⟨sp,1,none⟩),Zt=.slice pa p.length c0,ZY=.agg #[t0,t1,t2,t3],ZO=.agg (bN t).cells.toArray,True,True]/\(D 7=true->D 6=true/\x8=VC)/\Inv w X (([.blk b4 (.cells #[t0,t1,t2,t3] ab),fL sp (dX sb (.slice pa p.length c0) qv nc fuel (used+1) s.st.length (.pointer (some ⟨gb,0,none⟩)) cv G mo),chI cv O,noI G B]++aB sb mb es ck tv tr)++(match D 6 with|true=>[dk VC (eY p t)]|false=>[])) SP w_,⟨Fx.nil _ _,⟨aI,by rw [bV]; exact m6.draw⟩⟩,⟨?_,?_,?_,?_,?_,?_,?_,?_,trivial⟩,?_⟩;all_goals (intro D bH; intros; rename_i x8 VC ZO ZY Zt Zl ZP h6 w_ a5; have l:=a5.1; obtain ⟨⟨cI,cJ,cH,cD,cL,cN,cq,dg,_⟩,⟨e7,f⟩⟩:=a5)
 ·exact ⟨l.set 0 rfl,⟨e7,f⟩⟩
 ·obtain rfl:=cI ‹_›;refine aE ?_;exact ⟨l.set 1 rfl,⟨e7,f⟩⟩
 ·obtain rfl:=cJ ‹_›;refine aw qV ?_;exact ⟨l.set 2 rfl,⟨e7,f⟩⟩
 ·obtain rfl:=cH ‹_›;refine aT (b:=sp) f 1 (c:=dX sb (.slice pa p.length c0) qv nc fuel (used+1) s.st.length (.pointer (some ⟨gb,0,none⟩)) cv G mo) eO rfl rfl ?_;exact ⟨l.set 3 rfl,⟨e7,f⟩⟩
 ·refine aC f 0 ad rfl rfl ?_;exact ⟨l.set 4 rfl,⟨e7,f⟩⟩
 ·obtain rfl:=cL ‹_›;refine Run.callPure uW uO f (l7 c6) fun w_ f=>?_;exact ⟨l.set 5 rfl,⟨e7,f⟩⟩
 ·obtain rfl:=cD ‹_›;obtain rfl:=cN ‹_›;rw [bH,bV] at f;refine Run.call0 ll lq f (kl (bN t) m5 (by omega)) fun v1 I' S2 w_=>?_;rintro ⟨rfl,rfl⟩ _ f;have e7:ao D 6 7=true->ao D 6 6=true/\x8=v1:=fun h=>absurd (e7 h).1 (by rw [bH]; decide);exact ⟨l.set 6 (by first|assumption|trivial),⟨e7,f⟩⟩
 ·have Me:=cq ‹_›;have e7:ao D 7 7=true->ao D 7 6=true/\VC=VC:=fun _=>⟨by assumption,rfl⟩
  exact ⟨l.set 7 (by first|assumption|trivial),⟨e7,f⟩⟩
 obtain ⟨rfl,rfl,rfl,rfl,rfl,rfl,Me,WA,_⟩:=l.all;clear l cI cJ cH cD cL cN cq dg;obtain ⟨q6,rfl⟩:=e7 (by assumption);rw [q6] at f;clear e7;obtain ⟨S7,g6,g7,f1⟩:=Inv.lendI f;clear f;obtain ⟨la,f5,rfl,-⟩:=id g7;have c3:=b2.trans g6;refine aJ g7 cA ?_;refine bw ?_;have n8:(eY p t).length<=p.length:=ja _ _ _;rcases Y with ⟨hf,rfl,rfl⟩|⟨hf,o1,m,hT,Y⟩
 ·refine aL (fun _=>?_) (fun h=>absurd (by rw [hf]; rfl) h);exact ⟨_,_,S7,rfl,f1.sub (fH _ _),c3,rfl,_,SeaQ.none,fun h=>by cases h⟩
 refine aL (fun h=>absurd (gF (by omega)) hf) (fun _=>?_);refine ⟨fun v w'=>v=.slice la (eY p t).length f5/\Inv w X ([.blk b4 (.cells #[t0,t1,t2,t3] ab)]++sV sp sb mb (.slice pa p.length c0) qv nc fuel (used+1) s.st.length (.pointer (some ⟨gb,0,none⟩)) cv O G B mo es ck tv tr) S7 w',?_,?_⟩
 ·refine aE ?_;refine af f1 1 rfl L8 R9 rfl ?_;refine aD (fun h=>by cases h) (fun _=>?_);exact ⟨rfl,f1⟩
 repeat clear f1
 intro vl _ _ _ _ _ _ _ _ _ _ _ w';rintro ⟨rfl,f⟩;have m7:=f;clear f;have m8:SeaK S7 s.chs (s.nodes++[⟨t,g.up,-1⟩]) s.st ms tr es O B:=⟨hK.km.upS c3.1,hK.ch.monoR fun _ _=>RdCI.mono c3.1,d7.monoR fun _ _=>RdNI.mono g6.1,hK.mkI,i5⟩
 refine ⟨fun D Ve UV UH VY Vd Z1 h7 h8 Z7 w_=>Fx D 0 [Z7=.pointer (some ⟨sp,0,none⟩),h8=.agg #[t0,t1,t2,t3],h7=.int .i64 (ncs.length:Int),Z1=.slice la (eY p t).length f5,Vd=.pointer (some ⟨gb,0,none⟩),VY=.pointer (some ⟨gb,0,none⟩),UH=.pointer (some ⟨gb,6,none⟩),UV=.pointer d0,True]/\∃ (I1:List Item) (S8:ae),(D 8=false->I1=sV sp sb mb (.slice pa p.length c0) qv nc fuel (used+1) s.st.length (.pointer (some ⟨gb,0,none⟩)) cv O G B mo es ck tv tr/\S8=S7)/\(D 8=true->Li sp sb mb (.slice pa p.length c0) qv nc fuel (used+1) (.pointer (some ⟨gb,0,none⟩)) s.chs (s.nodes++[⟨t,g.up,-1⟩]) s.st tr ms t (ncs.length:Int) gs o1 m Ve I1 S8)/\Ext w.heap.size X S7 S8/\Inv w X ([.blk b4 (.cells #[t0,t1,t2,t3] ab)]++I1) S8 w_,⟨Fx.nil _ _,⟨_,S7,fun _=>⟨rfl,rfl⟩,aI,Ext.refl _ _ _,m7.draw⟩⟩,⟨?_,?_,?_,?_,?_,?_,?_,?_,?_,trivial⟩,?_⟩;all_goals (intro D bH; intros; rename_i Ve UV UH VY Vd Z1 h7 h8 Z7 w_ a5; have l:=a5.1; obtain ⟨⟨cI,cJ,cH,cD,cL,cN,cq,dg,dG,_⟩,⟨I1,S8,c2,e8,c1,f⟩⟩:=a5)
 ·exact ⟨l.set 0 rfl,⟨I1,S8,c2,e8,c1,f⟩⟩
 ·refine aC f 0 ad rfl rfl ?_;exact ⟨l.set 1 rfl,⟨I1,S8,c2,e8,c1,f⟩⟩
 ·exact ⟨l.set 2 rfl,⟨I1,S8,c2,e8,c1,f⟩⟩
 ·exact ⟨l.set 3 rfl,⟨I1,S8,c2,e8,c1,f⟩⟩
 ·exact ⟨l.set 4 rfl,⟨I1,S8,c2,e8,c1,f⟩⟩
 ·obtain rfl:=cL ‹_›;refine aE ?_;exact ⟨l.set 5 rfl,⟨I1,S8,c2,e8,c1,f⟩⟩
 ·obtain rfl:=cN ‹_›;refine aw mH ?_;exact ⟨l.set 6 rfl,⟨I1,S8,c2,e8,c1,f⟩⟩
 ·obtain rfl:=cq ‹_›;refine cQ (v:=.pointer d0) dP (by rw [f.cellS ((c3.trans c1).1 _ _ c8)]; rfl) ?_;exact ⟨l.set 7 rfl,⟨I1,S8,c2,e8,c1,f⟩⟩
 ·obtain rfl:=cI ‹_›;obtain rfl:=cJ ‹_›;obtain rfl:=cH ‹_›;obtain rfl:=cD ‹_›;obtain rfl:=dg ‹_›;obtain ⟨q1,q2⟩:=c2 bH;rw [q1,q2] at f;refine Run.callE (A:=[_]) rG rT f (Jc hp f7 hT hs.good hs.tab ⟨⟨d6,by omega⟩,g2⟩ (by omega) (c6.mono g6.1) g7 (e6.mono c3.1) (h4.monoC c3.1) m8 ⟨by omega,by omega⟩ c7) fun v' I1 S8 w_=>?_;intro f9 c1 f;have c2:ao D 8 8=false->I1=sV sp sb mb (.slice pa p.length c0) qv nc fuel (used+1) s.st.length (.pointer (some ⟨gb,0,none⟩)) cv O G B mo es ck tv tr/\S8=S7:=fun h=>Bool.noConfusion h;have e8:ao D 8 8=true->Li sp sb mb (.slice pa p.length c0) qv nc fuel (used+1) (.pointer (some ⟨gb,0,none⟩)) s.chs (s.nodes++[⟨t,g.up,-1⟩]) s.st tr ms t (ncs.length:Int) gs o1 m v' I1 S8:=fun _=>f9;exact ⟨l.set 8 (by first|assumption|trivial),⟨I1,S8,c2,e8,c1,f⟩⟩
 obtain ⟨rfl,rfl,rfl,rfl,rfl,rfl,rfl,rfl,DH,_⟩:=l.all;clear l cI cJ cH cD cL cN cq dg dG;have f9:=e8 (by assumption);clear e8 c2;obtain ⟨rfl,k4,k5,k6,k7,k8,k9,l0,i3,l1,i4,l2,rfl,hm⟩:=f9;have d3:=c3.trans c1;have j0:=f.sub (fH _ _);obtain ⟨j1,j2,j3⟩:=hT.ok hp hs.good hs.tab ⟨⟨d6,by omega⟩,g2⟩;rcases Y with ⟨r,rfl,rfl,rfl⟩|⟨rfl,hb,rfl⟩
 ·refine aD (fun _=>?_) (fun h=>by cases h);obtain ⟨_,_,_,j4,j5,_⟩:=j3 r rfl;refine ⟨_,_,S8,rfl,j0,d3,rfl,_,⟨k4,k5,k6,k7,k8,k9,l0,i3,l1,i4,l2,_,rfl,fun s' d4=>?_⟩,fun _=>rfl⟩;cases d4;rw [<- l4];exact ⟨by show (m:Int)=(r.st.length:Int); omega,hm.1,hm.2⟩
 ·refine aD (fun h=>by cases h) (fun _=>?_);obtain ⟨rfl,rfl,rfl,l3⟩:=hm;have n9:=j2 rfl;refine Run.callE (A:=[]) kz jT j0 (xi hp f7 hb ((fJ hs.chs _).mono j1 (aS _)) (by omega) c7 (ce j1) (h4.monoC d3.1) l3) fun v' I' S9 w'=>?_;rintro ⟨rfl,hQ⟩ h9 f;exact ⟨_,_,S9,rfl,f,d3.trans h9,rfl,_,hQ,fun _=>rfl⟩
end
end
section
open Go Go.RowKit
theorem Kq {st:aj}:∀ {ts us:List T},Res st (.list ts us)->us.length=ts.length
 | _,_,.nil=>rfl
 | _,_,.cons _ h=>by rw [bq,bq,Kq h]
theorem Fv {N:Nat}:∀ {us:List T},(∀ u∈us,bv u=true/\okU N u)->wL us<=840 * us.length
 | [],_=>by simp [wL]
 | u::us,h=>by
  have f:=fF (h u (aM ..)).1 (h u (aM ..)).2;have g:=Fv fun x a=>h x (aR _ a);rw [wL,bq];omega
theorem Ep {N:Nat} {n:Int} (h:0<=n/\n<N):okU N (ul n):=by
 show okU N (.mk 1 n emptyB []);rw [okU,bL];exact ⟨by decide,fun _=>⟨h.1,by omega,rfl,rfl⟩,trivial,Da⟩
theorem XD (S:ae) {n:Int} (h:0<=n/\n<1000000000):RdT S [.int .i64 1,.int .i64 n,.string ⟨#[]⟩,.slice none 0 0] (ul n):=
 RdT.nil (by simp [inI]) (by simp only [inI]; omega) (show 0<=maxLen from bk _) (by simp [maxLen])
section
variable {P:Program} {w:World} {K:Value->World->Prop}
attribute [local irreducible] Run
theorem U6 {T e:TypeId} {a f:Bool} {p:Option Addr} (g:P.underlying T=some (.pointer e)) (hk:K (.bool p.isSome) w):Run P (c9 .neq T a f (.pointer p) (.pointer none)) w K:=by
 refine Run.of (v:=.bool p.isSome) (w':=w) ?_ hk;have h:(Op.equal T (.pointer p) (.pointer none)).run P w=.ok p.isNone w:=by
  rw [Op.equal,Op.maxDepth,Op.equalIn.eq_def];cases p <;> simp [run_underlying g]
 have i:∀ x y,(eqGuard .neq T x y (.pointer p) (.pointer none)).run P w=.ok () w:=fun x y=>by unfold eqGuard; simp
 simp only [c9,binOp,Sem.run_bind,i,Result.andThen_ok,h,Sem.run_pure];cases p <;> rfl
end
section
attribute [local irreducible] Run CondV aq aK
set_option maxHeartbeats 1000000 in
theorem K2 {st:aj} (hg:Good st.length st) (c1:st.length<=1000000) {vars:List Int} (hv:∀ n∈vars,0<=n/\n<st.length) (c2:vars.length<=1000) {o:Option (List T)} (h:ValsI st vars o) {S:ae} {v:Value} (U:RdSl S 1 jD v vars)
  {sb mb ck:Nat} {l:Array MapEntry} {tv:Value} {tr:List Int} (a4:KnownM S l st) :
  Tri Tryz.prog AY [.pointer (some ⟨sb,0,none⟩),v] (aB sb mb l ck tv tr) S fun q I' S'=>I'=aB sb mb l ck tv tr/\match o with
   | none=>q=.tuple #[.slice none 0 0,.bool false]
   | some vs=>∃ u,q=.tuple #[u,.bool true]/\RdSl S' 4 (RdT S') u vs:=by
 intro w a;obtain ⟨X,hX⟩:∃ X,X=bP (aB sb mb l ck tv tr):=⟨_,rfl⟩
 rw [<- hX] at a ⊢;obtain ⟨us,G,D⟩:=h;have b5:=Kq G;rw [jO] at b5;have b6:∀ (k:Nat) (hk:k<us.length),okU st.length us[k]:=fun k hk=>by
  refine fj hg (BH G k (by rw [jO]; omega) hk) ?_;rw [EP];exact Ep (hv _ (bG _))
 refine nU.2 ?_;dsimp only[nU,bm];refine aJ U cA ?_;have a:Inv w X ([aA (.slice none 0 0) ab 4 []]++aB sb mb l ck tv tr) S w:=(a.rowNil ab 4).perm (cj (l₁:=[_]));refine ⟨fun i t w'=>∃ (k:Nat) (css:List (List Value)) (S1:ae),k<=vars.length/\i=.int .i64 (k:Int)/\Ext w.heap.size X S S1/\Rows 4 (RdT S1) css (us.take k)/\(us.take k).all bv=true/\Inv w X ([aA t ab 4 css]++aB sb mb l ck tv tr) S1 w',
  fun i _ _=>vars.length - (intOf i).toNat,⟨0,[],S,bk _,rfl,Ext.refl _ _ _,Rows.nil _ _,rfl,a⟩,?_⟩
 clear a;intro ii _ tt _ _ _ _ _ _ _ _ _ _ _ _ _ _ _ _ _ _ _ _ _ w';rintro ⟨k,css,S1,hk,rfl,O,hR,g,a⟩;have b7:=hR.hc;rw [cM] at b7;refine bS ?_;refine aL (fun a8=>?_) (fun a8=>?_)
 ·have J:k<vars.length:=by omega
  have B:k<us.length:=by omega
  have a0:=hv _ (bG J);refine fg a (U.mono O.1 fun _ _ h=>h) cA aG J (fun cs a9=>a9) ?_;refine Run.callPure kI kM a (jm _ S1) fun w' a=>?_;have a1:=BH G k (by rw [jO]; omega) B;rw [EP] at a1;refine Run.callE (A:=[_]) iZ i0 a (ug (cs:=[.int .i64 1,.int .i64 vars[k],.string ⟨#[]⟩,.slice none 0 0]) hg a1 ⟨Ep a0,by show (0+0+0:Nat)<=1048576; omega⟩ (XD S1 ⟨a0.1,by omega⟩) (a4.upS O.1)) fun v' I' S2 w'=>?_;rintro ⟨rfl,m,r,V,rfl,a5⟩ f a;refine av rfl ?_;refine av rfl ?_;refine aQ a bj fun b9 w' a=>?_;refine au a 4 rfl ad (by simpa using r) rfl (by simpa using V) fun w' a=>?_;refine cw ?_;cases N:bv us[k] with
  | false=>
   refine aD (fun _=>?_) (fun h=>by cases h);have b8:us.all bv=false:=List.all_eq_false.2 ⟨us[k],bG B,by rw [N]; decide⟩;rw [b8] at D;rw [ag (by simp)] at D;subst D;have a:Inv w X (([aA tt ab 4 css]++aB sb mb l ck tv tr)++[.blk b9 (.cells m.toArray ab)]) S2 w':=a;exact ⟨_,_,S2,rfl,(a.sub (dt _ _)).sub (dH _ _),O.trans f,rfl,rfl⟩
  | true=>
   refine aD (fun h=>by cases h) (fun _=>?_);refine aC a 4 ad rfl (by simpa using r) ?_;have a:Inv w X (([aA tt ab 4 css]++aB sb mb l ck tv tr)++[.blk b9 (.cells m.toArray ab)]) S2 w':=a;have a:=a.sub (dt _ _);refine de a 0 m bn (by omega) (by omega) rfl r V (by omega) (by omega) fun v' w' a=>?_;refine bC (by omega) ?_;refine ⟨⟨k+1,css++[m],S2,J,rfl,O.trans f,?_,?_,a⟩,by simp only [intOf,cu]; omega⟩
   ·rw [eV B];exact (hR.monoR fun _ _=>RdT.mono f.1).snoc (a5 N) r
   ·rw [eV B,List.all_append,g];simp [N]
 ·have c0:k=us.length:=by omega
  rw [c0,d4] at hR g;have c3:=Fv (us:=us) fun u hu=>by
   obtain ⟨i,hi,rfl⟩:=B0 hu;exact ⟨dD.1 g _ hu,b6 i hi⟩
  have c4:=AM us;have a:Inv w X (aB sb mb l ck tv tr++[aA tt ab 4 css]) S1 _:=a.perm cj;obtain ⟨S2,f,b1,b2⟩:=a.lendExt;have a2:=RowRd.rows (hR.monoR fun _ _=>RdT.mono f.1) b1;refine Run.call0 tX tN b2 (qL a2 (by omega)) fun v1 I' S3 w'=>?_;rintro ⟨rfl,rfl⟩ _ Y;refine kN Y 3 rfl cA ?_;refine eP ?_;have a3:=Y.sub (dt _ _);rw [g] at D;refine aL (fun b0=>?_) (fun b0=>?_)
  ·rw [ag (by omega)] at D;subst D;exact ⟨_,_,_,rfl,a3,O.trans f,rfl,rfl⟩
  ·rw [ai ⟨rfl,by omega⟩] at D;subst D;refine Run.call0E rL rM a3 (pT a2 (by omega)) fun v' I' S5 w'=>?_;rintro ⟨rfl,M,rfl,hT⟩ a6 a7;obtain ⟨S9,b3,b4,Z⟩:=Inv.pubExt a7;exact ⟨_,_,S9,rfl,b3,(O.trans f).trans (a6.trans b4),rfl,_,rfl,hT.rd Z fun _ _ _ hi h=>h.rd hi⟩
end
end
end Go.Proofs.YtgllldjiaglkcaaGreatDoor
