/- Goals that are built in: the plain form, and the reference's solver of them. -/
import Derived.Test.YtfcbhfjomgopbaaGreatZc4
import Derived.Test.YtfcbhfjomgopbaaGreatZc3
namespace Go.Proofs.YtfcbhfjomgopbaaGreat
open Go Go.RowKit
def zT:T:=.mk 0 0 ⟨#[]⟩ []
def kd (g:T) (i:Nat):T:=g.kids.getD i zT
inductive BJ where
 | done (c:Int)
 | uni (a b:T)
 | not (a b:T)
def m8 (n t u:T):BJ:=if n.kind=1 ∨ t.kind=1 then .done 2 else if n.kind≠2 ∨ t.kind≠3 ∨ t.kids.length=0 then .done 3
 else if n.n<1 ∨ (t.kids.length:Int)<n.n then .done 1 else .uni u (kd t (n.n.toNat - 1))
def hK (s:ByteArray) (t:T):Bool:=if s=⟨#[118,97,114]⟩ then decide (t.kind=1) else if s=⟨#[110,111,110,118,97,114]⟩ then !decide (t.kind=1)
 else if s=⟨#[105,110,116]⟩ then decide (t.kind=2) else decide (t.kind=3) && decide (t.kids.length=0)
abbrev e6:ByteArray:=⟨#[116,114,117,101]⟩
abbrev fJ:ByteArray:=⟨#[102,97,105,108]⟩
abbrev nEq:ByteArray:=⟨#[61]⟩
abbrev nNe:ByteArray:=⟨#[92,61]⟩
abbrev iN:ByteArray:=⟨#[61,61]⟩
abbrev nIs:ByteArray:=⟨#[105,115]⟩
abbrev tX:ByteArray:=⟨#[97,114,103]⟩
def Ax (n:Int):T:=.mk 2 n emptyB []
def d5 (g:T):BJ:=
 if g.name=e6 then .done 0
 else if g.name=fJ then .done 1
 else if g.name=nEq then .uni (kd g 0) (kd g 1)
 else if g.name=nNe then .not (kd g 0) (kd g 1)
 else if g.name=iN then .done (dl (eqT (kd g 0) (kd g 1)))
 else if g.name=nIs then (if (bG (kd g 1)).2≠0 then .done (bG (kd g 1)).2 else .uni (kd g 0) (Ax (bG (kd g 1)).1))
 else if g.name=tX then m8 (kd g 0) (kd g 1) (kd g 2)
 else if ca g.name dc=true then .done (B6 g.name (cM g.kids))
 else .done (dl (hK g.name (kd g 0)))
def BltJ (st:a6) (j:BJ) (code:Int) (st':a6):Prop:=match j with
 | .done c=>code=c/\st'=st
 | .uni a b=>∃ r,Uni st (.one a b) r st'/\code=dl r
 | .not a b=>st'=st/\∃ r st1,Uni st (.one a b) r st1/\code=dl (!r)
def Blt (st:a6) (g:T) (code:Int) (st':a6):Prop:=BltJ st (d5 g) code st'
/- how many arguments such a goal has -/
theorem eR {s:ByteArray} {n:Int} (hs:ca s ls=true) (h:du s n=true):n=2:=by
 rw [du,if_pos hs] at h
 exact of_decide_eq_true h
theorem Cv {n:Int} (h:du tX n=true):n=3:=by
 rw [du,if_neg (by decide +kernel),if_neg (by decide +kernel),if_neg (by decide +kernel),if_pos rfl] at h
 exact of_decide_eq_true h
theorem vX {s:ByteArray} {l:List ByteArray}:ca s l=false↔∀ x∈l,s≠x:=by
 rw [ca,List.any_eq_false]
 simp
theorem CB {s:ByteArray} (h:ca s dc=true):ca s ls=true:=by
 rw [ca,List.any_eq_true] at h ⊢
 obtain ⟨x,hx,hd⟩:=h
 refine ⟨x,?_,hd⟩
 simp only [dc,List.mem_cons,List.not_mem_nil,or_false] at hx
 rcases hx with rfl|rfl|rfl|rfl|rfl <;> simp [ls]
theorem jV {s:ByteArray} {n:Int} (h:du s n=true) (h1:s≠e6) (h2:s≠fJ) (h3:s≠nEq) (h4:s≠nNe) (h5:s≠iN) (h6:s≠nIs) (hc:ca s dc=false) :
  (ca s nn=true/\n=1) ∨ (s=tX/\n=3):=by
 have hk:ca s ls=false:=by
  rw [vX] at hc ⊢
  intro x hx
  simp only [ls,List.mem_cons,List.not_mem_nil,or_false] at hx
  rcases hx with rfl|rfl|rfl|rfl|rfl|rfl|rfl|rfl|rfl <;> first|assumption|exact hc _ (by simp [dc])
 have hk2:ca s kW=false:=by
  rw [vX]
  intro x hx
  simp only [kW,List.mem_cons,List.not_mem_nil,or_false] at hx
  rcases hx with rfl|rfl <;> assumption
 rw [du,hk,hk2,if_neg (by decide),if_neg (by decide)] at h
 cases ht:ca s nn
 ·rw [ht,if_neg (by decide)] at h
  split at h
  ·rename_i e; exact .inr ⟨e,of_decide_eq_true h⟩
  ·cases h
 ·rw [ht,if_pos rfl] at h
  exact .inl ⟨rfl,of_decide_eq_true h⟩
theorem wd {l:List T} (h:l.length=1):∃ x,l=[x]:=by
 match l,h with
 | [x],_=>exact ⟨x,rfl⟩
theorem zK {l:List T} (h:l.length=3):∃ x y z,l=[x,y,z]:=by
 match l,h with
 | [x,y,z],_=>exact ⟨x,y,z,rfl⟩
def FS (N:Nat):BJ->Prop
 | .done _=>True
 | .uni a b=>okJ N (.one a b)
 | .not a b=>okJ N (.one a b)
theorem BltJ.ex {N:Nat} {st:a6} {j:BJ} (hg:Good N st) (hj:FS N j):∃ c st',BltJ st j c st':=by
 match j,hj with
 | .done c,_=>exact ⟨c,st,rfl,rfl⟩
 | .uni a b,hj=>
  have hj:okJ N (.one a b):=hj
  obtain ⟨r,st',hu⟩:=Bx (unb st) st hg (Nat.le_refl _) _ hj
  exact ⟨_,st',r,hu,rfl⟩
 | .not a b,hj=>
  have hj:okJ N (.one a b):=hj
  obtain ⟨r,st',hu⟩:=Bx (unb st) st hg (Nat.le_refl _) _ hj
  exact ⟨_,st,rfl,r,st',hu,rfl⟩
theorem ES (N:Nat) (n:Int):okU N (Ax n):=by
 rw [Ax,okU,eO]
 exact ⟨by decide,(fun h=>by cases h),trivial,by decide +kernel⟩
theorem FM {g:T} {i:Nat} (h:i<g.kids.length):kd g i∈g.kids:=by
 rw [kd,List.getD_eq_getElem?_getD,List.getElem?_eq_getElem h]
 exact List.getElem_mem h
theorem sW {N:Nat} {g:T} {i:Nat} (ho:okU N g/\wT g<=1048576) (h:i<g.kids.length):okU N (kd g i)/\wT (kd g i)<=1048576:=ig ho _ (FM h)
theorem ue {N:Nat} {g:T} (hb:c9 g=true) (ho:okU N g/\wT g<=1048576):FS N (d5 g):=by
 rw [c9,Bool.and_eq_true] at hb
 have hb:=hb.2
 have hlen:∀ m:Nat,((g.kids.length:Nat):Int)=m->g.kids.length=m:=fun m h=>by omega
 unfold d5
 split
 ·trivial
 split
 ·trivial
 split
 ·rename_i h; rw [h] at hb
  have:=eR (by decide +kernel) hb
  exact ⟨sW ho (by omega),sW ho (by omega)⟩
 split
 ·rename_i h; rw [h] at hb
  have:=eR (by decide +kernel) hb
  exact ⟨sW ho (by omega),sW ho (by omega)⟩
 split
 ·trivial
 split
 ·rename_i h; rw [h] at hb
  have:=eR (by decide +kernel) hb
  split
  ·trivial
  ·exact ⟨sW ho (by omega),ES N _,by have e:emptyB.size=0:=rfl; simp only [Ax,wT,wL,List.length_nil]; omega⟩
 split
 ·rename_i h; rw [h] at hb
  have:=Cv hb
  unfold m8
  split
  ·trivial
  split
  ·trivial
  split
  ·trivial
  ·rename_i h1 h2 h3
   have k1:=sW (i:=1) ho (by omega)
   exact ⟨sW ho (by omega),sW k1 (by omega)⟩
 split
 ·trivial
 ·trivial
theorem Blt.ex {N:Nat} {st:a6} {g:T} (hg:Good N st) (hb:c9 g=true) (ho:okU N g/\wT g<=1048576):∃ c st',Blt st g c st':=BltJ.ex hg (ue hb ho)
theorem Blt.good {N:Nat} {st st':a6} {g:T} {c:Int} (hg:Good N st) (hb:c9 g=true) (ho:okU N g/\wT g<=1048576) (h:Blt st g c st'):Good N st':=by
 have hj:=ue hb ho
 unfold Blt at h
 match hb:d5 g,h,hj with
 | .done c,h,_=>exact h.2 ▸ hg
 | .uni a b,⟨r,hu,_⟩,hj=>exact (hu.good hg hj).1
 | .not a b,h,_=>exact h.1 ▸ hg
/- all elements of a published slice lie in one block -/
theorem RdSl.ptr {α:Type} {S:ar} {k:Nat} {R:List Value->α->Prop} {v:Value} {xs:List α} (h:RdSl S k R v xs) (hi:0<xs.length) :
  ∃ b o cap c E fz,v=.slice (some ⟨b,o,none⟩) xs.length cap/\S b=some (.cells c E fz)/\∀ i (h:i<xs.length),R (ba c (o+i * k) k) xs[i]:=by
 obtain ⟨a,cap,rfl,hl,hc,h⟩:=h
 rcases h with h|⟨b,o,c,E,fz,rfl,hS,h⟩
 ·subst h; simp at hi
 ·exact ⟨b,o,cap,c,E,fz,rfl,hS,h⟩
section
attribute [local irreducible] Run CondV ak bg
theorem vF {k n:Int} {s:ByteArray} {x:T} {S:ar} {cs:List Value} (h:RdT S cs (.mk k n s [x])):Pure Tryz.prog Cg [.agg cs.toArray] S (.int .i64 (dl (hK s x))):=by
 intro w hI
 obtain ⟨kv,rfl,_,_,_,hks⟩:=RdT.iff.1 h
 simp only [T.name,T.kids,T.kind,T.n] at hks ⊢
 refine vk ?_
 unfold sE
 refine bt hI fun b1 w' hI=>?_
 refine ah hI 0 rfl aP aO rfl ?_
 refine cj (i:=0) hI hks aC al (by simp) (fun _ _=>RdT.length) fun ds hds=>?_
 have hds:RdT S ds x:=hds
 refine bC hI bA fun b3 w' hI=>?_
 refine bq hI 1 rfl al (by simpa using hds.length) rfl (by simpa using hds.one) fun w' hI=>?_
 obtain ⟨kv2,rfl,_,_,_,hk2⟩:=RdT.iff.1 hds
 have hI:Inv w [] [.blk b1 (.cells #[.int .i64 k,.int .i64 n,.string s,kv] ac),.blk b3 (.cells #[.int .i64 x.kind,.int .i64 x.n,.string x.name,kv2] ac)] S w':=hI
 refine ah hI 0 rfl bi bk rfl ?_
 refine bm ?_
 refine bf (fun h=>?_) (fun h1=>?_)
 ·refine ah hI 1 rfl aU aR rfl ?_
  refine bu ?_
  exact Run.callPure dj di hI (cq _ S) fun w' hI=>done hI (by rw [hK,if_pos h])
 refine bm ?_
 refine bf (fun h=>?_) (fun h2=>?_)
 ·refine ah hI 1 rfl aU aR rfl ?_
  refine bQ ?_
  exact Run.callPure dj di hI (cq _ S) fun w' hI=>done hI (by rw [hK,if_neg h1,if_pos h])
 refine bm ?_
 refine bf (fun h=>?_) (fun h3=>?_)
 ·refine ah hI 1 rfl aU aR rfl ?_
  refine bu ?_
  exact Run.callPure dj di hI (cq _ S) fun w' hI=>done hI (by rw [hK,if_neg h1,if_neg h2,if_pos h])
 refine ah hI 1 rfl aU aR rfl ?_
 refine bu ?_
 have et:hK s x=(decide (x.kind=3) && decide (x.kids.length=0)):=by rw [hK,if_neg h1,if_neg h2,if_neg h3]
 rw [et]
 cases hk:decide (x.kind=3)
 ·repeat (first|refine ab ?_|refine ad (by decide) ?_|refine aa ?_|refine af ?_|refine ag ?_)
  exact Run.callPure dj di hI (cq _ S) fun w' hI=>done hI rfl
 repeat (first|refine ab ?_|refine ad (by decide) ?_|refine aa ?_|refine af ?_|refine ag ?_)
 refine ah hI 1 rfl aP aO rfl ?_
 refine a5 hk2 aC ?_
 refine bu ?_
 repeat (first|refine ab ?_|refine ad (by decide) ?_|refine aa ?_|refine af ?_|refine ag ?_)
 refine Run.callPure dj di hI (cq _ S) fun w' hI=>done hI ?_
 have el:decide ((x.kids.length:Int)=0)=decide (x.kids.length=0):=by rw [decide_eq_decide]; omega
 rw [el,Bool.true_and]
def E8 (S:ar) (j:BJ):Value->List Item->ar->Prop:=fun q I' S'=>I'=[]/\S'=S/\∃ (ds:List Value) (c:Int),q=.tuple #[.agg ds.toArray,.int .i64 c]/\ds.length=4/\(∀ u∈ds,u.oneCell'=true)/\match j with
 | .done c'=>c=c'/\c≠0
 | .uni _ b=>c=0/\RdT S ds b
 | .not _ _=>False
theorem xt {k n:Int} {s:ByteArray} {x y z:T} {S:ar} {cs:List Value} (h:RdT S cs (.mk k n s [x,y,z])):Tri Tryz.prog CG [.agg cs.toArray] [] S (E8 S (m8 x y z)):=by
 intro w hI
 obtain ⟨kv,rfl,_,_,_,hks⟩:=RdT.iff.1 h
 simp only [T.name,T.kids,T.kind,T.n] at hks ⊢
 refine wz ?_
 unfold wn;dsimp only
 refine bt hI fun b1 w' hI=>?_
 refine bC hI bA fun b2 w' hI=>?_
 refine ah hI 0 rfl aP aO rfl ?_
 refine cj (i:=0) hI hks aC al (by simp) (fun _ _=>RdT.length) fun xs hxs=>?_
 have hxs:RdT S xs x:=hxs
 refine bC hI bA fun b4 w' hI=>?_
 refine bq hI 2 rfl al (by simpa using hxs.length) rfl (by simpa using hxs.one) fun w' hI=>?_
 refine ah hI 0 rfl aP aO rfl ?_
 refine cj (i:=1) hI hks aC al (by simp) (fun _ _=>RdT.length) fun ys hys=>?_
 have hys:RdT S ys y:=hys
 refine bC hI bA fun b5 w' hI=>?_
 refine bq hI 3 rfl al (by simpa using hys.length) rfl (by simpa using hys.one) fun w' hI=>?_
 obtain ⟨kx,rfl,_,_,_,hkx⟩:=RdT.iff.1 hxs
 obtain ⟨ky,rfl,_,_,_,hky⟩:=RdT.iff.1 hys
 obtain ⟨L,hL⟩:∃ L:List Item,L=[.blk b1 (.cells #[.int .i64 k,.int .i64 n,.string s,kv] ac),.blk b2 (.cells #[.int .i64 0,.int .i64 0,.string ⟨#[]⟩,.slice none 0 0] ac),.blk b4 (.cells #[.int .i64 x.kind,.int .i64 x.n,.string x.name,kx] ac),.blk b5 (.cells #[.int .i64 y.kind,.int .i64 y.n,.string y.name,ky] ac)]:=⟨_,rfl⟩
 have hI:Inv w [] L S w':=by rw [hL]; exact hI
 have i1:L[1]?=some (.blk b2 (.cells #[.int .i64 0,.int .i64 0,.string ⟨#[]⟩,.slice none 0 0] ac)):=by rw [hL]; rfl
 have i2:L[2]?=some (.blk b4 (.cells #[.int .i64 x.kind,.int .i64 x.n,.string x.name,kx] ac)):=by rw [hL]; rfl
 have i3:L[3]?=some (.blk b5 (.cells #[.int .i64 y.kind,.int .i64 y.n,.string y.name,ky] ac)):=by rw [hL]; rfl
 have hz:∀ u∈([.int .i64 0,.int .i64 0,.string ⟨#[]⟩,.slice none 0 0]:List Value),u.oneCell'=true:=by simp [Value.oneCell']
 have el:decide ((y.kids.length:Int)=0)=decide (y.kids.length=0):=by rw [decide_eq_decide]; omega
 refine ⟨fun q w'=>q=.bool (decide (x.kind=1 ∨ y.kind=1))/\Inv w [] L S w',?_,?_⟩
 ·refine ah hI 2 i2 aU aR rfl ?_
  refine bu ?_
  cases h1:decide (x.kind=1)
  ·repeat (first|refine ab ?_|refine ad (by decide) ?_|refine aa ?_|refine af ?_|refine ag ?_)
   refine ah hI 3 i3 aU aR rfl ?_
   refine bu ?_
   repeat (first|refine ab ?_|refine ad (by decide) ?_|refine aa ?_|refine af ?_|refine ag ?_)
   refine ⟨?_,hI⟩
   rw [Value.bool.injEq,decide_eq_decide]
   have:=of_decide_eq_false h1
   exact ⟨.inr,fun h=>h.resolve_left this⟩
  ·repeat (first|refine ab ?_|refine ad (by decide) ?_|refine aa ?_|refine af ?_|refine ag ?_)
   exact ⟨by rw [decide_eq_true (.inl (of_decide_eq_true h1))],hI⟩
 intro q _ _ _ _ _ _ _ w'
 rintro ⟨rfl,hI⟩
 refine bf (fun h1=>?_) (fun h1=>?_)
 ·refine eW ?_
  refine bq hI 1 i1 al rfl rfl hz fun w' hI=>?_
  rw [hL] at hI
  refine dJ hI 1 al rfl rfl ?_
  refine ⟨_,_,_,rfl,hI.nil,Ext.refl _ _ _,rfl,rfl,_,2,rfl,rfl,hz,?_⟩
  rw [m8,if_pos h1]
  exact ⟨rfl,by decide⟩
 refine ⟨fun q w'=>q=.bool (decide (x.kind≠2 ∨ y.kind≠3 ∨ y.kids.length=0))/\Inv w [] L S w',?_,?_⟩
 ·refine ah hI 2 i2 aU aR rfl ?_
  refine bQ ?_
  cases h2:decide (x.kind=2)
  ·repeat (first|refine ab ?_|refine ad (by decide) ?_|refine aa ?_|refine af ?_|refine ag ?_)
   exact ⟨by rw [decide_eq_true (.inl (of_decide_eq_false h2))],hI⟩
  have h2:=of_decide_eq_true h2
  repeat (first|refine ab ?_|refine ad (by decide) ?_|refine aa ?_|refine af ?_|refine ag ?_)
  refine ah hI 3 i3 aU aR rfl ?_
  refine bQ ?_
  cases h3:decide (y.kind=3)
  ·repeat (first|refine ab ?_|refine ad (by decide) ?_|refine aa ?_|refine af ?_|refine ag ?_)
   exact ⟨by rw [decide_eq_true (.inr (.inl (of_decide_eq_false h3)))],hI⟩
  have h3:=of_decide_eq_true h3
  repeat (first|refine ab ?_|refine ad (by decide) ?_|refine aa ?_|refine af ?_|refine ag ?_)
  refine ah hI 3 i3 aP aO rfl ?_
  refine a5 hky aC ?_
  refine bu ?_
  rw [el]
  repeat (first|refine ab ?_|refine ad (by decide) ?_|refine aa ?_|refine af ?_|refine ag ?_)
  refine ⟨?_,hI⟩
  rw [Value.bool.injEq,decide_eq_decide]
  simp [h2,h3]
 intro q _ _ _ _ _ _ _ _ _ _ _ _ _ w'
 rintro ⟨rfl,hI⟩
 refine bf (fun h2=>?_) (fun h2=>?_)
 ·refine eW ?_
  refine bq hI 1 i1 al rfl rfl hz fun w' hI=>?_
  rw [hL] at hI
  refine dJ hI 1 al rfl rfl ?_
  refine ⟨_,_,_,rfl,hI.nil,Ext.refl _ _ _,rfl,rfl,_,3,rfl,rfl,hz,?_⟩
  rw [m8,if_neg h1,if_pos h2]
  exact ⟨rfl,by decide⟩
 refine ⟨fun q w'=>q=.bool (decide (x.n<1 ∨ (y.kids.length:Int)<x.n))/\Inv w [] L S w',?_,?_⟩
 ·refine ah hI 2 i2 a9 aR rfl ?_
  refine bz ?_
  cases h3:decide (x.n<1)
  ·repeat (first|refine ab ?_|refine ad (by decide) ?_|refine aa ?_|refine af ?_|refine ag ?_)
   refine ah hI 2 i2 a9 aR rfl ?_
   refine ah hI 3 i3 aP aO rfl ?_
   refine a5 hky aC ?_
   refine hG ?_
   repeat (first|refine ab ?_|refine ad (by decide) ?_|refine aa ?_|refine af ?_|refine ag ?_)
   refine ⟨?_,hI⟩
   have:=of_decide_eq_false h3
   rw [Value.bool.injEq,decide_eq_decide]
   exact ⟨.inr,fun h=>h.resolve_left this⟩
  ·repeat (first|refine ab ?_|refine ad (by decide) ?_|refine aa ?_|refine af ?_|refine ag ?_)
   exact ⟨by rw [decide_eq_true (.inl (of_decide_eq_true h3))],hI⟩
 intro q _ _ _ _ _ _ _ _ _ _ w'
 rintro ⟨rfl,hI⟩
 refine bf (fun h3=>?_) (fun h3=>?_)
 ·refine eW ?_
  refine bq hI 1 i1 al rfl rfl hz fun w' hI=>?_
  rw [hL] at hI
  refine dJ hI 1 al rfl rfl ?_
  refine ⟨_,_,_,rfl,hI.nil,Ext.refl _ _ _,rfl,rfl,_,1,rfl,rfl,hz,?_⟩
  rw [m8,if_neg h1,if_neg h2,if_pos h3]
  exact ⟨rfl,by decide⟩
 obtain ⟨m,hm⟩:∃ m:Nat,x.n=(m:Int)+1:=⟨(x.n - 1).toNat,by omega⟩
 have hml:m<y.kids.length:=by omega
 refine ah hI 3 i3 aP aO rfl ?_
 refine ah (u:=.int .i64 x.n) hI 2 i2 a9 aR rfl ?_
 rw [hm]
 refine jA (by have:=hky.le; simp only [maxLen] at this; omega) ?_
 rw [Int.add_sub_cancel]
 refine cj (i:=m) hI hky aC al hml (fun _ _=>RdT.length) fun es hes=>?_
 refine bq hI 1 i1 al (by simpa using hes.length) rfl (by simpa using hes.one) fun w' hI=>?_
 rw [hL] at hI
 refine dJ hI 1 al rfl (by simpa using hes.length) ?_
 refine ⟨_,_,_,rfl,hI.nil,Ext.refl _ _ _,rfl,rfl,es,0,rfl,hes.length,hes.one,?_⟩
 rw [m8,if_neg h1,if_neg h2,if_neg h3]
 refine ⟨rfl,?_⟩
 have e:kd y (x.n.toNat - 1)=y.kids[m]:=by
  have e1:x.n.toNat - 1=m:=by omega
  rw [e1,kd,List.getD_eq_getElem?_getD,List.getElem?_eq_getElem hml]
  rfl
 rw [e]
 exact hes
end
end Go.Proofs.YtfcbhfjomgopbaaGreat

/- Tables of bindings as rows: published tables, copies of tables. -/
namespace Go.Proofs.YtfcbhfjomgopbaaGreat
open Go Go.RowKit
def RdO (S:ar) (cs:List Value):Option T->Prop
 | none=>cs=kS
 | some t=>RdT S cs t
theorem RdO.length {S:ar} {cs:List Value}:∀ {x:Option T},RdO S cs x->cs.length=4
 | none,h=>by rw [h]; rfl
 | some _,h=>RdT.length h
theorem RdO.one {S:ar} {cs:List Value}:∀ {x:Option T},RdO S cs x->∀ u∈cs,u.oneCell'=true
 | none,h=>by rw [h]; simp [kS,Value.oneCell']
 | some _,h=>RdT.one h
theorem RdO.mono {S S':ar} {cs:List Value} (hs:Sle S S'):∀ {x:Option T},RdO S cs x->RdO S' cs x
 | none,h=>h
 | some _,h=>RdT.mono hs h
theorem KnU.rdO {S:ar} {c:Array Value} {st:a6} (h:KnU S c st) (i:Nat) (hi:i<st.length):RdO S (ba c (i * 4) 4) st[i]:=by
 cases hs:st[i] with
 | none=>exact (h.2 i hi).1 hs
 | some t=>exact (h.2 i hi).2 t hs
theorem KnU.of {S:ar} {c:Array Value} {st:a6} (hs:st.length * 4<=c.size) (h:∀ i (hi:i<st.length),RdO S (ba c (i * 4) 4) st[i]):KnU S c st:=
 ⟨hs,fun i hi=>⟨fun e=>by have:=h i hi; rw [e] at this; exact this,fun t e=>by have:=h i hi; rw [e] at this; exact this⟩⟩
theorem KnU.rd {S S':ar} {c:Array Value} {st:a6} {b cap:Nat} {E:TypeId} {fz:Nat × Nat} (h:KnU S c st) (hS:S' b=some (.cells c E fz)) (h1:st.length<=cap) (h2:cap<=maxLen):RdSl S' 4 (RdO S) (.slice (some ⟨b,0,none⟩) st.length cap) st:=
 ⟨_,cap,rfl,h1,h2,.inr ⟨b,0,c,E,fz,rfl,hS,fun i hi=>by rw [Nat.zero_add]; exact h.rdO i hi⟩⟩
theorem Rows.knu {S:ar} {css:List (List Value)} {st:a6} {c:Array Value} (h:Rows 4 (RdO S) css st) (hs:st.length * 4<=c.size) (hc:c.toList.take (css.length * 4)=css.flatten):KnU S c st:=by
 refine KnU.of hs fun i hi=>?_
 have hcy:=h.hc
 have:=kQ 4 css i h.hk (by omega)
 rw [<- hc,List.drop_take,List.take_take,Nat.min_eq_left (by omega)] at this
 rw [ba,this]
 exact h.hR i hi (by omega)
section
variable {w w0:World} {X:List Nat} {A:List Item} {S:ar}
theorem Inv.tab {v:Value} {e:TypeId} {css:List (List Value)} {S1:ar} {st:a6} (h:Inv w0 X (A++[dL v e 4 css]) S w) (hR:Rows 4 (RdO S1) css st) (h0:0<st.length) :
  ∃ g cap cur,v=kvU g st.length cap/\st.length<=cap/\cap<=maxLen/\KnU S1 cur st/\Inv w0 X (A++[.blk g (.cells cur e)]) S w:=by
 have hcy:=hR.hc
 obtain ⟨hl,ho⟩:=Inv.openRow h
 rcases ho with ⟨rfl,h1⟩|⟨g,cap,cur,rfl,hnc,hcm,hcs,ht,hI⟩
 ·omega
 ·rw [hcy] at hnc
  exact ⟨g,cap,cur,by rw [hcy],hnc,hcm,hR.knu (by rw [hcs]; exact Nat.mul_le_mul_right 4 hnc) ht,hI⟩
end
end Go.Proofs.YtfcbhfjomgopbaaGreat

/- The reference's solver of goals that are built in. -/
namespace Go.Proofs.YtfcbhfjomgopbaaGreat
open Go Go.RowKit
section
attribute [local irreducible] Run CondV ak bg
def Cu (kb:Nat) (S:ar) (code:Int) (st':a6):Value->List Item->ar->Prop:=fun q I' S'=>S'=S/\q=.int .i64 code/\∃ kc',I'=[.blk kb (.cells kc' ac)]/\KnU S kc' st'
def neSt (w0:World) (X:List Nat) (A:List Item) (S:ar) (N:Nat) (st:a6) (r:Bool) (de cL cr:Value) (w':World):Nat->Prop
 | 0=>Inv w0 X A S w'
 | 1=>Inv w0 X (A++[.row de ac 4 0 []]) S w'
 | 2=>∃ g cap cur,cL=kvU g N cap/\KnU S cur st/\Inv w0 X (A++[.blk g (.cells cur ac)]) S w'
 | _=>cr=.bool r/\∃ R,Inv w0 X (A++R) S w'
theorem neSt.inv {w0 w':World} {X:List Nat} {A:List Item} {S:ar} {N:Nat} {st:a6} {r:Bool} {de cL cr:Value}:∀ {n:Nat},neSt w0 X A S N st r de cL cr w' n->∃ R,Inv w0 X (A++R) S w'
 | 0,h=>⟨[],by rw [List.append_nil]; exact h⟩
 | 1,h=>⟨_,h⟩
 | 2,⟨_,_,_,_,_,h⟩=>⟨_,h⟩
 | _+3,h=>h.2
set_option maxHeartbeats 1000000 in
theorem ud {N kp:Nat} (hN:N<=1000000) (hN0:0<N) (hkp:N<=kp) (hkp2:kp<=maxLen) {st st':a6} {g:T} {code:Int} (hg:Good N st) (ho:okU N g/\wT g<=1048576) (hn:okN g) (hb:c9 g=true) (hB:Blt st g code st')
  {S:ar} {cs:List Value} {kb:Nat} {kc:Array Value} (h:RdT S cs g) (hk:KnU S kc st):Tri Tryz.prog zX [.agg cs.toArray,kvU kb N kp] [.blk kb (.cells kc ac)] S (Cu kb S code st'):=by
 intro w hI
 have hgl:=h
 obtain ⟨k,n,s,ks⟩:=g
 obtain ⟨kv,rfl,_,_,_,hks⟩:=RdT.iff.1 h
 have hbj:=ue hb ho
 rw [c9,Bool.and_eq_true] at hb
 have hbs:=hb.2
 rw [okN] at hn
 simp only [T.name,T.kids,T.kind,T.n] at hks hbs hgl ⊢
 obtain ⟨X,hX⟩:∃ X,X=bv [Item.blk kb (.cells kc ac)]:=⟨_,rfl⟩
 rw [<- hX] at hI ⊢
 unfold Blt at hB
 clear h
 refine tS ?_
 unfold pl
 refine bt hI fun b2 w' hI=>?_
 have hI:Inv w X [.blk b2 (.cells #[.int .i64 k,.int .i64 n,.string s,kv] ac),.blk kb (.cells kc ac)] S w':=hI.perm (List.Perm.swap ..)
 have fin:∀ {w':World} {L:List Item} {j:BJ} (c:Int),j=.done c->BltJ st j code st'->Inv w X L S w'->List.Sublist [.blk kb (.cells kc ac)] L->
   ∃ v' I' S',Ending.returned (.int .i64 c)=.returned v'/\Inv w X I' S' w'/\Ext w.heap.size X S S'/\Cu kb S code st' v' I' S':=by
  intro w' L j c hj hB hI hs
  subst hj
  obtain ⟨rfl,rfl⟩:=hB
  exact ⟨_,_,S,rfl,hI.sub hs,Ext.refl _ _ _,rfl,rfl,kc,rfl,hk⟩
 refine ah hI 0 rfl bi bk rfl ?_
 refine bm ?_
 refine bf (fun h=>fin 0 (by rw [d5,if_pos (show (T.mk k n s ks).name=e6 from h)]) hB hI ((List.Sublist.refl _).cons _)) (fun h0=>?_)
 refine bm ?_
 refine bf (fun h=>fin 1 (by rw [d5,if_neg (show ¬ (T.mk k n s ks).name=e6 from h0),if_pos (show (T.mk k n s ks).name=fJ from h)]) hB hI ((List.Sublist.refl _).cons _)) (fun h1=>?_)
 refine bm ?_
 refine bf (fun h=>?_) (fun h2=>?_)
 ·obtain ⟨x,y,rfl⟩:=gX (l:=ks) (by have:=eR (by rw [h]; decide +kernel) hbs; omega)
  have hj:d5 (.mk k n s [x,y])=.uni x y:=by
   rw [d5,if_neg (show ¬ (T.mk k n s [x,y]).name=e6 from h0),if_neg (show ¬ (T.mk k n s [x,y]).name=fJ from h1),if_pos (show (T.mk k n s [x,y]).name=nEq from h)]
   rfl
  rw [hj] at hB hbj
  obtain ⟨b,o,cap,c,E,fz,rfl,hSb,hR⟩:=hks.ptr (by simp)
  obtain ⟨r,hu,rfl⟩:=hB
  have hjj:okJ N (.one x y):=hbj
  refine ⟨fun D x4 qR fm fl dM ev dS dQ dY dD dG dK w_=>(D 0=true->dK=.pointer (some ⟨b2,3,none⟩))/\(D 1=true->dG=.slice (some ⟨b,o,none⟩) [x,y].length cap)/\(D 2=true->dD=.pointer (some ⟨b,o+0 * 4,none⟩))/\(D 3=true->dY=.agg (ba c (o+0 * 4) 4).toArray)/\(D 4=true->dQ=.pointer (some ⟨b2,3,none⟩))/\(D 5=true->dS=.slice (some ⟨b,o,none⟩) [x,y].length cap)/\(D 6=true->ev=.pointer (some ⟨b,o+1 * 4,none⟩))/\(D 7=true->dM=.agg (ba c (o+1 * 4) 4).toArray)/\(D 8=true->fl=kvU kb N kp)/\(D 9=true->fm=.bool r)/\(D 10=true->qR=.int .i64 (dl r))/\(D 11=true->x4=.int .i64 (dl r))/\∃ kcx,(D 9=false->kcx=kc)/\(D 9=true->KnU S kcx st')/\Inv w X [.blk b2 (.cells #[.int .i64 k,.int .i64 n,.string s,.slice (some ⟨b,o,none⟩) [x,y].length cap] ac),.blk kb (.cells kcx ac)] S w_,⟨ae,ae,ae,ae,ae,ae,ae,ae,ae,ae,ae,ae,⟨kc,fun _=>rfl,ae,hI.draw⟩⟩,⟨?_,?_,?_,?_,?_,?_,?_,?_,?_,?_,?_,?_,trivial⟩,?_⟩
  ·intro D aY  x4 qR fm fl dM ev dS dQ dY dD dG dK w_
   rintro ⟨av,aw,ao,au,az,aq,aA,aE,aH,aL,ai,aj,⟨kcx,k0,k1,hI⟩⟩
   refine bb aP ?_
   exact ⟨fun _=>rfl,aw,ao,au,az,aq,aA,aE,aH,aL,ai,aj,⟨kcx,k0,k1,hI⟩⟩
  ·intro D aY cB x4 qR fm fl dM ev dS dQ dY dD dG dK w_
   rintro ⟨av,aw,ao,au,az,aq,aA,aE,aH,aL,ai,aj,⟨kcx,k0,k1,hI⟩⟩
   obtain rfl:=av cB
   refine bj hI 0 aO rfl rfl ?_
   exact ⟨av,fun _=>rfl,ao,au,az,aq,aA,aE,aH,aL,ai,aj,⟨kcx,k0,k1,hI⟩⟩
  ·intro D aY c6 x4 qR fm fl dM ev dS dQ dY dD dG dK w_
   rintro ⟨av,aw,ao,au,az,aq,aA,aE,aH,aL,ai,aj,⟨kcx,k0,k1,hI⟩⟩
   obtain rfl:=aw c6
   refine aT (i:=0) aC (by simp) ?_
   exact ⟨av,aw,fun _=>rfl,au,az,aq,aA,aE,aH,aL,ai,aj,⟨kcx,k0,k1,hI⟩⟩
  ·intro D aY cc x4 qR fm fl dM ev dS dQ dY dD dG dK w_
   rintro ⟨av,aw,ao,au,az,aq,aA,aE,aH,aL,ai,aj,⟨kcx,k0,k1,hI⟩⟩
   obtain rfl:=ao cc
   refine bw al (RdT.length (hR 0 (by simp))) (fun j v hj=>by rw [hI.cellS hSb]; exact aS rfl j v hj) ?_
   exact ⟨av,aw,ao,fun _=>rfl,az,aq,aA,aE,aH,aL,ai,aj,⟨kcx,k0,k1,hI⟩⟩
  ·intro D aY  x4 qR fm fl dM ev dS dQ dY dD dG dK w_
   rintro ⟨av,aw,ao,au,az,aq,aA,aE,aH,aL,ai,aj,⟨kcx,k0,k1,hI⟩⟩
   refine bb aP ?_
   exact ⟨av,aw,ao,au,fun _=>rfl,aq,aA,aE,aH,aL,ai,aj,⟨kcx,k0,k1,hI⟩⟩
  ·intro D aY cZ x4 qR fm fl dM ev dS dQ dY dD dG dK w_
   rintro ⟨av,aw,ao,au,az,aq,aA,aE,aH,aL,ai,aj,⟨kcx,k0,k1,hI⟩⟩
   obtain rfl:=az cZ
   refine bj hI 0 aO rfl rfl ?_
   exact ⟨av,aw,ao,au,az,fun _=>rfl,aA,aE,aH,aL,ai,aj,⟨kcx,k0,k1,hI⟩⟩
  ·intro D aY cY x4 qR fm fl dM ev dS dQ dY dD dG dK w_
   rintro ⟨av,aw,ao,au,az,aq,aA,aE,aH,aL,ai,aj,⟨kcx,k0,k1,hI⟩⟩
   obtain rfl:=aq cY
   refine aT (i:=1) aC (by simp) ?_
   exact ⟨av,aw,ao,au,az,aq,fun _=>rfl,aE,aH,aL,ai,aj,⟨kcx,k0,k1,hI⟩⟩
  ·intro D aY ci x4 qR fm fl dM ev dS dQ dY dD dG dK w_
   rintro ⟨av,aw,ao,au,az,aq,aA,aE,aH,aL,ai,aj,⟨kcx,k0,k1,hI⟩⟩
   obtain rfl:=aA ci
   refine bw al (RdT.length (hR 1 (by simp))) (fun j v hj=>by rw [hI.cellS hSb]; exact aS rfl j v hj) ?_
   exact ⟨av,aw,ao,au,az,aq,aA,fun _=>rfl,aH,aL,ai,aj,⟨kcx,k0,k1,hI⟩⟩
  ·intro D aY  x4 qR fm fl dM ev dS dQ dY dD dG dK w_
   rintro ⟨av,aw,ao,au,az,aq,aA,aE,aH,aL,ai,aj,⟨kcx,k0,k1,hI⟩⟩
   exact ⟨av,aw,ao,au,az,aq,aA,aE,fun _=>rfl,aL,ai,aj,⟨kcx,k0,k1,hI⟩⟩
  ·intro D aY dq gY F6 x4 qR fm fl dM ev dS dQ dY dD dG dK w_
   rintro ⟨av,aw,ao,au,az,aq,aA,aE,aH,aL,ai,aj,⟨kcx,k0,k1,hI⟩⟩
   obtain rfl:=au dq
   obtain rfl:=aE gY
   obtain rfl:=aH F6
   have e0:=k0 aY
   rw [e0] at hI
   have hI:Inv w X ([.blk b2 (.cells #[.int .i64 k,.int .i64 n,.string s,.slice (some ⟨b,o,none⟩) [x,y].length cap] ac)]++[.blk kb (.cells kc ac)]) S w_:=hI
   refine Run.callE (A:=[_]) eX eP hI (gE (kp:=kp) hN hg hjj hu S _ _ kb kc (hR 0 (by simp)) (hR 1 (by simp)) hk) fun v' I' S' w_=>?_
   rintro ⟨eS,rfl,kcx,rfl,hkx⟩ _ hI
   rw [eS] at hI
   have hI:Inv w X [.blk b2 (.cells #[.int .i64 k,.int .i64 n,.string s,.slice (some ⟨b,o,none⟩) [x,y].length cap] ac),.blk kb (.cells kcx ac)] S w_:=hI
   have k0:=fun (h:aD D 9 9=false)=>(Bool.noConfusion h:kcx=kc)
   have k1:=fun (_:aD D 9 9=true)=>hkx
   exact ⟨av,aw,ao,au,az,aq,aA,aE,aH,fun _=>rfl,ai,aj,⟨kcx,k0,k1,hI⟩⟩
  ·intro D aY kV iJ x4 qR fm fl dM ev dS dQ dY dD dG dK w_
   rintro ⟨av,aw,ao,au,az,aq,aA,aE,aH,aL,ai,aj,⟨kcx,k0,k1,hI⟩⟩
   obtain rfl:=aL kV
   refine Run.callPure dj di hI (cq r S) fun w_ hI=>?_
   exact ⟨av,aw,ao,au,az,aq,aA,aE,aH,aL,fun _=>rfl,aj,⟨kcx,k0,k1,hI⟩⟩
  ·intro D aY eo Ge oB mQ lu oL oo rF rB v9 u3 Ci Bn x4 qR fm fl dM ev dS dQ dY dD dG dK w_
   rintro ⟨av,aw,ao,au,az,aq,aA,aE,aH,aL,ai,aj,⟨kcx,k0,k1,hI⟩⟩
   obtain rfl:=ai eo
   exact ⟨av,aw,ao,au,az,aq,aA,aE,aH,aL,ai,fun _=>rfl,⟨kcx,k0,k1,hI⟩⟩
  intro D dO d7 hY gh fB fk fi e9 fe eQ eZ e8 x4 qR fm fl dM ev dS dQ dY dD dG dK w_
  rintro ⟨av,aw,ao,au,az,aq,aA,aE,aH,aL,ai,aj,⟨kcx,k0,k1,hI⟩⟩
  obtain rfl:=aj dO
  obtain rfl:=ai d7
  obtain rfl:=aL hY
  obtain rfl:=aH gh
  obtain rfl:=aE fB
  obtain rfl:=aA fk
  obtain rfl:=aq fi
  obtain rfl:=az e9
  obtain rfl:=au fe
  obtain rfl:=ao eQ
  obtain rfl:=aw eZ
  obtain rfl:=av e8
  clear av aw ao au az aq aA aE aH aL ai aj
  have hkx:=k1 hY
  exact ⟨_,_,S,rfl,hI.sub (((List.Sublist.refl _).cons _)),Ext.refl _ _ _,rfl,rfl,kcx,rfl,hkx⟩
 refine bm ?_
 refine bf (fun h=>?_) (fun h3=>?_)
 ·obtain ⟨x,y,rfl⟩:=gX (l:=ks) (by have:=eR (by rw [h]; decide +kernel) hbs; omega)
  have hj:d5 (.mk k n s [x,y])=.not x y:=by
   rw [d5,if_neg (show ¬ (T.mk k n s [x,y]).name=e6 from h0),if_neg (show ¬ (T.mk k n s [x,y]).name=fJ from h1),if_neg (show ¬ (T.mk k n s [x,y]).name=nEq from h2),if_pos (show (T.mk k n s [x,y]).name=nNe from h)]
   rfl
  rw [hj] at hB hbj
  obtain ⟨b,o,cap,c,E,fz,rfl,hSb,hR⟩:=hks.ptr (by simp)
  obtain ⟨rfl,r,st1,hu,rfl⟩:=hB
  have hjj:okJ N (.one x y):=hbj
  have hI0:=hI
  refine ⟨fun D x4 cC cD cr cL dm de fZ fY gb ga fX ey ew ez w_=>(D 0=true->ez=.pointer (some ⟨b2,3,none⟩))/\(D 1=true->ew=.slice (some ⟨b,o,none⟩) [x,y].length cap)/\(D 2=true->ey=.pointer (some ⟨b,o+0 * 4,none⟩))/\(D 3=true->fX=.agg (ba c (o+0 * 4) 4).toArray)/\(D 4=true->ga=.pointer (some ⟨b2,3,none⟩))/\(D 5=true->gb=.slice (some ⟨b,o,none⟩) [x,y].length cap)/\(D 6=true->fY=.pointer (some ⟨b,o+1 * 4,none⟩))/\(D 7=true->fZ=.agg (ba c (o+1 * 4) 4).toArray)/\(D 8=true->True)/\(D 9=true->dm=kvU kb N kp)/\(D 10=true->True)/\(D 11=true->True)/\(D 12=true->cD=.bool (!r))/\(D 13=true->cC=.int .i64 (dl (!r)))/\(D 14=true->x4=.int .i64 (dl (!r)))/\∃ n_:Nat,n_<=3/\D 8=decide (1<=n_)/\D 10=decide (2<=n_)/\D 11=decide (3<=n_)/\(neSt w X [.blk b2 (.cells #[.int .i64 k,.int .i64 n,.string s,.slice (some ⟨b,o,none⟩) [x,y].length cap] ac),.blk kb (.cells kc ac)] S N st' r de cL cr w_ n_),⟨ae,ae,ae,ae,ae,ae,ae,ae,ae,ae,ae,ae,ae,ae,ae,⟨0,Nat.zero_le _,rfl,rfl,rfl,hI.draw⟩⟩,⟨?_,?_,?_,?_,?_,?_,?_,?_,?_,?_,?_,?_,?_,?_,?_,trivial⟩,?_⟩
  ·intro D aY  x4 cC cD cr cL dm de fZ fY gb ga fX ey ew ez w_
   rintro ⟨av,aw,ao,au,az,aq,aA,aE,aH,aL,ai,aj,am,aF,aB,⟨n_,ln_,e1_,e2_,e3_,hS⟩⟩
   refine bb aP ?_
   exact ⟨fun _=>rfl,aw,ao,au,az,aq,aA,aE,aH,aL,ai,aj,am,aF,aB,⟨n_,ln_,e1_,e2_,e3_,hS⟩⟩
  ·intro D aY cB x4 cC cD cr cL dm de fZ fY gb ga fX ey ew ez w_
   rintro ⟨av,aw,ao,au,az,aq,aA,aE,aH,aL,ai,aj,am,aF,aB,⟨n_,ln_,e1_,e2_,e3_,hS⟩⟩
   obtain rfl:=av cB
   obtain ⟨R,hI⟩:=hS.inv; refine bj hI 0 aO rfl rfl ?_
   exact ⟨av,fun _=>rfl,ao,au,az,aq,aA,aE,aH,aL,ai,aj,am,aF,aB,⟨n_,ln_,e1_,e2_,e3_,hS⟩⟩
  ·intro D aY c6 x4 cC cD cr cL dm de fZ fY gb ga fX ey ew ez w_
   rintro ⟨av,aw,ao,au,az,aq,aA,aE,aH,aL,ai,aj,am,aF,aB,⟨n_,ln_,e1_,e2_,e3_,hS⟩⟩
   obtain rfl:=aw c6
   refine aT (i:=0) aC (by simp) ?_
   exact ⟨av,aw,fun _=>rfl,au,az,aq,aA,aE,aH,aL,ai,aj,am,aF,aB,⟨n_,ln_,e1_,e2_,e3_,hS⟩⟩
  ·intro D aY cc x4 cC cD cr cL dm de fZ fY gb ga fX ey ew ez w_
   rintro ⟨av,aw,ao,au,az,aq,aA,aE,aH,aL,ai,aj,am,aF,aB,⟨n_,ln_,e1_,e2_,e3_,hS⟩⟩
   obtain rfl:=ao cc
   obtain ⟨R,hI⟩:=hS.inv; refine bw al (RdT.length (hR 0 (by simp))) (fun j v hj=>by rw [hI.cellS hSb]; exact aS rfl j v hj) ?_
   exact ⟨av,aw,ao,fun _=>rfl,az,aq,aA,aE,aH,aL,ai,aj,am,aF,aB,⟨n_,ln_,e1_,e2_,e3_,hS⟩⟩
  ·intro D aY  x4 cC cD cr cL dm de fZ fY gb ga fX ey ew ez w_
   rintro ⟨av,aw,ao,au,az,aq,aA,aE,aH,aL,ai,aj,am,aF,aB,⟨n_,ln_,e1_,e2_,e3_,hS⟩⟩
   refine bb aP ?_
   exact ⟨av,aw,ao,au,fun _=>rfl,aq,aA,aE,aH,aL,ai,aj,am,aF,aB,⟨n_,ln_,e1_,e2_,e3_,hS⟩⟩
  ·intro D aY cZ x4 cC cD cr cL dm de fZ fY gb ga fX ey ew ez w_
   rintro ⟨av,aw,ao,au,az,aq,aA,aE,aH,aL,ai,aj,am,aF,aB,⟨n_,ln_,e1_,e2_,e3_,hS⟩⟩
   obtain rfl:=az cZ
   obtain ⟨R,hI⟩:=hS.inv; refine bj hI 0 aO rfl rfl ?_
   exact ⟨av,aw,ao,au,az,fun _=>rfl,aA,aE,aH,aL,ai,aj,am,aF,aB,⟨n_,ln_,e1_,e2_,e3_,hS⟩⟩
  ·intro D aY cY x4 cC cD cr cL dm de fZ fY gb ga fX ey ew ez w_
   rintro ⟨av,aw,ao,au,az,aq,aA,aE,aH,aL,ai,aj,am,aF,aB,⟨n_,ln_,e1_,e2_,e3_,hS⟩⟩
   obtain rfl:=aq cY
   refine aT (i:=1) aC (by simp) ?_
   exact ⟨av,aw,ao,au,az,aq,fun _=>rfl,aE,aH,aL,ai,aj,am,aF,aB,⟨n_,ln_,e1_,e2_,e3_,hS⟩⟩
  ·intro D aY ci x4 cC cD cr cL dm de fZ fY gb ga fX ey ew ez w_
   rintro ⟨av,aw,ao,au,az,aq,aA,aE,aH,aL,ai,aj,am,aF,aB,⟨n_,ln_,e1_,e2_,e3_,hS⟩⟩
   obtain rfl:=aA ci
   obtain ⟨R,hI⟩:=hS.inv; refine bw al (RdT.length (hR 1 (by simp))) (fun j v hj=>by rw [hI.cellS hSb]; exact aS rfl j v hj) ?_
   exact ⟨av,aw,ao,au,az,aq,aA,fun _=>rfl,aH,aL,ai,aj,am,aF,aB,⟨n_,ln_,e1_,e2_,e3_,hS⟩⟩
  ·intro D aY  x4 cC cD cr cL dm de fZ fY gb ga fX ey ew ez w_
   rintro ⟨av,aw,ao,au,az,aq,aA,aE,aH,aL,ai,aj,am,aF,aB,⟨n_,ln_,e1_,e2_,e3_,hS⟩⟩
   obtain rfl:n_=0:=F1 e1_ aY
   refine uJ hS gv fun v w_ hI=>?_
   have hS:neSt w X [.blk b2 (.cells #[.int .i64 k,.int .i64 n,.string s,.slice (some ⟨b,o,none⟩) [x,y].length cap] ac),.blk kb (.cells kc ac)] S N st' r v cL cr w_ 1:=hI
   exact ⟨av,aw,ao,au,az,aq,aA,aE,fun _=>by first|assumption|trivial,aL,ai,aj,am,aF,aB,⟨1,by decide,rfl,(by first|exact e2_|rfl),(by first|exact e3_|rfl),hS⟩⟩
  ·intro D aY  x4 cC cD cr cL dm de fZ fY gb ga fX ey ew ez w_
   rintro ⟨av,aw,ao,au,az,aq,aA,aE,aH,aL,ai,aj,am,aF,aB,⟨n_,ln_,e1_,e2_,e3_,hS⟩⟩
   exact ⟨av,aw,ao,au,az,aq,aA,aE,aH,fun _=>rfl,ai,aj,am,aF,aB,⟨n_,ln_,e1_,e2_,e3_,hS⟩⟩
  ·intro D aY dN iJ x4 cC cD cr cL dm de fZ fY gb ga fX ey ew ez w_
   rintro ⟨av,aw,ao,au,az,aq,aA,aE,aH,aL,ai,aj,am,aF,aB,⟨n_,ln_,e1_,e2_,e3_,hS⟩⟩
   have Gs:=aH dN
   obtain rfl:=aL iJ
   obtain rfl:n_=1:=FZ e1_ dN e2_ aY
   have hI:Inv w X ([.blk b2 (.cells #[.int .i64 k,.int .i64 n,.string s,.slice (some ⟨b,o,none⟩) [x,y].length cap] ac),.blk kb (.cells kc ac)]++[.row de ac 4 0 []]) S w_:=hS
   have hI:=hI.perm (M:=[.blk b2 (.cells #[.int .i64 k,.int .i64 n,.string s,.slice (some ⟨b,o,none⟩) [x,y].length cap] ac),dL de ac 4 []]++dP [(kb,.cells kc ac)]) ((List.Perm.swap ..).cons _)
   obtain ⟨S1,hle,hins,hI,hback⟩:=Inv.lendAll _ hI
   have hkN:=hg.len
   have hrd:=hk.rd (hins _ (List.mem_singleton.2 rfl)) (by rw [hkN]; exact hkp) hkp2
   rw [hkN] at hrd
   refine Ca hI 1 gv (by omega) rfl hrd (fun _ _=>RdO.length) (fun _ _=>RdO.one) (by rw [hkN]; simp; omega) (by omega) fun v w_ css2 hR2 hI=>?_
   have hI:=hback _ _ hI
   have hI:Inv w X ([.blk b2 (.cells #[.int .i64 k,.int .i64 n,.string s,.slice (some ⟨b,o,none⟩) [x,y].length cap] ac),.blk kb (.cells kc ac)]++[dL v ac 4 css2]) S w_:=hI.perm ((List.Perm.swap ..).cons _)
   obtain ⟨g,cp,cur,rfl,hc1,hc2,hkn,hI⟩:=Inv.tab hI hR2 (by omega)
   rw [hkN]
   have hS:neSt w X [.blk b2 (.cells #[.int .i64 k,.int .i64 n,.string s,.slice (some ⟨b,o,none⟩) [x,y].length cap] ac),.blk kb (.cells kc ac)] S N st' r de (kvU g N cp) cr w_ 2:=⟨g,cp,cur,rfl,hkn,hI⟩
   exact ⟨av,aw,ao,au,az,aq,aA,aE,aH,aL,fun _=>by first|assumption|trivial,aj,am,aF,aB,⟨2,by decide,(by first|exact e1_|rfl),rfl,(by first|exact e3_|rfl),hS⟩⟩
  ·intro D aY dq gY g7 Gd x4 cC cD cr cL dm de fZ fY gb ga fX ey ew ez w_
   rintro ⟨av,aw,ao,au,az,aq,aA,aE,aH,aL,ai,aj,am,aF,aB,⟨n_,ln_,e1_,e2_,e3_,hS⟩⟩
   obtain rfl:=au dq
   obtain rfl:=aE gY
   have FN:=ai g7
   obtain rfl:n_=2:=FZ e2_ g7 e3_ aY
   obtain ⟨g,cp,cur,rfl,hkn,hI⟩:=hS
   refine Run.callE eX eP hI (gE (kp:=cp) hN hg hjj hu S _ _ g cur (hR 0 (by simp)) (hR 1 (by simp)) hkn) fun v' I' S' w_=>?_
   rintro ⟨eS,rfl,kcx,rfl,hkx⟩ _ hI
   rw [eS] at hI
   have hS:neSt w X [.blk b2 (.cells #[.int .i64 k,.int .i64 n,.string s,.slice (some ⟨b,o,none⟩) [x,y].length cap] ac),.blk kb (.cells kc ac)] S N st' r de (kvU g N cp) (.bool r) w_ 3:=⟨rfl,_,hI⟩
   exact ⟨av,aw,ao,au,az,aq,aA,aE,aH,aL,ai,fun _=>by first|assumption|trivial,am,aF,aB,⟨3,by decide,(by first|exact e1_|rfl),(by first|exact e2_|rfl),rfl,hS⟩⟩
  ·intro D aY e7 x4 cC cD cr cL dm de fZ fY gb ga fX ey ew ez w_
   rintro ⟨av,aw,ao,au,az,aq,aA,aE,aH,aL,ai,aj,am,aF,aB,⟨n_,ln_,e1_,e2_,e3_,hS⟩⟩
   have Gm:=aj e7
   have hn3:=Fo ln_ e3_ e7
   have hS3:=hS
   rw [hn3] at hS3
   obtain ⟨hx41,_⟩:=hS3
   subst hx41
   refine bJ ?_
   exact ⟨av,aw,ao,au,az,aq,aA,aE,aH,aL,ai,aj,fun _=>rfl,aF,aB,⟨n_,ln_,e1_,e2_,e3_,hS⟩⟩
  ·intro D aY j3 jX x4 cC cD cr cL dm de fZ fY gb ga fX ey ew ez w_
   rintro ⟨av,aw,ao,au,az,aq,aA,aE,aH,aL,ai,aj,am,aF,aB,⟨n_,ln_,e1_,e2_,e3_,hS⟩⟩
   obtain rfl:=am j3
   have hn3:=Fo ln_ e3_ jX
   rw [hn3] at hS
   obtain ⟨hx41,R,hI⟩:=hS
   refine Run.callPure dj di hI (cq (!r) S) fun w_ hI=>?_
   have hS:neSt w X [.blk b2 (.cells #[.int .i64 k,.int .i64 n,.string s,.slice (some ⟨b,o,none⟩) [x,y].length cap] ac),.blk kb (.cells kc ac)] S N st' r de cL cr w_ n_:=by rw [hn3]; exact ⟨hx41,R,hI⟩
   exact ⟨av,aw,ao,au,az,aq,aA,aE,aH,aL,ai,aj,am,fun _=>rfl,aB,⟨n_,ln_,e1_,e2_,e3_,hS⟩⟩
  ·intro D aY fu Gf oB mQ lu oL oo rF rB v9 u3 Ci Bn Eq FA Fu x4 cC cD cr cL dm de fZ fY gb ga fX ey ew ez w_
   rintro ⟨av,aw,ao,au,az,aq,aA,aE,aH,aL,ai,aj,am,aF,aB,⟨n_,ln_,e1_,e2_,e3_,hS⟩⟩
   obtain rfl:=aF fu
   exact ⟨av,aw,ao,au,az,aq,aA,aE,aH,aL,ai,aj,am,aF,fun _=>rfl,⟨n_,ln_,e1_,e2_,e3_,hS⟩⟩
  intro D i5 jq fN dO d7 hY gh fB fk fi e9 fe eQ eZ e8 x4 cC cD cr cL dm de fZ fY gb ga fX ey ew ez w_
  rintro ⟨av,aw,ao,au,az,aq,aA,aE,aH,aL,ai,aj,am,aF,aB,⟨n_,ln_,e1_,e2_,e3_,hS⟩⟩
  obtain rfl:n_=3:=Fo ln_ e3_ dO
  clear e1_ e2_ e3_
  obtain rfl:=aB i5
  obtain ⟨_,R,hI⟩:=hS
  exact ⟨_,_,S,rfl,hI.sub (((List.nil_sublist _).cons_cons _).cons _),Ext.refl _ _ _,rfl,rfl,kc,rfl,hk⟩
 refine bm ?_
 refine bf (fun h=>?_) (fun h4=>?_)
 ·obtain ⟨x,y,rfl⟩:=gX (l:=ks) (by have:=eR (by rw [h]; decide +kernel) hbs; omega)
  have hj:d5 (.mk k n s [x,y])=.done (dl (eqT x y)):=by
   rw [d5,if_neg (show ¬ (T.mk k n s [x,y]).name=e6 from h0),if_neg (show ¬ (T.mk k n s [x,y]).name=fJ from h1),if_neg (show ¬ (T.mk k n s [x,y]).name=nEq from h2),if_neg (show ¬ (T.mk k n s [x,y]).name=nNe from h3),if_pos (show (T.mk k n s [x,y]).name=iN from h)]
   rfl
  rw [hj] at hB hbj
  obtain ⟨b,o,cap,c,E,fz,rfl,hSb,hR⟩:=hks.ptr (by simp)
  refine ⟨fun D x4 gC gw gB eH eL eK eJ eI cU cW w_=>(D 0=true->cW=.pointer (some ⟨b2,3,none⟩))/\(D 1=true->cU=.slice (some ⟨b,o,none⟩) [x,y].length cap)/\(D 2=true->eI=.pointer (some ⟨b,o+0 * 4,none⟩))/\(D 3=true->eJ=.agg (ba c (o+0 * 4) 4).toArray)/\(D 4=true->eK=.pointer (some ⟨b2,3,none⟩))/\(D 5=true->eL=.slice (some ⟨b,o,none⟩) [x,y].length cap)/\(D 6=true->eH=.pointer (some ⟨b,o+1 * 4,none⟩))/\(D 7=true->gB=.agg (ba c (o+1 * 4) 4).toArray)/\(D 8=true->gw=.bool (eqT x y))/\(D 9=true->gC=.int .i64 (dl (eqT x y)))/\(D 10=true->x4=.int .i64 (dl (eqT x y)))/\Inv w X [.blk b2 (.cells #[.int .i64 k,.int .i64 n,.string s,.slice (some ⟨b,o,none⟩) [x,y].length cap] ac),.blk kb (.cells kc ac)] S w_,⟨ae,ae,ae,ae,ae,ae,ae,ae,ae,ae,ae,hI.draw⟩,⟨?_,?_,?_,?_,?_,?_,?_,?_,?_,?_,?_,trivial⟩,?_⟩
  ·intro D aY  x4 gC gw gB eH eL eK eJ eI cU cW w_
   rintro ⟨av,aw,ao,au,az,aq,aA,aE,aH,aL,ai,hI⟩
   refine bb aP ?_
   exact ⟨fun _=>rfl,aw,ao,au,az,aq,aA,aE,aH,aL,ai,hI⟩
  ·intro D aY cB x4 gC gw gB eH eL eK eJ eI cU cW w_
   rintro ⟨av,aw,ao,au,az,aq,aA,aE,aH,aL,ai,hI⟩
   obtain rfl:=av cB
   refine bj hI 0 aO rfl rfl ?_
   exact ⟨av,fun _=>rfl,ao,au,az,aq,aA,aE,aH,aL,ai,hI⟩
  ·intro D aY c6 x4 gC gw gB eH eL eK eJ eI cU cW w_
   rintro ⟨av,aw,ao,au,az,aq,aA,aE,aH,aL,ai,hI⟩
   obtain rfl:=aw c6
   refine aT (i:=0) aC (by simp) ?_
   exact ⟨av,aw,fun _=>rfl,au,az,aq,aA,aE,aH,aL,ai,hI⟩
  ·intro D aY cc x4 gC gw gB eH eL eK eJ eI cU cW w_
   rintro ⟨av,aw,ao,au,az,aq,aA,aE,aH,aL,ai,hI⟩
   obtain rfl:=ao cc
   refine bw al (RdT.length (hR 0 (by simp))) (fun j v hj=>by rw [hI.cellS hSb]; exact aS rfl j v hj) ?_
   exact ⟨av,aw,ao,fun _=>rfl,az,aq,aA,aE,aH,aL,ai,hI⟩
  ·intro D aY  x4 gC gw gB eH eL eK eJ eI cU cW w_
   rintro ⟨av,aw,ao,au,az,aq,aA,aE,aH,aL,ai,hI⟩
   refine bb aP ?_
   exact ⟨av,aw,ao,au,fun _=>rfl,aq,aA,aE,aH,aL,ai,hI⟩
  ·intro D aY cZ x4 gC gw gB eH eL eK eJ eI cU cW w_
   rintro ⟨av,aw,ao,au,az,aq,aA,aE,aH,aL,ai,hI⟩
   obtain rfl:=az cZ
   refine bj hI 0 aO rfl rfl ?_
   exact ⟨av,aw,ao,au,az,fun _=>rfl,aA,aE,aH,aL,ai,hI⟩
  ·intro D aY cY x4 gC gw gB eH eL eK eJ eI cU cW w_
   rintro ⟨av,aw,ao,au,az,aq,aA,aE,aH,aL,ai,hI⟩
   obtain rfl:=aq cY
   refine aT (i:=1) aC (by simp) ?_
   exact ⟨av,aw,ao,au,az,aq,fun _=>rfl,aE,aH,aL,ai,hI⟩
  ·intro D aY ci x4 gC gw gB eH eL eK eJ eI cU cW w_
   rintro ⟨av,aw,ao,au,az,aq,aA,aE,aH,aL,ai,hI⟩
   obtain rfl:=aA ci
   refine bw al (RdT.length (hR 1 (by simp))) (fun j v hj=>by rw [hI.cellS hSb]; exact aS rfl j v hj) ?_
   exact ⟨av,aw,ao,au,az,aq,aA,fun _=>rfl,aH,aL,ai,hI⟩
  ·intro D aY dq gY x4 gC gw gB eH eL eK eJ eI cU cW w_
   rintro ⟨av,aw,ao,au,az,aq,aA,aE,aH,aL,ai,hI⟩
   obtain rfl:=au dq
   obtain rfl:=aE gY
   refine Run.callPure jb i8 hI (jz x y S _ _ (hR 0 (by simp)) (hR 1 (by simp))) fun w_ hI=>?_
   exact ⟨av,aw,ao,au,az,aq,aA,aE,fun _=>rfl,aL,ai,hI⟩
  ·intro D aY dN AE x4 gC gw gB eH eL eK eJ eI cU cW w_
   rintro ⟨av,aw,ao,au,az,aq,aA,aE,aH,aL,ai,hI⟩
   obtain rfl:=aH dN
   refine Run.callPure dj di hI (cq _ S) fun w_ hI=>?_
   exact ⟨av,aw,ao,au,az,aq,aA,aE,aH,fun _=>rfl,ai,hI⟩
  ·intro D aY kV iJ oB mQ lu oL oo rF rB v9 u3 Ci x4 gC gw gB eH eL eK eJ eI cU cW w_
   rintro ⟨av,aw,ao,au,az,aq,aA,aE,aH,aL,ai,hI⟩
   obtain rfl:=aL kV
   exact ⟨av,aw,ao,au,az,aq,aA,aE,aH,aL,fun _=>rfl,hI⟩
  intro D d7 hY gh fB fk fi e9 fe eQ eZ e8 x4 gC gw gB eH eL eK eJ eI cU cW w_
  rintro ⟨av,aw,ao,au,az,aq,aA,aE,aH,aL,ai,hI⟩
  obtain rfl:=ai d7
  obtain rfl:=aL hY
  obtain rfl:=aH gh
  obtain rfl:=aE fB
  obtain rfl:=aA fk
  obtain rfl:=aq fi
  obtain rfl:=az e9
  obtain rfl:=au fe
  obtain rfl:=ao eQ
  obtain rfl:=aw eZ
  obtain rfl:=av e8
  clear av aw ao au az aq aA aE aH aL ai
  exact fin _ rfl hB hI ((List.Sublist.refl _).cons _)
 refine bm ?_
 refine bf (fun h=>?_) (fun h5=>?_)
 ·obtain ⟨x,y,rfl⟩:=gX (l:=ks) (by have:=eR (by rw [h]; decide +kernel) hbs; omega)
  have hj:d5 (.mk k n s [x,y])=if (bG y).2≠0 then .done (bG y).2 else .uni x (Ax (bG y).1):=by
   rw [d5,if_neg (show ¬ (T.mk k n s [x,y]).name=e6 from h0),if_neg (show ¬ (T.mk k n s [x,y]).name=fJ from h1),if_neg (show ¬ (T.mk k n s [x,y]).name=nEq from h2),if_neg (show ¬ (T.mk k n s [x,y]).name=nNe from h3),if_neg (show ¬ (T.mk k n s [x,y]).name=iN from h4),if_pos (show (T.mk k n s [x,y]).name=nIs from h)]
   rfl
  rw [hj] at hB hbj
  obtain ⟨b,o,cap,c,E,fz,rfl,hSb,hR⟩:=hks.ptr (by simp)
  have ny:=dR hn.2 y (by simp)
  refine ah hI 0 rfl aP aO rfl ?_
  refine cj (i:=1) hI hks aC al (by simp) (fun _ _=>RdT.length) fun ds hds=>?_
  refine Run.callPure fR f1 hI (gW y S ds hds ny) fun w' hI=>?_
  refine be (v:=.int .i64 _) rfl ?_
  refine be (v:=.int .i64 _) rfl ?_
  refine bQ ?_
  refine bd (fun h6=>?_) (fun h6=>?_)
  ·simp at h6
   exact fin _ (if_pos h6) hB hI ((List.Sublist.refl _).cons _)
  simp at h6
  rw [if_neg (by simp [h6])] at hB hbj
  obtain ⟨r,hu,rfl⟩:=hB
  have hjj:okJ N (.one x (Ax (bG y).1)):=hbj
  have hsm:=jO y ny
  unfold Sm at hsm
  refine ⟨fun D x4 bP dE dB dw dC dy dz dA dx w_=>(D 0=true->dx=.pointer (some ⟨b2,3,none⟩))/\(D 1=true->dA=.slice (some ⟨b,o,none⟩) [x,y].length cap)/\(D 2=true->dz=.pointer (some ⟨b,o+0 * 4,none⟩))/\(D 3=true->dy=.agg (ba c (o+0 * 4) 4).toArray)/\(D 4=true->dC=.int .i64 (bG y).1)/\(D 5=true->dw=Cn 2 (bG y).1)/\(D 6=true->dB=kvU kb N kp)/\(D 7=true->dE=.bool r)/\(D 8=true->bP=.int .i64 (dl r))/\(D 9=true->x4=.int .i64 (dl r))/\∃ kcx,(D 7=false->kcx=kc)/\(D 7=true->KnU S kcx st')/\Inv w X [.blk b2 (.cells #[.int .i64 k,.int .i64 n,.string s,.slice (some ⟨b,o,none⟩) [x,y].length cap] ac),.blk kb (.cells kcx ac)] S w_,⟨ae,ae,ae,ae,ae,ae,ae,ae,ae,ae,⟨kc,fun _=>rfl,ae,hI.draw⟩⟩,⟨?_,?_,?_,?_,?_,?_,?_,?_,?_,?_,trivial⟩,?_⟩
  ·intro D aY  x4 bP dE dB dw dC dy dz dA dx w_
   rintro ⟨av,aw,ao,au,az,aq,aA,aE,aH,aL,⟨kcx,k0,k1,hI⟩⟩
   refine bb aP ?_
   exact ⟨fun _=>rfl,aw,ao,au,az,aq,aA,aE,aH,aL,⟨kcx,k0,k1,hI⟩⟩
  ·intro D aY cB x4 bP dE dB dw dC dy dz dA dx w_
   rintro ⟨av,aw,ao,au,az,aq,aA,aE,aH,aL,⟨kcx,k0,k1,hI⟩⟩
   obtain rfl:=av cB
   refine bj hI 0 aO rfl rfl ?_
   exact ⟨av,fun _=>rfl,ao,au,az,aq,aA,aE,aH,aL,⟨kcx,k0,k1,hI⟩⟩
  ·intro D aY c6 x4 bP dE dB dw dC dy dz dA dx w_
   rintro ⟨av,aw,ao,au,az,aq,aA,aE,aH,aL,⟨kcx,k0,k1,hI⟩⟩
   obtain rfl:=aw c6
   refine aT (i:=0) aC (by simp) ?_
   exact ⟨av,aw,fun _=>rfl,au,az,aq,aA,aE,aH,aL,⟨kcx,k0,k1,hI⟩⟩
  ·intro D aY cc x4 bP dE dB dw dC dy dz dA dx w_
   rintro ⟨av,aw,ao,au,az,aq,aA,aE,aH,aL,⟨kcx,k0,k1,hI⟩⟩
   obtain rfl:=ao cc
   refine bw al (RdT.length (hR 0 (by simp))) (fun j v hj=>by rw [hI.cellS hSb]; exact aS rfl j v hj) ?_
   exact ⟨av,aw,ao,fun _=>rfl,az,aq,aA,aE,aH,aL,⟨kcx,k0,k1,hI⟩⟩
  ·intro D aY  x4 bP dE dB dw dC dy dz dA dx w_
   rintro ⟨av,aw,ao,au,az,aq,aA,aE,aH,aL,⟨kcx,k0,k1,hI⟩⟩
   exact ⟨av,aw,ao,au,fun _=>rfl,aq,aA,aE,aH,aL,⟨kcx,k0,k1,hI⟩⟩
  ·intro D aY cZ x4 bP dE dB dw dC dy dz dA dx w_
   rintro ⟨av,aw,ao,au,az,aq,aA,aE,aH,aL,⟨kcx,k0,k1,hI⟩⟩
   obtain rfl:=az cZ
   refine Run.callPure Ce BG hI (wH _ S) fun w_ hI=>?_
   exact ⟨av,aw,ao,au,az,fun _=>rfl,aA,aE,aH,aL,⟨kcx,k0,k1,hI⟩⟩
  ·intro D aY  x4 bP dE dB dw dC dy dz dA dx w_
   rintro ⟨av,aw,ao,au,az,aq,aA,aE,aH,aL,⟨kcx,k0,k1,hI⟩⟩
   exact ⟨av,aw,ao,au,az,aq,fun _=>rfl,aE,aH,aL,⟨kcx,k0,k1,hI⟩⟩
  ·intro D aY dq cm q0 F5 x4 bP dE dB dw dC dy dz dA dx w_
   rintro ⟨av,aw,ao,au,az,aq,aA,aE,aH,aL,⟨kcx,k0,k1,hI⟩⟩
   obtain rfl:=au dq
   obtain rfl:=aq cm
   obtain rfl:=aA q0
   have e0:=k0 aY
   rw [e0] at hI
   have hI:Inv w X ([.blk b2 (.cells #[.int .i64 k,.int .i64 n,.string s,.slice (some ⟨b,o,none⟩) [x,y].length cap] ac)]++[.blk kb (.cells kc ac)]) S w_:=hI
   refine Run.callE (A:=[_]) eX eP hI (gE (kp:=kp) hN hg hjj hu S _ _ kb kc (hR 0 (by simp)) (zQ (by simp [inI]) (by simp only [inI]; omega)) hk) fun v' I' S' w_=>?_
   rintro ⟨eS,rfl,kcx,rfl,hkx⟩ _ hI
   rw [eS] at hI
   have hI:Inv w X [.blk b2 (.cells #[.int .i64 k,.int .i64 n,.string s,.slice (some ⟨b,o,none⟩) [x,y].length cap] ac),.blk kb (.cells kcx ac)] S w_:=hI
   have k0:=fun (h:aD D 7 7=false)=>(Bool.noConfusion h:kcx=kc)
   have k1:=fun (_:aD D 7 7=true)=>hkx
   exact ⟨av,aw,ao,au,az,aq,aA,fun _=>rfl,aH,aL,⟨kcx,k0,k1,hI⟩⟩
  ·intro D aY dT gY x4 bP dE dB dw dC dy dz dA dx w_
   rintro ⟨av,aw,ao,au,az,aq,aA,aE,aH,aL,⟨kcx,k0,k1,hI⟩⟩
   obtain rfl:=aE dT
   refine Run.callPure dj di hI (cq r S) fun w_ hI=>?_
   exact ⟨av,aw,ao,au,az,aq,aA,aE,fun _=>rfl,aL,⟨kcx,k0,k1,hI⟩⟩
  ·intro D aY dN AE oB mQ lu oL oo rF rB v9 u3 x4 bP dE dB dw dC dy dz dA dx w_
   rintro ⟨av,aw,ao,au,az,aq,aA,aE,aH,aL,⟨kcx,k0,k1,hI⟩⟩
   obtain rfl:=aH dN
   exact ⟨av,aw,ao,au,az,aq,aA,aE,aH,fun _=>rfl,⟨kcx,k0,k1,hI⟩⟩
  intro D hY gh fB fk fi e9 fe eQ eZ e8 x4 bP dE dB dw dC dy dz dA dx w_
  rintro ⟨av,aw,ao,au,az,aq,aA,aE,aH,aL,⟨kcx,k0,k1,hI⟩⟩
  obtain rfl:=aL hY
  obtain rfl:=aH gh
  obtain rfl:=aE fB
  obtain rfl:=aA fk
  obtain rfl:=aq fi
  obtain rfl:=az e9
  obtain rfl:=au fe
  obtain rfl:=ao eQ
  obtain rfl:=aw eZ
  obtain rfl:=av e8
  clear av aw ao au az aq aA aE aH aL
  have hkx:=k1 fB
  exact ⟨_,_,S,rfl,hI.sub (((List.Sublist.refl _).cons _)),Ext.refl _ _ _,rfl,rfl,kcx,rfl,hkx⟩
 refine bm ?_
 refine bf (fun h=>?_) (fun h6=>?_)
 ·obtain ⟨x,y,z,rfl⟩:=zK (l:=ks) (by have:=Cv (h ▸ hbs); omega)
  have hj:d5 (.mk k n s [x,y,z])=m8 x y z:=by
   rw [d5,if_neg (show ¬ (T.mk k n s [x,y,z]).name=e6 from h0),if_neg (show ¬ (T.mk k n s [x,y,z]).name=fJ from h1),if_neg (show ¬ (T.mk k n s [x,y,z]).name=nEq from h2),if_neg (show ¬ (T.mk k n s [x,y,z]).name=nNe from h3),if_neg (show ¬ (T.mk k n s [x,y,z]).name=iN from h4),if_neg (show ¬ (T.mk k n s [x,y,z]).name=nIs from h5),if_pos (show (T.mk k n s [x,y,z]).name=tX from h)]
   rfl
  rw [hj] at hB hbj
  refine a8 hI 0 al rfl rfl ?_
  refine Run.call0 Cc Br hI (xt hgl) fun v1 I' S' w'=>?_
  rintro ⟨rfl,eS,ds,cd,rfl,hdl,hd1,hcase⟩ _ hI
  rw [eS] at hI
  have hI:=hI
  refine be (v:=.agg ds.toArray) rfl ?_
  refine be (v:=.int .i64 cd) rfl ?_
  refine bC hI bA fun b7 w' hI=>?_
  refine bq hI 2 rfl al (by simpa using hdl) rfl (by simpa using hd1) fun w' hI=>?_
  obtain ⟨b,o,cap,c,E,fz,rfl,hSb,hR⟩:=hks.ptr (by simp)
  have hI:Inv w X [.blk b2 (.cells #[.int .i64 k,.int .i64 n,.string s,.slice (some ⟨b,o,none⟩) [x,y,z].length cap] ac),.blk kb (.cells kc ac),.blk b7 (.cells ds.toArray ac)] S w':=hI
  refine bQ ?_
  obtain ⟨j,hja⟩:∃ j,m8 x y z=j:=⟨_,rfl⟩
  rw [hja] at hcase hB hbj
  match j,hja,hcase,hB,hbj with
  | .done c2,_,hcase,hB,_=>
   obtain ⟨rfl,hne⟩:=hcase
   rw [decide_eq_false hne]
   refine bd (fun _=>?_) (fun hb=>by cases hb)
   exact fin _ rfl hB hI (((List.nil_sublist _).cons_cons _).cons _)
  | .not _ _,_,hcase,_,_=>exact hcase.elim
  | .uni u t,hja,hcase,hB,hbj=>
   obtain ⟨rfl,hdt⟩:=hcase
   refine bd (fun hb=>by cases hb) (fun _=>?_)
   obtain rfl:u=z:=by
    unfold m8 at hja
    split at hja
    ·cases hja
    split at hja
    ·cases hja
    split at hja
    ·cases hja
    ·rw [BJ.uni.injEq] at hja
     exact hja.1.symm
   obtain ⟨r,hu,rfl⟩:=hB
   have hjj:okJ N (.one u t):=hbj
   refine ⟨fun D x4 cR cS cP cT cX cV bM bN w_=>(D 0=true->bN=.pointer (some ⟨b2,3,none⟩))/\(D 1=true->bM=.slice (some ⟨b,o,none⟩) [x,y,u].length cap)/\(D 2=true->cV=.pointer (some ⟨b,o+2 * 4,none⟩))/\(D 3=true->cX=.agg (ba c (o+2 * 4) 4).toArray)/\(D 4=true->cT=.agg ds.toArray)/\(D 5=true->cP=kvU kb N kp)/\(D 6=true->cS=.bool r)/\(D 7=true->cR=.int .i64 (dl r))/\(D 8=true->x4=.int .i64 (dl r))/\∃ kcx,(D 6=false->kcx=kc)/\(D 6=true->KnU S kcx st')/\Inv w X [.blk b2 (.cells #[.int .i64 k,.int .i64 n,.string s,.slice (some ⟨b,o,none⟩) [x,y,u].length cap] ac),.blk kb (.cells kcx ac),.blk b7 (.cells ds.toArray ac)] S w_,⟨ae,ae,ae,ae,ae,ae,ae,ae,ae,⟨kc,fun _=>rfl,ae,hI.draw⟩⟩,⟨?_,?_,?_,?_,?_,?_,?_,?_,?_,trivial⟩,?_⟩
   ·intro D aY  x4 cR cS cP cT cX cV bM bN w_
    rintro ⟨av,aw,ao,au,az,aq,aA,aE,aH,⟨kcx,k0,k1,hI⟩⟩
    refine bb aP ?_
    exact ⟨fun _=>rfl,aw,ao,au,az,aq,aA,aE,aH,⟨kcx,k0,k1,hI⟩⟩
   ·intro D aY cB x4 cR cS cP cT cX cV bM bN w_
    rintro ⟨av,aw,ao,au,az,aq,aA,aE,aH,⟨kcx,k0,k1,hI⟩⟩
    obtain rfl:=av cB
    refine bj hI 0 aO rfl rfl ?_
    exact ⟨av,fun _=>rfl,ao,au,az,aq,aA,aE,aH,⟨kcx,k0,k1,hI⟩⟩
   ·intro D aY c6 x4 cR cS cP cT cX cV bM bN w_
    rintro ⟨av,aw,ao,au,az,aq,aA,aE,aH,⟨kcx,k0,k1,hI⟩⟩
    obtain rfl:=aw c6
    refine aT (i:=2) aC (by simp) ?_
    exact ⟨av,aw,fun _=>rfl,au,az,aq,aA,aE,aH,⟨kcx,k0,k1,hI⟩⟩
   ·intro D aY cc x4 cR cS cP cT cX cV bM bN w_
    rintro ⟨av,aw,ao,au,az,aq,aA,aE,aH,⟨kcx,k0,k1,hI⟩⟩
    obtain rfl:=ao cc
    refine bw al (RdT.length (hR 2 (by simp))) (fun j v hj=>by rw [hI.cellS hSb]; exact aS rfl j v hj) ?_
    exact ⟨av,aw,ao,fun _=>rfl,az,aq,aA,aE,aH,⟨kcx,k0,k1,hI⟩⟩
   ·intro D aY  x4 cR cS cP cT cX cV bM bN w_
    rintro ⟨av,aw,ao,au,az,aq,aA,aE,aH,⟨kcx,k0,k1,hI⟩⟩
    refine a8 hI 2 al rfl (by simpa using hdl) ?_
    exact ⟨av,aw,ao,au,fun _=>rfl,aq,aA,aE,aH,⟨kcx,k0,k1,hI⟩⟩
   ·intro D aY  x4 cR cS cP cT cX cV bM bN w_
    rintro ⟨av,aw,ao,au,az,aq,aA,aE,aH,⟨kcx,k0,k1,hI⟩⟩
    exact ⟨av,aw,ao,au,az,fun _=>rfl,aA,aE,aH,⟨kcx,k0,k1,hI⟩⟩
   ·intro D aY dq C3 jg x4 cR cS cP cT cX cV bM bN w_
    rintro ⟨av,aw,ao,au,az,aq,aA,aE,aH,⟨kcx,k0,k1,hI⟩⟩
    obtain rfl:=au dq
    obtain rfl:=az C3
    obtain rfl:=aq jg
    have e0:=k0 aY
    rw [e0] at hI
    have hI:=hI.perm (M:=[.blk b2 (.cells #[.int .i64 k,.int .i64 n,.string s,.slice (some ⟨b,o,none⟩) [x,y,u].length cap] ac),.blk b7 (.cells ds.toArray ac)]++[.blk kb (.cells kc ac)]) ((List.Perm.swap ..).cons _)
    refine Run.callE (A:=[_,_]) eX eP hI (gE (kp:=kp) hN hg hjj hu S _ _ kb kc (hR 2 (by simp)) hdt hk) fun v' I' S' w_=>?_
    rintro ⟨eS,rfl,kcx,rfl,hkx⟩ _ hI
    rw [eS] at hI
    have hI:Inv w X [.blk b2 (.cells #[.int .i64 k,.int .i64 n,.string s,.slice (some ⟨b,o,none⟩) [x,y,u].length cap] ac),.blk kb (.cells kcx ac),.blk b7 (.cells ds.toArray ac)] S w_:=hI.perm ((List.Perm.swap ..).cons _)
    have k0:=fun (h:aD D 6 6=false)=>(Bool.noConfusion h:kcx=kc)
    have k1:=fun (_:aD D 6 6=true)=>hkx
    exact ⟨av,aw,ao,au,az,aq,fun _=>rfl,aE,aH,⟨kcx,k0,k1,hI⟩⟩
   ·intro D aY ci gc x4 cR cS cP cT cX cV bM bN w_
    rintro ⟨av,aw,ao,au,az,aq,aA,aE,aH,⟨kcx,k0,k1,hI⟩⟩
    obtain rfl:=aA ci
    refine Run.callPure dj di hI (cq r S) fun w_ hI=>?_
    exact ⟨av,aw,ao,au,az,aq,aA,fun _=>rfl,aH,⟨kcx,k0,k1,hI⟩⟩
   ·intro D aY dT gY oB mQ lu oL oo rF rB v9 x4 cR cS cP cT cX cV bM bN w_
    rintro ⟨av,aw,ao,au,az,aq,aA,aE,aH,⟨kcx,k0,k1,hI⟩⟩
    obtain rfl:=aE dT
    exact ⟨av,aw,ao,au,az,aq,aA,aE,fun _=>rfl,⟨kcx,k0,k1,hI⟩⟩
   intro D gh fB fk fi e9 fe eQ eZ e8 x4 cR cS cP cT cX cV bM bN w_
   rintro ⟨av,aw,ao,au,az,aq,aA,aE,aH,⟨kcx,k0,k1,hI⟩⟩
   obtain rfl:=aH gh
   obtain rfl:=aE fB
   obtain rfl:=aA fk
   obtain rfl:=aq fi
   obtain rfl:=az e9
   obtain rfl:=au fe
   obtain rfl:=ao eQ
   obtain rfl:=aw eZ
   obtain rfl:=av e8
   clear av aw ao au az aq aA aE aH
   have hkx:=k1 fk
   exact ⟨_,_,S,rfl,hI.sub (((List.nil_sublist _).cons_cons _).cons _),Ext.refl _ _ _,rfl,rfl,kcx,rfl,hkx⟩
 have hrest:d5 (.mk k n s ks)=if ca s dc=true then .done (B6 s (cM ks)) else .done (dl (hK s (kd (.mk k n s ks) 0))):=by
  rw [d5,if_neg (show ¬ (T.mk k n s ks).name=e6 from h0),if_neg (show ¬ (T.mk k n s ks).name=fJ from h1),if_neg (show ¬ (T.mk k n s ks).name=nEq from h2),if_neg (show ¬ (T.mk k n s ks).name=nNe from h3),if_neg (show ¬ (T.mk k n s ks).name=iN from h4),if_neg (show ¬ (T.mk k n s ks).name=nIs from h5),if_neg (show ¬ (T.mk k n s ks).name=tX from h6)]
  rfl
 rw [hrest] at hB
 refine ah hI 0 rfl bi bk rfl ?_
 refine Run.callPure s3 td hI (od s S) fun w' hI=>?_
 refine bd (fun hc=>?_) (fun hc=>?_)
 ·rw [if_pos hc] at hB
  have hl:ks.length=2:=by have:=eR (CB hc) hbs; omega
  refine a8 hI 0 al rfl rfl ?_
  refine Run.callPure uN uU hI (pA hgl hl hn.2) fun w' hI=>?_
  exact fin _ rfl hB hI ((List.Sublist.refl _).cons _)
 rw [hc,if_neg (by decide)] at hB
 obtain ⟨x,rfl⟩:=wd (l:=ks) (by
  rcases jV hbs h0 h1 h2 h3 h4 h5 hc with ⟨_,h⟩|⟨h,_⟩
  ·omega
  ·exact absurd h h6)
 refine a8 hI 0 al rfl rfl ?_
 refine Run.callPure Ac z8 hI (vF hgl) fun w' hI=>?_
 exact fin _ rfl hB hI ((List.Sublist.refl _).cons _)
end
end Go.Proofs.YtfcbhfjomgopbaaGreat

/- impl: walks and occurrence. -/
namespace Go.Proofs.YtfcbhfjomgopbaaGreat
open Go Go.RowKit
section
variable {P:Program} {w w0:World} {X:List Nat} {L:List Item} {S:ar} {K:Value->World->Prop}
attribute [local irreducible] Run CondV ak bg
theorem iB {T kt et ty:TypeId} {b clock:Nat} {es:Array MapEntry} {n:Int} {z v:Value} {ok c:Bool} (hb:w.heap[b]?=some (.map es clock)) (hT:P.underlying T=some (.map kt et)) (hkt:P.underlying kt=some (.int .i64))
  (hz:gm P et=some z) (hf:(∃ j,Instr.findNow (.int .i64) (.int .i64 n) es.toList 0=some (some (j,v))/\ok=true) ∨ (Instr.findNow (.int .i64) (.int .i64 n) es.toList 0=some none/\v=z/\ok=false))
  (hk:K (cond c (.tuple #[v,.bool ok]) v) w):Run P (sOp (.lookup T (.const (.map (some b))) (.const (.int .i64 n)) c) ty) w K:=by
 have hck:∀ e,(Instr.checkKey e 10000 kt (.int .i64 n)).run P w=.ok () w:=fun e=>by
  rw [show (10000:Nat)=9999+1 from rfl,Instr.checkKey]
  simp [run_underlying hkt]
 obtain ⟨inf,hi1,hi2⟩:∃ inf,P.info? et=some inf/\inf.zero=some z:=by
  unfold gm at hz
  cases hinf:P.info? et with
  | none=>rw [hinf] at hz; simp at hz
  | some inf=>rw [hinf] at hz; exact ⟨inf,rfl,by simpa using hz⟩
 have hzv:(zeroValue et).run P w=.ok z w:=by simp [zeroValue,typeInfo,hi1,hi2]
 refine Run.of ?_ hk
 have hg:(getObj b).run P w=.ok (.map es clock) w:=by simp [getObj,Sem.run,hb]
 rcases hf with ⟨j,hf,rfl⟩|⟨hf,rfl,rfl⟩
 ·have hfk:=eY (P:=P) (w:=w) hkt hf
  cases c <;> simp [sOp,execOp,ev0,evE,Instr.lookup,run_underlying hT,hg,hck,hfk]
 ·have hfk:=eY (P:=P) (w:=w) hkt hf
  cases c <;> simp [sOp,execOp,ev0,evE,Instr.lookup,run_underlying hT,hg,hck,hfk,hzv]
end
section
attribute [local irreducible] Run CondV ak bg
/- slices.ContainsFunc with a function that changes what it is lent -/
theorem wR {f:FuncId} {fn:Func} {cap:List Value} {S0 S:ar} {v:Value} {xs:List T} (hf:Tryz.prog.funcs[f]?=some fn) (hn:(fn.name == "runtime.NumGoroutine" || fn.body.isNone)=false) (hle:Sle S0 S)
  (h:RdSl S0 4 (RdT S0) v xs) {J:Nat->List Item->Prop} {Fin:List Item->Prop}
  (hcall:∀ i (_:i<xs.length) (cs:List Value) (I:List Item),RdT S0 cs xs[i]->J i I->Tri Tryz.prog f (.agg cs.toArray::cap) I S fun r I' S'=>S'=S/\∃ b,r=.bool b/\(b=true->Fin I')/\(b=false->J (i+1) I'))
  {I:List Item} (hJ:J 0 I):Tri Tryz.prog iF [v,fv f cap] I S fun r I' S'=>S'=S/\∃ k:Int,r=.int .i64 k/\(0<=k->Fin I')/\(k<0->J xs.length I'):=by
 intro w hI
 have h:RdSl S 4 (RdT S0) v xs:=h.mono hle fun _ _ h=>h
 have hlen:=h.le
 simp only [maxLen] at hlen
 obtain ⟨X,hX⟩:∃ X,X=bv I:=⟨_,rfl⟩
 rw [<- hX] at hI ⊢
 refine f4 ?_
 unfold fg
 refine a5 h aC ?_
 refine ⟨fun i w'=>∃ (j:Nat) (I':List Item),j<=xs.length/\i=.int .i64 j/\J j I'/\Inv w X I' S w',fun i _=>xs.length - (intOf i).toNat,⟨0,I,Nat.zero_le _,rfl,hJ,hI⟩,?_⟩
 intro t8 _ _ _ _ _ _ _ _ _ _ _ _ w'
 rintro ⟨j,I',hj,rfl,hJ',hI⟩
 refine bz ?_
 refine bf (fun hji=>?_) (fun hji=>?_)
 ·have hj':j<xs.length:=by omega
  refine cj hI h aC al hj' (fun _ _=>RdT.length) fun cs hcs=>?_
  have hI:Inv w X ([]++I') S w':=hI
  refine Run.callVE (A:=[]) hf hn hI (hcall j hj' cs I' hcs hJ') fun v' I2 S2 w'=>?_
  rintro ⟨eS,b,rfl,hb1,hb2⟩ _ hI
  rw [eS] at hI
  clear eS
  have hI:Inv w X I2 S w':=hI
  refine bd (fun hb=>?_) (fun hb=>?_)
  ·exact ⟨_,_,_,rfl,hI,Ext.refl _ _ _,rfl,j,rfl,fun _=>hb1 hb,fun h=>by omega⟩
  ·refine b0 (by omega) ?_
   exact ⟨⟨j+1,I2,hj',rfl,hb2 hb,hI⟩,by simp [intOf]; omega⟩
 ·have:j=xs.length:=by omega
  subst this
  exact ⟨_,_,_,rfl,hI,Ext.refl _ _ _,rfl,-1,rfl,fun h=>by omega,fun _=>hJ'⟩
theorem q9 {f:FuncId} {fn:Func} {cap:List Value} {S0 S:ar} {v:Value} {xs:List T} (hf:Tryz.prog.funcs[f]?=some fn) (hn:(fn.name == "runtime.NumGoroutine" || fn.body.isNone)=false) (hle:Sle S0 S)
  (h:RdSl S0 4 (RdT S0) v xs) {J:Nat->List Item->Prop} {Fin:List Item->Prop}
  (hcall:∀ i (_:i<xs.length) (cs:List Value) (I:List Item),RdT S0 cs xs[i]->J i I->Tri Tryz.prog f (.agg cs.toArray::cap) I S fun r I' S'=>S'=S/\∃ b,r=.bool b/\(b=true->Fin I')/\(b=false->J (i+1) I'))
  {I:List Item} (hJ:J 0 I):Tri Tryz.prog gf [v,fv f cap] I S fun r I' S'=>S'=S/\∃ b,r=.bool b/\(b=true->Fin I')/\(b=false->J xs.length I'):=by
 intro w hI
 obtain ⟨X,hX⟩:∃ X,X=bv I:=⟨_,rfl⟩
 rw [<- hX] at hI ⊢
 refine fa ?_
 unfold ej
 have hI:Inv w X ([]++I) S w:=hI
 refine Run.callE (A:=[]) g6 hH hI (wR hf hn hle h hcall hJ) fun v' I2 S2 w'=>?_
 rintro ⟨eS,k,rfl,h1,h2⟩ _ hI
 rw [eS] at hI
 refine g5 ?_
 exact ⟨_,_,_,rfl,hI,Ext.refl _ _ _,rfl,_,rfl,fun hb=>h1 (of_decide_eq_true hb),fun hb=>h2 (by have:=of_decide_eq_false hb; omega)⟩
/- the store of impl in published memory -/
def StS (S0 S:ar) (sb:Nat) (st:a6):Prop:=∃ mb tv es ck E,S sb=some (.cells #[.map (some mb),tv] E)/\S mb=some (.map es ck)/\KnownM S0 es st
theorem StS.mono {S0 S S':ar} {sb:Nat} {st:a6} (h:StS S0 S sb st) (hs:Sle S S'):StS S0 S' sb st:=by
 obtain ⟨mb,tv,es,ck,E,h1,h2,h3⟩:=h
 exact ⟨mb,tv,es,ck,E,hs _ _ h1,hs _ _ h2,h3⟩
theorem StS.find {S0 S:ar} {sb:Nat} {N:Nat} {st:a6} (h:StS S0 S sb st) {t:T} (hk:t.kind=1) (ht:okU N t):∃ mb tv es ck E vv ok,S sb=some (.cells #[.map (some mb),tv] E)/\S mb=some (.map es ck)/\
  ((∃ j,Instr.findNow (.int .i64) (.int .i64 t.n) es.toList 0=some (some (j,.agg (List.toArray vv)))/\ok=true) ∨ (Instr.findNow (.int .i64) (.int .i64 t.n) es.toList 0=some none/\(Value.agg (List.toArray vv))=.agg #[.int .i64 0,.int .i64 0,.string ⟨#[]⟩,.slice none 0 0]/\ok=false))/\
  vv.length=4/\(∀ x∈vv,x.oneCell'=true)/\(ok=true->∃ u,fw st t=some u/\RdT S0 vv u)/\(ok=false->fw st t=none):=by
 obtain ⟨mb,tv,es,ck,E,h1,h2,h3⟩:=h
 obtain ⟨hn0,_⟩:=ht.var hk
 obtain ⟨j,hj⟩:∃ j:Nat,t.n=j:=⟨t.n.toNat,by omega⟩
 have hlk:fw st t=(st[j]?).join:=by rw [fw,if_pos hk,hj,Int.toNat_natCast]
 rw [hj,hlk]
 rcases h3.find j with ⟨q,v,u,cs,hf,rfl,hR,hs⟩|⟨hno,hf⟩
 ·exact ⟨mb,tv,es,ck,E,cs,true,h1,h2,.inl ⟨q,hf,rfl⟩,hR.length,hR.one,fun _=>⟨u,by rw [hs]; rfl,hR⟩,fun h=>by cases h⟩
 ·refine ⟨mb,tv,es,ck,E,[.int .i64 0,.int .i64 0,.string ⟨#[]⟩,.slice none 0 0],false,h1,h2,.inr ⟨hf,rfl,rfl⟩,rfl,by simp [Value.oneCell'],fun h=>(by cases h),fun _=>?_⟩
  cases hs:st[j]? with
  | none=>rfl
  | some o=>
   cases o with
   | none=>rfl
   | some u=>exact absurd hs (hno u)
theorem ie {N:Nat} {st:a6} (hg:Good N st) {t v:T} (hw:cK st t v) (ht:okU N t) {S0 S:ar} {cs:List Value} {sb:Nat} (hst:StS S0 S sb st) (h:RdT S0 cs t) :
  Tri Tryz.prog vr [.pointer (some ⟨sb,0,none⟩),.agg cs.toArray] [] S fun r I' S'=>S'=S/\I'=[]/\∃ cs',r=.agg cs'.toArray/\RdT S0 cs' v:=by
 intro w hI
 have hI:Inv w [] [] S w:=hI
 obtain ⟨r,hr⟩:=hg.rk
 refine oz ?_
 unfold lc
 refine bt hI fun b3 w' hI=>?_
 refine bC hI bA fun b4 w' hI=>?_
 have hI:Inv w [] [.blk b3 (.cells cs.toArray ac),.blk b4 (.cells #[.int .i64 0,.int .i64 0,.string ⟨#[]⟩,.slice none 0 0] ac)] S w':=hI
 refine ⟨fun w'=>∃ cs',RdT S0 cs' v/\Inv w [] [.blk b3 (.cells cs'.toArray ac),.blk b4 (.cells #[.int .i64 0,.int .i64 0,.string ⟨#[]⟩,.slice none 0 0] ac)] S w',?_,?_⟩
 ·refine ⟨fun w'=>∃ (t':T) (cs':List Value),cK st t' v/\okU N t'/\RdT S0 cs' t'/\Inv w [] [.blk b3 (.cells cs'.toArray ac),.blk b4 (.cells #[.int .i64 0,.int .i64 0,.string ⟨#[]⟩,.slice none 0 0] ac)] S w',
   fun w'=>sA b3 r st w',⟨t,cs,hw,ht,h,hI⟩,?_⟩
  intro _ _ _ t6 t5 t19 t18 t10 t17 t16 t15 t14 t13 t12 t11 _ _ _ w'
  rintro ⟨t',cs',hw',ht',hcs',hI⟩
  have hrank:=ph hI (i:=0) rfl hcs' r st
  have hcs0:=hcs'
  obtain ⟨kv,rfl,_⟩:=RdT.iff.1 hcs'
  refine ah hI 0 rfl aU aR rfl ?_
  refine bu ?_
  refine bf (fun hk1=>?_) (fun hk1=>?_)
  ·obtain ⟨mb,tv,es,ck,E,vv,ok,hsb,hmb,hfind,hvl,hvo,hyes,hno⟩:=hst.find hk1 ht'
   refine ⟨fun D x6 x5 dD dG sf dK lR s0 tm lw lx sT w_=>(D 0=true->sT=.pointer (some ⟨sb,0,none⟩))/\(D 1=true->lx=.pointer (some ⟨sb,0,none⟩))/\(D 2=true->lw=.pointer (some ⟨sb,0,none⟩))/\(D 3=true->tm=.map (some mb))/\(D 4=true->s0=.pointer (some ⟨b3,1,none⟩))/\(D 5=true->lR=.int .i64 t'.n)/\(D 6=true->dK=.tuple #[.agg vv.toArray,.bool ok])/\(D 7=true->sf=.tuple #[.agg vv.toArray,.bool ok])/\(D 8=true->dG=.agg vv.toArray)/\(D 9=true->dD=.bool ok)/\(D 10=true->True)/\(D 11=true->True)/\(D 12=true->x6=.bool ok)/\∃ b5,(D 10=true->x5=.pointer (some ⟨b5,0,none⟩))/\(D 11=true->D 10=true)/\Inv w [] ([.blk b3 (.cells #[.int .i64 t'.kind,.int .i64 t'.n,.string t'.name,kv] ac),.blk b4 (.cells #[.int .i64 0,.int .i64 0,.string ⟨#[]⟩,.slice none 0 0] ac)]++cond (D 10) [.blk b5 (.cells (cond (D 11) vv.toArray #[.int .i64 0,.int .i64 0,.string ⟨#[]⟩,.slice none 0 0]) ac)] []) S w_,⟨ae,ae,ae,ae,ae,ae,ae,ae,ae,ae,ae,ae,ae,⟨0,ae,ae,hI.draw⟩⟩,⟨?_,?_,?_,?_,?_,?_,?_,?_,?_,?_,?_,?_,?_,trivial⟩,?_⟩
   ·intro D aY  x6 x5 dD dG sf dK lR s0 tm lw lx sT w_
    rintro ⟨av,aw,ao,au,az,aq,aA,aE,aH,aL,ai,aj,am,⟨b5,e5,k11,hI⟩⟩
    exact ⟨fun _=>rfl,aw,ao,au,az,aq,aA,aE,aH,aL,ai,aj,am,⟨b5,e5,k11,hI⟩⟩
   ·intro D aY cB x6 x5 dD dG sf dK lR s0 tm lw lx sT w_
    rintro ⟨av,aw,ao,au,az,aq,aA,aE,aH,aL,ai,aj,am,⟨b5,e5,k11,hI⟩⟩
    obtain rfl:=av cB
    refine bR ?_
    exact ⟨av,fun _=>rfl,ao,au,az,aq,aA,aE,aH,aL,ai,aj,am,⟨b5,e5,k11,hI⟩⟩
   ·intro D aY c6 x6 x5 dD dG sf dK lR s0 tm lw lx sT w_
    rintro ⟨av,aw,ao,au,az,aq,aA,aE,aH,aL,ai,aj,am,⟨b5,e5,k11,hI⟩⟩
    obtain rfl:=aw c6
    refine bb iP ?_
    exact ⟨av,aw,fun _=>rfl,au,az,aq,aA,aE,aH,aL,ai,aj,am,⟨b5,e5,k11,hI⟩⟩
   ·intro D aY cc x6 x5 dD dG sf dK lR s0 tm lw lx sT w_
    rintro ⟨av,aw,ao,au,az,aq,aA,aE,aH,aL,ai,aj,am,⟨b5,e5,k11,hI⟩⟩
    obtain rfl:=ao cc
    refine fj (by decide +kernel) (by rw [hI.cellS hsb]; rfl) ?_
    exact ⟨av,aw,ao,fun _=>rfl,az,aq,aA,aE,aH,aL,ai,aj,am,⟨b5,e5,k11,hI⟩⟩
   ·intro D aY  x6 x5 dD dG sf dK lR s0 tm lw lx sT w_
    rintro ⟨av,aw,ao,au,az,aq,aA,aE,aH,aL,ai,aj,am,⟨b5,e5,k11,hI⟩⟩
    refine bb a9 ?_
    exact ⟨av,aw,ao,au,fun _=>rfl,aq,aA,aE,aH,aL,ai,aj,am,⟨b5,e5,k11,hI⟩⟩
   ·intro D aY cZ x6 x5 dD dG sf dK lR s0 tm lw lx sT w_
    rintro ⟨av,aw,ao,au,az,aq,aA,aE,aH,aL,ai,aj,am,⟨b5,e5,k11,hI⟩⟩
    obtain rfl:=az cZ
    refine bj hI 0 aR rfl rfl ?_
    exact ⟨av,aw,ao,au,az,fun _=>rfl,aA,aE,aH,aL,ai,aj,am,⟨b5,e5,k11,hI⟩⟩
   ·intro D aY dq cm x6 x5 dD dG sf dK lR s0 tm lw lx sT w_
    rintro ⟨av,aw,ao,au,az,aq,aA,aE,aH,aL,ai,aj,am,⟨b5,e5,k11,hI⟩⟩
    obtain rfl:=au dq
    obtain rfl:=aq cm
    refine iB (ok:=ok) (v:=.agg vv.toArray) (hI.pub _ _ hmb).1 dg fD bA hfind ?_
    exact ⟨av,aw,ao,au,az,aq,fun _=>rfl,aE,aH,aL,ai,aj,am,⟨b5,e5,k11,hI⟩⟩
   ·intro D aY ci x6 x5 dD dG sf dK lR s0 tm lw lx sT w_
    rintro ⟨av,aw,ao,au,az,aq,aA,aE,aH,aL,ai,aj,am,⟨b5,e5,k11,hI⟩⟩
    obtain rfl:=aA ci
    exact ⟨av,aw,ao,au,az,aq,aA,fun _=>rfl,aH,aL,ai,aj,am,⟨b5,e5,k11,hI⟩⟩
   ·intro D aY dT x6 x5 dD dG sf dK lR s0 tm lw lx sT w_
    rintro ⟨av,aw,ao,au,az,aq,aA,aE,aH,aL,ai,aj,am,⟨b5,e5,k11,hI⟩⟩
    obtain rfl:=aE dT
    refine be rfl ?_
    exact ⟨av,aw,ao,au,az,aq,aA,aE,fun _=>rfl,aL,ai,aj,am,⟨b5,e5,k11,hI⟩⟩
   ·intro D aY dT x6 x5 dD dG sf dK lR s0 tm lw lx sT w_
    rintro ⟨av,aw,ao,au,az,aq,aA,aE,aH,aL,ai,aj,am,⟨b5,e5,k11,hI⟩⟩
    obtain rfl:=aE dT
    refine be rfl ?_
    exact ⟨av,aw,ao,au,az,aq,aA,aE,aH,fun _=>rfl,ai,aj,am,⟨b5,e5,k11,hI⟩⟩
   ·intro D aY  x6 x5 dD dG sf dK lR s0 tm lw lx sT w_
    rintro ⟨av,aw,ao,au,az,aq,aA,aE,aH,aL,ai,aj,am,⟨b5,e5,k11,hI⟩⟩
    have f11:D 11=false:=Bool.eq_false_iff.2 fun h=>by rw [k11 h] at aY; cases aY
    rw [aY] at hI
    refine bC hI bA fun b5 w_ hI=>?_
    have e5:=fun (_:aD D 10 10=true)=>(rfl:Value.pointer (some ⟨b5,0,none⟩)=_)
    have k11:=fun (_:aD D 10 11=true)=>(rfl:aD D 10 10=true)
    have hI:Inv w [] ([.blk b3 (.cells #[.int .i64 t'.kind,.int .i64 t'.n,.string t'.name,kv] ac),.blk b4 (.cells #[.int .i64 0,.int .i64 0,.string ⟨#[]⟩,.slice none 0 0] ac)]++cond true [.blk b5 (.cells (cond (D 11) vv.toArray #[.int .i64 0,.int .i64 0,.string ⟨#[]⟩,.slice none 0 0]) ac)] []) S w_:=by rw [f11]; exact hI
    exact ⟨av,aw,ao,au,az,aq,aA,aE,aH,aL,fun _=>by first|assumption|trivial,aj,am,⟨b5,e5,k11,hI⟩⟩
   ·intro D aY eo AE oB mQ lu oL oo rF rB v9 u3 F8 x6 x5 dD dG sf dK lR s0 tm lw lx sT w_
    rintro ⟨av,aw,ao,au,az,aq,aA,aE,aH,aL,ai,aj,am,⟨b5,e5,k11,hI⟩⟩
    have FN:=ai eo
    obtain rfl:=aH AE
    have q5:=e5 eo
    subst q5
    rw [aY,eo] at hI
    refine bq hI 2 rfl al (by simpa using hvl) rfl (by simpa using hvo) fun w_ hI=>?_
    have k11:=fun (_:aD D 11 11=true)=>eo
    have hI:Inv w [] ([.blk b3 (.cells #[.int .i64 t'.kind,.int .i64 t'.n,.string t'.name,kv] ac),.blk b4 (.cells #[.int .i64 0,.int .i64 0,.string ⟨#[]⟩,.slice none 0 0] ac)]++cond (D 10) [.blk b5 (.cells (cond true vv.toArray #[.int .i64 0,.int .i64 0,.string ⟨#[]⟩,.slice none 0 0]) ac)] []) S w_:=by rw [eo]; exact hI
    exact ⟨av,aw,ao,au,az,aq,aA,aE,aH,aL,ai,fun _=>trivial,am,⟨b5,e5,k11,hI⟩⟩
   ·intro D aY kV jX oB mQ lu oL oo rF rB v9 u3 Ci Bn Eq x6 x5 dD dG sf dK lR s0 tm lw lx sT w_
    rintro ⟨av,aw,ao,au,az,aq,aA,aE,aH,aL,ai,aj,am,⟨b5,e5,k11,hI⟩⟩
    obtain rfl:=aL kV
    exact ⟨av,aw,ao,au,az,aq,aA,aE,aH,aL,ai,aj,fun _=>rfl,⟨b5,e5,k11,hI⟩⟩
   intro D fN dO d7 hY gh fB fk fi e9 fe eQ eZ e8 x6 x5 dD dG sf dK lR s0 tm lw lx sT w_
   rintro ⟨av,aw,ao,au,az,aq,aA,aE,aH,aL,ai,aj,am,⟨b5,e5,k11,hI⟩⟩
   obtain rfl:=am fN
   have FN:=ai d7
   obtain rfl:=aL hY
   obtain rfl:=aH gh
   obtain rfl:=aE fB
   obtain rfl:=aA fk
   obtain rfl:=aq fi
   obtain rfl:=az e9
   obtain rfl:=au fe
   obtain rfl:=ao eQ
   obtain rfl:=aw eZ
   obtain rfl:=av e8
   clear av aw ao au az aq aA aE aH aL ai aj am
   have q5:=e5 d7
   subst q5
   rw [d7,dO] at hI
   have hI:Inv w [] [.blk b3 (.cells #[.int .i64 t'.kind,.int .i64 t'.n,.string t'.name,kv] ac),.blk b4 (.cells #[.int .i64 0,.int .i64 0,.string ⟨#[]⟩,.slice none 0 0] ac),.blk b5 (.cells vv.toArray ac)] S w_:=hI
   refine bJ ?_
   refine bd (fun hb=>?_) (fun hb=>?_)
   ·have hok:ok=false:=by simpa using hb
    have hl:=hno hok
    have hv:v=t':=by
     cases hw' with
     | stop _=>rfl
     | step h1 _=>rw [h1] at hl; cases hl
    subst hv
    exact ⟨_,hcs0,hI.pick [true,true,false]⟩
   ·have hok:ok=true:=by simpa using hb
    obtain ⟨u,hl,hRu⟩:=hyes hok
    have hwu:cK st u v:=by
     cases hw' with
     | stop h0=>rw [hl] at h0; cases h0
     | step h1 h2=>rw [hl,Option.some.injEq] at h1; rw [h1]; exact h2
    refine a8 hI 2 al rfl (by simpa using hvl) ?_
    refine bq hI 0 rfl al (by simpa using hvl) rfl (by simpa using hvo) fun w' hI=>?_
    have hI:Inv w [] [.blk b3 (.cells vv.toArray ac),.blk b4 (.cells #[.int .i64 0,.int .i64 0,.string ⟨#[]⟩,.slice none 0 0] ac)] S w':=hI.pick [true,true,false]
    refine ⟨⟨u,vv,hwu,(hg.look_ok hl).1,hRu,hI⟩,?_⟩
    have hrank2:=ph hI (i:=0) rfl hRu r st
    show sA b3 r st w'<sA b3 r st _
    have hl1:(fw st t').isSome=true:=by rw [hl]; rfl
    rw [hrank,hrank2,if_pos hl1]
    split
    ·rename_i hl2
     obtain ⟨u2,hl2⟩:=Option.isSome_iff_exists.1 hl2
     have:=hr _ u (cO.1 hl).2 u.n.toNat (by rw [gA (cO.1 hl2).1]; exact List.mem_singleton.2 rfl)
     omega
    ·omega
  ·have hv:v=t':=by
    cases hw' with
    | stop _=>rfl
    | step h1 _=>exact absurd (cO.1 h1).1 hk1
   subst hv
   exact ⟨_,hcs0,hI⟩
 ·intro _ _ _ _ _ _ _ _ _ _ _ _ _ _ _ _ _ _ w'
  rintro ⟨cs',hcs',hI⟩
  have hlc:=hcs'.length
  refine a8 hI 0 al rfl (by simpa using hlc) ?_
  refine bq hI 1 rfl al (by simpa using hlc) rfl (by simpa using hcs'.one) fun w' hI=>?_
  refine dJ hI 1 al rfl (by simpa using hlc) ?_
  exact ⟨_,_,_,rfl,hI.nil,Ext.refl _ _ _,rfl,rfl,_,rfl,hcs'⟩
/- the variables that impl.occurs has met -/
def MetM (es:Array MapEntry) (met:Nat->Prop):Prop:=(∀ e∈es.toList,∃ n:Nat,e.key=.int .i64 n/\e.val=.bool true/\met n)/\∀ n,met n->∃ e∈es.toList,e.key=.int .i64 (n:Nat)
theorem MetM.find {es:Array MapEntry} {met:Nat->Prop} (h:MetM es met) (n:Nat):(met n/\∃ j,Instr.findNow (.int .i64) (.int .i64 n) es.toList 0=some (some (j,.bool true))) ∨ (¬ met n/\Instr.findNow (.int .i64) (.int .i64 n) es.toList 0=some none):=by
 rcases mD (n:=n) es.toList 0 (fun e he=>by obtain ⟨m,hk,_⟩:=h.1 e he; exact ⟨m,hk⟩) with ⟨j,e,he,hk,hf⟩|⟨hk,hf⟩
 ·obtain ⟨m,hk2,hv,hm⟩:=h.1 e he
  rw [hk] at hk2
  simp only [Value.int.injEq,true_and] at hk2
  have:n=m:=by omega
  subst this
  rw [hv] at hf
  exact .inl ⟨hm,j,hf⟩
 ·refine .inr ⟨fun hm=>?_,hf⟩
  obtain ⟨e,he,hk2⟩:=h.2 n hm
  exact hk e he hk2
theorem MetM.push {es:Array MapEntry} {met:Nat->Prop} (h:MetM es met) (n:Nat) (ck:Nat):MetM (es.push { key:=.int .i64 n,val:=.bool true,born:=ck }) (fun m=>met m ∨ m=n):=by
 refine ⟨fun e he=>?_,fun m hm=>?_⟩
 ·rw [Array.toList_push] at he
  rcases List.mem_append.1 he with he|he
  ·obtain ⟨m,hk,hv,hm⟩:=h.1 e he
   exact ⟨m,hk,hv,.inl hm⟩
  ·simp at he
   subst he
   exact ⟨n,rfl,rfl,.inr rfl⟩
 ·rw [Array.toList_push]
  rcases hm with hm|rfl
  ·obtain ⟨x,hx,hk⟩:=h.2 m hm
   exact ⟨x,List.mem_append_left _ hx,hk⟩
  ·exact ⟨_,List.mem_append_right _ (List.mem_singleton.2 rfl),rfl⟩
theorem MetM.empty:MetM #[] (fun _=>False):=⟨fun e he=>by simp at he,fun n h=>h.elim⟩
theorem yj {st:a6} {r:Nat->Nat} (hr:∀ (n:Nat) (u:T),st[n]?=some (some u)->∀ m∈vT u,r m<r n) {t v:T} (hw:cK st t v):∀ u,fw st t=some u->∀ y∈vT v,r y<r t.n.toNat:=by
 induction hw with
 | stop h=>intro u hu; rw [h] at hu; cases hu
 | step hl hw' ih=>
  rename_i t u v
  intro u' _ y hy
  have h1:=hr _ u (cO.1 hl).2
  cases hl2:fw st u with
  | none=>
   have:v=u:=by
    cases hw' with
    | stop _=>rfl
    | step h3 _=>rw [h3] at hl2; cases hl2
   subst this
   exact h1 y hy
  | some u2=>
   have h2:=ih u2 hl2 y hy
   have h3:=h1 u.n.toNat (by rw [gA (cO.1 hl2).1]; exact List.mem_singleton.2 rfl)
   omega
theorem AK {N:Nat} {st:a6} {t v:T} (h:Good N st) (hw:cK st t v) (ht:okU N t):okU N v:=by
 induction hw with
 | stop=>exact ht
 | step hl _ ih=>exact ih (h.look_ok hl).1
theorem DC {st:a6} {r:Nat->Nat} (hr:∀ (n:Nat) (u:T),st[n]?=some (some u)->∀ m∈vT u,r m<r n) {a c:Nat} (h:Rch st a c):r c<=r a:=by
 induction h with
 | refl=>exact Nat.le_refl _
 | step h1 h2 _ ih=>have:=hr _ _ h1 _ h2; omega
theorem Bu {st:a6} {t v:T} (hw:cK st t v):∀ u,fw st t=some u->∀ y∈vT v,Rch st t.n.toNat y:=by
 induction hw with
 | stop h=>intro u hu; rw [h] at hu; cases hu
 | step hl hw' ih=>
  rename_i t u v
  intro u' _ y hy
  cases hl2:fw st u with
  | none=>
   have:v=u:=by
    cases hw' with
    | stop _=>rfl
    | step h3 _=>rw [h3] at hl2; cases hl2
   subst this
   exact .step (cO.1 hl).2 hy (.refl y)
  | some u2=>exact .step (cO.1 hl).2 (by rw [gA (cO.1 hl2).1]; exact List.mem_singleton.2 rfl) (ih u2 hl2 y hy)
/- what impl.occurs does -/
def OC (st:a6) (sb n:Nat) (t:T):Prop:=∀ (S0 S:ar) (cs:List Value) (mm ck:Nat) (es:Array MapEntry) (met:Nat->Prop),Sle S0 S->StS S0 S sb st->RdT S0 cs t->MetM es met->(∀ m,met m->(∃ x∈vT t,Rch st x m)->¬ Rch st m n)->
 Tri Tryz.prog rt [.pointer (some ⟨sb,0,none⟩),.int .i64 n,.agg cs.toArray,.map (some mm)] [.blk mm (.map es ck)] S fun r I' S'=>S'=S/\∃ es' ck',I'=[.blk mm (.map es' ck')]/\
  ((d6 st n t/\r=.bool true) ∨ (¬ d6 st n t/\r=.bool false/\∃ met',MetM es' met'/\(∀ m,met m->met' m)/\∀ m,met' m->met m ∨ ¬ Rch st m n))
theorem uD {st:a6} {sb n:Nat} {t:T} (hoc:OC st sb n t) {S0 S:ar} {cs:List Value} {mm ck b4 b5 b7:Nat} {E4 E5 E7:TypeId} {es:Array MapEntry} {met:Nat->Prop} (hle:Sle S0 S) (hst:StS S0 S sb st) (h:RdT S0 cs t) (hm:MetM es met)
  (hpre:∀ m,met m->(∃ x∈vT t,Rch st x m)->¬ Rch st m n) (h4:S b4=some (.cells #[.pointer (some ⟨sb,0,none⟩)] E4)) (h5:S b5=some (.cells #[.int .i64 n] E5)) (h7:S b7=some (.cells #[.map (some mm)] E7)) :
  Tri Tryz.prog n9 [.agg cs.toArray,.pointer (some ⟨b4,0,none⟩),.pointer (some ⟨b5,0,none⟩),.pointer (some ⟨b7,0,none⟩)] [.blk mm (.map es ck)] S fun r I' S'=>S'=S/\∃ es' ck',I'=[.blk mm (.map es' ck')]/\
  ((d6 st n t/\r=.bool true) ∨ (¬ d6 st n t/\r=.bool false/\∃ met',MetM es' met'/\(∀ m,met m->met' m)/\∀ m,met' m->met m ∨ ¬ Rch st m n)):=by
 intro w hI
 have hlc:=h.length
 obtain ⟨X,hX⟩:∃ X,X=bv [Item.blk mm (.map es ck)]:=⟨_,rfl⟩
 rw [<- hX] at hI ⊢
 refine ku ?_
 unfold g0
 refine bt hI fun b1 w' hI=>?_
 have hI:Inv w X ([.blk b1 (.cells cs.toArray ac)]++[.blk mm (.map es ck)]) S w':=hI.perm (List.Perm.swap ..)
 refine fj oq (by rw [hI.cellS h4]; rfl) ?_
 refine fj aR (by rw [hI.cellS h5]; rfl) ?_
 refine a8 hI 0 al rfl (by simpa using hlc) ?_
 refine fj (by decide +kernel) (by rw [hI.cellS h7]; rfl) ?_
 refine Run.callE fS fP hI (hoc S0 S cs mm ck es met hle hst h hm hpre) fun v' I' S' w'=>?_
 rintro ⟨eS,es',ck',rfl,hres⟩ _ hI
 rw [eS] at hI
 exact ⟨_,_,_,rfl,hI.pick [false,true],Ext.refl _ _ _,rfl,es',ck',rfl,hres⟩
theorem At {N:Nat} {st:a6} (hg:Good N st) {sb n:Nat} (hn:∀ u,st[n]?≠some (some u)) (hnN:n<1000000000) {t v:T} (ho:okU N t) (hwv:cK st t v)
  (hv:t.kind=1->v.kind≠1->OC st sb n v) (hk:t.kind≠1->∀ x∈t.kids,OC st sb n x):OC st sb n t:=by
 intro S0 S cs mm ck es met hle hst h hmet hpre w hI
 have hlc:=h.length
 obtain ⟨X,hX⟩:∃ X,X=bv [Item.blk mm (.map es ck)]:=⟨_,rfl⟩
 rw [<- hX] at hI ⊢
 have h0:=h
 obtain ⟨kv,rfl,_,_,_,hks⟩:=RdT.iff.1 h
 refine my ?_
 unfold iW
 refine bt hI fun b4 w' hI=>?_
 refine bt hI fun b5 w' hI=>?_
 refine bt hI fun b6 w' hI=>?_
 refine bt hI fun b7 w' hI=>?_
 have hI:Inv w X [.blk mm (.map es ck),.blk b4 (.cells #[.pointer (some ⟨sb,0,none⟩)] ik),.blk b5 (.cells #[.int .i64 n] ce),.blk b6 (.cells #[.int .i64 t.kind,.int .i64 t.n,.string t.name,kv] ac),.blk b7 (.cells #[.map (some mm)] fK)] S w':=hI
 refine ah hI 3 rfl aU aR rfl ?_
 refine bu ?_
 refine bf (fun hk1=>?_) (fun hk1=>?_)
 ·obtain ⟨hn0,_⟩:=ho.var hk1
  obtain ⟨j,hj⟩:∃ j:Nat,t.n=j:=⟨t.n.toNat,by omega⟩
  have hvt:vT t=[j]:=by rw [gA hk1,hj,Int.toNat_natCast]
  have hzb:gm Tryz.prog Bj=some (.bool false):=by kernel_rfl
  have hun:Tryz.prog.underlying fK=some (.map ce Bj):=by kernel_rfl
  refine bj hI 4 (by decide +kernel) rfl rfl ?_
  refine ah hI 3 rfl a9 aR rfl ?_
  rw [hj] at hI ⊢
  rcases hmet.find j with ⟨hmj,q,hf⟩|⟨hmj,hf⟩
  ·refine iB (c:=false) (ok:=true) (v:=.bool true) (hI.its (.blk mm (.map es ck)) (by simp)) hun fD hzb (.inl ⟨q,hf,rfl⟩) ?_
   refine bd (fun _=>?_) (fun hb=>by cases hb)
   have hno:¬ d6 st n t:=by
    rintro ⟨x,hx,hr⟩
    have hxj:=hx
    rw [hvt,List.mem_singleton] at hxj
    subst hxj
    exact hpre x hmj ⟨x,hx,.refl x⟩ hr
   exact ⟨_,_,_,rfl,hI.pick [true,false,false,false,false],Ext.refl _ _ _,rfl,es,ck,rfl,.inr ⟨hno,rfl,met,hmet,fun _ h=>h,fun _ h=>.inl h⟩⟩
  refine iB (c:=false) (ok:=false) (v:=.bool false) (hI.its (.blk mm (.map es ck)) (by simp)) hun fD hzb (.inr ⟨hf,rfl,rfl⟩) ?_
  refine bd (fun hb=>by cases hb) (fun _=>?_)
  refine bj hI 4 (by decide +kernel) rfl rfl ?_
  refine ah hI 3 rfl a9 aR rfl ?_
  refine uu hI 0 hun fD rfl hf fun w' hI=>?_
  have hmet2:=hmet.push j ck
  generalize hes2:es.push { key:=.int .i64 (j:Int),val:=.bool true,born:=ck }=es2 at hmet2
  rw [hes2] at hI
  have hI:Inv w X [.blk mm (.map es2 (ck+1)),.blk b4 (.cells #[.pointer (some ⟨sb,0,none⟩)] ik),.blk b5 (.cells #[.int .i64 n] ce),.blk b6 (.cells #[.int .i64 t.kind,.int .i64 j,.string t.name,kv] ac),.blk b7 (.cells #[.map (some mm)] fK)] S w':=hI
  refine bj hI 1 oq rfl rfl ?_
  refine a8 hI 3 al rfl rfl ?_
  rw [hj] at h0
  refine Run.call0 fy fA hI (ie hg hwv ho hst h0) fun v' I' S' w'=>?_
  rintro ⟨eS,rfl,cs',rfl,hcs'⟩ _ hI
  rw [eS] at hI
  clear eS
  have hlc':=hcs'.length
  refine bC hI bA fun b9 w' hI=>?_
  have hI:Inv w X [.blk mm (.map es2 (ck+1)),.blk b4 (.cells #[.pointer (some ⟨sb,0,none⟩)] ik),.blk b5 (.cells #[.int .i64 n] ce),.blk b6 (.cells #[.int .i64 t.kind,.int .i64 j,.string t.name,kv] ac),.blk b7 (.cells #[.map (some mm)] fK),.blk b9 _] S w':=hI
  refine bq hI 5 rfl al (by simpa using hlc') rfl (by simpa using hcs'.one) fun w' hI=>?_
  have hcs0:=hcs'
  obtain ⟨kv',rfl,_⟩:=RdT.iff.1 hcs'
  have hI:Inv w X [.blk mm (.map es2 (ck+1)),.blk b4 (.cells #[.pointer (some ⟨sb,0,none⟩)] ik),.blk b5 (.cells #[.int .i64 n] ce),.blk b6 (.cells #[.int .i64 t.kind,.int .i64 j,.string t.name,kv] ac),.blk b7 (.cells #[.map (some mm)] fK),.blk b9 (.cells #[.int .i64 v.kind,.int .i64 v.n,.string v.name,kv'] ac)] S w':=hI
  have hocc:=Et hwv hn
  have hmj2:∀ m,(met m ∨ m=j)->¬ d6 st n t->met m ∨ ¬ Rch st m n:=by
   rintro m (hm|rfl) hno
   ·exact .inl hm
   ·exact .inr fun hr=>hno ⟨m,by rw [hvt]; exact List.mem_singleton.2 rfl,hr⟩
  refine ah hI 5 rfl aU aR rfl ?_
  refine bu ?_
  refine bf (fun hv1=>?_) (fun hv1=>?_)
  ·refine ah hI 5 rfl a9 aR rfl ?_
   refine bj hI 2 aR rfl rfl ?_
   refine bu ?_
   have hiff:d6 st n v↔v.n.toNat=n:=by
    have hfree:=ye.1 (gj hwv) hv1
    constructor
    ·rintro ⟨x,hx,hr⟩
     rw [gA hv1,List.mem_singleton] at hx
     subst hx
     cases hr with
     | refl=>rfl
     | step h1 _ _=>
      rcases hfree with e|e
      ·rw [e] at h1; cases h1
      ·rw [e] at h1; cases h1
    ·intro e
     exact ⟨n,by rw [gA hv1,e]; exact List.mem_singleton.2 rfl,.refl n⟩
   have hvn0:0<=v.n:=by
    exact ((AK hg hwv ho).var hv1).1
   have hres:decide (v.n=(n:Int))=decide (v.n.toNat=n):=by
    rw [Bool.eq_iff_iff,decide_eq_true_eq,decide_eq_true_eq]
    omega
   rw [hres]
   refine ⟨_,_,_,rfl,hI.pick [true,false,false,false,false,false],Ext.refl _ _ _,rfl,es2,ck+1,rfl,?_⟩
   by_cases e:v.n.toNat=n
   ·left
    exact ⟨hocc.2 (hiff.2 e),by rw [decide_eq_true e]⟩
   ·right
    have hno:¬ d6 st n t:=fun h=>e (hiff.1 (hocc.1 h))
    exact ⟨hno,by rw [decide_eq_false e],_,hmet2,fun m hm=>.inl hm,fun m hm=>hmj2 m hm hno⟩
  ·refine bj hI 1 oq rfl rfl ?_
   refine bj hI 2 aR rfl rfl ?_
   refine a8 hI 5 al rfl rfl ?_
   refine bj hI 4 (by decide +kernel) rfl rfl ?_
   have hI:Inv w X ([.blk b4 (.cells #[.pointer (some ⟨sb,0,none⟩)] ik)]++[.blk mm (.map es2 (ck+1))]) S w':=(hI.pick [true,true,false,false,false,false]).perm (List.Perm.swap ..)
   have hlk:∃ u,fw st t=some u:=by
    cases hl:fw st t with
    | some u=>exact ⟨u,rfl⟩
    | none=>
     have:v=t:=by
      cases hwv with
      | stop _=>rfl
      | step h1 _=>rw [h1] at hl; cases hl
     rw [this] at hv1
     exact absurd hk1 hv1
   obtain ⟨u,hl⟩:=hlk
   obtain ⟨rk,hrk⟩:=hg.rk
   have hwr:=yj hrk hwv u hl
   have hpre2:∀ m,(met m ∨ m=j)->(∃ x∈vT v,Rch st x m)->¬ Rch st m n:=by
    rintro m (hm|rfl) ⟨x,hx,hr⟩
    ·refine hpre m hm ⟨j,by rw [hvt]; exact List.mem_singleton.2 rfl,?_⟩
     have h1:=Bu hwv u hl x hx
     rw [hj,Int.toNat_natCast] at h1
     exact h1.trans hr
    ·exfalso
     have h1:=hwr x hx
     have h2:=DC hrk hr
     rw [hj,Int.toNat_natCast] at h1
     omega
   refine Run.callE fS fP hI (hv hk1 hv1 S0 S _ mm (ck+1) es2 _ hle hst hcs0 hmet2 hpre2) fun v' I' S' w'=>?_
   rintro ⟨eS,es3,ck3,rfl,hres⟩ _ hI
   rw [eS] at hI
   refine ⟨_,_,_,rfl,hI.pick [false,true],Ext.refl _ _ _,rfl,es3,ck3,rfl,?_⟩
   rcases hres with ⟨h1,rfl⟩|⟨h1,rfl,met3,hm3,h2,h3⟩
   ·exact .inl ⟨hocc.2 h1,rfl⟩
   ·have hno:¬ d6 st n t:=fun h=>h1 (hocc.1 h)
    refine .inr ⟨hno,rfl,met3,hm3,fun m hm=>h2 m (.inl hm),fun m hm=>?_⟩
    rcases h3 m hm with h4|h4
    ·exact hmj2 m h4 hno
    ·exact .inr h4
 ·refine ah hI 3 rfl aP aO rfl ?_
  refine oA ?_
  have hvt:vT t=vTL t.kids:=uf hk1
  have hI:Inv w X ([.blk mm (.map es ck)]++dP [(b4,.cells #[.pointer (some ⟨sb,0,none⟩)] ik),(b5,.cells #[.int .i64 n] ce),(b7,.cells #[.map (some mm)] fK)]) S w':=hI.pick [true,true,true,false,true]
  obtain ⟨S1,hle1,hins,hI1,hback⟩:=Inv.lendAll _ hI
  have h4:=hins _ (List.mem_cons_self ..)
  have h5:=hins _ (List.mem_cons_of_mem _ (List.mem_cons_self ..))
  have h7:=hins _ (List.mem_cons_of_mem _ (List.mem_cons_of_mem _ (List.mem_cons_self ..)))
  have hI1:Inv w X ([]++[.blk mm (.map es ck)]) S1 w':=hI1
  refine Run.callE (A:=[]) ei ek hI1 (q9 mX mZ (hle.trans hle1) hks
   (J:=fun i I=>∃ es' ck' met',I=[.blk mm (.map es' ck')]/\MetM es' met'/\(∀ m,met m->met' m)/\(∀ m,met' m->met m ∨ ¬ Rch st m n)/\∀ k (_:k<t.kids.length),k<i->¬ d6 st n t.kids[k])
   (Fin:=fun I=>∃ es' ck',I=[.blk mm (.map es' ck')]/\d6 st n t) ?_ ⟨es,ck,met,rfl,hmet,fun _ h=>h,fun _ h=>.inl h,fun k _ h=>by omega⟩) fun v' I2 S2 w'=>?_
  ·rintro i hi cs I hcs ⟨es',ck',met',rfl,hm',hsub,hnew,hdone⟩
   have hpre2:∀ m,met' m->(∃ x∈vT t.kids[i],Rch st x m)->¬ Rch st m n:=by
    rintro m hm ⟨x,hx,hr⟩
    rcases hnew m hm with h1|h1
    ·exact hpre m h1 ⟨x,by rw [hvt]; exact kn.2 ⟨_,List.getElem_mem hi,hx⟩,hr⟩
    ·exact h1
   intro w1 hI1
   refine (uD (hk hk1 _ (List.getElem_mem hi)) (hle.trans hle1) (hst.mono hle1) hcs hm' hpre2 h4 h5 h7 w1 hI1).mono ?_
   rintro e w2 ⟨v',I',S',rfl,hI2,hE,hS,es3,ck3,rfl,hres⟩
   refine ⟨_,_,_,rfl,hI2,hE,hS,?_⟩
   rcases hres with ⟨h1,rfl⟩|⟨h1,rfl,met3,hm3,h2,h3⟩
   ·obtain ⟨x,hx,hr⟩:=h1
    exact ⟨true,rfl,fun _=>⟨es3,ck3,rfl,x,by rw [hvt]; exact kn.2 ⟨_,List.getElem_mem hi,hx⟩,hr⟩,fun e=>by cases e⟩
   ·refine ⟨false,rfl,fun e=>(by cases e),fun _=>⟨es3,ck3,met3,rfl,hm3,fun m hm=>h2 m (hsub m hm),fun m hm=>?_,fun k hk2 hki=>?_⟩⟩
    ·rcases h3 m hm with h4|h4
     ·exact hnew m h4
     ·exact .inr h4
    ·by_cases e:k=i
     ·subst e; exact h1
     ·exact hdone k hk2 (by omega)
  rintro ⟨eS,b,rfl,hb1,hb2⟩ _ hI
  rw [eS] at hI
  have hI:Inv w X I2 S1 w':=hI
  have hI:=hback _ _ hI
  cases b with
  | true=>
   obtain ⟨es',ck',rfl,hocc⟩:=hb1 rfl
   exact ⟨_,_,_,rfl,hI.sub (List.sublist_append_left _ _),Ext.refl _ _ _,rfl,es',ck',rfl,.inl ⟨hocc,rfl⟩⟩
  | false=>
   obtain ⟨es',ck',met',rfl,hm',hsub,hnew,hdone⟩:=hb2 rfl
   have hno:¬ d6 st n t:=by
    rintro ⟨x,hx,hr⟩
    rw [hvt] at hx
    obtain ⟨y,hy,hx⟩:=kn.1 hx
    obtain ⟨k,hk2,rfl⟩:=List.mem_iff_getElem.1 hy
    exact hdone k hk2 hk2 ⟨x,hx,hr⟩
   exact ⟨_,_,_,rfl,hI.sub (List.sublist_append_left _ _),Ext.refl _ _ _,rfl,es',ck',rfl,.inr ⟨hno,rfl,met',hm',hsub,hnew⟩⟩
theorem zz {N:Nat} {st:a6} (hg:Good N st) {sb n:Nat} (hn:∀ u,st[n]?≠some (some u)) (hnN:n<1000000000):∀ t:T,okU N t->OC st sb n t:=by
 obtain ⟨rk,hrk⟩:=hg.rk
 have hone:∀ (m:Nat) (a:T),(∀ x∈vT a,∀ u,st[x]?=some (some u)->rk x<m)->okU N a->OC st sb n a:=by
  intro m
  induction m using Nat.strongRecOn with
  | _ m ihm=>
   refine T.ind fun k n' s ks ih hr ho=>?_
   obtain ⟨v,hwv⟩:=Cj hg (.mk k n' s ks)
   refine At hg hn hnN ho hwv (fun hk1 hv1=>?_) (fun hk1 x hx=>?_)
   ·cases hl:fw st (.mk k n' s ks) with
    | none=>
     have:v=.mk k n' s ks:=by
      cases hwv with
      | stop _=>rfl
      | step h1 _=>rw [h1] at hl; cases hl
     rw [this] at hv1
     exact absurd hk1 hv1
    | some u=>
     have hs:=(cO.1 hl).2
     have hlt:=hr _ (by rw [gA hk1]; exact List.mem_singleton.2 rfl) u hs
     exact ihm _ hlt v (fun x hx _ _=>yj hrk hwv u hl x hx) (AK hg hwv ho)
   ·exact ih x hx (fun y hy u hs=>hr y (by rw [uf hk1]; exact kn.2 ⟨x,hx,hy⟩) u hs) (jQ ho.kids x hx)
 have hM:∀ l:List Nat,∃ M,∀ m∈l,rk m<M:=by
  intro l
  induction l with
  | nil=>exact ⟨0,by simp⟩
  | cons x l ih=>
   obtain ⟨M,hM⟩:=ih
   refine ⟨M+rk x+1,fun m hm=>?_⟩
   rcases List.mem_cons.1 hm with rfl|hm
   ·omega
   ·have:=hM m hm; omega
 intro t ho
 obtain ⟨M,hM⟩:=hM (vT t)
 exact hone M t (fun x hx _ _=>hM x hx) ho
end

end Go.Proofs.YtfcbhfjomgopbaaGreat
