/- Goals that are built in: the plain form, and the reference's solver of them. -/
import Derived.Test.YtfcbhfjomgopbaaGreatZFu17
import Derived.Test.YtfcbhfjomgopbaaGreatZFu6
import Derived.Test.YtfcbhfjomgopbaaGreatZFu8
import Derived.Test.YtfcbhfjomgopbaaGreatZFu7
import Derived.Test.YtfcbhfjomgopbaaGreatZFu10
namespace Go.Proofs.YtfcbhfjomgopbaaGreat
section
open Go Go.RowKit
def zT:T:=.mk 0 0 ⟨#[]⟩ []
def kd (g:T) (i:Nat):T:=g.kids.getD i zT
inductive BJ where
 | done (c:Int)
 | uni (a b:T)
 | not (a b:T)
def ri (n t u:T):BJ:=if n.kind=1 ∨ t.kind=1 then .done 2 else if n.kind≠2 ∨ t.kind≠3 ∨ t.kids.length=0 then .done 3
 else if n.n<1 ∨ (t.kids.length:Int)<n.n then .done 1 else .uni u (kd t (n.n.toNat - 1))
def jX (s:ByteArray) (t:T):Bool:=if s=⟨#[118,97,114]⟩ then decide (t.kind=1) else if s=⟨#[110,111,110,118,97,114]⟩ then !decide (t.kind=1)
 else if s=⟨#[105,110,116]⟩ then decide (t.kind=2) else decide (t.kind=3) && decide (t.kids.length=0)
abbrev gE:ByteArray:=⟨#[116,114,117,101]⟩
abbrev g8:ByteArray:=⟨#[102,97,105,108]⟩
abbrev nEq:ByteArray:=⟨#[61]⟩
abbrev nNe:ByteArray:=⟨#[92,61]⟩
abbrev mp:ByteArray:=⟨#[61,61]⟩
abbrev nIs:ByteArray:=⟨#[105,115]⟩
abbrev Ak:ByteArray:=⟨#[97,114,103]⟩
def DE (n:Int):T:=.mk 2 n emptyB []
def eP (g:T):BJ:=
 if g.name=gE then .done 0
 else if g.name=g8 then .done 1
 else if g.name=nEq then .uni (kd g 0) (kd g 1)
 else if g.name=nNe then .not (kd g 0) (kd g 1)
 else if g.name=mp then .done (dY (eqT (kd g 0) (kd g 1)))
 else if g.name=nIs then (if (cj (kd g 1)).2≠0 then .done (cj (kd g 1)).2 else .uni (kd g 0) (DE (cj (kd g 1)).1))
 else if g.name=Ak then ri (kd g 0) (kd g 1) (kd g 2)
 else if cM g.name dL=true then .done (MJ g.name (dy g.kids))
 else .done (dY (jX g.name (kd g 0)))
def BltJ (st:aF) (j:BJ) (code:Int) (st':aF):Prop:=match j with
 | .done c=>code=c/\st'=st
 | .uni a b=>∃ r,Uni st (.one a b) r st'/\code=dY r
 | .not a b=>st'=st/\∃ r st1,Uni st (.one a b) r st1/\code=dY (!r)
def Blt (st:aF) (g:T) (code:Int) (st':aF):Prop:=BltJ st (eP g) code st'
theorem gx {s:ByteArray} {n:Int} (hs:cM s pz=true) (h:dG s n=true):n=2:=by
 rw [dG,if_pos hs] at h
 exact of_decide_eq_true h
theorem Nu {n:Int} (h:dG Ak n=true):n=3:=by
 rw [dG,if_neg (by decide +kernel),if_neg (by decide +kernel),if_neg (by decide +kernel),if_pos rfl] at h
 exact of_decide_eq_true h
theorem Bt {s:ByteArray} {l:List ByteArray}:cM s l=false↔∀ x∈l,s≠x:=by
 rw [cM,List.any_eq_false]
 simp
theorem Na {s:ByteArray} (h:cM s dL=true):cM s pz=true:=by
 rw [cM,List.any_eq_true] at h ⊢
 obtain ⟨x,hx,hd⟩:=h
 refine ⟨x,?_,hd⟩
 simp only [dL,List.mem_cons,List.not_mem_nil,or_false] at hx
 rcases hx with rfl|rfl|rfl|rfl|rfl <;> simp [pz]
theorem nY {s:ByteArray} {n:Int} (h:dG s n=true) (h1:s≠gE) (h2:s≠g8) (h3:s≠nEq) (h4:s≠nNe) (h5:s≠mp) (h6:s≠nIs) (hc:cM s dL=false) :
  (cM s sa=true/\n=1) ∨ (s=Ak/\n=3):=by
 have hk:cM s pz=false:=by
  rw [Bt] at hc ⊢
  intro x hx
  simp only [pz,List.mem_cons,List.not_mem_nil,or_false] at hx
  rcases hx with rfl|rfl|rfl|rfl|rfl|rfl|rfl|rfl|rfl <;> first|assumption|exact hc _ (by simp [dL])
 have hk2:cM s oK=false:=by
  rw [Bt]
  intro x hx
  simp only [oK,List.mem_cons,List.not_mem_nil,or_false] at hx
  rcases hx with rfl|rfl <;> assumption
 rw [dG,hk,hk2,if_neg (by decide),if_neg (by decide)] at h
 cases ht:cM s sa
 ·rw [ht,if_neg (by decide)] at h
  split at h
  ·rename_i e; exact .inr ⟨e,of_decide_eq_true h⟩
  ·cases h
 ·rw [ht,if_pos rfl] at h
  exact .inl ⟨rfl,of_decide_eq_true h⟩
theorem Bq {l:List T} (h:l.length=1):∃ x,l=[x]:=by
 match l,h with
 | [x],_=>exact ⟨x,rfl⟩
theorem Jg {l:List T} (h:l.length=3):∃ x y z,l=[x,y,z]:=by
 match l,h with
 | [x,y,z],_=>exact ⟨x,y,z,rfl⟩
def SW (N:Nat):BJ->Prop
 | .done _=>True
 | .uni a b=>okJ N (.one a b)
 | .not a b=>okJ N (.one a b)
theorem BltJ.ex {N:Nat} {st:aF} {j:BJ} (hg:Good N st) (hj:SW N j):∃ c st',BltJ st j c st':=by
 match j,hj with
 | .done c,_=>exact ⟨c,st,rfl,rfl⟩
 | .uni a b,hj=>
  have hj:okJ N (.one a b):=hj
  obtain ⟨r,st',hu⟩:=Hc (unb st) st hg (Nat.le_refl _) _ hj
  exact ⟨_,st',r,hu,rfl⟩
 | .not a b,hj=>
  have hj:okJ N (.one a b):=hj
  obtain ⟨r,st',hu⟩:=Hc (unb st) st hg (Nat.le_refl _) _ hj
  exact ⟨_,st,rfl,r,st',hu,rfl⟩
theorem Qp (N:Nat) (n:Int):okU N (DE n):=by
 rw [DE,okU,dM]
 exact ⟨by decide,(fun h=>by cases h),trivial,by decide +kernel⟩
theorem Sc {g:T} {i:Nat} (h:i<g.kids.length):kd g i∈g.kids:=by
 rw [kd,List.getD_eq_getElem?_getD,List.getElem?_eq_getElem h]
 exact List.getElem_mem h
theorem zi {N:Nat} {g:T} {i:Nat} (ho:okU N g/\wT g<=1048576) (h:i<g.kids.length):okU N (kd g i)/\wT (kd g i)<=1048576:=jb ho _ (Sc h)
theorem A4 {N:Nat} {g:T} (hb:cO g=true) (ho:okU N g/\wT g<=1048576):SW N (eP g):=by
 rw [cO,Bool.and_eq_true] at hb
 have hb:=hb.2
 have hlen:∀ m:Nat,((g.kids.length:Nat):Int)=m->g.kids.length=m:=fun m h=>by omega
 unfold eP
 split
 ·trivial
 split
 ·trivial
 split
 ·rename_i h; rw [h] at hb
  have:=gx (by decide +kernel) hb
  exact ⟨zi ho (by omega),zi ho (by omega)⟩
 split
 ·rename_i h; rw [h] at hb
  have:=gx (by decide +kernel) hb
  exact ⟨zi ho (by omega),zi ho (by omega)⟩
 split
 ·trivial
 split
 ·rename_i h; rw [h] at hb
  have:=gx (by decide +kernel) hb
  split
  ·trivial
  ·exact ⟨zi ho (by omega),Qp N _,by have e:emptyB.size=0:=rfl; simp only [DE,wT,wL,List.length_nil]; omega⟩
 split
 ·rename_i h; rw [h] at hb
  have:=Nu hb
  unfold ri
  split
  ·trivial
  split
  ·trivial
  split
  ·trivial
  ·rename_i h1 h2 h3
   have k1:=zi (i:=1) ho (by omega)
   exact ⟨zi ho (by omega),zi k1 (by omega)⟩
 split
 ·trivial
 ·trivial
theorem Blt.ex {N:Nat} {st:aF} {g:T} (hg:Good N st) (hb:cO g=true) (ho:okU N g/\wT g<=1048576):∃ c st',Blt st g c st':=BltJ.ex hg (A4 hb ho)
theorem Blt.good {N:Nat} {st st':aF} {g:T} {c:Int} (hg:Good N st) (hb:cO g=true) (ho:okU N g/\wT g<=1048576) (h:Blt st g c st'):Good N st':=by
 have hj:=A4 hb ho
 unfold Blt at h
 match hb:eP g,h,hj with
 | .done c,h,_=>exact h.2 ▸ hg
 | .uni a b,⟨r,hu,_⟩,hj=>exact (hu.good hg hj).1
 | .not a b,h,_=>exact h.1 ▸ hg
theorem RdSl.ptr {α:Type} {S:ae} {k:Nat} {R:List Value->α->Prop} {v:Value} {xs:List α} (h:RdSl S k R v xs) (hi:0<xs.length) :
  ∃ b o cap c E fz,v=.slice (some ⟨b,o,none⟩) xs.length cap/\S b=some (.cells c E fz)/\∀ i (h:i<xs.length),R (aH c (o+i * k) k) xs[i]:=by
 obtain ⟨a,cap,rfl,hl,hc,h⟩:=h
 rcases h with h|⟨b,o,c,E,fz,rfl,hS,h⟩
 ·subst h; simp at hi
 ·exact ⟨b,o,cap,c,E,fz,rfl,hS,h⟩
section
attribute [local irreducible] Run CondV aB aS
theorem C5 {k n:Int} {s:ByteArray} {x:T} {S:ae} {cs:List Value} (h:RdT S cs (.mk k n s [x])):Pure Tryz.prog LQ [.agg cs.toArray] S (.int .i64 (dY (jX s x))):=by
 intro w hI
 obtain ⟨kv,rfl,_,_,_,hks⟩:=RdT.iff.1 h
 simp only [T.name,T.kids,T.kind,T.n] at hks ⊢
 refine zZ.2 ?_
 dsimp only[zZ,aL]
 refine bf hI fun b1 w' hI=>?_
 refine ad hI 0 rfl al ah rfl ?_
 refine bY (i:=0) hI hks af ac (by simp) (fun _ _=>RdT.length) fun ds hds=>?_
 have hds:RdT S ds x:=hds
 refine aD hI aQ fun b3 w' hI=>?_
 refine aq hI 1 rfl ac (by simpa using hds.length) rfl (by simpa using hds.one) fun w' hI=>?_
 obtain ⟨kv2,rfl,_,_,_,hk2⟩:=RdT.iff.1 hds
 have hI:Inv w [] [.blk b1 (.cells #[.int .i64 k,.int .i64 n,.string s,kv] ab),.blk b3 (.cells #[.int .i64 x.kind,.int .i64 x.n,.string x.name,kv2] ab)] S w':=hI
 refine ad hI 0 rfl aO aJ rfl ?_
 refine bg ?_
 refine aI (fun h=>?_) (fun h1=>?_)
 ·refine ad hI 1 rfl aE av rfl ?_
  refine aZ ?_
  exact Run.callPure dV dU hI (dc _ S) fun w' hI=>done hI (by rw [jX,if_pos h])
 refine bg ?_
 refine aI (fun h=>?_) (fun h2=>?_)
 ·refine ad hI 1 rfl aE av rfl ?_
  refine cD ?_
  exact Run.callPure dV dU hI (dc _ S) fun w' hI=>done hI (by rw [jX,if_neg h1,if_pos h])
 refine bg ?_
 refine aI (fun h=>?_) (fun h3=>?_)
 ·refine ad hI 1 rfl aE av rfl ?_
  refine aZ ?_
  exact Run.callPure dV dU hI (dc _ S) fun w' hI=>done hI (by rw [jX,if_neg h1,if_neg h2,if_pos h])
 refine ad hI 1 rfl aE av rfl ?_
 refine aZ ?_
 have et:jX s x=(decide (x.kind=3) && decide (x.kids.length=0)):=by rw [jX,if_neg h1,if_neg h2,if_neg h3]
 rw [et]
 cases hk:decide (x.kind=3)
 ·refine rpG ?_
  exact Run.callPure dV dU hI (dc _ S) fun w' hI=>done hI rfl
 refine rpG ?_
 refine ad hI 1 rfl al ah rfl ?_
 refine aC hk2 af ?_
 refine aZ ?_
 refine rpG ?_
 refine Run.callPure dV dU hI (dc _ S) fun w' hI=>done hI ?_
 have el:decide ((x.kids.length:Int)=0)=decide (x.kids.length=0):=by rw [decide_eq_decide]; omega
 rw [el,Bool.true_and]
def QU (S:ae) (j:BJ):Value->List Item->ae->Prop:=fun q I' S'=>I'=[]/\S'=S/\∃ (ds:List Value) (c:Int),q=.tuple #[.agg ds.toArray,.int .i64 c]/\ds.length=4/\(∀ u∈ds,u.oneCell'=true)/\match j with
 | .done c'=>c=c'/\c≠0
 | .uni _ b=>c=0/\RdT S ds b
 | .not _ _=>False
theorem DV {k n:Int} {s:ByteArray} {x y z:T} {S:ae} {cs:List Value} (h:RdT S cs (.mk k n s [x,y,z])):Tri Tryz.prog NM [.agg cs.toArray] [] S (QU S (ri x y z)):=by
 intro w hI
 obtain ⟨kv,rfl,_,_,_,hks⟩:=RdT.iff.1 h
 simp only [T.name,T.kids,T.kind,T.n] at hks ⊢
 refine BS.2 ?_
 dsimp only[BS,aL]
 refine bf hI fun b1 w' hI=>?_
 refine aD hI aQ fun b2 w' hI=>?_
 refine ad hI 0 rfl al ah rfl ?_
 refine bY (i:=0) hI hks af ac (by simp) (fun _ _=>RdT.length) fun xs hxs=>?_
 have hxs:RdT S xs x:=hxs
 refine aD hI aQ fun b4 w' hI=>?_
 refine aq hI 2 rfl ac (by simpa using hxs.length) rfl (by simpa using hxs.one) fun w' hI=>?_
 refine ad hI 0 rfl al ah rfl ?_
 refine bY (i:=1) hI hks af ac (by simp) (fun _ _=>RdT.length) fun ys hys=>?_
 have hys:RdT S ys y:=hys
 refine aD hI aQ fun b5 w' hI=>?_
 refine aq hI 3 rfl ac (by simpa using hys.length) rfl (by simpa using hys.one) fun w' hI=>?_
 obtain ⟨kx,rfl,_,_,_,hkx⟩:=RdT.iff.1 hxs
 obtain ⟨ky,rfl,_,_,_,hky⟩:=RdT.iff.1 hys
 obtain ⟨L,hL⟩:∃ L:List Item,L=[.blk b1 (.cells #[.int .i64 k,.int .i64 n,.string s,kv] ab),.blk b2 (.cells #[.int .i64 0,.int .i64 0,.string ⟨#[]⟩,.slice none 0 0] ab),.blk b4 (.cells #[.int .i64 x.kind,.int .i64 x.n,.string x.name,kx] ab),.blk b5 (.cells #[.int .i64 y.kind,.int .i64 y.n,.string y.name,ky] ab)]:=⟨_,rfl⟩
 have hI:Inv w [] L S w':=by rw [hL]; exact hI
 have i1:L[1]?=some (.blk b2 (.cells #[.int .i64 0,.int .i64 0,.string ⟨#[]⟩,.slice none 0 0] ab)):=by rw [hL]; rfl
 have i2:L[2]?=some (.blk b4 (.cells #[.int .i64 x.kind,.int .i64 x.n,.string x.name,kx] ab)):=by rw [hL]; rfl
 have i3:L[3]?=some (.blk b5 (.cells #[.int .i64 y.kind,.int .i64 y.n,.string y.name,ky] ab)):=by rw [hL]; rfl
 have hz:∀ u∈([.int .i64 0,.int .i64 0,.string ⟨#[]⟩,.slice none 0 0]:List Value),u.oneCell'=true:=by simp [Value.oneCell']
 have el:decide ((y.kids.length:Int)=0)=decide (y.kids.length=0):=by rw [decide_eq_decide]; omega
 refine ⟨fun q w'=>q=.bool (decide (x.kind=1 ∨ y.kind=1))/\Inv w [] L S w',?_,?_⟩
 ·refine ad hI 2 i2 aE av rfl ?_
  refine aZ ?_
  cases h1:decide (x.kind=1)
  ·refine rpG ?_
   refine ad hI 3 i3 aE av rfl ?_
   refine aZ ?_
   refine rpG ?_
   refine ⟨?_,hI⟩
   rw [Value.bool.injEq,decide_eq_decide]
   have:=of_decide_eq_false h1
   exact ⟨.inr,fun h=>h.resolve_left this⟩
  ·refine rpG ?_
   exact ⟨by rw [decide_eq_true (.inl (of_decide_eq_true h1))],hI⟩
 intro q _ _ _ _ _ _ _ w'
 rintro ⟨rfl,hI⟩
 refine aI (fun h1=>?_) (fun h1=>?_)
 ·refine fC ?_
  refine aq hI 1 i1 ac rfl rfl hz fun w' hI=>?_
  rw [hL] at hI
  refine aU hI 1 ac rfl rfl ?_
  refine ⟨_,_,_,rfl,hI.nil,Ext.refl _ _ _,rfl,rfl,_,2,rfl,rfl,hz,?_⟩
  rw [ri,if_pos h1]
  exact ⟨rfl,by decide⟩
 refine ⟨fun q w'=>q=.bool (decide (x.kind≠2 ∨ y.kind≠3 ∨ y.kids.length=0))/\Inv w [] L S w',?_,?_⟩
 ·refine ad hI 2 i2 aE av rfl ?_
  refine cD ?_
  cases h2:decide (x.kind=2)
  ·refine rpG ?_
   exact ⟨by rw [decide_eq_true (.inl (of_decide_eq_false h2))],hI⟩
  have h2:=of_decide_eq_true h2
  refine rpG ?_
  refine ad hI 3 i3 aE av rfl ?_
  refine cD ?_
  cases h3:decide (y.kind=3)
  ·refine rpG ?_
   exact ⟨by rw [decide_eq_true (.inr (.inl (of_decide_eq_false h3)))],hI⟩
  have h3:=of_decide_eq_true h3
  refine rpG ?_
  refine ad hI 3 i3 al ah rfl ?_
  refine aC hky af ?_
  refine aZ ?_
  rw [el]
  refine rpG ?_
  refine ⟨?_,hI⟩
  rw [Value.bool.injEq,decide_eq_decide]
  simp [h2,h3]
 intro q _ _ _ _ _ _ _ _ _ _ _ _ _ w'
 rintro ⟨rfl,hI⟩
 refine aI (fun h2=>?_) (fun h2=>?_)
 ·refine fC ?_
  refine aq hI 1 i1 ac rfl rfl hz fun w' hI=>?_
  rw [hL] at hI
  refine aU hI 1 ac rfl rfl ?_
  refine ⟨_,_,_,rfl,hI.nil,Ext.refl _ _ _,rfl,rfl,_,3,rfl,rfl,hz,?_⟩
  rw [ri,if_neg h1,if_pos h2]
  exact ⟨rfl,by decide⟩
 refine ⟨fun q w'=>q=.bool (decide (x.n<1 ∨ (y.kids.length:Int)<x.n))/\Inv w [] L S w',?_,?_⟩
 ·refine ad hI 2 i2 aM av rfl ?_
  refine bq ?_
  cases h3:decide (x.n<1)
  ·refine rpG ?_
   refine ad hI 2 i2 aM av rfl ?_
   refine ad hI 3 i3 al ah rfl ?_
   refine aC hky af ?_
   refine dl ?_
   refine rpG ?_
   refine ⟨?_,hI⟩
   have:=of_decide_eq_false h3
   rw [Value.bool.injEq,decide_eq_decide]
   exact ⟨.inr,fun h=>h.resolve_left this⟩
  ·refine rpG ?_
   exact ⟨by rw [decide_eq_true (.inl (of_decide_eq_true h3))],hI⟩
 intro q _ _ _ _ _ _ _ _ _ _ w'
 rintro ⟨rfl,hI⟩
 refine aI (fun h3=>?_) (fun h3=>?_)
 ·refine fC ?_
  refine aq hI 1 i1 ac rfl rfl hz fun w' hI=>?_
  rw [hL] at hI
  refine aU hI 1 ac rfl rfl ?_
  refine ⟨_,_,_,rfl,hI.nil,Ext.refl _ _ _,rfl,rfl,_,1,rfl,rfl,hz,?_⟩
  rw [ri,if_neg h1,if_neg h2,if_pos h3]
  exact ⟨rfl,by decide⟩
 obtain ⟨m,hm⟩:∃ m:Nat,x.n=(m:Int)+1:=⟨(x.n - 1).toNat,by omega⟩
 have hml:m<y.kids.length:=by omega
 refine ad hI 3 i3 al ah rfl ?_
 refine ad (u:=.int .i64 x.n) hI 2 i2 aM av rfl ?_
 rw [hm]
 refine hK (by have:=hky.le; simp only [maxLen] at this; omega) ?_
 rw [Int.add_sub_cancel]
 refine bY (i:=m) hI hky af ac hml (fun _ _=>RdT.length) fun es hes=>?_
 refine aq hI 1 i1 ac (by simpa using hes.length) rfl (by simpa using hes.one) fun w' hI=>?_
 rw [hL] at hI
 refine aU hI 1 ac rfl (by simpa using hes.length) ?_
 refine ⟨_,_,_,rfl,hI.nil,Ext.refl _ _ _,rfl,rfl,es,0,rfl,hes.length,hes.one,?_⟩
 rw [ri,if_neg h1,if_neg h2,if_neg h3]
 refine ⟨rfl,?_⟩
 have e:kd y (x.n.toNat - 1)=y.kids[m]:=by
  have e1:x.n.toNat - 1=m:=by omega
  rw [e1,kd,List.getD_eq_getElem?_getD,List.getElem?_eq_getElem hml]
  rfl
 rw [e]
 exact hes
end
end
section
open Go Go.RowKit
def RdO (S:ae) (cs:List Value):Option T->Prop
 | none=>cs=me
 | some t=>RdT S cs t
theorem RdO.length {S:ae} {cs:List Value}:∀ {x:Option T},RdO S cs x->cs.length=4
 | none,h=>by rw [h]; rfl
 | some _,h=>RdT.length h
theorem RdO.one {S:ae} {cs:List Value}:∀ {x:Option T},RdO S cs x->∀ u∈cs,u.oneCell'=true
 | none,h=>by rw [h]; simp [me,Value.oneCell']
 | some _,h=>RdT.one h
theorem RdO.mono {S S':ae} {cs:List Value} (hs:Sle S S'):∀ {x:Option T},RdO S cs x->RdO S' cs x
 | none,h=>h
 | some _,h=>RdT.mono hs h
theorem KnU.rdO {S:ae} {c:Array Value} {st:aF} (h:KnU S c st) (i:Nat) (hi:i<st.length):RdO S (aH c (i * 4) 4) st[i]:=by
 cases hs:st[i] with
 | none=>exact (h.2 i hi).1 hs
 | some t=>exact (h.2 i hi).2 t hs
theorem KnU.of {S:ae} {c:Array Value} {st:aF} (hs:st.length * 4<=c.size) (h:∀ i (hi:i<st.length),RdO S (aH c (i * 4) 4) st[i]):KnU S c st:=
 ⟨hs,fun i hi=>⟨fun e=>by have:=h i hi; rw [e] at this; exact this,fun t e=>by have:=h i hi; rw [e] at this; exact this⟩⟩
theorem KnU.rd {S S':ae} {c:Array Value} {st:aF} {b cap:Nat} {E:TypeId} {fz:Nat × Nat} (h:KnU S c st) (hS:S' b=some (.cells c E fz)) (h1:st.length<=cap) (h2:cap<=maxLen):RdSl S' 4 (RdO S) (.slice (some ⟨b,0,none⟩) st.length cap) st:=
 ⟨_,cap,rfl,h1,h2,.inr ⟨b,0,c,E,fz,rfl,hS,fun i hi=>by rw [Nat.zero_add]; exact h.rdO i hi⟩⟩
theorem Rows.knu {S:ae} {css:List (List Value)} {st:aF} {c:Array Value} (h:Rows 4 (RdO S) css st) (hs:st.length * 4<=c.size) (hc:c.toList.take (css.length * 4)=css.flatten):KnU S c st:=by
 refine KnU.of hs fun i hi=>?_
 have hcy:=h.hc
 have:=gW 4 css i h.hk (by omega)
 rw [<- hc,List.drop_take,List.take_take,Nat.min_eq_left (by omega)] at this
 rw [aH,this]
 exact h.hR i hi (by omega)
section
variable {w w0:World} {X:List Nat} {A:List Item} {S:ae}
theorem Inv.tab {v:Value} {e:TypeId} {css:List (List Value)} {S1:ae} {st:aF} (h:Inv w0 X (A++[aK v e 4 css]) S w) (hR:Rows 4 (RdO S1) css st) (h0:0<st.length) :
  ∃ g cap cur,v=kvU g st.length cap/\st.length<=cap/\cap<=maxLen/\KnU S1 cur st/\Inv w0 X (A++[.blk g (.cells cur e)]) S w:=by
 have hcy:=hR.hc
 obtain ⟨hl,ho⟩:=Inv.openRow h
 rcases ho with ⟨rfl,h1⟩|⟨g,cap,cur,rfl,hnc,hcm,hcs,ht,hI⟩
 ·omega
 ·rw [hcy] at hnc
  exact ⟨g,cap,cur,by rw [hcy],hnc,hcm,hR.knu (by rw [hcs]; exact Nat.mul_le_mul_right 4 hnc) ht,hI⟩
end
end
section
open Go Go.RowKit
section
attribute [local irreducible] Run CondV aB aS
def MZ (kb:Nat) (S:ae) (code:Int) (st':aF):Value->List Item->ae->Prop:=fun q I' S'=>S'=S/\q=.int .i64 code/\∃ kc',I'=[.blk kb (.cells kc' ab)]/\KnU S kc' st'
def neSt (w0:World) (X:List Nat) (A:List Item) (S:ae) (N:Nat) (st:aF) (r:Bool) (gr lK ig:Value) (w':World):Nat->Prop
 | 0=>Inv w0 X A S w'
 | 1=>Inv w0 X (A++[.row gr ab 4 0 []]) S w'
 | 2=>∃ g cap cur,lK=kvU g N cap/\KnU S cur st/\Inv w0 X (A++[.blk g (.cells cur ab)]) S w'
 | _=>ig=.bool r/\∃ R,Inv w0 X (A++R) S w'
theorem neSt.inv {w0 w':World} {X:List Nat} {A:List Item} {S:ae} {N:Nat} {st:aF} {r:Bool} {gr lK ig:Value}:∀ {n:Nat},neSt w0 X A S N st r gr lK ig w' n->∃ R,Inv w0 X (A++R) S w'
 | 0,h=>⟨[],by rw [List.append_nil]; exact h⟩
 | 1,h=>⟨_,h⟩
 | 2,⟨_,_,_,_,_,h⟩=>⟨_,h⟩
 | _+3,h=>h.2
set_option maxHeartbeats 1000000 in
theorem oZ {N kp:Nat} (hN:N<=1000000) (hN0:0<N) (hkp:N<=kp) (hkp2:kp<=maxLen) {st st':aF} {g:T} {code:Int} (hg:Good N st) (ho:okU N g/\wT g<=1048576) (hn:okN g) (hb:cO g=true) (hB:Blt st g code st')
  {S:ae} {cs:List Value} {kb:Nat} {kc:Array Value} (h:RdT S cs g) (hk:KnU S kc st):Tri Tryz.prog KE [.agg cs.toArray,kvU kb N kp] [.blk kb (.cells kc ab)] S (MZ kb S code st'):=by
 intro w hI
 have hgl:=h
 obtain ⟨k,n,s,ks⟩:=g
 obtain ⟨kv,rfl,_,_,_,hks⟩:=RdT.iff.1 h
 have hbj:=A4 hb ho
 rw [cO,Bool.and_eq_true] at hb
 have hbs:=hb.2
 rw [okN] at hn
 simp only [T.name,T.kids,T.kind,T.n] at hks hbs hgl ⊢
 obtain ⟨X,hX⟩:∃ X,X=bC [Item.blk kb (.cells kc ab)]:=⟨_,rfl⟩
 rw [<- hX] at hI ⊢
 unfold Blt at hB
 clear h
 refine xb.2 ?_
 dsimp only[xb,aW]
 refine bf hI fun b2 w' hI=>?_
 have hI:Inv w X [.blk b2 (.cells #[.int .i64 k,.int .i64 n,.string s,kv] ab),.blk kb (.cells kc ab)] S w':=hI.perm (List.Perm.swap ..)
 have fin:∀ {w':World} {L:List Item} {j:BJ} (c:Int),j=.done c->BltJ st j code st'->Inv w X L S w'->List.Sublist [.blk kb (.cells kc ab)] L->
   ∃ v' I' S',Ending.returned (.int .i64 c)=.returned v'/\Inv w X I' S' w'/\Ext w.heap.size X S S'/\MZ kb S code st' v' I' S':=by
  intro w' L j c hj hB hI hs
  subst hj
  obtain ⟨rfl,rfl⟩:=hB
  exact ⟨_,_,S,rfl,hI.sub hs,Ext.refl _ _ _,rfl,rfl,kc,rfl,hk⟩
 refine ad hI 0 rfl aO aJ rfl ?_
 refine bg ?_
 refine aI (fun h=>fin 0 (by rw [eP,if_pos (show (T.mk k n s ks).name=gE from h)]) hB hI ((List.Sublist.refl _).cons _)) (fun h0=>?_)
 refine bg ?_
 refine aI (fun h=>fin 1 (by rw [eP,if_neg (show ¬ (T.mk k n s ks).name=gE from h0),if_pos (show (T.mk k n s ks).name=g8 from h)]) hB hI ((List.Sublist.refl _).cons _)) (fun h1=>?_)
 refine bg ?_
 refine aI (fun h=>?_) (fun h2=>?_)
 ·obtain ⟨x,y,rfl⟩:=jR (l:=ks) (by have:=gx (by rw [h]; decide +kernel) hbs; omega)
  have hj:eP (.mk k n s [x,y])=.uni x y:=by
   rw [eP,if_neg (show ¬ (T.mk k n s [x,y]).name=gE from h0),if_neg (show ¬ (T.mk k n s [x,y]).name=g8 from h1),if_pos (show (T.mk k n s [x,y]).name=nEq from h)]
   rfl
  rw [hj] at hB hbj
  obtain ⟨b,o,cap,c,E,fz,rfl,hSb,hR⟩:=hks.ptr (by simp)
  obtain ⟨r,hu,rfl⟩:=hB
  have hjj:okJ N (.one x y):=hbj
  refine ⟨fun D x4 lq lw fT j4 pw og lR jN lM qZ mO w_=>Fx D 0 [mO=.pointer (some ⟨b2,3,none⟩),qZ=.slice (some ⟨b,o,none⟩) [x,y].length cap,lM=.pointer (some ⟨b,o+0 * 4,none⟩),jN=.agg (aH c (o+0 * 4) 4).toArray,lR=.pointer (some ⟨b2,3,none⟩),og=.slice (some ⟨b,o,none⟩) [x,y].length cap,pw=.pointer (some ⟨b,o+1 * 4,none⟩),j4=.agg (aH c (o+1 * 4) 4).toArray,fT=kvU kb N kp,lw=.bool r,lq=.int .i64 (dY r),x4=.int .i64 (dY r)]/\∃ kcx,(D 9=false->kcx=kc)/\(D 9=true->KnU S kcx st')/\Inv w X [.blk b2 (.cells #[.int .i64 k,.int .i64 n,.string s,.slice (some ⟨b,o,none⟩) [x,y].length cap] ab),.blk kb (.cells kcx ab)] S w_,⟨Fx.nil _ _,⟨kc,fun _=>rfl,aV,hI.draw⟩⟩,⟨?_,?_,?_,?_,?_,?_,?_,?_,?_,?_,?_,?_,trivial⟩,?_⟩
  all_goals (intro D bn; intros; rename_i x4 lq lw fT j4 pw og lR jN lM qZ mO w_ hA_; have hF_:=hA_.1; obtain ⟨⟨bR,bQ,bG,bS,bU,bB,bD,cq,ci,cL,bH,bT,_⟩,⟨kcx,k0,k1,hI⟩⟩:=hA_)
  ·refine ai al ?_
   exact ⟨hF_.set 0 rfl,⟨kcx,k0,k1,hI⟩⟩
  ·obtain rfl:=bR ‹_›
   refine aA hI 0 ah rfl rfl ?_
   exact ⟨hF_.set 1 rfl,⟨kcx,k0,k1,hI⟩⟩
  ·obtain rfl:=bQ ‹_›
   refine ar (i:=0) af (by simp) ?_
   exact ⟨hF_.set 2 rfl,⟨kcx,k0,k1,hI⟩⟩
  ·obtain rfl:=bG ‹_›
   refine bE ac (RdT.length (hR 0 (by simp))) (fun j v hj=>by rw [hI.cellS hSb]; exact au rfl j v hj) ?_
   exact ⟨hF_.set 3 rfl,⟨kcx,k0,k1,hI⟩⟩
  ·refine ai al ?_
   exact ⟨hF_.set 4 rfl,⟨kcx,k0,k1,hI⟩⟩
  ·obtain rfl:=bU ‹_›
   refine aA hI 0 ah rfl rfl ?_
   exact ⟨hF_.set 5 rfl,⟨kcx,k0,k1,hI⟩⟩
  ·obtain rfl:=bB ‹_›
   refine ar (i:=1) af (by simp) ?_
   exact ⟨hF_.set 6 rfl,⟨kcx,k0,k1,hI⟩⟩
  ·obtain rfl:=bD ‹_›
   refine bE ac (RdT.length (hR 1 (by simp))) (fun j v hj=>by rw [hI.cellS hSb]; exact au rfl j v hj) ?_
   exact ⟨hF_.set 7 rfl,⟨kcx,k0,k1,hI⟩⟩
  ·exact ⟨hF_.set 8 rfl,⟨kcx,k0,k1,hI⟩⟩
  ·obtain rfl:=bS ‹_›
   obtain rfl:=cq ‹_›
   obtain rfl:=ci ‹_›
   have e0:=k0 bn
   rw [e0] at hI
   have hI:Inv w X ([.blk b2 (.cells #[.int .i64 k,.int .i64 n,.string s,.slice (some ⟨b,o,none⟩) [x,y].length cap] ab)]++[.blk kb (.cells kc ab)]) S w_:=hI
   refine Run.callE (A:=[_]) fH fB hI (gM (kp:=kp) hN hg hjj hu S _ _ kb kc (hR 0 (by simp)) (hR 1 (by simp)) hk) fun v' I' S' w_=>?_
   rintro ⟨eS,rfl,kcx,rfl,hkx⟩ _ hI
   rw [eS] at hI
   have hI:Inv w X [.blk b2 (.cells #[.int .i64 k,.int .i64 n,.string s,.slice (some ⟨b,o,none⟩) [x,y].length cap] ab),.blk kb (.cells kcx ab)] S w_:=hI
   have k0:=fun (h:aG D 9 9=false)=>(Bool.noConfusion h:kcx=kc)
   have k1:=fun (_:aG D 9 9=true)=>hkx
   exact ⟨hF_.set 9 rfl,⟨kcx,k0,k1,hI⟩⟩
  ·obtain rfl:=cL ‹_›
   refine Run.callPure dV dU hI (dc r S) fun w_ hI=>?_
   exact ⟨hF_.set 10 rfl,⟨kcx,k0,k1,hI⟩⟩
  ·obtain rfl:=bH ‹_›
   exact ⟨hF_.set 11 rfl,⟨kcx,k0,k1,hI⟩⟩
  obtain ⟨rfl,rfl,rfl,rfl,rfl,rfl,rfl,rfl,rfl,rfl,rfl,rfl,_⟩:=hF_.all
  have Hq:D 9=true:=by assumption
  clear hF_ bR bQ bG bS bU bB bD cq ci cL bH bT
  have hkx:=k1 Hq
  exact ⟨_,_,S,rfl,hI.sub (((List.Sublist.refl _).cons _)),Ext.refl _ _ _,rfl,rfl,kcx,rfl,hkx⟩
 refine bg ?_
 refine aI (fun h=>?_) (fun h3=>?_)
 ·obtain ⟨x,y,rfl⟩:=jR (l:=ks) (by have:=gx (by rw [h]; decide +kernel) hbs; omega)
  have hj:eP (.mk k n s [x,y])=.not x y:=by
   rw [eP,if_neg (show ¬ (T.mk k n s [x,y]).name=gE from h0),if_neg (show ¬ (T.mk k n s [x,y]).name=g8 from h1),if_neg (show ¬ (T.mk k n s [x,y]).name=nEq from h2),if_pos (show (T.mk k n s [x,y]).name=nNe from h)]
   rfl
  rw [hj] at hB hbj
  obtain ⟨b,o,cap,c,E,fz,rfl,hSb,hR⟩:=hks.ptr (by simp)
  obtain ⟨rfl,r,st1,hu,rfl⟩:=hB
  have hjj:okJ N (.one x y):=hbj
  have hI0:=hI
  refine ⟨fun D x4 iC iJ ig lK gK gr lN iD ji nU j9 mD iE ia w_=>Fx D 0 [ia=.pointer (some ⟨b2,3,none⟩),iE=.slice (some ⟨b,o,none⟩) [x,y].length cap,mD=.pointer (some ⟨b,o+0 * 4,none⟩),j9=.agg (aH c (o+0 * 4) 4).toArray,nU=.pointer (some ⟨b2,3,none⟩),ji=.slice (some ⟨b,o,none⟩) [x,y].length cap,iD=.pointer (some ⟨b,o+1 * 4,none⟩),lN=.agg (aH c (o+1 * 4) 4).toArray,True,gK=kvU kb N kp,True,True,iJ=.bool (!r),iC=.int .i64 (dY (!r)),x4=.int .i64 (dY (!r))]/\∃ n_:Nat,n_<=3/\D 8=decide (1<=n_)/\D 10=decide (2<=n_)/\D 11=decide (3<=n_)/\(neSt w X [.blk b2 (.cells #[.int .i64 k,.int .i64 n,.string s,.slice (some ⟨b,o,none⟩) [x,y].length cap] ab),.blk kb (.cells kc ab)] S N st' r gr lK ig w_ n_),⟨Fx.nil _ _,⟨0,Nat.zero_le _,rfl,rfl,rfl,hI.draw⟩⟩,⟨?_,?_,?_,?_,?_,?_,?_,?_,?_,?_,?_,?_,?_,?_,?_,trivial⟩,?_⟩
  all_goals (intro D bn; intros; rename_i x4 iC iJ ig lK gK gr lN iD ji nU j9 mD iE ia w_ hA_; have hF_:=hA_.1; obtain ⟨⟨bR,bQ,bG,bS,bU,bB,bD,cq,ci,cL,bH,bT,cH,de,cB,_⟩,⟨n_,ln_,e1_,e2_,e3_,hS⟩⟩:=hA_)
  ·refine ai al ?_
   exact ⟨hF_.set 0 rfl,⟨n_,ln_,e1_,e2_,e3_,hS⟩⟩
  ·obtain rfl:=bR ‹_›
   obtain ⟨R,hI⟩:=hS.inv; refine aA hI 0 ah rfl rfl ?_
   exact ⟨hF_.set 1 rfl,⟨n_,ln_,e1_,e2_,e3_,hS⟩⟩
  ·obtain rfl:=bQ ‹_›
   refine ar (i:=0) af (by simp) ?_
   exact ⟨hF_.set 2 rfl,⟨n_,ln_,e1_,e2_,e3_,hS⟩⟩
  ·obtain rfl:=bG ‹_›
   obtain ⟨R,hI⟩:=hS.inv; refine bE ac (RdT.length (hR 0 (by simp))) (fun j v hj=>by rw [hI.cellS hSb]; exact au rfl j v hj) ?_
   exact ⟨hF_.set 3 rfl,⟨n_,ln_,e1_,e2_,e3_,hS⟩⟩
  ·refine ai al ?_
   exact ⟨hF_.set 4 rfl,⟨n_,ln_,e1_,e2_,e3_,hS⟩⟩
  ·obtain rfl:=bU ‹_›
   obtain ⟨R,hI⟩:=hS.inv; refine aA hI 0 ah rfl rfl ?_
   exact ⟨hF_.set 5 rfl,⟨n_,ln_,e1_,e2_,e3_,hS⟩⟩
  ·obtain rfl:=bB ‹_›
   refine ar (i:=1) af (by simp) ?_
   exact ⟨hF_.set 6 rfl,⟨n_,ln_,e1_,e2_,e3_,hS⟩⟩
  ·obtain rfl:=bD ‹_›
   obtain ⟨R,hI⟩:=hS.inv; refine bE ac (RdT.length (hR 1 (by simp))) (fun j v hj=>by rw [hI.cellS hSb]; exact au rfl j v hj) ?_
   exact ⟨hF_.set 7 rfl,⟨n_,ln_,e1_,e2_,e3_,hS⟩⟩
  ·obtain rfl:n_=0:=rT e1_ bn
   refine dD hS bp fun v w_ hI=>?_
   have hS:neSt w X [.blk b2 (.cells #[.int .i64 k,.int .i64 n,.string s,.slice (some ⟨b,o,none⟩) [x,y].length cap] ab),.blk kb (.cells kc ab)] S N st' r v lK ig w_ 1:=hI
   exact ⟨hF_.set 8 (by first|assumption|trivial),⟨1,by decide,rfl,(by first|exact e2_|rfl),(by first|exact e3_|rfl),hS⟩⟩
  ·exact ⟨hF_.set 9 rfl,⟨n_,ln_,e1_,e2_,e3_,hS⟩⟩
  ·have Dt:=ci ‹_›
   obtain rfl:=cL ‹_›
   obtain rfl:n_=1:=fD e1_ ‹D 8=true› e2_ bn
   have hI:Inv w X ([.blk b2 (.cells #[.int .i64 k,.int .i64 n,.string s,.slice (some ⟨b,o,none⟩) [x,y].length cap] ab),.blk kb (.cells kc ab)]++[.row gr ab 4 0 []]) S w_:=hS
   have hI:=hI.perm (M:=[.blk b2 (.cells #[.int .i64 k,.int .i64 n,.string s,.slice (some ⟨b,o,none⟩) [x,y].length cap] ab),aK gr ab 4 []]++bt [(kb,.cells kc ab)]) ((List.Perm.swap ..).cons _)
   obtain ⟨S1,hle,hins,hI,hback⟩:=Inv.lendAll _ hI
   have hkN:=hg.len
   have hrd:=hk.rd (hins _ (List.mem_singleton.2 rfl)) (by rw [hkN]; exact hkp) hkp2
   rw [hkN] at hrd
   refine eB hI 1 bp (by omega) rfl hrd (fun _ _=>RdO.length) (fun _ _=>RdO.one) (by rw [hkN]; simp; omega) (by omega) fun v w_ css2 hR2 hI=>?_
   have hI:=hback _ _ hI
   have hI:Inv w X ([.blk b2 (.cells #[.int .i64 k,.int .i64 n,.string s,.slice (some ⟨b,o,none⟩) [x,y].length cap] ab),.blk kb (.cells kc ab)]++[aK v ab 4 css2]) S w_:=hI.perm ((List.Perm.swap ..).cons _)
   obtain ⟨g,cp,cur,rfl,hc1,hc2,hkn,hI⟩:=Inv.tab hI hR2 (by omega)
   rw [hkN]
   have hS:neSt w X [.blk b2 (.cells #[.int .i64 k,.int .i64 n,.string s,.slice (some ⟨b,o,none⟩) [x,y].length cap] ab),.blk kb (.cells kc ab)] S N st' r gr (kvU g N cp) ig w_ 2:=⟨g,cp,cur,rfl,hkn,hI⟩
   exact ⟨hF_.set 10 (by first|assumption|trivial),⟨2,by decide,(by first|exact e1_|rfl),rfl,(by first|exact e3_|rfl),hS⟩⟩
  ·obtain rfl:=bS ‹_›
   obtain rfl:=cq ‹_›
   have wB:=bH ‹_›
   obtain rfl:n_=2:=fD e2_ ‹D 10=true› e3_ bn
   obtain ⟨g,cp,cur,rfl,hkn,hI⟩:=hS
   refine Run.callE fH fB hI (gM (kp:=cp) hN hg hjj hu S _ _ g cur (hR 0 (by simp)) (hR 1 (by simp)) hkn) fun v' I' S' w_=>?_
   rintro ⟨eS,rfl,kcx,rfl,hkx⟩ _ hI
   rw [eS] at hI
   have hS:neSt w X [.blk b2 (.cells #[.int .i64 k,.int .i64 n,.string s,.slice (some ⟨b,o,none⟩) [x,y].length cap] ab),.blk kb (.cells kc ab)] S N st' r gr (kvU g N cp) (.bool r) w_ 3:=⟨rfl,_,hI⟩
   exact ⟨hF_.set 11 (by first|assumption|trivial),⟨3,by decide,(by first|exact e1_|rfl),(by first|exact e2_|rfl),rfl,hS⟩⟩
  ·have Qk:=bT ‹_›
   have hn3:=kB ln_ e3_ ‹D 11=true›
   have hS3:=hS
   rw [hn3] at hS3
   obtain ⟨hx41,_⟩:=hS3
   subst hx41
   refine bK ?_
   exact ⟨hF_.set 12 rfl,⟨n_,ln_,e1_,e2_,e3_,hS⟩⟩
  ·obtain rfl:=cH ‹_›
   have hn3:=kB ln_ e3_ ‹D 11=true›
   rw [hn3] at hS
   obtain ⟨hx41,R,hI⟩:=hS
   refine Run.callPure dV dU hI (dc (!r) S) fun w_ hI=>?_
   have hS:neSt w X [.blk b2 (.cells #[.int .i64 k,.int .i64 n,.string s,.slice (some ⟨b,o,none⟩) [x,y].length cap] ab),.blk kb (.cells kc ab)] S N st' r gr lK ig w_ n_:=by rw [hn3]; exact ⟨hx41,R,hI⟩
   exact ⟨hF_.set 13 rfl,⟨n_,ln_,e1_,e2_,e3_,hS⟩⟩
  ·obtain rfl:=de ‹_›
   exact ⟨hF_.set 14 rfl,⟨n_,ln_,e1_,e2_,e3_,hS⟩⟩
  obtain rfl:n_=3:=kB ln_ e3_ ‹D 11=true›
  have Ux:D 14=true:=by assumption
  clear e1_ e2_ e3_
  obtain rfl:=cB Ux
  obtain ⟨_,R,hI⟩:=hS
  exact ⟨_,_,S,rfl,hI.sub (((List.nil_sublist _).cons_cons _).cons _),Ext.refl _ _ _,rfl,rfl,kc,rfl,hk⟩
 refine bg ?_
 refine aI (fun h=>?_) (fun h4=>?_)
 ·obtain ⟨x,y,rfl⟩:=jR (l:=ks) (by have:=gx (by rw [h]; decide +kernel) hbs; omega)
  have hj:eP (.mk k n s [x,y])=.done (dY (eqT x y)):=by
   rw [eP,if_neg (show ¬ (T.mk k n s [x,y]).name=gE from h0),if_neg (show ¬ (T.mk k n s [x,y]).name=g8 from h1),if_neg (show ¬ (T.mk k n s [x,y]).name=nEq from h2),if_neg (show ¬ (T.mk k n s [x,y]).name=nNe from h3),if_pos (show (T.mk k n s [x,y]).name=mp from h)]
   rfl
  rw [hj] at hB hbj
  obtain ⟨b,o,cap,c,E,fz,rfl,hSb,hR⟩:=hks.ptr (by simp)
  refine ⟨fun D x4 rJ ti pD kX rR s3 sO rp jL mw w_=>Fx D 0 [mw=.pointer (some ⟨b2,3,none⟩),jL=.slice (some ⟨b,o,none⟩) [x,y].length cap,rp=.pointer (some ⟨b,o+0 * 4,none⟩),sO=.agg (aH c (o+0 * 4) 4).toArray,s3=.pointer (some ⟨b2,3,none⟩),rR=.slice (some ⟨b,o,none⟩) [x,y].length cap,kX=.pointer (some ⟨b,o+1 * 4,none⟩),pD=.agg (aH c (o+1 * 4) 4).toArray,ti=.bool (eqT x y),rJ=.int .i64 (dY (eqT x y)),x4=.int .i64 (dY (eqT x y))]/\Inv w X [.blk b2 (.cells #[.int .i64 k,.int .i64 n,.string s,.slice (some ⟨b,o,none⟩) [x,y].length cap] ab),.blk kb (.cells kc ab)] S w_,⟨Fx.nil _ _,hI.draw⟩,⟨?_,?_,?_,?_,?_,?_,?_,?_,?_,?_,?_,trivial⟩,?_⟩
  all_goals (intro D bn; intros; rename_i x4 rJ ti pD kX rR s3 sO rp jL mw w_ hA_; have hF_:=hA_.1; obtain ⟨⟨bR,bQ,bG,bS,bU,bB,bD,cq,ci,cL,bH,_⟩,hI⟩:=hA_)
  ·refine ai al ?_
   exact ⟨hF_.set 0 rfl,hI⟩
  ·obtain rfl:=bR ‹_›
   refine aA hI 0 ah rfl rfl ?_
   exact ⟨hF_.set 1 rfl,hI⟩
  ·obtain rfl:=bQ ‹_›
   refine ar (i:=0) af (by simp) ?_
   exact ⟨hF_.set 2 rfl,hI⟩
  ·obtain rfl:=bG ‹_›
   refine bE ac (RdT.length (hR 0 (by simp))) (fun j v hj=>by rw [hI.cellS hSb]; exact au rfl j v hj) ?_
   exact ⟨hF_.set 3 rfl,hI⟩
  ·refine ai al ?_
   exact ⟨hF_.set 4 rfl,hI⟩
  ·obtain rfl:=bU ‹_›
   refine aA hI 0 ah rfl rfl ?_
   exact ⟨hF_.set 5 rfl,hI⟩
  ·obtain rfl:=bB ‹_›
   refine ar (i:=1) af (by simp) ?_
   exact ⟨hF_.set 6 rfl,hI⟩
  ·obtain rfl:=bD ‹_›
   refine bE ac (RdT.length (hR 1 (by simp))) (fun j v hj=>by rw [hI.cellS hSb]; exact au rfl j v hj) ?_
   exact ⟨hF_.set 7 rfl,hI⟩
  ·obtain rfl:=bS ‹_›
   obtain rfl:=cq ‹_›
   refine Run.callPure mM mN hI (nN x y S _ _ (hR 0 (by simp)) (hR 1 (by simp))) fun w_ hI=>?_
   exact ⟨hF_.set 8 rfl,hI⟩
  ·obtain rfl:=ci ‹_›
   refine Run.callPure dV dU hI (dc _ S) fun w_ hI=>?_
   exact ⟨hF_.set 9 rfl,hI⟩
  ·obtain rfl:=cL ‹_›
   exact ⟨hF_.set 10 rfl,hI⟩
  obtain ⟨rfl,rfl,rfl,rfl,rfl,rfl,rfl,rfl,rfl,rfl,rfl,_⟩:=hF_.all
  clear hF_ bR bQ bG bS bU bB bD cq ci cL bH
  exact fin _ rfl hB hI ((List.Sublist.refl _).cons _)
 refine bg ?_
 refine aI (fun h=>?_) (fun h5=>?_)
 ·obtain ⟨x,y,rfl⟩:=jR (l:=ks) (by have:=gx (by rw [h]; decide +kernel) hbs; omega)
  have hj:eP (.mk k n s [x,y])=if (cj y).2≠0 then .done (cj y).2 else .uni x (DE (cj y).1):=by
   rw [eP,if_neg (show ¬ (T.mk k n s [x,y]).name=gE from h0),if_neg (show ¬ (T.mk k n s [x,y]).name=g8 from h1),if_neg (show ¬ (T.mk k n s [x,y]).name=nEq from h2),if_neg (show ¬ (T.mk k n s [x,y]).name=nNe from h3),if_neg (show ¬ (T.mk k n s [x,y]).name=mp from h4),if_pos (show (T.mk k n s [x,y]).name=nIs from h)]
   rfl
  rw [hj] at hB hbj
  obtain ⟨b,o,cap,c,E,fz,rfl,hSb,hR⟩:=hks.ptr (by simp)
  have ny:=eT hn.2 y (by simp)
  refine ad hI 0 rfl al ah rfl ?_
  refine bY (i:=1) hI hks af ac (by simp) (fun _ _=>RdT.length) fun ds hds=>?_
  refine Run.callPure iu ic hI (jU y S ds hds ny) fun w' hI=>?_
  refine aj (v:=.int .i64 _) rfl ?_
  refine aj (v:=.int .i64 _) rfl ?_
  refine cD ?_
  refine az (fun h6=>?_) (fun h6=>?_)
  ·simp at h6
   exact fin _ (if_pos h6) hB hI ((List.Sublist.refl _).cons _)
  simp at h6
  rw [if_neg (by simp [h6])] at hB hbj
  obtain ⟨r,hu,rfl⟩:=hB
  have hjj:okJ N (.one x (DE (cj y).1)):=hbj
  have hsm:=lh y ny
  unfold Sm at hsm
  refine ⟨fun D x4 pM zr Bc A5 Dp CD Bn Bb AU w_=>Fx D 0 [AU=.pointer (some ⟨b2,3,none⟩),Bb=.slice (some ⟨b,o,none⟩) [x,y].length cap,Bn=.pointer (some ⟨b,o+0 * 4,none⟩),CD=.agg (aH c (o+0 * 4) 4).toArray,Dp=.int .i64 (cj y).1,A5=CW 2 (cj y).1,Bc=kvU kb N kp,zr=.bool r,pM=.int .i64 (dY r),x4=.int .i64 (dY r)]/\∃ kcx,(D 7=false->kcx=kc)/\(D 7=true->KnU S kcx st')/\Inv w X [.blk b2 (.cells #[.int .i64 k,.int .i64 n,.string s,.slice (some ⟨b,o,none⟩) [x,y].length cap] ab),.blk kb (.cells kcx ab)] S w_,⟨Fx.nil _ _,⟨kc,fun _=>rfl,aV,hI.draw⟩⟩,⟨?_,?_,?_,?_,?_,?_,?_,?_,?_,?_,trivial⟩,?_⟩
  all_goals (intro D bn; intros; rename_i x4 pM zr Bc A5 Dp CD Bn Bb AU w_ hA_; have hF_:=hA_.1; obtain ⟨⟨bR,bQ,bG,bS,bU,bB,bD,cq,ci,cL,_⟩,⟨kcx,k0,k1,hI⟩⟩:=hA_)
  ·refine ai al ?_
   exact ⟨hF_.set 0 rfl,⟨kcx,k0,k1,hI⟩⟩
  ·obtain rfl:=bR ‹_›
   refine aA hI 0 ah rfl rfl ?_
   exact ⟨hF_.set 1 rfl,⟨kcx,k0,k1,hI⟩⟩
  ·obtain rfl:=bQ ‹_›
   refine ar (i:=0) af (by simp) ?_
   exact ⟨hF_.set 2 rfl,⟨kcx,k0,k1,hI⟩⟩
  ·obtain rfl:=bG ‹_›
   refine bE ac (RdT.length (hR 0 (by simp))) (fun j v hj=>by rw [hI.cellS hSb]; exact au rfl j v hj) ?_
   exact ⟨hF_.set 3 rfl,⟨kcx,k0,k1,hI⟩⟩
  ·exact ⟨hF_.set 4 rfl,⟨kcx,k0,k1,hI⟩⟩
  ·obtain rfl:=bU ‹_›
   refine Run.callPure ow ov hI (jo _ S) fun w_ hI=>?_
   exact ⟨hF_.set 5 rfl,⟨kcx,k0,k1,hI⟩⟩
  ·exact ⟨hF_.set 6 rfl,⟨kcx,k0,k1,hI⟩⟩
  ·obtain rfl:=bS ‹_›
   obtain rfl:=bB ‹_›
   obtain rfl:=bD ‹_›
   have e0:=k0 bn
   rw [e0] at hI
   have hI:Inv w X ([.blk b2 (.cells #[.int .i64 k,.int .i64 n,.string s,.slice (some ⟨b,o,none⟩) [x,y].length cap] ab)]++[.blk kb (.cells kc ab)]) S w_:=hI
   refine Run.callE (A:=[_]) fH fB hI (gM (kp:=kp) hN hg hjj hu S _ _ kb kc (hR 0 (by simp)) (nK (by simp [inI]) (by simp only [inI]; omega)) hk) fun v' I' S' w_=>?_
   rintro ⟨eS,rfl,kcx,rfl,hkx⟩ _ hI
   rw [eS] at hI
   have hI:Inv w X [.blk b2 (.cells #[.int .i64 k,.int .i64 n,.string s,.slice (some ⟨b,o,none⟩) [x,y].length cap] ab),.blk kb (.cells kcx ab)] S w_:=hI
   have k0:=fun (h:aG D 7 7=false)=>(Bool.noConfusion h:kcx=kc)
   have k1:=fun (_:aG D 7 7=true)=>hkx
   exact ⟨hF_.set 7 rfl,⟨kcx,k0,k1,hI⟩⟩
  ·obtain rfl:=cq ‹_›
   refine Run.callPure dV dU hI (dc r S) fun w_ hI=>?_
   exact ⟨hF_.set 8 rfl,⟨kcx,k0,k1,hI⟩⟩
  ·obtain rfl:=ci ‹_›
   exact ⟨hF_.set 9 rfl,⟨kcx,k0,k1,hI⟩⟩
  obtain ⟨rfl,rfl,rfl,rfl,rfl,rfl,rfl,rfl,rfl,rfl,_⟩:=hF_.all
  have uZ:D 7=true:=by assumption
  clear hF_ bR bQ bG bS bU bB bD cq ci cL
  have hkx:=k1 uZ
  exact ⟨_,_,S,rfl,hI.sub (((List.Sublist.refl _).cons _)),Ext.refl _ _ _,rfl,rfl,kcx,rfl,hkx⟩
 refine bg ?_
 refine aI (fun h=>?_) (fun h6=>?_)
 ·obtain ⟨x,y,z,rfl⟩:=Jg (l:=ks) (by have:=Nu (h ▸ hbs); omega)
  have hj:eP (.mk k n s [x,y,z])=ri x y z:=by
   rw [eP,if_neg (show ¬ (T.mk k n s [x,y,z]).name=gE from h0),if_neg (show ¬ (T.mk k n s [x,y,z]).name=g8 from h1),if_neg (show ¬ (T.mk k n s [x,y,z]).name=nEq from h2),if_neg (show ¬ (T.mk k n s [x,y,z]).name=nNe from h3),if_neg (show ¬ (T.mk k n s [x,y,z]).name=mp from h4),if_neg (show ¬ (T.mk k n s [x,y,z]).name=nIs from h5),if_pos (show (T.mk k n s [x,y,z]).name=Ak from h)]
   rfl
  rw [hj] at hB hbj
  refine ao hI 0 ac rfl rfl ?_
  refine Run.call0 LX La hI (DV hgl) fun v1 I' S' w'=>?_
  rintro ⟨rfl,eS,ds,cd,rfl,hdl,hd1,hcase⟩ _ hI
  rw [eS] at hI
  have hI:=hI
  refine aj (v:=.agg ds.toArray) rfl ?_
  refine aj (v:=.int .i64 cd) rfl ?_
  refine aD hI aQ fun b7 w' hI=>?_
  refine aq hI 2 rfl ac (by simpa using hdl) rfl (by simpa using hd1) fun w' hI=>?_
  obtain ⟨b,o,cap,c,E,fz,rfl,hSb,hR⟩:=hks.ptr (by simp)
  have hI:Inv w X [.blk b2 (.cells #[.int .i64 k,.int .i64 n,.string s,.slice (some ⟨b,o,none⟩) [x,y,z].length cap] ab),.blk kb (.cells kc ab),.blk b7 (.cells ds.toArray ab)] S w':=hI
  refine cD ?_
  obtain ⟨j,hja⟩:∃ j,ri x y z=j:=⟨_,rfl⟩
  rw [hja] at hcase hB hbj
  match j,hja,hcase,hB,hbj with
  | .done c2,_,hcase,hB,_=>
   obtain ⟨rfl,hne⟩:=hcase
   rw [decide_eq_false hne]
   refine az (fun _=>?_) (fun hb=>by cases hb)
   exact fin _ rfl hB hI (((List.nil_sublist _).cons_cons _).cons _)
  | .not _ _,_,hcase,_,_=>exact hcase.elim
  | .uni u t,hja,hcase,hB,hbj=>
   obtain ⟨rfl,hdt⟩:=hcase
   refine az (fun hb=>by cases hb) (fun _=>?_)
   obtain rfl:u=z:=by
    unfold ri at hja
    split at hja
    ·cases hja
    split at hja
    ·cases hja
    split at hja
    ·cases hja
    ·rw [BJ.uni.injEq] at hja
     exact hja.1.symm
   obtain ⟨r,hu,rfl⟩:=hB
   have hjj:okJ N (.one u t):=hbj
   refine ⟨fun D x4 JI Fh Ea Dv Dj CO um sj w_=>Fx D 0 [sj=.pointer (some ⟨b2,3,none⟩),um=.slice (some ⟨b,o,none⟩) [x,y,u].length cap,CO=.pointer (some ⟨b,o+2 * 4,none⟩),Dj=.agg (aH c (o+2 * 4) 4).toArray,Dv=.agg ds.toArray,Ea=kvU kb N kp,Fh=.bool r,JI=.int .i64 (dY r),x4=.int .i64 (dY r)]/\∃ kcx,(D 6=false->kcx=kc)/\(D 6=true->KnU S kcx st')/\Inv w X [.blk b2 (.cells #[.int .i64 k,.int .i64 n,.string s,.slice (some ⟨b,o,none⟩) [x,y,u].length cap] ab),.blk kb (.cells kcx ab),.blk b7 (.cells ds.toArray ab)] S w_,⟨Fx.nil _ _,⟨kc,fun _=>rfl,aV,hI.draw⟩⟩,⟨?_,?_,?_,?_,?_,?_,?_,?_,?_,trivial⟩,?_⟩
   all_goals (intro D bn; intros; rename_i x4 JI Fh Ea Dv Dj CO um sj w_ hA_; have hF_:=hA_.1; obtain ⟨⟨bR,bQ,bG,bS,bU,bB,bD,cq,ci,_⟩,⟨kcx,k0,k1,hI⟩⟩:=hA_)
   ·refine ai al ?_
    exact ⟨hF_.set 0 rfl,⟨kcx,k0,k1,hI⟩⟩
   ·obtain rfl:=bR ‹_›
    refine aA hI 0 ah rfl rfl ?_
    exact ⟨hF_.set 1 rfl,⟨kcx,k0,k1,hI⟩⟩
   ·obtain rfl:=bQ ‹_›
    refine ar (i:=2) af (by simp) ?_
    exact ⟨hF_.set 2 rfl,⟨kcx,k0,k1,hI⟩⟩
   ·obtain rfl:=bG ‹_›
    refine bE ac (RdT.length (hR 2 (by simp))) (fun j v hj=>by rw [hI.cellS hSb]; exact au rfl j v hj) ?_
    exact ⟨hF_.set 3 rfl,⟨kcx,k0,k1,hI⟩⟩
   ·refine ao hI 2 ac rfl (by simpa using hdl) ?_
    exact ⟨hF_.set 4 rfl,⟨kcx,k0,k1,hI⟩⟩
   ·exact ⟨hF_.set 5 rfl,⟨kcx,k0,k1,hI⟩⟩
   ·obtain rfl:=bS ‹_›
    obtain rfl:=bU ‹_›
    obtain rfl:=bB ‹_›
    have e0:=k0 bn
    rw [e0] at hI
    have hI:=hI.perm (M:=[.blk b2 (.cells #[.int .i64 k,.int .i64 n,.string s,.slice (some ⟨b,o,none⟩) [x,y,u].length cap] ab),.blk b7 (.cells ds.toArray ab)]++[.blk kb (.cells kc ab)]) ((List.Perm.swap ..).cons _)
    refine Run.callE (A:=[_,_]) fH fB hI (gM (kp:=kp) hN hg hjj hu S _ _ kb kc (hR 2 (by simp)) hdt hk) fun v' I' S' w_=>?_
    rintro ⟨eS,rfl,kcx,rfl,hkx⟩ _ hI
    rw [eS] at hI
    have hI:Inv w X [.blk b2 (.cells #[.int .i64 k,.int .i64 n,.string s,.slice (some ⟨b,o,none⟩) [x,y,u].length cap] ab),.blk kb (.cells kcx ab),.blk b7 (.cells ds.toArray ab)] S w_:=hI.perm ((List.Perm.swap ..).cons _)
    have k0:=fun (h:aG D 6 6=false)=>(Bool.noConfusion h:kcx=kc)
    have k1:=fun (_:aG D 6 6=true)=>hkx
    exact ⟨hF_.set 6 rfl,⟨kcx,k0,k1,hI⟩⟩
   ·obtain rfl:=bD ‹_›
    refine Run.callPure dV dU hI (dc r S) fun w_ hI=>?_
    exact ⟨hF_.set 7 rfl,⟨kcx,k0,k1,hI⟩⟩
   ·obtain rfl:=cq ‹_›
    exact ⟨hF_.set 8 rfl,⟨kcx,k0,k1,hI⟩⟩
   obtain ⟨rfl,rfl,rfl,rfl,rfl,rfl,rfl,rfl,rfl,_⟩:=hF_.all
   have Qa:D 6=true:=by assumption
   clear hF_ bR bQ bG bS bU bB bD cq ci
   have hkx:=k1 Qa
   exact ⟨_,_,S,rfl,hI.sub (((List.nil_sublist _).cons_cons _).cons _),Ext.refl _ _ _,rfl,rfl,kcx,rfl,hkx⟩
 have hrest:eP (.mk k n s ks)=if cM s dL=true then .done (MJ s (dy ks)) else .done (dY (jX s (kd (.mk k n s ks) 0))):=by
  rw [eP,if_neg (show ¬ (T.mk k n s ks).name=gE from h0),if_neg (show ¬ (T.mk k n s ks).name=g8 from h1),if_neg (show ¬ (T.mk k n s ks).name=nEq from h2),if_neg (show ¬ (T.mk k n s ks).name=nNe from h3),if_neg (show ¬ (T.mk k n s ks).name=mp from h4),if_neg (show ¬ (T.mk k n s ks).name=nIs from h5),if_neg (show ¬ (T.mk k n s ks).name=Ak from h6)]
  rfl
 rw [hrest] at hB
 refine ad hI 0 rfl aO aJ rfl ?_
 refine Run.callPure AE AQ hI (uh s S) fun w' hI=>?_
 refine az (fun hc=>?_) (fun hc=>?_)
 ·rw [if_pos hc] at hB
  have hl:ks.length=2:=by have:=gx (Na hc) hbs; omega
  refine ao hI 0 ac rfl rfl ?_
  refine Run.callPure CT BN hI (vi hgl hl hn.2) fun w' hI=>?_
  exact fin _ rfl hB hI ((List.Sublist.refl _).cons _)
 rw [hc,if_neg (by decide)] at hB
 obtain ⟨x,rfl⟩:=Bq (l:=ks) (by
  rcases nY hbs h0 h1 h2 h3 h4 h5 hc with ⟨_,h⟩|⟨h,_⟩
  ·omega
  ·exact absurd h h6)
 refine ao hI 0 ac rfl rfl ?_
 refine Run.callPure IP Il hI (C5 hgl) fun w' hI=>?_
 exact fin _ rfl hB hI ((List.Sublist.refl _).cons _)
end
end
end Go.Proofs.YtfcbhfjomgopbaaGreat
