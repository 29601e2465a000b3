/- spec's compiler: what is known while code is made, as a value; instructions are added, slots are given. -/
import Derived.Test.YtjbcdmheajljpaaGreatZCv6
namespace Go.Proofs.YtjbcdmheajljpaaGreat
section
open Go Go.RowKit
def dB (_:af) (cs:List Value) (x:Ist):Prop:=cs=x.cells
theorem Jb (S S':af) (cs:List Value) (x:Ist) (_:Sle S S') (h:dB S cs x):dB S' cs x:=h
theorem IK (S:af) (cs:List Value) (x:Ist) (h:dB S cs x):cs.length=4:=by rw [dB] at h; rw [h]; rfl
theorem JU (S:af) (cs:List Value) (x:Ist) (h:dB S cs x):∀ c∈cs,c.oneCell'=true:=by rw [dB] at h; rw [h]; exact x.one
theorem RdSl.monoK {S S':af} {v:Value} {xs:List Ist} (a:Sle S S') (h:RdSl S 4 (dB S) v xs):RdSl S' 4 (dB S') v xs:=h.mono a fun _ _ h=>h
theorem RdSl.monoN {S S':af} {v:Value} {xs:List Int} (a:Sle S S') (h:RdSl S 1 gL v xs):RdSl S' 1 gL v xs:=h.mono a fun _ _ h=>h
def MkS (S:af) (cs:List Value) (s:CS):Prop:=∃ v1 v2,cs=[v1,.int .i64 s.next,v2]/\RdSl S 1 gL v1 s.sl/\RdSl S 4 (dB S) v2 s.code
theorem MkS.mono {S S':af} {cs:List Value} {s:CS} (a:Sle S S') (h:MkS S cs s):MkS S' cs s:=by
 obtain ⟨v1,v2,rfl,g,i⟩:=h;exact ⟨v1,v2,rfl,g.monoN a,i.monoK a⟩
theorem MkS.length {S:af} {cs:List Value} {s:CS} (h:MkS S cs s):cs.length=3:=by obtain ⟨v1,v2,rfl,_⟩:=h; rfl
theorem MkS.one {S:af} {cs:List Value} {s:CS} (h:MkS S cs s):∀ u∈cs,u.oneCell'=true:=by
 obtain ⟨v1,v2,rfl,⟨a,c,rfl,_⟩,⟨i,j,rfl,_⟩⟩:=h;intro u g;simp only [fm,ED,or_false] at g;rcases g with rfl|rfl|rfl <;> rfl
abbrev xf (s:CS):Value->List Item->af->Prop:=fun v I' S'=>I'=[]/\∃ cs,v=.agg cs.toArray/\MkS S' cs s
section
attribute [local irreducible] Run CondV aw aI
theorem bR {s:CS} (x:Ist) {S:af} {cs:List Value} (h:MkS S cs s) (hl:s.code.length<=1000000000):Tri Tryz.prog Dj [.agg cs.toArray,.agg x.cells.toArray] [] S (xf (s.emit x)):=by
 intro w l;obtain ⟨v1,v2,rfl,h1,h2⟩:=h;refine sN.2 ?_;dsimp only[sN,a6];refine bB l fun N w' l=>?_;refine bB l fun b3 w' l=>?_;refine aF l dg fun b4 w' l=>?_;obtain ⟨B3,O⟩:∃ B3,B3=Item.blk b3 (.cells x.cells.toArray aK):=⟨_,rfl⟩
 obtain ⟨B4,U⟩:∃ B4,B4=Item.blk b4 (.cells #[.slice none 0 0,.int .i64 0,.slice none 0 0] aj):=⟨_,rfl⟩
 have l:Inv w [] ([B3,B4]++[.blk N (.cells #[v1,.int .i64 s.next,v2] aj)]) S w':=by
  rw [O,U];exact l.perm (dy (l₁:=[_,_]) (l₂:=[_]))
 have e3:=congrArg some O;have e4:=congrArg some U;refine ⟨fun D Hm Y Z x9 x8 x7 x6 x5 t=>Fx D 0 [True,x6=.pointer (some ⟨N,2,none⟩),x7=v2,True,x9=.agg x.cells.toArray,True,True,Hm=.pointer (some ⟨N,2,none⟩),True]/\∃ o:Nat,o<=3/\D 0=decide (1<=o)/\D 3=decide (2<=o)/\D 6=decide (3<=o)/\(apP w [] (fun cv=>[B3,B4]++[.blk N (.cells #[v1,.int .i64 s.next,cv] aj)]) v2 aK 4 dB s.code x S (D 5) (D 8) x5 x8 Z Y t o/\(D 8=true->D 2=true)),⟨Fx.nil _ _,⟨0,aQ _,rfl,rfl,rfl,⟨apP.mk l.draw _ _ _ _,aP⟩⟩⟩,⟨?_,?_,?_,?_,?_,?_,?_,?_,?_,trivial⟩,?_⟩;all_goals (intro D J; intros; rename_i Hm Y Z x9 x8 x7 x6 x5 t M; have m:=M.1; obtain ⟨⟨c9,cX,cZ,c4,cY,c8,cB,df,dK,_⟩,⟨o,p,i,j,g,a⟩⟩:=M)
 ·obtain rfl:o=0:=s9 i J;refine KF a.1 fC fun v t q=>?_;exact ⟨m.set 0 (by first|assumption|trivial),⟨1,by decide,rfl,(by first|exact j|rfl),(by first|exact g|rfl),⟨q,a.2⟩⟩⟩
 ·refine ay mE ?_;exact ⟨m.set 1 rfl,⟨o,p,i,j,g,a⟩⟩
 ·obtain rfl:=cX ‹_›;have dK:D 8=false:=bS.2 fun h=>by rw [a.2 h] at J; cases J
  obtain ⟨S5,B,r,l⟩:=a.1.inv0 dK;refine aJ l 2 kA rfl rfl ?_;have a:=And.intro a.1 (fun (_:aB D 2 8=true)=>(rfl:aB D 2 2=true));exact ⟨m.set 2 (by first|assumption|trivial),⟨o,p,i,j,g,a⟩⟩
 ·have KM:=c9 ‹_›;have Ka:=cZ ‹_›;obtain rfl:o=1:=fK i ‹D 0=true› j J;refine Kz Jb a.1 fC (by omega) (by rw [Ka]; exact h2) IK JU (by omega) (by omega) fun v t q=>?_;exact ⟨m.set 3 (by first|assumption|trivial),⟨2,by decide,(by first|exact i|rfl),rfl,(by first|exact g|rfl),⟨q,a.2⟩⟩⟩
 ·obtain ⟨S5,cv,B,r,l⟩:=a.1.inv;refine au l 0 ml e3 rfl ?_;exact ⟨m.set 4 rfl,⟨o,p,i,j,g,a⟩⟩
 ·obtain rfl:=cY ‹_›;refine KG Jb a.1 fC (by omega) (by omega) (cs:=x.cells) rfl rfl IK fun v t q=>?_;have a:=And.intro q a.2;exact ⟨m.set 5 (by first|assumption|trivial),⟨o,p,i,j,g,a⟩⟩
 ·have KA:=c4 ‹_›;have FU:=c8 ‹_›;obtain rfl:o=2:=fK j ‹D 3=true› g J;refine Kx Jb a.1 ‹D 5=true› fC (by omega) IK JU (by omega) (by omega) fun v t q=>?_;exact ⟨m.set 6 (by first|assumption|trivial),⟨3,by decide,(by first|exact i|rfl),(by first|exact j|rfl),rfl,⟨q,a.2⟩⟩⟩
 ·refine ay mE ?_;exact ⟨m.set 7 rfl,⟨o,p,i,j,g,a⟩⟩
 ·obtain rfl:=df ‹_›;have zK:=cB ‹_›;have V:=qF p g ‹D 6=true›;have G:=a.1;rw [V] at G;rw [J] at G;refine KE (C:=fun cv=>#[v1,.int .i64 s.next,cv]) (fun _=>rfl) G kA (fun _ _=>rfl) (fun _=>show 2<3 by decide) fun t a0=>?_;have a1:apP w [] (fun cv=>[B3,B4]++[.blk N (.cells #[v1,.int .i64 s.next,cv] aj)]) v2 aK 4 dB s.code x S (aB D 8 5) (aB D 8 8) x5 x8 Z Y t o:=by rw [V]; exact a0
  have a:=And.intro a1 (fun (_:aB D 8 8=true)=>(‹D 2=true›:aB D 8 2=true));exact ⟨m.set 8 trivial,⟨o,p,i,j,g,a⟩⟩
 obtain rfl:o=3:=qF p g ‹D 6=true›;have wl:D 8=true:=by assumption
 clear i j g;have a:=a.1;rw [wl] at a;obtain ⟨S5,cv,r,u,l⟩:=a.fin;obtain ⟨ca,cc,rfl,_⟩:=id u;refine au l 2 aq rfl rfl ?_;refine al l 1 e4 aq rfl rfl ?_ fun w' l=>?_
 ·exact (MkS.one (S:=S5) (s:=s.emit x) ⟨v1,_,rfl,h1.monoN r.1,u⟩)
 refine a5 l 1 aq rfl rfl ?_;exact ⟨_,_,S5,rfl,l.nil,r,rfl,_,rfl,v1,_,rfl,h1.monoN r.1,u⟩
theorem kl {s:CS} {n k:Int} {S:af} {cs:List Value} (h:MkS S cs s) (Y:s.sl.length=26) (hn:0<=n/\n<26):Tri Tryz.prog Db [.agg cs.toArray,.int .i64 n,.int .i64 k] [] S (xf (s.put n k)):=by
 intro w l;obtain ⟨v1,v2,rfl,B,U⟩:=h;refine rO.2 ?_;dsimp only[rO,gW];refine bB l fun b3 w' l=>?_;refine aF l dg fun r w' l=>?_;refine ey l iX fun v w' l=>?_;have l:Inv w [] [.blk b3 (.cells #[v1,.int .i64 s.next,v2] aj),.blk r (.cells #[.slice none 0 0,.int .i64 0,.slice none 0 0] aj),ax v ce 1 []] S w':=l;refine ag l 0 rfl cH fi rfl ?_;refine gq (css:=[]) l 2 iX (by omega) rfl B (fun _ _ h=>by rw [h]; rfl) (fun _ _ h=>by rw [h]; simp [Value.oneCell']) (by simp; omega) (by omega) fun t w' css hR l=>?_;have l:Inv w [] [.blk b3 (.cells #[v1,.int .i64 s.next,v2] aj),.blk r (.cells #[.slice none 0 0,.int .i64 0,.slice none 0 0] aj),ax t ce 1 css] S w':=l;have G:=hR.hc;have q:=ki (l.its (ax t ce 1 css) (by simp));refine dl l 0 rfl cH fi rfl q.1 q.2 fun w' l=>?_;have l:Inv w [] [.blk b3 (.cells #[t,.int .i64 s.next,v2] aj),.blk r (.cells #[.slice none 0 0,.int .i64 0,.slice none 0 0] aj),ax t ce 1 css] S w':=l;refine ag l 0 rfl cH fi rfl ?_;obtain ⟨m,rfl⟩:∃ m:Nat,n=(m:Int):=⟨n.toNat,by omega⟩
 have C:m<css.length:=by omega
 obtain ⟨g,cap,rfl,_⟩:=l.rowPtr (i:=2) rfl C hR.hk;refine aN el C ?_;refine DE l 2 (j:=m) (f:=0) rfl az C (by omega) (by omega) hR.hk rfl rfl fun w' l=>?_;have o:=hR.hk _ (cr C);have V:css[m].set 0 (.int .i64 k)=[.int .i64 k]:=by
  match hc:css[m],o with
  | [a],_=>rfl
 rw [V] at l;refine au l 0 aq rfl rfl ?_;refine al l 1 rfl aq rfl rfl ?_ fun w' l=>?_
 ·obtain ⟨Z,c',rfl,_⟩:=U;intro u N;simp only [fm,ED,or_false] at N;rcases N with rfl|rfl|rfl <;> rfl
 refine a5 l 1 aq rfl rfl ?_;have l:Inv w [] ([.blk b3 (.cells #[.slice (some ⟨g,0,none⟩) css.length cap,.int .i64 s.next,v2] aj),.blk r (.cells #[.slice (some ⟨g,0,none⟩) css.length cap,.int .i64 s.next,v2] aj)]++[ax (.slice (some ⟨g,0,none⟩) css.length cap) ce 1 (css.set m [.int .i64 k])]) S w':=by
  have e:ax (.slice (some ⟨g,0,none⟩) css.length cap) ce 1 (css.set m [.int .i64 k])=ax (.slice (some ⟨g,0,none⟩) css.length cap) ce 1 (css.set m [.int .i64 k]):=rfl;exact l
 obtain ⟨S3,p,D,l⟩:=l.lendExt;have J:Rows 1 gL (css.set m [.int .i64 k]) (s.sl.set m k):=by
  refine ⟨by rw [ic,ic,G],fun c hc=>?_,fun i O B=>?_⟩
  ·rcases EG hc with hc|rfl
   ·exact hR.hk c hc
   ·rfl
  ·rw [Ew,Ew];split
   ·rfl
   ·exact hR.hR i (by rw [ic] at O; exact O) (by rw [ic] at B; exact B)
 have M:=RowRd.rows J D;exact ⟨_,_,S3,rfl,l.nil,p,rfl,[.slice (some ⟨g,0,none⟩) css.length cap,.int .i64 s.next,v2],rfl,_,_,rfl,by show RdSl S3 1 gL _ (s.sl.set (m:Int).toNat k); rw [gS]; exact M,U.monoK p.1⟩
end
end
section
open Go Go.RowKit
structure Gn (s s':CS):Prop where
 next:s.next<=s'.next
 len:s'.sl.length=s.sl.length
theorem Gn.refl (s:CS):Gn s s:=⟨mT _,rfl⟩
theorem Gn.trans {s g a:CS} (h:Gn s g) (i:Gn g a):Gn s a:=⟨EK h.next i.next,i.len.trans h.len⟩
theorem Gn.emit (s:CS) (x:Ist):Gn s (s.emit x):=⟨mT _,rfl⟩
theorem Gn.inc (s:CS):Gn s s.inc:=⟨by show s.next<=s.next+1; omega,rfl⟩
theorem Gn.put (s:CS) (n v:Int):Gn s (s.put n v):=⟨mT _,ic ..⟩
theorem yp (s:CS) (t:T):Gn s (dJ s t):=by
 unfold dJ;split
 ·exact .emit s _
 ·split
  ·exact .emit s _
  ·exact ((Gn.put s _ _).trans (.emit _ _)).trans (.inc _)
theorem Ea (s:CS) (t:T):Gn s (co s t).1:=by
 unfold co;split
 ·exact (Gn.emit s _).trans (.inc _)
 ·exact yp s t
theorem vt:∀ (a:List T) (s:CS),Gn s (bA s a).1
 | [],s=>.refl s
 | t::a,s=>by rw [bA]; exact (Ea s t).trans (vt a _)
theorem Bk:∀ (a:List T) (vs:List Int) (s:CS),Gn s (cM s a vs)
 | [],vs,s=>by rw [cM]; exact .refl s; all_goals simp
 | t::a,[],s=>by rw [cM]; exact .refl s; all_goals simp
 | t::a,v::vs,s=>by
  rw [cM];have g:Gn s (if t.kind=3 then s.emit ⟨5,v,0,emptyB⟩ else dJ s t):=by
   split
   ·exact .emit s _
   ·exact yp s t
  exact g.trans (Bk a vs _)
mutual
theorem mg:∀ (t:T) (s:CS),Gn s (aY t s).1/\s.next<=(aY t s).2
 | .mk k n nm ks,s=>by
  rw [aY];have a:=tL ks s;exact ⟨((a.1.trans (.emit _ _)).trans (.inc _)).trans (Bk ks _ _),a.1.next⟩
theorem tL:∀ (a:List T) (s:CS),Gn s (bE a s).1/\(0<=s.next->∀ i (h:i<a.length) (r:i<(bE a s).2.length),(a[i].kind=3->0<=(bE a s).2[i])/\(a[i].kind≠3->(bE a s).2[i]=-1))
 | [],s=>by rw [bE]; exact ⟨.refl s,fun _ i h=>absurd h (Nat.not_lt_zero _)⟩
 | t::a,s=>by
  rw [bE];have m:Gn s (if t.kind=3 then aY t s else (s,-1)).1/\(0<=s.next->(t.kind=3->0<=(if t.kind=3 then aY t s else (s,-1)).2)/\(t.kind≠3->(if t.kind=3 then aY t s else (s,-1)).2=-1)):=by
   split
   ·rename_i g
    obtain ⟨q,u⟩:=mg t s;exact ⟨q,fun j=>⟨fun _=>by omega,fun h=>absurd g h⟩⟩
   ·rename_i g
    exact ⟨.refl s,fun _=>⟨fun h=>absurd h g,fun _=>rfl⟩⟩
  have o:=tL a (if t.kind=3 then aY t s else (s,-1)).1;refine ⟨m.1.trans o.1,fun j i p l=>?_⟩;cases i with
  | zero=>exact m.2 j
  | succ i=>exact o.2 (EK j m.1.next) i (by simpa using p) (by simpa using l)
end
theorem EP (s:CS) (i:Int) (t:T):Gn s (eN s i t):=by
 unfold eN;split
 ·exact .emit s _
 ·split
  ·split
   ·exact .emit s _
   ·exact ((Gn.put s _ _).trans (.inc _)).trans (.emit _ _)
  ·exact (mg t s).1.trans (.emit _ _)
theorem Ci:∀ (a:List T) (s:CS) (i:Int),Gn s (dT s i a)
 | [],s,i=>.refl s
 | t::a,s,i=>by rw [dT]; exact (EP s i t).trans (Ci a _ _)
theorem Hc (s:CS) (g:T):Gn s (fE s g):=by
 unfold fE;split
 ·exact .emit s _
 ·exact (Ci g.kids s 0).trans (.emit _ _)
theorem BI (s:CS) (i:Int) (t:T):Gn s (bD s i t).1:=by
 unfold bD;split
 ·exact .emit s _
 ·split
  ·show Gn s (if 0<=s.at_ t.n then s.emit ⟨1,s.at_ t.n,i,emptyB⟩ else s.put t.n i);split
   ·exact .emit s _
   ·exact .put s _ _
  ·exact .refl s
theorem xQ:∀ (a:List T) (s:CS) (i:Int),Gn s (bG s i a).1
 | [],s,i=>.refl s
 | t::a,s,i=>by rw [bG]; exact (BI s i t).trans (xQ a _ _)
theorem Eb:∀ (f:Nat) (s:CS) (q:List (T × Int)),Gn s (eE f s q)
 | 0,s,q=>.refl s
 | f+1,s,[]=>.refl s
 | f+1,s,x::q=>by
  rw [eE];exact ((Gn.emit s _).trans (vt _ _)).trans (Eb f _ _)
theorem Hf (s:CS) (a:List T):Gn s (gU s a):=(xQ a s 0).trans (Eb _ _ _)
end
section
open Go Go.RowKit
def QOK (e:TypeId) (k:Nat) (v:Value) (it:Item) (css:List (List Value)):Prop:=
 (∀ cs∈css,cs.length=k)/\((v=.slice none 0 0/\css=[]/\it=.row (.slice none 0 0) e k 0 []) ∨
  ∃ g o cap cur,v=.slice (some ⟨g,o * k,none⟩) css.length cap/\it=.blk g (.cells cur e)/\css.length<=cap/\cap<=maxLen/\(o+cap) * k<=cur.size/\∀ i (h:i<css.length),bd cur ((o+i) * k) k=css[i])
section
variable {P:Program} {w w0:World} {X:List Nat} {L:List Item} {S:af} {K:Value->World->Prop}
theorem QOK.slice {e:TypeId} {k:Nat} {v:Value} {it:Item} {css:List (List Value)} (h:QOK e k v it css):∃ a cap,v=.slice a css.length cap:=by
 rcases h.2 with ⟨rfl,rfl,_⟩|⟨g,o,cap,i,rfl,_⟩
 ·exact ⟨none,0,rfl⟩
 ·exact ⟨_,cap,rfl⟩
theorem Inv.toQ (h:Inv w0 X L S w) {i k:Nat} {e:TypeId} {v:Value} {css:List (List Value)} (l:L[i]?=some (ax v e k css)) (hk:∀ cs∈css,cs.length=k):∃ it,QOK e k v it css/\Inv w0 X (L.set i it) S w:=by
 have r:w.ownsRow 0 e k v css.length css.flatten:=h.its _ (fw l);rcases r.2 with ⟨rfl,t⟩|⟨g,cap,a,rfl,G,u,B,C,J,D⟩
 ·have hc:css=[]:=kP t;subst hc;refine ⟨.row (.slice none 0 0) e k 0 [],⟨hk,.inl ⟨rfl,rfl,rfl⟩⟩,?_⟩;have:L.set i (.row (.slice none 0 0) e k 0 [])=L:=by
   apply Gz;intro j;rw [Aa];split
   ·rename_i q
    subst q;rw [ai (gX.1 l).1,l]; rfl
   ·rfl
  rw [this]; exact h
 ·refine ⟨.blk g (.cells a e),⟨hk,.inr ⟨g,0,cap,a,by rw [jh],rfl,B,C,by rw [ct]; omega,fun j o=>?_⟩⟩,?_⟩
  ·rw [ct,<- eK k css j hk o,<- D];unfold bd;have m:(j+1) * k<=css.length * k:=eV k o;rw [gI,jc] at m;rw [EC,Es,tE (by omega)]
  ·refine h.change l (a7 _) rfl rfl rfl (fun _ _ _=>rfl) u (fun b p=>.inl ?_) (by simp [Item.foot]);simp only [Item.foot,fl] at p;subst p;simp [Item.foot,Value.ownBlock]
theorem QOK.tail {e:TypeId} {k:Nat} {it:Item} {cs:List Value} {css:List (List Value)} {a:Option Addr} {n cap:Nat} (h:QOK e k (.slice a n cap) it (cs::css)):QOK e k (.slice (if cap=1 then a else a.map (·.add (1 * k))) (n - 1) (cap - 1)) it css:=by
 refine ⟨fun c hc=>h.1 c (c7 _ hc),.inr ?_⟩;rcases h.2 with ⟨_,t,_⟩|⟨g,o,m,j,p,rfl,u,C,q,B⟩
 ·cases t
 ·simp only [Value.slice.injEq,bg] at p u;obtain ⟨rfl,rfl,rfl⟩:=p;by_cases r:cap=1
  ·subst r;have hc:css=[]:=kP (by omega);subst hc;exact ⟨g,o,0,j,by rw [ai rfl]; rfl,rfl,a7 _,by simp [maxLen],jd (eV k (by omega)) q,fun i l=>absurd l (Nat.not_lt_zero _)⟩
  ·refine ⟨g,o+1,cap - 1,j,?_,rfl,by omega,by omega,?_,fun i l=>?_⟩
   ·rw [ah r,qL,add_lit,gI,jc]; rfl
   ·rw [show o+1+(cap - 1)=o+cap by omega]; exact q
   ·have:=B (i+1) (by simpa using l);rw [show o+(i+1)=o+1+i by omega] at this;simpa using this
theorem pZ (t ty e:TypeId) (i:TypeInfo) (G:P.underlying t=some (.slice e)) (J:P.info? e=some i)
  (g o l p:Nat) (q:Array Value) (M:w.heap[g]?=some (.cells q e (0,0)))
  (a:Addr) (m c:Nat) (h:List Value) (N:h.length=m * i.size) (r:∀ j u,h[j]?=some u->w.cell? (a.add j)=some u) (O:∀ u∈h,u.oneCell'=true)
  (B:l+m<=p) (C:o+l * i.size+h.length<=q.size) :
  (Builtin.append_ #[t,t] ty #[.slice (some ⟨g,o,none⟩) l p,.slice (some a) m c]).run P w =
   .ok (.slice (some ⟨g,o,none⟩) (l+m) p) (w.setRow g (bx q (o+l * i.size) h)):=by
 have hf:=run_firstCells_some (P:=P) w i.size m a m c h N r;have D:=run_storeCells_at P g (o+l * i.size) e h 0 q w M (by simpa using C) O;simp only [qz] at D;simp [Builtin.append_,run_underlying G,sizeOf,typeInfo,J,Builtin.lenOf,B,hf,Addr.add_lit,D,bx]
section
attribute [local irreducible] Run CondV aw aI
theorem FW {T ty e:TypeId} {k:Nat} {v:Value} {it:Item} {cs:List Value} {css:List (List Value)} (i:cf P T=some (e,k)) (g:QOK e k v it (cs::css)) (hk:∀ h,QOK e k h it css->K h w):Run P (sOp (.slice T (.const v) (some (.const (.int .i64 (1:Nat)))) none none) ty) w K:=by
 obtain ⟨a,cap,rfl⟩:=g.slice;exact Co i (by simp) (hk _ g.tail)
theorem HT (h:Inv w0 X L S w) (i:Nat) {T U ty a e:TypeId} {k:Nat} {v:Value} {it:Item} {cs:List Value} {css:List (List Value)} (r:L[i]?=some it) (t:cf P T=some (e,k)) (B:kr P U=some k) (q:QOK e k v it (cs::css)) {K:Value->Value->World->Prop} (hk:∀ p,K p (.agg cs.toArray) w) :
  Run P (sOp (.indexAddr T (.const v) (.const (.int .i64 (0:Nat)))) ty) w fun p w'=>Run P (sOp (.load U (.const p)) a) w' (K p):=by
 rcases q.2 with ⟨_,l,_⟩|⟨g,o,cap,D,rfl,rfl,G,J,M,m⟩
 ·cases l
 ·refine aN t (by simp) ?_;have l:=m 0 (by simp);refine ew h i cs B r (q.1 cs (cQ ..)) (fun j u C=>?_) (hk _);have:=aX l j u (by simpa using C);rw [qz] at this;rw [jh,qz];exact this
theorem Fz (h:Inv w0 X L S w) {T ty e:TypeId} {k U b o' cp:Nat} {z v:Value} {cs:List Bool} {css:List (List Value)} {it:Item} (i:Nat) (a:List Value)
  (hT:fY P T=some (e,k,U,z)) (V:0<k) (Y:L[i]?=some it) (N:QOK e k v it css) (r:a.length=k)
  (t:∀ j u,a[j]?=some u->w.cell? ⟨b,o'+j,none⟩=some u) (h1:∀ u∈a,u.oneCell'=true) (Z:css.length+1<=4294967296) (a0:U<=32768)
  (hk:∀ O it' w',QOK e k O it' (css++[a])->Inv w0 X (L.set i it') S w'->K O w') :
  Run P (bn .append #[T,T] ty cs [v,.slice (some ⟨b,o',none⟩) 1 cp]) w K:=by
 have G:∀ c∈css++[a],c.length=k:=fun c hc=>by
  rcases dh.1 hc with hc|hc
  ·exact N.1 c hc
  ·rw [fl.1 hc]; exact r
 rcases N.2 with ⟨rfl,rfl,rfl⟩|⟨g,o,cap,p,rfl,rfl,c2,b9,a8,a9⟩
 ·refine dH h i (m:=1) (n:=0) (xs:=[]) a hT V Y (by rw [r,jc]) t h1 (by omega) a0 fun O w' hI=>?_;have a2:i<L.length:=(gX.1 Y).1;have e1:Item.row O e k (0+1) ([]++a)=ax O e k [a]:=by simp [ax]
  rw [e1] at hI;obtain ⟨it',q1,q2⟩:=hI.toQ (i:=i) (by rw [Ga a2]) (fun c hc=>by rw [fl.1 hc]; exact r);rw [List.set_set] at q2;exact hk O it' w' q1 q2
 ·obtain ⟨hu,D,a1,hz,hs,hb,b0⟩:=h8 hT;have hg:w.heap[g]?=some (.cells p e):=h.its _ (fw Y);have q:∀ j u,a[j]?=some u->w.cell? ((⟨b,o',none⟩:Addr).add j)=some u:=fun j u B=>by rw [add_lit]; exact t j u B
  have a3:a.length=1 * D.size:=by rw [hs,jc]; exact r
  by_cases C:css.length+1<=cap
  ·have c1:(o+(css.length+1)) * k<=p.size:=jd (eV k (by omega)) a8;have l:o * k+css.length * k+k<=p.size:=by
    have e2:(o+(css.length+1)) * k=o * k+css.length * k+k:=by rw [gI,gI,jc]; omega
    omega
   have hr:=pZ (P:=P) (w:=w) T ty e D hu a1 g (o * k) css.length cap p hg ⟨b,o',none⟩ 1 cp a a3 q h1 C (by rw [hs,r]; exact l);rw [yf hg,hs] at hr;have b4:=ft p (o * k+css.length * k) a (by rw [r]; exact l);refine Run.of (v:=_) (w':=_) (by simp only [bn,builtin]; simp [hr]; rfl) (hk _ (.blk g (.cells (bx p (o * k+css.length * k) a) e)) _ ⟨G,.inr ⟨g,o,cap,_,by rw [bv]; rfl,rfl,by rw [bv]; exact C,b9,by rw [b4]; exact a8,fun j B=>?_⟩⟩ (h.setBlk Y _ rfl));rw [bv,EU] at B;by_cases ej:j=css.length
   ·subst ej;have:=dQ (c:=p) (o:=o * k+css.length * k) (vs:=a) (by rw [r]; exact l);rw [r] at this;rw [gI,this];simp
   ·have J:j<css.length:=by omega
    rw [lz J,<- a9 j J];refine fc (by rw [r]; exact l) (.inl ?_);have e3:(j+1) * k<=css.length * k:=eV k J;rw [gI,jc] at e3;rw [gI];omega
  ·have a4:∀ j u,css.flatten[j]?=some u->w.cell? ((⟨g,o * k,none⟩:Addr).add j)=some u:=fun j u B=>by
    rw [add_lit,cell_of_row w g (o * k+j) p e (0,0) hg];have b5:css.flatten.length=css.length * k:=gD N.1;have b6:j<css.length * k:=by rw [<- b5]; exact (gX.1 B).1
    have hd:j / k<css.length:=Nat.div_lt_of_lt_mul (by rw [Nat.mul_comm]; exact b6);have hm:j % k<k:=qw _ V;have a5:j=(j / k) * k+j % k:=by rw [Nat.mul_comm]; exact (Nat.div_add_mod j k).symm
    have h9:=eK k css (j / k) N.1 hd;rw [<- a9 (j / k) hd] at h9;have e5:css.flatten[j]?=(List.take k (css.flatten.drop ((j / k) * k)))[j % k]?:=by
     rw [rC,ai hm,rq,<- a5]
    rw [e5,h9] at B;have:=aX (c:=p) rfl (j % k) u B;rw [gI,Nat.add_assoc,<- a5] at this;exact this
   have hr:=run_append_grow (P:=P) (w:=w) T ty e D z hu a1 hz ⟨g,o * k,none⟩ css.length cap css.flatten (by rw [hs]; exact gD N.1) a4 ⟨b,o',none⟩ 1 cp a a3 q (by omega) (by omega) (by
    rw [hb];exact growslice_fits (by omega) (jd (Nat.mul_le_mul Z a0) (by decide)))
   have b7:=grownCap_ge w (css.length+1) cap e;have a6:grownCap w (css.length+1) cap e<=maxLen:=grownCap_le_maxLen w _ cap e (by simp only [maxLen]; omega);have M:css.flatten.length=css.length * k:=gD N.1;have b8:(Builtin.zeroCells z.cells (grownCap w (css.length+1) cap e - (css.length+1))).size=(grownCap w (css.length+1) cap e - (css.length+1)) * k:=by rw [size_zeroCells,b0]
   obtain ⟨v2,w2,b1,b2,b3⟩:∃ v2 w2,v2=_/\w2=_/\(Builtin.append_ #[T,T] ty #[.slice (some ⟨g,o * k,none⟩) css.length cap,.slice (some ⟨b,o',none⟩) 1 cp]).run P w=.ok v2 w2:=⟨_,_,rfl,rfl,hr⟩
   refine Run.of (v:=v2) (w':=w2) (by simp [bn,builtin,b3]) ?_;subst b1 b2;refine (hk _ (.blk w.heap.size (.cells (css.flatten.toArray++a.toArray++Builtin.zeroCells z.cells (grownCap w (css.length+1) cap e - (css.length+1))) e)) _ ⟨G,.inr ⟨w.heap.size,0,_,_,by rw [bv,jh]; rfl,rfl,by rw [bv]; exact b7,a6,?_,fun j B=>?_⟩⟩ ?_)
   ·rw [ct,Array.size_append,Array.size_append,List.size_toArray,List.size_toArray,M,r,b8,<- ip,<- gI];exact eV k (by omega)
   ·rw [bv,EU] at B;have a7:(css++[a]).flatten=css.flatten++a:=by simp
    have h9:=eK k (css++[a]) j G (by rw [bv]; exact B);rw [<- h9,a7];unfold bd;have e3:(j+1) * k<=(css.length+1) * k:=eV k B;rw [gI,jc,gI,jc] at e3;simp only [Array.toList_append,ct];rw [G8 (by rw [bv,M,r]; omega),GB (by rw [BB,bv,M,r]; omega)]
   ·refine h.change Y (by simp) rfl rfl rfl (fun c hc _=>heap_alloc_old w.drew _ c hc) (heap_alloc_new w.drew _) (fun c hc=>.inr ?_) (by simp [Item.foot]);simp only [Item.foot,fl] at hc;omega
end
end
end
section
open Go Go.RowKit
theorem rE (a:List T) (s:CS) (j:Nat) (i:Int) (h:j<a.length):bG s i (a.drop j)=((bG (bD s i a[j]).1 (i+1) (a.drop (j+1))).1,(bD s i a[j]).2++(bG (bD s i a[j]).1 (i+1) (a.drop (j+1))).2):=by
 rw [dr h,bG]
theorem vE (a:List T) (s:CS) (j:Nat) (h:j<a.length):bA s (a.drop j)=((bA (co s a[j]).1 (a.drop (j+1))).1,(co s a[j]).2++(bA (co s a[j]).1 (a.drop (j+1))).2):=by
 rw [dr h,bA]
def RdQ (S:af) (cs:List Value) (x:T × Int):Prop:=∃ ds,cs=ds++[.int .i64 x.2]/\RdT S ds x.1
theorem RdQ.length {S:af} {cs:List Value} {x:T × Int} (h:RdQ S cs x):cs.length=5:=by
 obtain ⟨ds,rfl,a⟩:=h;rw [bv,a.length]; rfl
theorem RdQ.one {S:af} {cs:List Value} {x:T × Int} (h:RdQ S cs x):∀ u∈cs,u.oneCell'=true:=by
 obtain ⟨ds,rfl,g⟩:=h;intro u a;rcases dh.1 a with a|a
 ·exact g.one u a
 ·rw [fl.1 a]; rfl
theorem Fd {α:Type} {k:Nat} {R:List Value->α->Prop} {cs:List Value} {css:List (List Value)} {y:α} {ys:List α} (h:Rows k R (cs::css) (y::ys)):Rows k R css ys:=
 ⟨by simpa using h.hc,fun c hc=>h.hk c (c7 _ hc),fun i a g=>by have:=h.hR (i+1) (by simpa using a) (by simpa using g); simpa using this⟩
def nN (cb:Nat) (w:World):Nat:=match w.heap[cb]? with
 | some (Obj.cells c _ _)=>(match c[2]? with
  | some (Value.slice _ n _)=>n
  | _=>0)
 | _=>0
theorem uo {w0 w:World} {X:List Nat} {A:List Item} {S:af} {i j m:Nat} {o:Array MapEntry} {s:CS} {cv:Value} (h:Inv w0 X (A++cj i j o m s cv) S w):nN i w=s.code.length:=by
 have p:w.heap[i]?=some (.cells #[.map (some j),.int .i64 s.next,cv] fh):=h.its (.blk i _) (by simp);obtain ⟨a,n,cap,l⟩:∃ a n cap,cv=.slice a n cap/\n=s.code.length:=by
  have q:(ax cv aK 4 (i9 s)).holds w:=h.its _ (by simp);rcases q.2 with ⟨rfl,r⟩|⟨g,cap,t,rfl,_⟩
  ·exact ⟨none,0,0,rfl,by rw [<- od,r]⟩
  ·exact ⟨_,_,cap,rfl,od s⟩
 unfold nN;rw [p,l.1];exact l.2
section
attribute [local irreducible] Run CondV aw aI
theorem sP {w:World} {K:Value->World->Prop} {a b k:Int} {s:ByteArray} {x:Value} (hk:K (.agg #[.int .i64 a,.int .i64 b,.string s,x,.int .i64 k]) w) :
  Run Tryz.prog (bP dj [(0,.agg #[.int .i64 a,.int .i64 b,.string s,x]),(1,.int .i64 k)]) w K:=by
 refine Run.of (v:=.agg #[.int .i64 a,.int .i64 b,.string s,x,.int .i64 k]) (w':=w) ?_ hk;unfold bP;rw [Sem.run_bind,run_build w dj _ #[.int .i64 a,.int .i64 b,.string s,x,.int .i64 k] (by kernel_rfl),Result.andThen_ok];rfl
set_option maxHeartbeats 1000000 in
theorem yy {G Y N:Nat} {U:Array MapEntry} {s:CS} {cv v:Value} {ks:List T} {S:af} (h:RdSl S 4 (RdT S) v ks) (hw:Wf s) (hm:SlM U s) (ht:g8 ks) (hl:s.sz+16 * bi ks<=800000000) (h4:ks.length<=s.next) :
  Tri Tryz.prog s7 [.pointer (some ⟨G,0,none⟩),v] (cj G Y U N s cv) S fun _ I' S'=>uf G Y S (gU s ks) I' S':=by
 intro w l;obtain ⟨X,hX⟩:∃ X,X=bF (cj G Y U N s cv):=⟨_,rfl⟩
 rw [<- hX] at l ⊢;have f2:=h.le;simp only [maxLen] at f2;have h9:=hw.four;have f3:=fW ks;have g4:0<=s.sz:=by unfold CS.sz; omega
 refine jF.2 ?_;dsimp only[jF,a6];refine aL h ao ?_;have l:=l.rowNil dj 5;have l:Inv w X ([ax (.slice none 0 0) dj 5 []]++cj G Y U N s cv) S w:=l.perm (dy (l₁:=[_]));refine ⟨fun i qv w'=>∃ (j:Nat) (m:CS) (o:Array MapEntry) (t:Nat) (B:Value) (css:List (List Value)) (q:List (T × Int)),j<=ks.length/\i=.int .i64 j/\Wf m/\SlM o m/\m.next=s.next/\m.sz<=s.sz+j/\q.length<=j/\bG s 0 ks=((bG m j (ks.drop j)).1,q++(bG m j (ks.drop j)).2)/\Rows 5 (RdQ S) css q/\
   Inv w X ([ax qv dj 5 css]++cj G Y o t m B) S w',fun i _ _=>ks.length - (intOf i).toNat,
   ⟨0,s,U,N,cv,[],[],aQ _,rfl,hw,hm,rfl,by omega,by simp,by rw [dk,ss]; rfl,Rows.nil _ _,l⟩,?_⟩
 intro i _ qv _ _ _ _ _ _ j1 j2 j3 j4 j5 j6 j7 _ _ _ _ _ _ t8 t7 j8 j9 k0 k1 k2 k3 k4 k5 k6 k7 _ _ _ _ _ _ _ _ _ _ _ _ _ _ _ _ _ _ w';rintro ⟨j,m,U,N,cv,css,q,hj,rfl,c2,hm,g1,g2,e4,a2,hR,l⟩;refine cq ?_;refine aR (fun a4=>?_) (fun a4=>?_)
 ·have a1:j<ks.length:=by omega
  obtain ⟨u,hu⟩:∃ u,u=ks[j]:=⟨_,rfl⟩
  have c1:okG u:=by rw [hu]; exact ij ht _ (cr a1)
  rw [rE ks m j j a1,<- hu] at a2;have l0:=c2.four;have i7:m.next<=900000000/\m.code.length<=900000000:=by
   have hb:m.sz<=900000000:=by omega
   unfold CS.sz at hb;omega
  obtain ⟨x1,x2,x3⟩:=EQ c2 (i:=j) ⟨by omega,by omega⟩ c1;have hz:=(vw m j u).2;refine ⟨fun qv w'=>∃ (o:Array MapEntry) (t:Nat) (B:Value) (css:List (List Value)),SlM o (bD m j u).1/\Rows 5 (RdQ S) css (q++(bD m j u).2)/\
   Inv w X ([ax qv dj 5 css]++cj G Y o t (bD m j u).1 B) S w',?_,?_⟩
  ·refine dx l h ao ad a1 (fun _ _=>RdT.length) fun ds J=>?_;rw [<- hu] at J;have e0:=J.length;refine aF l aZ fun b6 w' l=>?_;have l:=l.perm (M:=.blk b6 _::([ax qv dj 5 css]++cj G Y U N m cv)) (dy (l₁:=[_]));refine al l 0 rfl ad (by simpa using e0) rfl (by simpa using J.one) fun w' l=>?_;have a9:=J;obtain ⟨Z,rfl,_,_,_,e8⟩:=RdT.iff.1 J;have l:Inv w X ([.blk b6 (.cells #[.int .i64 u.kind,.int .i64 u.n,.string u.name,Z] ac),ax qv dj 5 css]++cj G Y U N m cv) S w':=l;have fin:∀ (o:Array MapEntry) (t:Nat) (B:Value) (O:CS) (w':World),bD m j u=(O,[])->SlM o O->Inv w X ([.blk b6 (.cells #[.int .i64 u.kind,.int .i64 u.n,.string u.name,Z] ac),ax qv dj 5 css]++cj G Y o t O B) S w'->∃ (o:Array MapEntry) (t:Nat) (B:Value) (css:List (List Value)),SlM o (bD m j u).1/\Rows 5 (RdQ S) css (q++(bD m j u).2)/\
     Inv w X ([ax qv dj 5 css]++cj G Y o t (bD m j u).1 B) S w':=fun o t B O w' e h1 h2=>by
    rw [e];exact ⟨o,t,B,css,h1,by rw [cS]; exact hR,h2.sub (jz _ _)⟩
   refine ag l 0 rfl aV az rfl ?_;refine bo ?_;refine aR (fun h2=>?_) (fun h2=>?_)
   ·refine ag l 0 rfl aM az rfl ?_;refine gM ?_;refine Run.call bt bp l (cR ⟨2,u.n,j,emptyB⟩ hm (by omega)) fun v' I' S' w'=>?_;rintro ⟨eS,b0,b1,b2,rfl,a3⟩ _ l;rw [eS] at l;exact fin _ _ _ _ _ (by rw [bD,ai h2]) a3 l
   refine bo ?_;refine aR (fun h1=>?_) (fun h1=>?_)
   ·have a5:0<=u.n/\u.n<26:=by
     rcases c1.kind with e|e|e
     ·exact e.2
     ·exact absurd e.1 h2
     ·have:=e.1; omega
    have f3:=hm.look a5.1 a5.2;refine ⟨fun D x8 x7 wV Cr th wX xd wU Cm BW z4 mU w_=>Fx D 0 [mU=.pointer (some ⟨G,0,none⟩),z4=.pointer (some ⟨G,0,none⟩),BW=.pointer (some ⟨G,0,none⟩),Cm=.map (some Y),wU=.pointer (some ⟨b6,1,none⟩),xd=.int .i64 u.n,wX=.tuple #[.int .i64 (atV m u.n),.bool (decide (0<=m.at_ u.n))],th=.tuple #[.int .i64 (atV m u.n),.bool (decide (0<=m.at_ u.n))],Cr=.int .i64 (atV m u.n),wV=.bool (decide (0<=m.at_ u.n)),x7=.int .i64 (atV m u.n),x8=.bool (decide (0<=m.at_ u.n))]/\Inv w X ([.blk b6 (.cells #[.int .i64 u.kind,.int .i64 u.n,.string u.name,Z] ac),ax qv dj 5 css]++cj G Y U N m cv) S w_,⟨Fx.nil _ _,l.draw⟩,⟨?_,?_,?_,?_,?_,?_,?_,?_,?_,?_,?_,?_,trivial⟩,?_⟩;all_goals (intro D bm; intros; rename_i x8 x7 wV Cr th wX xd wU Cm BW z4 mU w_ b3; have r:=b3.1; obtain ⟨⟨c9,cX,cZ,c4,cY,c8,cB,df,dK,eF,cW,dR,_⟩,l⟩:=b3)
    ·exact ⟨r.set 0 rfl,l⟩
    ·obtain rfl:=c9 ‹_›;refine bj ?_;exact ⟨r.set 1 rfl,l⟩
    ·obtain rfl:=cX ‹_›;refine ay dG ?_;exact ⟨r.set 2 rfl,l⟩
    ·obtain rfl:=cZ ‹_›;refine aJ l 2 ef rfl rfl ?_;exact ⟨r.set 3 rfl,l⟩
    ·refine ay aM ?_;exact ⟨r.set 4 rfl,l⟩
    ·obtain rfl:=cY ‹_›;refine aJ l 0 az rfl rfl ?_;exact ⟨r.set 5 rfl,l⟩
    ·obtain rfl:=c4 ‹_›;obtain rfl:=c8 ‹_›;refine tZ l 3 ed eY qr rfl f3 ?_;exact ⟨r.set 6 rfl,l⟩
    ·obtain rfl:=cB ‹_›;exact ⟨r.set 7 rfl,l⟩
    ·obtain rfl:=df ‹_›;refine aA rfl ?_;exact ⟨r.set 8 rfl,l⟩
    ·obtain rfl:=df ‹_›;refine aA rfl ?_;exact ⟨r.set 9 rfl,l⟩
    ·obtain rfl:=dK ‹_›;exact ⟨r.set 10 rfl,l⟩
    ·obtain rfl:=eF ‹_›;exact ⟨r.set 11 rfl,l⟩
    obtain ⟨rfl,rfl,rfl,rfl,rfl,rfl,rfl,rfl,rfl,rfl,rfl,rfl,_⟩:=r.all;clear r c9 cX cZ c4 cY c8 cB df dK eF cW dR;refine aR (fun h0=>?_) (fun h0=>?_)
    ·rw [show atV m u.n=m.at_ u.n from ai h0];refine gM ?_;refine Run.call bt bp l (cR ⟨1,m.at_ u.n,j,emptyB⟩ hm (by omega)) fun v' I' S' w'=>?_;rintro ⟨eS,b0,b1,b2,rfl,a3⟩ _ l;rw [eS] at l;exact fin _ _ _ _ _ (by rw [bD,ah h2,ai h1,ai h0]) a3 l
    have hf:Instr.findNow (.int .i64) (.int .i64 u.n) U.toList 0=some none:=by
     rcases hm.find a5.1 a5.2 with ⟨q,_⟩|⟨_,q⟩
     ·exact absurd q h0
     ·exact q
    have b4:=hm.push c2.len a5 h0 (v:=j) (by omega) N;generalize g0:U.push { key:=.int .i64 u.n,val:=.int .i64 (j:Int),born:=N }=c3 at b4;refine ⟨fun D sC sD tp xg xJ xC xT w_=>Fx D 0 [xT=.pointer (some ⟨G,0,none⟩),xC=.pointer (some ⟨G,0,none⟩),xJ=.pointer (some ⟨G,0,none⟩),xg=.map (some Y),tp=.pointer (some ⟨b6,1,none⟩),sD=.int .i64 u.n,sC=.int .i64 j,True]/\Inv w X ([.blk b6 (.cells #[.int .i64 u.kind,.int .i64 u.n,.string u.name,Z] ac),ax qv dj 5 css]++cj G Y (cond (D 7) c3 U) (cond (D 7) (N+1) N) m cv) S w_,⟨Fx.nil _ _,l.draw⟩,⟨?_,?_,?_,?_,?_,?_,?_,?_,trivial⟩,?_⟩;all_goals (intro D bm; intros; rename_i sC sD tp xg xJ xC xT w_ b3; have r:=b3.1; obtain ⟨⟨c9,cX,cZ,c4,cY,c8,cB,df,_⟩,l⟩:=b3)
    ·exact ⟨r.set 0 rfl,l⟩
    ·obtain rfl:=c9 ‹_›;refine bj ?_;exact ⟨r.set 1 rfl,l⟩
    ·obtain rfl:=cX ‹_›;refine ay dG ?_;exact ⟨r.set 2 rfl,l⟩
    ·obtain rfl:=cZ ‹_›;refine aJ l 2 ef rfl rfl ?_;exact ⟨r.set 3 rfl,l⟩
    ·refine ay aM ?_;exact ⟨r.set 4 rfl,l⟩
    ·obtain rfl:=cY ‹_›;refine aJ l 0 az rfl rfl ?_;exact ⟨r.set 5 rfl,l⟩
    ·exact ⟨r.set 6 rfl,l⟩
    ·obtain rfl:=c4 ‹_›;obtain rfl:=c8 ‹_›;obtain rfl:=cB ‹_›;rw [bm] at l;refine uV l 3 ed eY rfl hf fun w_ l=>?_;dsimp only [cond_false] at l;rw [g0] at l;exact ⟨r.set 7 trivial,l⟩
    obtain ⟨rfl,rfl,rfl,rfl,rfl,rfl,rfl,_,_⟩:=r.all;have sW:D 7=true:=by assumption
    clear r c9 cX cZ c4 cY c8 cB df;rw [sW] at l;exact fin c3 (N+1) cv (m.put u.n j) _ (by rw [bD,ah h2,ai h1,ah h0]) b4 l
   have e:bD m j u=(m,[(u,(j:Int))]):=by rw [bD,ah h2,ah h1]
   refine au l 0 ad rfl rfl ?_;refine sP ?_;have l1:=hR.hc;refine fj (css:=css) l 1 [.int .i64 u.kind,.int .i64 u.n,.string u.name,Z,.int .i64 j] qQ (by omega) (by omega) rfl rfl ?_ (by omega) (by omega) fun g7 w' l=>?_
   ·exact RdQ.one (S:=S) (x:=(u,(j:Int))) ⟨[.int .i64 u.kind,.int .i64 u.n,.string u.name,Z],rfl,a9⟩
   rw [e];refine ⟨U,N,cv,css++[[.int .i64 u.kind,.int .i64 u.n,.string u.name,Z,.int .i64 j]],hm,hR.snoc ⟨_,rfl,a9⟩ rfl,?_⟩;exact l.sub (jz _ _)
  intro qv _ _ _ _ _ _ _ _ _ _ _ _ _ _ _ _ _ _ _ _ _ _ _ _ _ _ _ _ _ _ _ _ _ _ _ _ _ _ _ _ _ _ _ _ _ _ _ _ w';rintro ⟨o,t,B,css,V,hR,l⟩;refine bz (by omega) ?_;refine ⟨⟨j+1,_,o,t,B,css,q++(bD m j u).2,a1,rfl,x1.wf,V,by omega,by omega,?_,?_,hR,l⟩,by simp [intOf]; omega⟩
  ·have:(bD m j u).2.length<=1:=by
    unfold bD;split
    ·exact aQ _
    ·split
     ·exact aQ _
     ·exact a7 _
   rw [bv]; omega
  ·rw [a2,d4]; rfl
 have e1:j=ks.length:=by omega
 subst e1;rw [dV,bG,cS] at a2;have a2:bG s 0 ks=(m,q):=a2;have f4:=mi ks s 0;rw [a2] at f4;obtain ⟨d6,h6,e9,h7⟩:=f4;have d6:s.sz<=m.sz:=d6;have e9:((cU q:Nat):Int)<=bi ks:=e9;obtain ⟨y1,y2,y3⟩:=vd ks hw (mT 0) (by omega) ht;rw [a2] at y2;have y2:PdW q m.next:=y2;have i0:gU s ks=eE (cU q) m q:=by rw [gU,a2]
 rw [i0];obtain ⟨a8,f1⟩:∃ a8,a8=(eE (cU q) m q).code.length:=⟨_,rfl⟩
 obtain ⟨it,d7,l⟩:=l.toQ (i:=0) rfl hR.hk;have l:Inv w X ([it]++cj G Y U N m cv) S _:=l;have hB:m.sz+8 * cU q<=800000000/\0<=m.sz:=by omega
 clear d6 h6 h7 y1 y3 g2 e4 g1;refine ⟨fun qv w'=>∃ (f:Nat) (O:CS) (o:Array MapEntry) (t:Nat) (B:Value) (css:List (List Value)) (V:List (T × Int)) (it:Item),cU V<=f/\eE (cU q) m q=eE f O V/\Wf O/\SlM o O/\PdW V O.next/\O.sz+8 * cU V<=800000000+2 * V.length/\0<=O.sz/\Rows 5 (RdQ S) css V/\QOK dj 5 qv it css/\
   Inv w X ([it]++cj G Y o t O B) S w',fun _ w'=>a8 - nN G w',
   ⟨cU q,m,U,N,cv,css,q,it,a7 _,rfl,c2,hm,y2,by omega,by omega,hR,d7,l⟩,?_⟩
 intro _ _ _ _ _ _ _ _ _ _ _ _ _ _ _ _ _ _ _ _ _ _ _ _ _ _ _ _ _ _ _ _ _ _ _ _ _ _ _ _ _ qv _ _ _ _ _ _ _ _ _ w';rintro ⟨f,O,U,N,cv,css,V,it,hf,a0,e5,hm,e6,g3,g4,hR,hq,l⟩;obtain ⟨qa,i6,h8⟩:=hq.slice;have f5:=hR.hc;subst h8;refine gg qD ?_;refine eD ?_;refine aR (fun a4=>?_) (fun a4=>?_)
 ·obtain ⟨cs,css,rfl⟩:∃ cs f9,css=cs::f9:=by
   cases css with
   | nil=>simp at a4
   | cons a b=>exact ⟨a,b,rfl⟩
  obtain ⟨x,V,rfl⟩:∃ x q3,V=x::q3:=by
   cases V with
   | nil=>simp at f5
   | cons a b=>exact ⟨a,b,rfl⟩
  have hx:=e6 x (cQ ..);have i1:RdQ S cs x:=hR.hR 0 (by simp) (by simp);have i2:Rows 5 (RdQ S) css V:=Fd hR;obtain ⟨ds,rfl,J⟩:=i1;obtain ⟨kx,rfl,_,_,_,c6⟩:=RdT.iff.1 J;have i3:=c6.le;simp only [maxLen] at i3;rw [cU,bg] at g3;have f6:(bT x.1).toNat=1+(bi x.1.kids).toNat:=by
   have:=bW x.1.kids;obtain ⟨x1,x2⟩:=x;cases x1;simp only [bT,T.kids] at this ⊢;omega
  have l2:=bW x.1.kids;have i8:=fW x.1.kids;have l3:=e5.four;have l4:O.next<=810000000/\O.code.length<=810000000:=by
   have hb:O.sz<=810000000:=by have:=fq V; omega
   unfold CS.sz at hb;omega
  obtain ⟨f,rfl⟩:∃ g,f=g+1:=⟨f - 1,by rw [cU,f6] at hf; omega⟩
  have l5:cU V+(bi x.1.kids).toNat<=f:=by rw [cU,f6] at hf; omega
  rw [eE] at a0;have e2:=uo l;refine HT l 0 rfl qD B5 hq fun p=>?_;refine aF l GI fun b9 w' l=>?_;have l:=l.perm (M:=.blk b9 _::([it]++cj G Y U N O cv)) (dy (l₁:=[_]));refine al l 0 rfl B5 rfl rfl (by simpa using RdQ.one (S:=S) (x:=x) ⟨_,rfl,J⟩) fun w' l=>?_;have l:Inv w X ([.blk b9 (.cells #[.int .i64 x.1.kind,.int .i64 x.1.n,.string x.1.name,kx,.int .i64 x.2] dj),it]++cj G Y U N O cv) S w':=l;refine FW qD hq fun qv hq=>?_;refine ay nt ?_;refine ay av ?_;refine aJ l 0 ar rfl rfl ?_;refine aL c6 ao ?_;refine ag l 0 rfl Cu az rfl ?_;refine ay nt ?_;refine ay aW ?_;refine aJ l 0 aO rfl rfl ?_;refine zw ?_;refine Run.call bt bp l (cR ⟨3,x.1.kids.length,x.2,x.1.name⟩ hm (by omega)) fun v' I' S' w'=>?_;rintro ⟨eS,c3,g5,g6,rfl,b4⟩ _ l;rw [eS] at l;refine ay nt ?_;refine ay av ?_;refine aJ l 0 ar rfl rfl ?_;refine aL c6 ao ?_;obtain ⟨se,b7⟩:∃ se,se=O.emit ⟨3,x.1.kids.length,x.2,x.1.name⟩:=⟨_,rfl⟩
  have f7:Wf se:=by rw [b7]; exact e5.emit _
  have l6:se.sz=O.sz+1:=by rw [b7,dc]
  have l7:se.code.length=O.code.length+1:=by rw [b7]; show (O.code++[_]).length=_; rw [bv]; rfl
  rw [<- b7] at a0 b4 l;obtain ⟨d9,b8⟩:=tQ x.1.kids f7 hx.1.kids;have f8:=n9 x.1.kids se;have d0:=kC x.1.kids se;obtain ⟨A,hA⟩:∃ A,A=bA se x.1.kids:=⟨_,rfl⟩
  rw [<- hA] at a0 d9 b8 f8 d0;have l8:O.next<=se.next:=by rw [b7]; exact mT _
  refine ⟨fun i qv w'=>∃ (j:Nat) (m:CS) (o:Array MapEntry) (t:Nat) (B:Value) (css:List (List Value)) (qj:List (T × Int)) (it:Item),j<=x.1.kids.length/\i=.int .i64 j/\Wf m/\SlM o m/\se.sz<=m.sz/\m.sz<=se.sz+2 * j/\se.code.length<=m.code.length/\qj.length<=j/\A=((bA m (x.1.kids.drop j)).1,qj++(bA m (x.1.kids.drop j)).2)/\Rows 5 (RdQ S) css (V++qj)/\QOK dj 5 qv it css/\
   Inv w X ([.blk b9 (.cells #[.int .i64 x.1.kind,.int .i64 x.1.n,.string x.1.name,kx,.int .i64 x.2] dj),it]++cj G Y o t m B) S w',fun i _ _=>x.1.kids.length - (intOf i).toNat,
   ⟨0,se,c3,g5,g6,css,[],it,aQ _,rfl,f7,b4,by omega,by omega,a7 _,a7 _,by rw [dk,hA]; rfl,by rw [cS]; exact i2,hq,l⟩,?_⟩
  intro i _ qv _ _ _ _ _ _ _ _ _ _ _ _ _ _ _ _ _ _ _ _ _ _ _ w';rintro ⟨j,C,U,N,cv,css,qj,it,hj,rfl,c5,hm,k8,a5,k9,e4,b5,hR,hq,l⟩;refine cq ?_;refine aR (fun a4=>?_) (fun a4=>?_)
  ·have a1:j<x.1.kids.length:=by omega
   obtain ⟨u,hu⟩:∃ u,u=x.1.kids[j]:=⟨_,rfl⟩
   have c1:okG u:=by rw [hu]; exact ij hx.1.kids _ (cr a1)
   rw [vE _ C j a1,<- hu] at b5;have l9:=c5.four;have i9:C.next<=820000000/\C.code.length<=820000000:=by
    have hb:C.sz<=820000000:=by have:=fq V; omega
    unfold CS.sz at hb;omega
   have j0:css.length=V.length+qj.length:=by rw [hR.hc,bv]
   have m0:=fq V;refine ⟨fun qv w'=>∃ (o:Array MapEntry) (t:Nat) (B:Value) (css:List (List Value)) (it:Item),SlM o (co C u).1/\Rows 5 (RdQ S) css (V++(qj++(co C u).2))/\QOK dj 5 qv it css/\
    Inv w X ([.blk b9 (.cells #[.int .i64 x.1.kind,.int .i64 x.1.n,.string x.1.name,kx,.int .i64 x.2] dj),it]++cj G Y o t (co C u).1 B) S w',?_,?_⟩
   ·refine dx l c6 ao ad a1 (fun _ _=>RdT.length) fun ds J=>?_;rw [<- hu] at J;have e0:=J.length;refine aF l aZ fun e7 w' l=>?_;have l:=l.perm (M:=.blk e7 _::([.blk b9 (.cells #[.int .i64 x.1.kind,.int .i64 x.1.n,.string x.1.name,kx,.int .i64 x.2] dj),it]++cj G Y U N C cv)) (dy (l₁:=[_]));refine al l 0 rfl ad (by simpa using e0) rfl (by simpa using J.one) fun w' l=>?_;have a9:=J;obtain ⟨Z,rfl,_,_,_,e8⟩:=RdT.iff.1 J;have l:Inv w X ([.blk e7 (.cells #[.int .i64 u.kind,.int .i64 u.n,.string u.name,Z] ac),.blk b9 (.cells #[.int .i64 x.1.kind,.int .i64 x.1.n,.string x.1.name,kx,.int .i64 x.2] dj),it]++cj G Y U N C cv) S w':=l;refine ag l 0 rfl aV az rfl ?_;refine BU ?_;refine aE (fun h3=>?_) (fun h3=>?_)
    ·have h3:u.kind≠3:=by simpa using h3
     have e:co C u=(dJ C u,[]):=by rw [co,ah h3]
     refine au l 0 ad rfl rfl ?_;refine Run.call f0 ge l (kR a9 c5 hm c1 h3 (by
      have:=fq V;omega)) fun v' I' S' w'=>?_
     rintro ⟨eS,b0,b1,b2,rfl,a3⟩ _ l;rw [eS] at l;rw [e];exact ⟨b0,b1,b2,css,it,a3,by rw [cS]; exact hR,hq,l.sub (jz _ _)⟩
    ·have h3:u.kind=3:=by simpa using h3
     have e:co C u=((C.emit ⟨4,C.next,0,emptyB⟩).inc,[(u,C.next)]):=by rw [co,ai h3]
     refine Run.call fk fg l (kw (s:=C) (by omega)) fun v' I' S' w'=>?_;rintro ⟨eS,rfl,rfl⟩ _ l;rw [eS] at l;refine jg ?_;refine Run.call bt bp l (cR (s:=C.inc) ⟨4,C.next,0,emptyB⟩ hm (by show C.code.length<=_; omega)) fun v' I' S' w'=>?_;rintro ⟨eS,b0,b1,b2,rfl,a3⟩ _ l;rw [eS] at l;refine au l 0 ad rfl rfl ?_;refine sP ?_;refine jN l qQ rfl (by omega) (by omega) fun w2 l=>?_;refine Fz (o':=0) l 2 [.int .i64 u.kind,.int .i64 u.n,.string u.name,Z,.int .i64 C.next] qQ (by omega) rfl hq rfl (fun j v hj=>by
      rw [ct,l.cellL (i:=6) rfl];simpa [Value.cells] using hj) (RdQ.one (S:=S) (x:=(u,C.next)) ⟨[.int .i64 u.kind,.int .i64 u.n,.string u.name,Z],rfl,a9⟩) (by omega) (by omega) fun g7 g9 w' hq l=>?_
     rw [e];refine ⟨b0,b1,b2,_,g9,a3,?_,hq,?_⟩
     ·rw [<- d4];exact hR.snoc ⟨_,rfl,a9⟩ rfl
     ·exact l.pick [false,true,true,true,true,true,false]
   intro qv _ _ _ _ _ _ _ _ _ _ _ _ _ _ _ _ _ _ _ _ _ _ w';rintro ⟨o,t,B,css,it,h5,hR,hq,l⟩;refine bz (by omega) ?_;have hz:=yC C u;have m1:(co C u).1.code.length=C.code.length+1:=by
    unfold co;split
    ·show (C.code++[_]).length=_;rw [bv]; rfl
    ·show (dJ C u).code.length=_;rw [xc,bv]; rfl
   refine ⟨⟨j+1,_,o,t,B,css,qj++(co C u).2,it,a1,rfl,(EE c5 c1).1.wf,h5,by omega,by omega,by omega,?_,?_,hR,hq,l⟩,by simp [intOf]; omega⟩
   ·have:(co C u).2.length<=1:=by
     unfold co;split
     ·exact a7 _
     ·exact aQ _
    rw [bv]; omega
   ·rw [b5,d4]
  have e1:j=x.1.kids.length:=by omega
  subst e1;rw [dV,bA,cS] at b5;rw [b5] at a0 d9 b8 f8 d0;have a0:eE (cU q) m q=eE f C (V++qj):=a0;have b8:PdW qj C.next:=b8;have m2:se.next<=C.next:=d9.next;have d0:(x.1.kids.length:Int)+4 * cU qj<=4 * bi x.1.kids+qj.length:=d0;have l:Inv w X ([it]++cj G Y U N C cv) S _:=l.sub (jz _ _);have e3:=uo l;have m3:=fq qj;have i4:C.code.length<=a8:=by
   rw [f1,a0,xA,bv]; omega
  refine ⟨⟨f,C,U,N,cv,css,V++qj,it,?_,a0,c5,hm,fun p hp=>?_,?_,by omega,hR,hq,l⟩,?_⟩
  ·rw [fx];have:=rc x.1.kids se;rw [<- hA,b5] at this;have this:cU qj<=_:=this;omega
  ·rcases dh.1 hp with hp|hp
   ·obtain ⟨d1,d2,d3⟩:=e6 p (c7 _ hp);exact ⟨d1,d2,by omega⟩
   ·exact b8 p hp
  ·rw [fx,bv];omega
  ·show a8 - nN G _<a8 - nN G _;rw [e3,e2];omega
 ·have i5:css=[]:=by
   cases css with
   | nil=>rfl
   | cons a b=>simp at a4
  subst i5;have d7:V=[]:=kP (by rw [<- f5]; rfl);subst d7;have e:eE f O []=O:=by cases f <;> rfl
  rw [a0,e];exact ⟨_,_,_,rfl,l.sub (fF _ _),Ext.refl _ _ _,rfl,U,N,cv,rfl,hm⟩
end
end
section
open Go Go.RowKit
theorem RdQ.mono {S S':af} {cs:List Value} {x:T × Int} (a:Sle S S') (h:RdQ S cs x):RdQ S' cs x:=by
 obtain ⟨ds,e,g⟩:=h;exact ⟨ds,e,g.mono a⟩
def emS (w:World) (X:List Nat) (F:Array Value->List Item) (S:af) (c0:Array Value) (s:CS) (xr:Value) (w':World):Nat->Prop
 | 0=>Inv w X (F c0) S w'
 | 1=>∃ S2 cs2,xr=.agg cs2.toArray/\MkS S2 cs2 s/\Ext w.heap.size X S S2/\Inv w X (F c0) S2 w'
 | _=>∃ S2 cs2,MkS S2 cs2 s/\Ext w.heap.size X S S2/\Inv w X (F cs2.toArray) S2 w'
section
variable {w w':World} {X:List Nat} {F:Array Value->List Item} {S:af} {c0:Array Value} {s:CS} {xr:Value}
theorem emS.inv:∀ {n:Nat},n<2->emS w X F S c0 s xr w' n->∃ S2,Sle S S2/\Inv w X (F c0) S2 w'
 | 0,_,h=>⟨S,Sle.refl S,h⟩
 | 1,_,⟨S2,_,_,_,hE,h⟩=>⟨S2,hE.1,h⟩
 | _+2,h,_=>absurd h (by omega)
theorem emS.any:∀ {n:Nat},emS w X F S c0 s xr w' n->∃ S2 c,Sle S S2/\Inv w X (F c) S2 w'
 | 0,h=>⟨S,c0,Sle.refl S,h⟩
 | 1,⟨S2,_,_,_,hE,h⟩=>⟨S2,c0,hE.1,h⟩
 | _+2,⟨S2,_,_,hE,h⟩=>⟨S2,_,hE.1,h⟩
theorem Fe {b:Bool} {n:Nat} (h:b=decide (2<=n)) (a:b=false):n<2:=by
 rw [a] at h;have:=of_decide_eq_false h.symm;omega
end
theorem qM {s:CS} {m:Nat} (h:m<s.sl.length):s.at_ (m:Int)=s.sl[m]:=by
 show s.sl[(m:Int).toNat]?.getD (-1)=_;rw [gS,Br h]; rfl
section
attribute [local irreducible] Run CondV aw aI
theorem ru {w:World} {K:Value->World->Prop} {a b k:Int} {s:ByteArray} {x:Value} (hk:K (.agg #[.int .i64 a,.int .i64 b,.string s,x,.int .i64 k]) w) :
  Run Tryz.prog (bP bH [(0,.agg #[.int .i64 a,.int .i64 b,.string s,x]),(1,.int .i64 k)]) w K:=by
 refine Run.of (v:=.agg #[.int .i64 a,.int .i64 b,.string s,x,.int .i64 k]) (w':=w) ?_ hk;unfold bP;rw [Sem.run_bind,run_build w bH _ #[.int .i64 a,.int .i64 b,.string s,x,.int .i64 k] (by kernel_rfl),Result.andThen_ok];rfl
set_option maxHeartbeats 1000000 in
theorem o7 {s:CS} {ts:List T} {S:af} {cs:List Value} {v:Value} (h:MkS S cs s) (b6:RdSl S 4 (RdT S) v ts) (ho:∀ t∈ts,okU 26 t) (hl:s.sl.length=26) (d1:0<=s.next) (f1:s.sz+2 * ts.length<=900000000) :
  Tri Tryz.prog CJ [.agg cs.toArray,v] [] S fun r I' S'=>I'=[]/\∃ d0 u,r=.tuple #[.agg d0.toArray,u]/\MkS S' d0 (bA s ts).1/\RdSl S' 5 (RdQ S') u (bA s ts).2:=by
 intro w a;have g6:=h.length;have c3:=b6.le;simp only [maxLen] at c3;have g7:0<=s.sz:=by unfold CS.sz; omega
 refine sR.2 ?_;dsimp only[sR,a6];refine bB a fun b2 w' a=>?_;refine aF a dg fun b4 w' a=>?_;refine ey a gK fun Z w' a=>?_;obtain ⟨B4,c1⟩:∃ B4,B4=Item.blk b4 (.cells #[.slice none 0 0,.int .i64 0,.slice none 0 0] aj):=⟨_,rfl⟩
 have e4:=congrArg some c1;have a:Inv w [] [.blk b2 (.cells cs.toArray aj),B4,ax Z bH 5 []] S w':=by rw [c1]; exact a
 refine ⟨fun i Z w'=>∃ (j:Nat) (g:CS) (U:List Value) (Sj:af) (css:List (List Value)) (q:List (T × Int)),j<=ts.length/\i=.int .i64 j/\Ext w.heap.size [] S Sj/\MkS Sj U g/\g.sl.length=26/\0<=g.next/\g.sz<=s.sz+2 * j/\q.length<=j/\bA s ts=((bA g (ts.drop j)).1,q++(bA g (ts.drop j)).2)/\Rows 5 (RdQ Sj) css q/\
   Inv w [] [.blk b2 (.cells U.toArray aj),B4,ax Z bH 5 css] Sj w',fun i _ _=>ts.length - (intOf i).toNat,
   ⟨0,s,cs,S,[],[],aQ _,rfl,Ext.refl _ _ _,h,hl,d1,by omega,by simp,by rw [dk,ss],Rows.nil _ _,a⟩,?_⟩
 intro i _ _ _ _ _ _ _ _ _ _ _ Z _ _ _ _ _ _ _ _ _ _ _ _ _ _ _ _ _ _ _ _ _ _ _ _ _ _ f2 f3 f4 f5 f6 f7 f8 f9 g0 _ _ _ _ _ _ _ _ _ _ _ _ _ _ _ _ _ _ _ _ _ _ _ _ _ _ _ _ _ _ _ w';rintro ⟨j,g,U,Sj,css,q,hj,rfl,b1,G,b7,g3,g4,g5,hA,hR,a⟩;have b0:=b6.monoT b1.1;have Y:=G.length;refine aL b0 ao ?_;refine cq ?_;refine aR (fun d7=>?_) (fun d7=>?_)
 ·have a8:j<ts.length:=by omega
  obtain ⟨u,hu⟩:∃ u,u=ts[j]:=⟨_,rfl⟩
  have a9:okU 26 u:=by rw [hu]; exact ho _ (cr a8)
  rw [vE ts g j a8,<- hu] at hA;have g8:=hR.hc;have hb:g.sz<=900000000:=by omega
  have f0:g.next<=900000000/\g.code.length<=900000000:=by
   unfold CS.sz at hb;omega
  refine ⟨fun Z w'=>∃ (p:List Value) (Sn:af) (css:List (List Value)),Ext w.heap.size [] Sj Sn/\MkS Sn p (co g u).1/\Rows 5 (RdQ Sn) css (q++(co g u).2)/\
    Inv w [] [.blk b2 (.cells p.toArray aj),B4,ax Z bH 5 css] Sn w',?_,?_⟩
  ·refine dx a b0 ao ad a8 (fun _ _=>RdT.length) fun ds a2=>?_;rw [<- hu] at a2;have e5:=a2.length;refine aF a aZ fun b8 w' a=>?_;refine al a 3 rfl ad (by simpa using e5) rfl (by simpa using a2.one) fun w' a=>?_;have c6:=a2;obtain ⟨a3,rfl,_,_,_,e9⟩:=RdT.iff.1 a2;obtain ⟨B8,c2⟩:∃ B8,B8=Item.blk b8 (.cells #[.int .i64 u.kind,.int .i64 u.n,.string u.name,a3] ac):=⟨_,rfl⟩
   have e8:=congrArg some c2;have a:Inv w [] [.blk b2 (.cells U.toArray aj),B4,ax Z bH 5 css,B8] Sj w':=by rw [c2]; exact a
   have fin:∀ (p:List Value) (Sn:af) (sn:CS) (w':World),co g u=(sn,[])->Ext w.heap.size [] Sj Sn->MkS Sn p sn->Inv w [] [.blk b2 (.cells p.toArray aj),B4,ax Z bH 5 css,B8] Sn w'->∃ (p:List Value) (Sn:af) (css:List (List Value)),Ext w.heap.size [] Sj Sn/\MkS Sn p (co g u).1/\Rows 5 (RdQ Sn) css (q++(co g u).2)/\
     Inv w [] [.blk b2 (.cells p.toArray aj),B4,ax Z bH 5 css] Sn w':=fun p Sn sn w' e h1 h2 h3=>by
    rw [e];exact ⟨p,Sn,css,h1,h2,by rw [cS]; exact hR.monoR fun _ _ h=>h.mono h1.1,h3.pick [true,true,true,false]⟩
   refine ag a 3 e8 aV az rfl ?_;refine bo ?_;refine aR (fun h2=>?_) (fun h2=>?_)
   ·refine au a 0 aq rfl (by simpa using Y) ?_;refine ag a 3 e8 aM az rfl ?_;refine jg ?_;refine Run.call0E ch cg a (bR ⟨6,u.n,0,emptyB⟩ G (by omega)) fun v' I' S2 w'=>?_;rintro ⟨rfl,J,rfl,l⟩ N a;refine al a 0 rfl aq (by simpa using l.length) (by simpa using Y) (by simpa using l.one) fun w' a=>?_;exact fin J S2 _ _ (by rw [co,ah (by omega),dJ,ai h2]) N l a
   refine ⟨fun q w'=>q=.bool (decide (u.kind=1/\0<=g.at_ u.n))/\Inv w [] [.blk b2 (.cells U.toArray aj),B4,ax Z bH 5 css,B8] Sj w',?_,?_⟩
   ·refine ag a 3 e8 aV az rfl ?_;refine bo ?_;by_cases h1:u.kind=1
    ·rw [bb h1];refine rpG ?_;obtain ⟨v1,v2,rfl,g1,g2⟩:=id G;have hv:=a9.var h1;obtain ⟨m,hm⟩:∃ m:Nat,u.n=(m:Int):=⟨u.n.toNat,by omega⟩
     have a1:m<g.sl.length:=by omega
     refine ag a 0 rfl cH fi rfl ?_;refine ag a 3 e8 aM az rfl ?_;rw [hm,qM a1];refine i7 a g1 el az a1 (fun cs d9=>d9) ?_;refine jI ?_;refine rpG ?_;refine ⟨?_,a⟩;simp [h1]
    ·rw [bk h1];refine rpG ?_;refine ⟨?_,a⟩;simp [h1]
   intro z _ _ _ _ _ _ _ _ _ _ _ _ w';rintro ⟨rfl,a⟩;refine aR (fun b3=>?_) (fun b3=>?_)
   ·obtain ⟨h1,h0⟩:=b3;have e:co g u=(g.emit ⟨5,g.at_ u.n,0,emptyB⟩,[]):=by rw [co,ah (by omega),dJ,ah h2,ai h0]
    have hv:=a9.var h1;obtain ⟨m,hm⟩:∃ m:Nat,u.n=(m:Int):=⟨u.n.toNat,by omega⟩
    have a1:m<g.sl.length:=by omega
    obtain ⟨v1,v2,rfl,g1,g2⟩:=id G;obtain ⟨bq,oq,cap,c,E,fz,rfl,e1,e2⟩:=g1.at_ a1;have e6:=qM a1;refine ⟨fun D Ix Ck Ac yd xh tK sC sD tp w_=>Fx D 0 [tp=.agg #[.slice (some ⟨bq,oq,none⟩) g.sl.length cap,.int .i64 g.next,v2],sD=.pointer (some ⟨b2,0,none⟩),sC=.slice (some ⟨bq,oq,none⟩) g.sl.length cap,tK=.pointer (some ⟨b8,1,none⟩),xh=.int .i64 (m:Int),yd=.pointer (some ⟨bq,oq+m * 1,none⟩),Ac=.int .i64 (g.at_ u.n),Ck=.agg (Ist.cells ⟨5,g.at_ u.n,0,emptyB⟩).toArray,True,True]/\∃ n_:Nat,n_<=2/\D 8=decide (1<=n_)/\D 9=decide (2<=n_)/\(emS w [] (fun c=>[.blk b2 (.cells c aj),B4,ax Z bH 5 css,B8]) Sj #[.slice (some ⟨bq,oq,none⟩) g.sl.length cap,.int .i64 g.next,v2] (g.emit ⟨5,g.at_ u.n,0,emptyB⟩) Ix w_ n_/\(D 9=true->D 0=true/\D 2=true)),⟨Fx.nil _ _,⟨0,aQ _,rfl,rfl,⟨a.draw,aP⟩⟩⟩,⟨?_,?_,?_,?_,?_,?_,?_,?_,?_,?_,trivial⟩,?_⟩;all_goals (intro D bm; intros; rename_i Ix Ck Ac yd xh tK sC sD tp w_ b9; have M:=b9.1; obtain ⟨⟨c9,cX,cZ,c4,cY,c8,cB,df,dK,eF,_⟩,⟨n_,O,B,o,C⟩⟩:=b9)
    ·have eF:D 9=false:=bS.2 fun h=>by rw [(C.2 h).1] at bm; cases bm
     obtain ⟨S5,a4,a⟩:=C.1.inv (Fe o eF);refine au a 0 aq rfl rfl ?_;have C:=And.intro C.1 (fun (h:aB D 0 9=true)=>(⟨rfl,(C.2 h).2⟩:aB D 0 0=true/\aB D 0 2=true));exact ⟨M.set 0 rfl,⟨n_,O,B,o,C⟩⟩
    ·refine ay cH ?_;exact ⟨M.set 1 rfl,⟨n_,O,B,o,C⟩⟩
    ·obtain rfl:=cX ‹_›;have eF:D 9=false:=bS.2 fun h=>by rw [(C.2 h).2] at bm; cases bm
     obtain ⟨S5,a4,a⟩:=C.1.inv (Fe o eF);refine aJ a 0 fi rfl rfl ?_;have C:=And.intro C.1 (fun (h:aB D 2 9=true)=>(⟨(C.2 h).1,rfl⟩:aB D 2 0=true/\aB D 2 2=true));exact ⟨M.set 2 rfl,⟨n_,O,B,o,C⟩⟩
    ·refine ay aM ?_;exact ⟨M.set 3 rfl,⟨n_,O,B,o,C⟩⟩
    ·obtain rfl:=c4 ‹_›;obtain ⟨S5,c5,a4,a⟩:=C.1.any;refine aJ (v:=.int .i64 (m:Int)) a 3 az e8 (by rw [<- hm]; rfl) ?_;exact ⟨M.set 4 rfl,⟨n_,O,B,o,C⟩⟩
    ·obtain rfl:=cZ ‹_›;obtain rfl:=cY ‹_›;refine aN el a1 ?_;exact ⟨M.set 5 rfl,⟨n_,O,B,o,C⟩⟩
    ·obtain rfl:=c8 ‹_›;obtain ⟨S5,c5,a4,a⟩:=C.1.any;refine dq (v:=.int .i64 (g.at_ u.n)) az (by rw [a.cellS (a4 _ _ e1),hm,e6]; exact aX e2 0 _ rfl) ?_;exact ⟨M.set 6 rfl,⟨n_,O,B,o,C⟩⟩
    ·obtain rfl:=cB ‹_›;refine jg ?_;exact ⟨M.set 7 rfl,⟨n_,O,B,o,C⟩⟩
    ·obtain rfl:=c9 ‹_›;obtain rfl:=df ‹_›;obtain rfl:n_=0:=s9 B bm;refine Run.call0E ch cg C.1 (bR ⟨5,g.at_ u.n,0,emptyB⟩ G (by omega)) fun v' I' S2 w_=>?_;rintro ⟨rfl,J,rfl,l⟩ N a;have b5:emS w [] (fun c=>[.blk b2 (.cells c aj),B4,ax Z bH 5 css,B8]) Sj #[.slice (some ⟨bq,oq,none⟩) g.sl.length cap,.int .i64 g.next,v2] (g.emit ⟨5,g.at_ u.n,0,emptyB⟩) (.agg J.toArray) w_ 1:=⟨S2,J,rfl,l,N,a⟩
     exact ⟨M.set 8 (by first|assumption|trivial),⟨1,by decide,rfl,(by first|exact o|rfl),⟨b5,C.2⟩⟩⟩
    ·have wZ:=dK ‹_›;obtain rfl:n_=1:=fK B ‹D 8=true› o bm;obtain ⟨S2,J,rfl,l,N,a⟩:=C.1;refine al a 0 rfl aq (by simpa using l.length) rfl (by simpa using l.one) fun w_ a=>?_;have b5:emS w [] (fun c=>[.blk b2 (.cells c aj),B4,ax Z bH 5 css,B8]) Sj #[.slice (some ⟨bq,oq,none⟩) g.sl.length cap,.int .i64 g.next,v2] (g.emit ⟨5,g.at_ u.n,0,emptyB⟩) (.agg J.toArray) w_ 2:=⟨S2,J,l,N,a⟩
     exact ⟨M.set 9 trivial,⟨2,by decide,(by first|exact B|rfl),rfl,⟨b5,fun _=>⟨‹D 0=true›,‹D 2=true›⟩⟩⟩⟩
    obtain rfl:n_=2:=qF O o ‹D 9=true›;clear B o;obtain ⟨S2,J,l,N,a⟩:=C.1;exact fin J S2 _ _ e N l a
   refine ag a 3 e8 aV az rfl ?_;refine bo ?_;obtain ⟨v1,v2,rfl,g1,g2⟩:=id G;refine aR (fun h1=>?_) (fun h1=>?_)
   ·have hv:=a9.var h1;have h0:¬ 0<=g.at_ u.n:=fun h0=>b3 ⟨h1,h0⟩;have e:co g u=(((g.put u.n g.next).emit ⟨4,g.next,0,emptyB⟩).inc,[]):=by rw [co,ah (by omega),dJ,ah h2,ah h0]
    refine au a 0 aq rfl rfl ?_;refine ag a 3 e8 aM az rfl ?_;refine ag a 0 rfl bV az rfl ?_;refine Run.call0E lr lx a (kl (n:=u.n) (k:=g.next) G b7 (by omega)) fun v' I' S2 w'=>?_;rintro ⟨rfl,J,rfl,l⟩ N a;refine al a 0 rfl aq (by simpa using l.length) rfl (by simpa using l.one) fun w' a=>?_;obtain ⟨p1,p2,rfl,q1,q2⟩:=id l;refine au a 0 aq rfl rfl ?_;refine ag a 0 rfl bV az rfl ?_;refine jg ?_;refine Run.call0E ch cg a (bR ⟨4,g.next,0,emptyB⟩ l (by show g.code.length<=_; omega)) fun v' I' S3 w'=>?_;rintro ⟨rfl,d2,rfl,a0⟩ V a;refine al a 0 rfl aq (by simpa using a0.length) rfl (by simpa using a0.one) fun w' a=>?_;obtain ⟨z1,z2,rfl,y1,y2⟩:=id a0;refine ag a 0 rfl bV az rfl ?_;have en:((g.put u.n g.next).emit ⟨4,g.next,0,emptyB⟩).next=g.next:=rfl;rw [en];refine bz (by omega) ?_;refine dl a 0 rfl bV az rfl rfl rfl fun w' a=>?_;exact fin [z1,.int .i64 (g.next+1),z2] S3 _ _ e (N.trans V) ⟨z1,z2,rfl,y1,y2⟩ a
   ·have h3:u.kind=3:=by have:=a9.three; omega
    have e:co g u=((g.emit ⟨4,g.next,0,emptyB⟩).inc,[(u,g.next)]):=by rw [co,ai h3]
    refine au a 3 ad e8 rfl ?_;refine ag a 0 rfl bV az rfl ?_;refine ru ?_;refine fj (css:=css) a 2 [.int .i64 u.kind,.int .i64 u.n,.string u.name,a3,.int .i64 g.next] gK (by omega) (by omega) rfl rfl ?_ (by omega) (by omega) fun e0 w' a=>?_
    ·exact RdQ.one (S:=Sj) (x:=(u,g.next)) ⟨[.int .i64 u.kind,.int .i64 u.n,.string u.name,a3],rfl,c6⟩
    have c7:Rows 5 (RdQ Sj) (css++[[.int .i64 u.kind,.int .i64 u.n,.string u.name,a3,.int .i64 g.next]]) (q++[(u,g.next)]):=hR.snoc ⟨_,rfl,c6⟩ rfl;generalize css++[[.int .i64 u.kind,.int .i64 u.n,.string u.name,a3,.int .i64 g.next]]=css2 at a c7;have a:Inv w [] [.blk b2 (.cells #[v1,.int .i64 g.next,v2] aj),B4,ax e0 bH 5 css2,B8] Sj w':=a.pick [true,true,true,true,false];refine au a 0 aq rfl rfl ?_;refine ag a 0 rfl bV az rfl ?_;refine jg ?_;refine Run.call0E ch cg a (bR ⟨4,g.next,0,emptyB⟩ G (by omega)) fun v' I' S3 w'=>?_;rintro ⟨rfl,d2,rfl,a0⟩ V a;refine al a 0 rfl aq (by simpa using a0.length) rfl (by simpa using a0.one) fun w' a=>?_;obtain ⟨z1,z2,rfl,y1,y2⟩:=id a0;refine ag a 0 rfl bV az rfl ?_;have en:(g.emit ⟨4,g.next,0,emptyB⟩).next=g.next:=rfl;rw [en];refine bz (by omega) ?_;refine dl a 0 rfl bV az rfl rfl rfl fun w' a=>?_;rw [e];exact ⟨[z1,.int .i64 (g.next+1),z2],S3,css2,V,⟨z1,z2,rfl,y1,y2⟩,c7.monoR fun _ _ h=>h.mono V.1,a.pick [true,true,true,false]⟩
  intro _ _ _ _ _ _ _ _ _ Z _ _ _ _ _ _ _ _ _ _ _ _ _ _ _ _ _ _ _ _ _ _ _ _ _ _ _ _ _ _ _ _ _ _ _ _ _ _ _ _ _ _ _ _ _ _ _ _ _ _ _ _ _ _ _ _ _ _ _ _ _ _ w';rintro ⟨p,Sn,css,d3,d6,hR,a⟩;refine bz (by omega) ?_;have hg:=Ea g u;have hz:=(yC g u).2;refine ⟨⟨j+1,(co g u).1,p,Sn,css,q++(co g u).2,a8,rfl,b1.trans d3,d6,by rw [hg.len]; exact b7,by have:=hg.next; omega,by omega,?_,?_,hR,a⟩,by simp [intOf]; omega⟩
  ·have:(co g u).2.length<=1:=by
    unfold co;split
    ·exact a7 _
    ·exact aQ _
   rw [bv]; omega
  ·rw [hA,d4]
 have e7:j=ts.length:=by omega
 subst e7;rw [dV,bA,cS] at hA;rw [hA];refine au a 0 aq rfl (by simpa using Y) ?_;refine al a 1 e4 aq (by simpa using Y) rfl (by simpa using G.one) fun w' a=>?_;refine a5 a 1 aq rfl (by simpa using Y) ?_;have a:Inv w [] ([.blk b2 (.cells U.toArray aj),.blk b4 (.cells U.toArray aj)]++[ax Z bH 5 css]) Sj w':=a;obtain ⟨S3,V,e3,a⟩:=a.lendExt;exact ⟨_,_,S3,rfl,a.nil,b1.trans V,rfl,U,Z,rfl,G.mono V.1,RowRd.rows (hR.monoR fun _ _ h=>h.mono V.1) e3⟩
end
end
section
open Go Go.RowKit
theorem oo {l:List Int} {n a b:Int} (g:n∈l) (h:(l.all fun n=>decide (a<=n) && decide (n<=b))=true):a<=n/\n<=b:=by
 rw [gR] at h;have:=h n g;rw [bJ,bQ,bQ] at this;exact this
theorem mn {l:List ByteArray} {s:ByteArray} {m:Nat} (a:s∈l) (h:(l.all fun s=>decide (s.size<=m))=true):s.size<=m:=by
 rw [gR] at h;have:=h s a
 rwa [bQ] at this
theorem Dr {Q B:Prop} {R:Nat->Prop} (a:Q->B) (g:∀ n,n<3->R n->B):∀ {n:Nat},g9 Q R n->n<4->B
 | 0,h,_=>a h
 | n+1,h,hn=>g n (by omega) h
theorem hO:∀ l m:List T,wL (l++m)=wL l+wL m
 | [],m=>by simp [wL]
 | t::l,m=>by simp only [gC,wL,hO l m]; omega
theorem Hs {n:Int} (h:0<=n/\n<26):okU 26 (.mk 1 n emptyB []):=by
 simp only [okU,gh];exact ⟨by decide,fun _=>⟨h.1,h.2,trivial,trivial⟩,trivial,by decide⟩
theorem HK {n:Int}:okU 26 (.mk 2 n emptyB []):=by
 simp only [okU,gh];exact ⟨by decide,(fun h=>by cases h),trivial,by decide⟩
theorem pF {s:ByteArray} {a:List T} (g:s.size<=6) (h:gh 26 a):okU 26 (.mk 3 0 s a):=by
 simp only [okU];exact ⟨by decide,(fun h=>by cases h),h,g⟩
theorem tR {N:Nat}:∀ {l m:List T},gh N l->gh N m->gh N (l++m)
 | [],_,_,h=>h
 | _::_,_,h,h'=>by
  rw [gh] at h;rw [gC,gh];exact ⟨h.1,tR h.2 h'⟩
theorem nX {S:af} {k n:Int} (hk:inI k) (hn:inI n):RdT S [.int .i64 k,.int .i64 n,.string ⟨#[]⟩,.slice none 0 0] (.mk k n emptyB []):=
 RdT.iff.2 ⟨_,rfl,hk,hn,aQ _,kE S⟩
section
variable {w0 w:World} {X:List Nat} {L:List Item} {S:af} {K:Value->World->Prop} {P:Program}
attribute [local irreducible] Run CondV aw aI
theorem Run.callL {f:FuncId} {fn:Func} {args:List Value} {I:List Item} {Post:Value->List Item->af->Prop}
  (hf:P.funcs[f]?=some fn) (hn:(fn.name == "runtime.NumGoroutine" || fn.body.isNone)=false) (h:Inv w0 X L S w) (hc:Tri P f args I S Post) (hL:L=L.dropLast++I)
  (hk:∀ v I' S' w',Post v I' S'->Ext w0.heap.size X S S'->Inv w0 X (L.dropLast++I') S' w'->K v w'):Run P (dX (.func (.func f) #[] #[]) args) w K:=
 Run.callE (A:=L.dropLast) hf hn (hL ▸ h) hc hk
theorem vm {T:TypeId} {a g:Bool} {d:Nat} (h:d<=1000000) (hk:K (.int .i64 (d:Int)) w):Run P (cw .sub T a g (.int .i64 ((d+1:Nat):Int)) (.int .i64 1)) w K:=by
 refine ld (by omega) ?_;rw [show ((d+1:Nat):Int) - 1=d by omega];exact hk
theorem tA {B:Prop} {b d:Nat} {c:Array Value} {E:TypeId} {kv xs xa:Value} {css:List (List Value)} {F:Nat->List Item} {Q:List Value->Nat->af->Prop} {a:Nat} {S1:af} {cs:List Value} {t:T}
  (h:Q cs a S1) (g:RdT S1 cs t) (i:Inv w0 X (.blk b (.cells c E)::ax kv ac 4 css::F a) S1 w):g9 B (qP w0 X b c d E kv css F Q (.agg cs.toArray) xs xa w) 1:=
 ⟨a,S1,cs,h,⟨g.length,g.one⟩,rfl,i⟩
end
section
variable {br:Nat} {sl:Value} {ys:List Nat}
attribute [local irreducible] Run CondV aw aI
abbrev Ct (br:Nat) (sl:Value) (ys:List Nat) (d:Nat):Prop:=∀ (p:Nat) (S:af),RdSl S 1 jy sl ys->p+3 * dW d<=1000000000->Tri Tryz.prog Dh [rdP br,.int .i64 (d:Int)] [rdI br sl p] S (I7 br sl p d)
theorem xU {d:Nat} (d9:d<=4) (ih:∀ Y,Y+1=d->Ct br sl ys Y):Ct br sl ys d:=by
 intro p S M hp w g;have hW:=GG d;refine sd.2 ?_;dsimp only[sd,a6];refine aF g aZ fun b4 w' g=>?_;have g:Inv w [br] [.blk b4 (.cells #[.int .i64 0,.int .i64 0,.string ⟨#[]⟩,.slice none 0 0] ac),rdI br sl p] S w':=g.last 0 rfl;refine ⟨fun v w'=>∃ (c:Bool) (p1:Nat),v=.bool c/\p1<=p+1/\(c=false->2<=d)/\Inv w [br] [.blk b4 (.cells #[.int .i64 0,.int .i64 0,.string ⟨#[]⟩,.slice none 0 0] ac),rdI br sl p1] S w',?_,?_⟩
 ·refine cq ?_;by_cases hd:(d:Int)<2
  ·rw [bb hd];refine rpG ?_;exact ⟨true,p,rfl,by omega,(fun h=>by cases h),g⟩
  ·rw [bk hd];refine rpG ?_;refine Run.callL bL bK g (cV (n:=4) M (by omega) (by omega)) rfl fun v' I' S' w'=>?_;rintro ⟨rfl,rfl,k,hk,rfl⟩ _ g;refine bo ?_;refine rpG ?_;exact ⟨_,p+1,rfl,by omega,fun _=>by omega,g⟩
 intro e0 _ _ _ _ _ _ w';rintro ⟨c,p1,rfl,e1,d1,g⟩;refine aE (fun _=>?_) (fun hc=>?_)
 ·refine Run.callL bL bK g (cV (n:=4) M (by omega) (by omega)) rfl fun v' I' S' w'=>?_;rintro ⟨rfl,rfl,k,hk,rfl⟩ _ g;have g:Inv w [br] [.blk b4 (.cells #[.int .i64 0,.int .i64 0,.string ⟨#[]⟩,.slice none 0 0] ac),rdI br sl (p1+1)] S' w':=g;refine bo ?_;refine aR (fun _=>?_) (fun _=>?_)
  ·refine Run.callL bL bK g (cV (n:=4) M (by omega) (by omega)) rfl fun v' I' S1 w'=>?_;rintro ⟨rfl,rfl,k,hk,rfl⟩ _ g;refine Run.callPure vy vL g (mz k S1) fun w' g=>?_;refine al g 0 rfl ad rfl rfl (by simp [Value.oneCell']) fun w' g=>?_;refine a5 g 0 ad rfl rfl ?_;exact ⟨_,_,S1,rfl,g.pick [false,true],Ext.refl _ _ _,p1+2,by omega,rfl,_,_,rfl,nX (by simp [inI]) (by simp only [inI]; omega),by have e:emptyB.size=0:=rfl; simp only [wT,wL,cd,e]; omega,Hs (by omega)⟩
  refine bo ?_;refine aR (fun _=>?_) (fun _=>?_)
  ·refine ur g (by kernel_rfl) rfl (by omega) fun v S1 w' B hv g=>?_;refine Run.callL eZ fb g (jl (p:=p1+1) (M.monoU B.1) hv (by decide) (by omega)) rfl fun v' I' S2 w'=>?_;rintro ⟨rfl,rfl,n,hn,rfl⟩ _ g;have hn:=oo (a:=-1000) (b:=1000) hn (by decide);refine Run.callPure nv nc g (jf n S2) fun w' g=>?_;refine al g 0 rfl ad rfl rfl (by simp [Value.oneCell']) fun w' g=>?_;refine a5 g 0 ad rfl rfl ?_;exact ⟨_,_,S2,rfl,g.pick [false,true],B,p1+2,by omega,rfl,_,_,rfl,nX (by simp [inI]) (by simp only [inI]; omega),by have e:emptyB.size=0:=rfl; simp only [wT,wL,cd,e]; omega,HK⟩
  ·refine ne g (by kernel_rfl) rfl (by omega) fun v S1 w' B hv g=>?_;refine Run.callL ez eA g (jP (p:=p1+1) (M.monoU B.1) hv (by decide) (by omega)) rfl fun v' I' S2 w'=>?_;rintro ⟨rfl,rfl,s,hs,rfl⟩ _ g;have hs:=mn (m:=3) hs (by decide);refine Run.call0E cJ cI g (db s (by simp only [maxLen]; omega) (kE S2) (by simp)) fun v' I' S3 w'=>?_;rintro ⟨rfl,cs,rfl,l⟩ a3 g;refine al g 0 rfl ad (by simpa using l.length) rfl (by simpa using l.one) fun w' g=>?_;refine a5 g 0 ad rfl (by simpa using l.length) ?_;exact ⟨_,_,S3,rfl,g.pick [false,true],B.trans a3,p1+2,by omega,rfl,_,_,rfl,l,by simp only [wT,wL,cd]; omega,pF (by omega) (by simp only [gh])⟩
 obtain ⟨Y,rfl⟩:∃ Y,d=Y+1:=⟨d - 1,by have:=d1 hc; omega⟩
 have ih:=ih Y rfl;have hD:=GG Y;have f7:=Ib Y;have h3:dW Y<=486:=by
  have:3 ^ Y<=3 ^ 4:=DO (by omega) (by omega);simp only [dW]; omega
 refine Run.callL bL bK g (cV (n:=3) M (by omega) (by omega)) rfl fun v' I' S w'=>?_;rintro ⟨rfl,rfl,k,hk,rfl⟩ _ g;refine bo ?_;refine aR (fun _=>?_) (fun _=>?_)
 ·refine vm (by omega) ?_;refine Run.callL eW eH g (ih (p1+1) S M (by omega)) rfl fun v' I' S1 w'=>?_;rintro ⟨p2,b2,rfl,e2,t1,rfl,a9,e3,d2⟩ B g;refine vm (by omega) ?_;refine Run.callL eW eH g (ih p2 S1 (M.monoU B.1) (by omega)) rfl fun v' I' S2 w'=>?_;rintro ⟨p3,b3,rfl,e4,t2,rfl,b8,e5,d3⟩ b9 g;have a9:=RdT.mono b9.1 a9;obtain ⟨f5,rfl,_,_,_,a1,q1,rfl,_⟩:=RdT.iff.1 a9;obtain ⟨f6,rfl,_,_,_,a2,q2,rfl,_⟩:=RdT.iff.1 b8;refine l0 (v:=fun b=>.slice (some ⟨b,0,none⟩) 2 2) (o:=.cells #[.int .i64 t1.kind,.int .i64 t1.n,.string t1.name,.slice a1 t1.kids.length q1,.int .i64 t2.kind,.int .i64 t2.n,.string t2.name,.slice a2 t2.kids.length q2] ac) g (by kernel_rfl) fun b w' g=>?_;have g:Inv w [br] ([.blk b4 (.cells #[.int .i64 0,.int .i64 0,.string ⟨#[]⟩,.slice none 0 0] ac),rdI br sl p3]++[_]) S2 w':=g;obtain ⟨S3,g,a3,U⟩:=g.pub1;refine Run.call0E cJ cI g (db ⟨#[46]⟩ (by decide) (yL U (a9.mono a3.1) (b8.mono a3.1)) (by simp)) fun v' I' S4 w'=>?_;rintro ⟨rfl,cs,rfl,l⟩ a8 g;refine al g 0 rfl ad (by simpa using l.length) rfl (by simpa using l.one) fun w' g=>?_;refine a5 g 0 ad rfl (by simpa using l.length) ?_;refine ⟨_,_,S4,rfl,g.pick [false,true],(B.trans b9).trans (a3.trans a8),p3,by omega,rfl,_,_,rfl,l,?_,pF (by decide) (by simp only [gh]; exact ⟨d2,d3,trivial⟩)⟩;have e:(ByteArray.mk #[46]).size=1:=rfl;simp only [wT,wL,bg,cd,e];omega
 ·refine ne g (by kernel_rfl) rfl (by omega) fun v S1 w' B hv g=>?_;refine Run.callL ez eA g (jP (p:=p1+1) (M.monoU B.1) hv (by decide) (by omega)) rfl fun v' I' S2 w'=>?_;rintro ⟨rfl,rfl,s,hs,rfl⟩ _ g;have hs:=mn (m:=3) hs (by decide);refine Run.call0E cJ cI g (nU s (kE S2) (by simp)) fun v' I' S3 w'=>?_;rintro ⟨rfl,kv0,b0,rfl,rfl,d4⟩ a3 g;refine aF g aZ fun b5 w' g=>?_;obtain ⟨a0,n0,q0,rfl⟩:=g.rowSlice 2 rfl;refine al g 3 rfl ad rfl rfl (by simp [Value.oneCell']) fun w' g=>?_;obtain ⟨B4,c5⟩:∃ B4,B4=Item.blk b4 (.cells #[.int .i64 0,.int .i64 0,.string ⟨#[]⟩,.slice none 0 0] ac):=⟨_,rfl⟩
  have g:Inv w [br] [.blk b5 (.cells #[.int .i64 3,.int .i64 0,.string s,.slice a0 n0 q0] ac),ax (.slice a0 n0 q0) ac 4 b0,B4,rdI br sl (p1+2)] S3 w':=by
   rw [c5];exact ((g.last 2 rfl).last 0 rfl).last 0 rfl
  refine ur g (by kernel_rfl) rfl (by omega) fun v S4 w' a8 hv g=>?_;refine Run.callL eZ fb g (jl (p:=p1+2) (M.monoU ((B.trans a3).trans a8).1) hv (by decide) (by omega)) rfl fun v' I' S5 w'=>?_;rintro ⟨rfl,rfl,n,hn,rfl⟩ _ g;have hn:=oo (a:=1) (b:=3) hn (by decide);have d7:Ext w.heap.size [br] S S5:=(B.trans a3).trans a8;refine ⟨fun t w'=>∃ (j p2:Nat) (S6:af) (kv:Value) (css:List (List Value)) (O:List T),gh 26 O/\t=.int .i64 (j:Int)/\O.length+j<=3/\Rows 4 (RdT S6) css O/\wL O+3 * O.length<=O.length * dW Y/\p2+2 * O.length<=p1+3+O.length * dW Y/\Ext w.heap.size [br] S S6/\
   Inv w [br] [.blk b5 (.cells #[.int .i64 3,.int .i64 0,.string s,kv] ac),ax kv ac 4 css,B4,rdI br sl p2] S6 w',fun t _=>(intOf t).toNat,
   ⟨n.toNat,p1+3,S5,_,b0,[],by simp only [gh],by rw [F4 (by omega)],by simp; omega,d4.monoR fun _ _ h=>RdT.mono a8.1 h,by simp [wL],by simp,d7,g⟩,?_⟩
  intro t6 _ _ e6 e7 e8 e9 f0 f1 f2 f3 f4 _ _ w';rintro ⟨j,p2,S6,kv,css,O,c1,rfl,hj,hR,b1,b2,b6,g⟩;have f8:=hR.hc;have hm:O.length * dW Y<=3 * dW Y:=eV _ (by omega);refine eD ?_;refine aR (fun d6=>?_) (fun d6=>?_)
  ·obtain ⟨j',rfl⟩:∃ j',j=j'+1:=⟨j - 1,by omega⟩
   refine ⟨fun D yd xh tK sC sD tp xg xJ xC w_=>Fx D 0 [xC=.pointer (some ⟨b5,3,none⟩),xJ=kv,xg=rdP br,tp=.int .i64 ((Y+1:Nat):Int),sD=.int .i64 (Y:Int),True,True,True,yd=.pointer (some ⟨b5,3,none⟩),True]/\∃ Z:Nat,Z<=4/\D 5=decide (1<=Z)/\D 6=decide (2<=Z)/\D 7=decide (3<=Z)/\D 9=decide (4<=Z)/\(D 9=true->D 1=true)/\(g9 (Inv w [br] [.blk b5 (.cells #[.int .i64 3,.int .i64 0,.string s,kv] ac),ax kv ac 4 css,B4,rdI br sl p2] S6 w_) (qP w [br] b5 #[.int .i64 3,.int .i64 0,.string s,kv] 3 ac kv css (fun p=>[B4,rdI br sl p]) (fun cs p' S'=>∃ t,okU 26 t/\RdT S' cs t/\wT t+3<=dW Y/\p'+2<=p2+dW Y/\Ext w.heap.size [br] S6 S') sC tK xh w_) Z),⟨Fx.nil _ _,⟨0,aQ _,rfl,rfl,rfl,rfl,(aP),g.draw⟩⟩,⟨?_,?_,?_,?_,?_,?_,?_,?_,?_,?_,trivial⟩,?_⟩;all_goals (intro D bm; intros; rename_i yd xh tK sC sD tp xg xJ xC w_ c2; have N:=c2.1; obtain ⟨⟨c9,cX,cZ,c4,cY,c8,cB,df,dK,eF,_⟩,⟨Z,a7,C,G,J,r,V,U⟩⟩:=c2)
   ·refine ay av ?_;exact ⟨N.set 0 rfl,⟨Z,a7,C,G,J,r,V,U⟩⟩
   ·obtain rfl:=c9 ‹_›;have c7:=Ft r V bm;refine dq ar ((Dr (fun h=>h.cellL (i:=0) rfl) (fun n hn h=>vI h hn) U c7).trans rfl) ?_;exact ⟨N.set 1 rfl,⟨Z,a7,C,G,J,r,(fun _=>rfl),U⟩⟩
   ·exact ⟨N.set 2 rfl,⟨Z,a7,C,G,J,r,V,U⟩⟩
   ·exact ⟨N.set 3 rfl,⟨Z,a7,C,G,J,r,V,U⟩⟩
   ·obtain rfl:=c4 ‹_›;refine vm (by omega) ?_;exact ⟨N.set 4 rfl,⟨Z,a7,C,G,J,r,V,U⟩⟩
   ·obtain rfl:=cZ ‹_›;obtain rfl:=cY ‹_›;obtain rfl:Z=0:=s9 C bm;refine Run.callL eW eH (L:=[.blk b5 _,ax _ ac 4 css,B4,rdI br sl p2]) U (ih p2 S6 (M.monoU b6.1) (by omega)) rfl fun v' I' S7 w_=>?_;rintro ⟨p3,b3,rfl,cs,t,rfl,l,c3,b7⟩ a4 g;exact ⟨N.set 5 (by first|assumption|trivial),⟨1,by decide,rfl,(by first|exact G|rfl),(by first|exact J|rfl),(by first|exact r|rfl),V,tA ⟨t,b7,l,c3,b3,a4⟩ l g⟩⟩
   ·have FU:=c8 ‹_›;obtain rfl:Z=1:=fK C ‹D 5=true› G bm;refine ap1 U fun u w_ U=>?_;exact ⟨N.set 6 (by first|assumption|trivial),⟨2,by decide,(by first|exact C|rfl),rfl,(by first|exact J|rfl),(by first|exact r|rfl),V,U⟩⟩
   ·obtain rfl:=cX ‹_›;have zK:=cB ‹_›;obtain rfl:Z=2:=fK G ‹D 6=true› J bm;refine ap2 U (by omega) fun u w_ U=>?_;exact ⟨N.set 7 (by first|assumption|trivial),⟨3,by decide,(by first|exact C|rfl),(by first|exact G|rfl),rfl,(by first|exact r|rfl),V,U⟩⟩
   ·refine ay av ?_;exact ⟨N.set 8 rfl,⟨Z,a7,C,G,J,r,V,U⟩⟩
   ·obtain rfl:=dK ‹_›;have zJ:=df ‹_›;obtain rfl:Z=3:=fK J ‹D 7=true› r bm;refine ap3 U (by simp) fun w_ U=>?_;exact ⟨N.set 9 trivial,⟨4,by decide,(by first|exact C|rfl),(by first|exact G|rfl),(by first|exact J|rfl),rfl,(fun _=>‹D 1=true›),U⟩⟩
   obtain rfl:Z=4:=qF a7 r ‹D 9=true›;clear C G J r;obtain ⟨p3,S7,cs,⟨t,b7,l,c3,b3,a4⟩,hl,g⟩:=U;refine vm (by omega) ?_;refine ⟨⟨j',p3,S7,_,_,O++[t],tR c1 (by simp only [gh]; exact ⟨b7,trivial⟩),rfl,by rw [bv]; simp only [bg,cd]; omega,(hR.monoR fun _ _ h=>RdT.mono a4.1 h).snoc l hl.1,?_,?_,b6.trans a4,g⟩,by simp only [intOf,gS]; omega⟩
   ·rw [hO,bv,bg,cd,gI];simp only [wL];omega
   ·rw [bv,bg,cd,gI];omega
  ·have g:Inv w [br] ([.blk b5 (.cells #[.int .i64 3,.int .i64 0,.string s,kv] ac),B4,rdI br sl p2]++[ax kv ac 4 css]) S6 w':=g.last 1 rfl;refine au g 0 ad rfl rfl ?_;obtain ⟨S7,a4,c6,g⟩:=Inv.lendExt g;have d0:=RowRd.rows (hR.monoR fun _ _ h=>RdT.mono a4.1 h) c6;obtain ⟨a,q,rfl,_⟩:=id d0;subst c5;refine al g 1 rfl ad rfl rfl (by simp [Value.oneCell']) fun w' g=>?_;refine a5 g 1 ad rfl rfl ?_;refine ⟨_,_,S7,rfl,g.pick [false,false,true],b6.trans a4,p2,?_,rfl,[.int .i64 3,.int .i64 0,.string s,_],.mk 3 0 s O,rfl,RdT.iff.2 ⟨_,rfl,by simp [inI,T.kind],by simp [inI,T.n],by simp only [T.name,maxLen]; omega,d0⟩,?_,pF (by omega) c1⟩
   ·have:O.length=0 ∨ O.length=1 ∨ O.length=2 ∨ O.length=3:=by omega
    rcases this with h|h|h|h <;> rw [h] at b2 b1 <;> omega
   ·simp only [wT];have:O.length=0 ∨ O.length=1 ∨ O.length=2 ∨ O.length=3:=by omega
    rcases this with h|h|h|h <;> rw [h] at b2 b1 ⊢ <;> omega
theorem fN:∀ d:Nat,d<=4->Ct br sl ys d
 | 0,h=>xU h fun a e=>by omega
 | d+1,h=>xU h fun a e=>by
  obtain rfl:a=d:=by omega
  exact fN _ (by omega)
abbrev G0 (br:Nat) (sl:Value) (p k m:Nat):Value->List Item->af->Prop:=fun v I' S'=>∃ p',p'<=p+k/\I'=[rdI br sl p']/\∃ cs t,v=.agg cs.toArray/\RdT S' cs t/\wT t<=m
theorem oA {p:Nat} {S:af} (j:RdSl S 1 jy sl ys) (C:p<=400000000):Tri Tryz.prog De [rdP br] [rdI br sl p] S (G0 br sl p 500 500):=by
 intro w g;refine rJ.2 ?_;dsimp only[rJ,aG];refine aF g aZ fun r w' g=>?_;have g:Inv w [br] [.blk r (.cells #[.int .i64 0,.int .i64 0,.string ⟨#[]⟩,.slice none 0 0] ac),rdI br sl p] S w':=g.last 0 rfl;refine ur g (by kernel_rfl) rfl (by omega) fun v S1 w' i u g=>?_;refine Run.callL eZ fb g (jl (p:=p) (j.monoU i.1) u (by decide) (by omega)) rfl fun B I' S2 w'=>?_;rintro ⟨rfl,rfl,n,hn,rfl⟩ _ g;have hn:=oo (a:=1) (b:=4) hn (by decide);obtain ⟨m,rfl⟩:∃ m:Nat,n=m:=⟨n.toNat,by rw [F4 (by omega)]⟩
 have G:dW m<=486:=by
  have:3 ^ m<=3 ^ 4:=DO (by omega) (by omega);simp only [dW]; omega
 refine Run.callL eW eH g (fN m (by omega) (p+1) S2 (j.monoU i.1) (by omega)) rfl fun B I' S3 w'=>?_;rintro ⟨o,q,rfl,cs,t,rfl,h,D,_⟩ l g;refine al g 0 rfl ad (by simpa using h.length) rfl (by simpa using h.one) fun w' g=>?_;refine a5 g 0 ad rfl (by simpa using h.length) ?_;exact ⟨_,_,S3,rfl,g.pick [false,true],i.trans l,o,by omega,rfl,cs,t,rfl,h,by omega⟩
end
end
end Go.Proofs.YtjbcdmheajljpaaGreat
