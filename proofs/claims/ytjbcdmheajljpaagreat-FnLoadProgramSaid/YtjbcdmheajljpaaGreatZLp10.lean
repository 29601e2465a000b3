/- spec.l4Texts, l4Program, l4Clause, l14Two. -/
import Derived.Test.YtjbcdmheajljpaaGreatZLp9
namespace Go.Proofs.YtjbcdmheajljpaaGreat
section
open Go Go.RowKit
def okS (s:ByteArray):Bool:=PM (bs s) && decide (s.size<=1000)
theorem OT {s:ByteArray} (h:okS s=true):∃ q,L6 60 (bs s)=some q/\0<q.length/\Light 8 200 q/\(∀ c∈q,a9 c=true)/\s.size<=1000:=by
 rw [okS,bJ,bE] at h;obtain ⟨h,g⟩:=h;unfold PM at h;split at h
 ·rename_i q a
  simp only [bJ,bE,fS] at h;exact ⟨q,a,h.1,⟨h.2.1,fun c hc=>(h.2.2 c hc).2⟩,fun c hc=>(h.2.2 c hc).1,g⟩
 ·cases h
section
attribute [local irreducible] Run CondV aC aU
theorem MQ {S:ag} {s:ByteArray} (h:okS s=true):Tri Tryz.prog mr [.string s] [] S fun v I' S'=>∃ u css q,v=.tuple #[u,.bool true]/\I'=[aB u ai 5 css]/\Rows 5 (RdC S') css q/\0<q.length/\Light 8 200 q/\∀ c∈q,a9 c=true:=by
 obtain ⟨q,i,j,l,hc,o⟩:=OT h;intro w a;have m:(bs s).length=s.size:=(nX (bs s)).symm;refine (sc (f:=60) (by omega) i (by rw [m]; omega) w a).mono ?_;rintro e w' ⟨v,I',S',rfl,a,g,u,css,rfl,rfl,hR⟩;exact ⟨_,_,S',rfl,a,g,u,css,q,rfl,rfl,hR,j,l,hc⟩
theorem CT (S:ag):Tri Tryz.prog IP [] [] S fun v I' S'=>I'=[]/\∃ l,RdSl S' 1 y0 v l/\l.length=11/\l.all okS=true:=by
 intro w a;refine tX.2 ?_;dsimp only[tX,oD];refine AZ a (by kernel_rfl) rfl (by omega) fun v S1 w' g h a=>?_;exact ⟨_,[],S1,rfl,a,g,rfl,_,h,rfl,by decide +kernel⟩
variable {br:Nat} {sl:Value} {ys:List Nat}
theorem zp {p:Nat} {S:ag} (i:RdSl S 1 mc sl ys) (D:p<=100000000):Tri Tryz.prog CH [rdP br] [rdI br sl p] S (RX br sl p 1 8 200):=by
 intro w a;refine qw.2 ?_;dsimp only[qw,aQ];refine Run.call0E EW GA a (CT S) fun v' I' S1 w'=>?_;rintro ⟨rfl,l,r,t,g⟩ h a;have a:Inv w [br] [rdI br sl p] S1 w':=a;refine aG r de ?_;refine Run.callL dt dv a (fi (n:=l.length) (i.monoU h.1) (by omega) (by omega)) rfl fun v' I' S1 w'=>?_;rintro ⟨rfl,rfl,k,hk,rfl⟩ _ a;have a:Inv w [br] [rdI br sl (p+1)] S1 w':=a;refine lr a r de aZ hk (fun cs o=>o) ?_;rw [fS] at g;refine Run.call0E tk tW a (MQ (g _ (cH hk))) fun v I' S2 w'=>?_;rintro ⟨u,css,q,rfl,rfl,hR,B,C,j⟩ m a;refine aA (v:=u) rfl ?_;refine aA (v:=.bool true) rfl ?_;exact ⟨_,_,S2,rfl,a.last 0 rfl,h.trans m,p+1,css,q,be _,rfl,hR,C,B,j⟩
end
end
section
open Go Go.RowKit
section
attribute [local irreducible] Run CondV aC aU
end
end
section
open Go Go.RowKit
theorem lL {s:ByteArray} (h:gJ s=true):s.size<=6:=by
 rw [gJ,lQ] at h;rcases h with h|h
 ·rw [lx] at h;simp only [bJ,bE] at h;exact h.2.2
 ·simp only [List.any_eq_true,bE] at h;obtain ⟨x,a,rfl⟩:=h;have:∀ y∈signs,y.size<=6:=by decide +kernel
  exact this x a
theorem JD {t:T} (h:eV t=true):t.name.size<=6:=by
 unfold eV at h;have j:emptyB.size=0:=by decide +kernel
 by_cases a:t.kind=1
 ·rw [af a] at h;simp only [bJ,bE] at h;rw [h.2.2.1]; omega
 ·rw [ae a] at h;by_cases g:t.kind=2
  ·rw [af g] at h;simp only [bJ,bE] at h;rw [h.2.2.1]; omega
  ·rw [ae g] at h;by_cases i:t.kind=3
   ·rw [af i] at h;simp only [bJ,bE] at h;exact lL h.2.1
   ·rw [ae i] at h;cases h
theorem KQ {t:T} (h:eV t=true):t.kind=1 ∨ t.kind=2 ∨ t.kind=3:=by
 by_cases a:t.kind=1
 ·exact .inl a
 ·by_cases g:t.kind=2
  ·exact .inr (.inl g)
  ·by_cases i:t.kind=3
   ·exact .inr (.inr i)
   ·exfalso;unfold eV at h;rw [ae a,ae g,ae i] at h;cases h
mutual
theorem Ez:∀ (t:T) (d:Int),dx t d=true->okU 26 t
 | .mk k n s ks,d,h=>by
  rw [dx] at h;split at h
  ·cases h
  ·rw [bJ] at h;have i:=OG h.1;have j:=fun hk=>IK h.1 hk;have l:=JD h.1;rw [okU];refine ⟨KQ h.1,fun hk=>?_,BG ks _ h.2,l⟩;have g:=i.1 hk;have a:=j hk;simp only [T.n] at g;simp only [T.name,T.kids] at a;exact ⟨g.1,by omega,a.1,jK a.2⟩
theorem BG:∀ (ts:List T) (d:Int),dj ts d=true->cz 26 ts
 | [],_,_=>by rw [cz]; trivial
 | t::ts,d,h=>by
  rw [dj,bJ] at h;rw [cz];exact ⟨Ez t d h.1,BG ts d h.2⟩
end
theorem v8 {t:T} (h:cA t=true):okU 26 t:=Ez t 30 (pV h)
theorem kX {c:C} (h:a9 c=true):okU 26 c.head/\(∀ t∈c.body,okU 26 t)/\c.body.length<=6:=by
 rw [a9] at h;simp only [bJ,fS,bE] at h;refine ⟨v8 h.2.2.1,fun t a=>?_,h.1⟩;have:=h.2.1 t a;rw [eI,bJ] at this;exact v8 this.1
mutual
theorem eG {N M:Nat} (h:N<=M):∀ t:T,okU N t->okU M t
 | .mk k n s ks,ht=>by
  rw [okU] at ht ⊢;refine ⟨ht.1,fun hk=>?_,LF h ks ht.2.2.1,ht.2.2.2⟩;have:=ht.2.1 hk;exact ⟨this.1,by omega,this.2.2⟩
theorem LF {N M:Nat} (h:N<=M):∀ ts:List T,cz N ts->cz M ts
 | [],_=>by rw [cz]; trivial
 | t::ts,ht=>by
  rw [cz] at ht ⊢;exact ⟨eG h t ht.1,LF h ts ht.2⟩
end
mutual
theorem Ko {N:Nat}:∀ t:T,okU N t->(wT t:Int)+1<=7 * bM t
 | .mk k n s ks,h=>by
  rw [okU] at h;have a:=Pc ks h.2.2.1;rw [wT,Fh];omega
theorem Pc {N:Nat}:∀ ts:List T,cz N ts->(wL ts:Int)+ts.length<=7 * bi ts
 | [],_=>by simp [wL,bi]
 | t::ts,h=>by
  rw [cz] at h;have a:=Ko t h.1;have g:=Pc ts h.2;rw [wL,bi,aO];omega
end
theorem zN {N:Nat} {st:aX} {t v:T} (h:Good N st) (a:dI st t v) (g:okU N t):okU N v:=by
 induction a with
 | stop=>exact g
 | step i _ j=>exact j (h.look_ok i).1
theorem Ml {N:Nat} {st:aX} (B:Good N st) {j:MC} (C:Res st j):match j with
  | .one t u=>okU N t->okU N u
  | .list ts i=>cz N ts->cz N i/\i.length=ts.length:=by
 induction C with
 | one D J G=>
  rename_i t v i
  intro g;have r:=zN B D g;obtain ⟨o,l⟩:=G r.kids;obtain ⟨k,n,s,ks⟩:=v;have a:=r;rw [okU] at a;show okU N (.mk k n s i);rw [okU];refine ⟨a.1,fun hk=>?_,o,a.2.2.2⟩;have m:=a.2.1 hk;refine ⟨m.1,m.2.1,m.2.2.1,?_⟩;simp only [T.kids] at l;exact jK (by rw [l,m.2.2.2]; rfl)
 | nil=>exact fun h=>⟨h,rfl⟩
 | cons _ _ p q=>
  intro g;rw [cz] at g;obtain ⟨o,l⟩:=q g.2;rw [cz];exact ⟨⟨p g.1,o⟩,by simp [l]⟩
theorem H0 {N:Nat} {st:aX} (h:Good N st):∀ ts:List T,cz N ts->∃ a,Res st (.list ts a)
 | [],_=>⟨[],.nil⟩
 | t::ts,ho=>by
  rw [cz] at ho;obtain ⟨u,i⟩:=OY h t ho.1;obtain ⟨a,g⟩:=H0 h ts ho.2;exact ⟨u::a,.cons i g⟩
theorem N1 {st:aX}:∀ {ts a:List T},Res st (.list ts a)->∀ i (h:i<ts.length) (g:i<a.length),Res st (.one ts[i] a[i])
 | _,_,.cons hu _,0,_,_=>hu
 | _,_,.cons _ hus,i+1,h,g=>N1 hus i (by simpa using h) (by simpa using g)
mutual
theorem Ni {N:Nat}:∀ (t:T) (l:List Int),okU N t->nR t l=fV t l
 | .mk k n s ks,l,h=>by
  rw [okU] at h;rw [nR,fV];split
  ·rename_i hk
   rw [(h.2.1 hk).2.2.2,dk]
  ·exact sq ks l h.2.2.1
theorem sq {N:Nat}:∀ (ts:List T) (l:List Int),cz N ts->ja ts l=dk ts l
 | [],l,_=>by rw [ja,dk]
 | t::ts,l,h=>by
  rw [cz] at h;rw [ja,dk,Ni t l h.1,sq ts _ h.2]
end
def ofL:List T->C
 | []=>⟨⟨0,0,⟨#[]⟩,[]⟩,[]⟩
 | t::ts=>⟨t,ts⟩
end
section
open Go Go.RowKit
section
variable {br:Nat} {sl:Value} {ys:List Nat}
attribute [local irreducible] Run CondV aC aU
end
end
section
open Go Go.RowKit
attribute [local irreducible] Run CondV aC aU
end
section
open Go Go.RowKit
attribute [local irreducible] Run CondV aC aU

def Rp (l:List Pd) (ts:List T):List Pd:=ts.foldl (fun l t=>if gw t=true then T5 l (Q4 t) else l) l
def M0 (l:List Pd) (p:List C) (x:Pd):List Pd:=p.foldl (fun l c=>if TD (Q4 c.head) x=true then Rp l c.body else l) l
def RQ (p:List C) (x:Pd):List Pd:=M0 [] p x
section
variable {P:Program} {w w0:World} {X:List Nat} {L:List Item} {S:ag} {K:Value->World->Prop}
end
end
section
open Go Go.RowKit
attribute [local irreducible] Run CondV aC aU
end
section
open Go Go.RowKit
attribute [local irreducible] Run CondV aC aU
end
section
open Go Go.RowKit
attribute [local irreducible] Run CondV aC aU
end
section
open Go Go.RowKit
attribute [local irreducible] Run CondV aC aU
end
section
open Go Go.ChangeShapes Go.WideShapes Go.ChangeAt Go.RowKit
section
attribute [local irreducible] Run CondV aC aU
end
theorem two {cs:List Value} (h:cs.length=2):∃ a b,cs=[a,b]:=by
 match cs,h with
 | [a,b],_=>exact ⟨a,b,rfl⟩
end
section
open Go Go.RowKit
section
variable {br:Nat} {sl:Value} {ys:List Nat}
attribute [local irreducible] Run CondV aC aU
theorem Pd.one (x:Pd):∀ u∈x.cells,u.oneCell'=true:=by
 intro u g;have a:u∈([.string x.name,.int .i64 x.arity]:List Value):=g;simp at a;rcases a with rfl|rfl <;> rfl
end
end
section
open Go Go.ChangeShapes Go.WideShapes Go.ChangeAt Go.RowKit
theorem SR:Tryz.prog.underlying EI=some (.int .u8):=by kernel_rfl
theorem PS {H:Type} {enc:TypeId × Value->H} {W:World} {sp:Nat->Bool} {held:Bool} {a:Nat} {cs:List Value} {x:DataW H × List MemPlace} (h:DataW.trod enc Tryz.prog W 0 sp held a EI cs=some x) :
  ∃ n,mc cs n:=by
 cases a with
 | zero=>simp [DataW.trod] at h
 | succ n=>
  unfold DataW.trod at h;rw [SR] at h;split at h <;> simp_all
  rename_i i j m g
  subst g;obtain ⟨⟨_,h⟩,_⟩:=h;simp only [Lit.wf,bJ,bE] at h;have l:0<=m/\m<=255:=h;exact ⟨m.toNat,by rw [mc,ol (by omega)]; exact ⟨rfl,by omega⟩⟩
theorem KL {H:Type} {enc:TypeId × Value->H} {W:World} {sp:Nat->Bool} {held:Bool} {a:Nat} {v:Value} {x:DataW H × List MemPlace} (h:DataW.trod enc Tryz.prog W 0 sp held a H6 [v]=some x) :
  ∃ ys,RdSl (LB W) 1 mc v ys:=Qh eM (by omega) h fun _ _ _ _ g=>PS g
section
variable {w0 w:World} {X:List Nat} {L:List Item} {S:ag} {K:Value->World->Prop}
attribute [local irreducible] Run CondV aC aU
theorem OI {P:Program} {T:TypeId} {g h:Bool} {a b:Bool} (i:P.underlying T=some .bool) (hk:K (.bool (a == b)) w):Run P (dh .eql T g h (.bool a) (.bool b)) w K:=
 Run.of (by
  have j:(Op.equal T (.bool a) (.bool b)).run P w=.ok (a == b) w:=by
   rw [Op.equal,Op.maxDepth,Op.equalIn.eq_def];simp [run_underlying i]
  simp only [dh,binOp,Sem.run_bind,uf,Result.andThen_ok,j,Sem.run_pure]) hk
theorem PI (t:T):eqT t t=true:=(LJ t t).2 rfl
theorem sv {c0 i:C} {cs ds:List Value} (h:RdC S cs c0) (g:RdC S ds i):Pure Tryz.prog pt [.agg cs.toArray,.agg ds.toArray] S (.bool (eqT c0.head i.head && eqL c0.body i.body)):=by
 intro w a;obtain ⟨M,B,rfl,p,D⟩:=h;obtain ⟨G,l,rfl,q,J⟩:=g;have m:=p;have o:=q;obtain ⟨kv,rfl,_⟩:=RdT.iff.1 p;obtain ⟨j,rfl,_⟩:=RdT.iff.1 q;refine oi.2 ?_;dsimp only[oi,bm];refine bH a fun r w' a=>?_;refine bH a fun u w' a=>?_;have a:Inv w [] [.blk r (.cells #[.int .i64 c0.head.kind,.int .i64 c0.head.n,.string c0.head.name,kv,B] ai),.blk u (.cells #[.int .i64 i.head.kind,.int .i64 i.head.n,.string i.head.name,j,l] ai)] S w':=a;refine au cC ?_;refine fo a 0 [.int .i64 c0.head.kind,.int .i64 c0.head.n,.string c0.head.name,kv] ad rfl rfl Kl ?_;refine au cC ?_;refine fo a 1 [.int .i64 i.head.kind,.int .i64 i.head.n,.string i.head.name,j] ad rfl rfl Kl ?_;refine Run.callPure rS rz a (nn _ _ S _ _ m o) fun w' a=>?_;cases N:eqT c0.head i.head
 ·refine rpG ?_;exact done a (by rw [ig])
 ·refine rpG ?_;refine ah a 0 rfl bC ax rfl ?_;refine ah a 1 rfl bC ax rfl ?_;refine Run.callPure jS jY a (tG (fun t _=>nn t) D J) fun w' a=>?_;refine rpG ?_;exact done a (by rw [eL])
theorem zc {c0:C} {cs ds:List Value} (h:RdC S cs c0) (g:RdC S ds c0):Pure Tryz.prog pt [.agg cs.toArray,.agg ds.toArray] S (.bool true):=by
 have:=sv h g
 rwa [PI,(zD _ _).2 rfl] at this
end
end
section
open Go Go.RowKit
attribute [local irreducible] Run CondV aC aU
end
section
open Go Go.RowKit

inductive Star (p:List C) (x:Pd):Pd->Prop
 | refl:Star p x x
 | step {y z:Pd}:Star p x y->z∈RQ p y->Star p x z
theorem Star.trans {p:List C} {x y z:Pd} (h:Star p x y) (a:Star p y z):Star p x z:=by
 induction a with
 | refl=>exact h
 | step _ g i=>exact .step i g
end
section
open Go Go.RowKit
section
variable {w w0:World} {X:List Nat} {L A:List Item} {S:ag} {K:Value->World->Prop}
attribute [local irreducible] Run CondV aC aU
end
end
section
open Go Go.RowKit
section
variable {w0 w:World} {X:List Nat} {L:List Item} {S:ag} {K:Value->World->Prop} {ys:List Nat} {v:Value}
attribute [local irreducible] Run CondV aC aU
end
end
section
open Go Go.RowKit
def LightT (n m:Nat) (q:List T):Prop:=q.length<=n/\∀ t∈q,wT t<=m
theorem LightT.le {n m:Nat} {q:List T} (h:LightT n m q):q.length+wL q<=n+n * m:=by
 have:∀ q:List T,(∀ c∈q,wT c<=m)->wL q<=q.length * m:=by
  intro q;induction q with
  | nil=>intro _; simp [wL]
  | cons c q j=>
   intro h;have g:=h c (bL ..);have i:=j fun d a=>h d (bV _ a);simp only [wL,aO,jc];omega
 have g:=this q h.2;have i:q.length * m<=n * m:=fH _ h.1;have:=h.1;omega
section
variable {w0 w:World} {X:List Nat} {L A:List Item} {S:ag}
end
section
variable {br:Nat} {sl:Value} {ys:List Nat} {S:ag}
attribute [local irreducible] Run CondV aC aU
end
end
section
open Go Go.RowKit
section
attribute [local irreducible] Run CondV aC aU
end
end
section
open Go Go.RowKit
section
variable {S:ag} {ys:List Nat} {v:Value} {w:World} {K:Value->World->Prop}
attribute [local irreducible] Run CondV aC aU
theorem Au {α:Type} {R:List Value->α->Prop} {xs:List α} {u:Value} {T ty e:TypeId} {k l h:Nat} {P:Program} (j:cY P T=some (e,k)) (g:RdSl S k R u xs) (m:l<=h) (o:h<=xs.length)
  (hk:∀ v',RdSl S k R v' ((xs.take h).drop l)->K v' w):Run P (sOp (.slice T (.const u) (some (.const (.int .i64 l))) (some (.const (.int .i64 h))) none) ty) w K:=by
 obtain ⟨a,cap,rfl,p,hc,q⟩:=id g;have i:=g.to o;have e:(if cap=0 then a else a.map (·.add (0 * k)))=a:=by
  split
  ·rfl
  ·cases a <;> simp [Addr.add]
 rw [e] at i;have r:(xs.take h).length=h:=by rw [iJ]; omega
 have t:=i.from (l:=l) (by omega);exact PU j m (by omega) (hk _ t)
end
end
section
open Go Go.RowKit
section
attribute [local irreducible] Run CondV aC aU
abbrev Rr (s:CS × Int):Value->List Item->ag->Prop:=fun r I' S'=>I'=[]/\∃ cs',r=.tuple #[.agg cs'.toArray,.int .i64 s.2]/\MkS S' cs' s.1
theorem OA (s:CS) (t:T):(bo s [t]).1=(ch s t).1:=by rw [bo,bo]
set_option maxHeartbeats 2000000 in
theorem C6:∀ (t:T) (S:ag) (cs ds:List Value) (s:CS),MkS S cs s->RdT S ds t->okU 26 t->s.sl.length=26->0<=s.next->s.sz+8 * bM t<=800000000->Tri Tryz.prog HP [.agg cs.toArray,.agg ds.toArray] [] S (Rr (aW t s)):=by
 refine T.ind fun k n nm ks ih S cs ds s h hd ho hl g7 i6=>?_;intro w g;have o1:=h.length;obtain ⟨kv,rfl,_,_,_,c2⟩:=RdT.iff.1 hd;have h5:∀ t∈ks,okU 26 t:=iv ho.kids;simp only [T.name,T.kids,T.kind,T.n] at c2 ⊢;have h6:=c2.le;simp only [maxLen] at h6;have i8:bM (.mk k n nm ks)=1+bi ks:=by rw [bM]
 rw [i8] at i6;have o2:=iM ks;have o3:0<=s.sz:=by unfold CS.sz; omega
 refine vE.2 ?_;dsimp only[vE,bm];refine bH g fun b2 w' g=>?_;refine bH g fun b3 w' g=>?_;refine aH g eo fun b4 w' g=>?_;refine fc g jl fun lv w' g=>?_;obtain ⟨B3,g8⟩:∃ B3,B3=Item.blk b3 (.cells #[.int .i64 k,.int .i64 n,.string nm,kv] ac):=⟨_,rfl⟩
 have e3:=congrArg some g8;obtain ⟨B4,g9⟩:∃ B4,B4=Item.blk b4 (.cells #[.slice none 0 0,.int .i64 0,.slice none 0 0] av):=⟨_,rfl⟩
 have e4:=congrArg some g9;have g:Inv w [] [.blk b2 (.cells cs.toArray av),B3,B4,aB lv bD 1 []] S w':=by rw [g8,g9]; exact g
 obtain ⟨vs,d7⟩:∃ vs,vs=(bg ks s).2:=⟨_,rfl⟩
 have o4:vs.length=ks.length:=by rw [d7]; exact gG ..
 have i9:∀ i (h:i<ks.length) (h':i<vs.length),(ks[i].kind=3->0<=vs[i])/\(ks[i].kind≠3->vs[i]=-1):=by subst d7; exact (AG ks s).2 g7
 refine ⟨fun i lv w'=>∃ (j:Nat) (o:CS) (a0:List Value) (Sj:ag) (css:List (List Value)),j<=ks.length/\i=.int .i64 j/\Ext w.heap.size [] S Sj/\MkS Sj a0 o/\o.sl.length=26/\0<=o.next/\o.sz+8 * bi (ks.drop j)<=s.sz+8 * bi ks/\bg ks s=((bg (ks.drop j) o).1,vs)/\vs.drop j=(bg (ks.drop j) o).2/\Rows 1 jG css (vs.take j)/\
   Inv w [] [.blk b2 (.cells a0.toArray av),B3,B4,aB lv bD 1 css] Sj w',fun i _ _=>ks.length - (intOf i).toNat,
   ⟨0,s,cs,S,[],aK _,rfl,Ext.refl _ _ _,h,hl,g7,by rw [dT]; omega,by rw [dT,d7],by rw [dT,dT,d7],Rows.nil _ _,g⟩,?_⟩
 intro i _ _ lv _ _ _ _ k3 k4 k5 k8 k9 l0 l1 l2 l3 l5 _ _ _ _ _ _ _ _ _ _ _ _ _ w';rintro ⟨j,o,a0,Sj,css,hj,rfl,d2,a7,f0,i2,g4,b6,a8,hR,g⟩;have c7:=c2.monoT d2.1;have e6:=a7.length;refine ah g 1 e3 ay ax rfl ?_;refine aG c7 ao ?_;refine cu ?_;refine aS (fun f4=>?_) (fun f4=>?_)
 ·have Y:j<ks.length:=by omega
  have a6:j<vs.length:=by omega
  obtain ⟨u,hu⟩:∃ u,u=ks[j]:=⟨_,rfl⟩
  have e2:okU 26 u:=by rw [hu]; exact h5 _ (cH Y)
  have j0:=ih u (by rw [hu]; exact cH Y);have o5:=bU (ks.drop (j+1));rw [ku ks j Y,<- hu] at g4;rw [BH ks o j Y,<- hu] at b6 a8;simp only [dR a6,rD] at a8;have o6:=cZ u;refine ⟨fun z w'=>z=.int .i64 vs[j]/\∃ (J:List Value) (Sn:ag),Ext w.heap.size [] Sj Sn/\MkS Sn J (if u.kind=3 then aW u o else (o,-1)).1/\Inv w [] [.blk b2 (.cells J.toArray av),B3,B4,aB lv bD 1 css] Sn w',?_,?_⟩
  ·refine ah g 1 e3 ay ax rfl ?_;refine P9 g c7 ao bb aw Y (u:=.int .i64 u.kind) (fun cs d4=>by
    rw [<- hu] at d4;obtain ⟨_,rfl,_⟩:=RdT.iff.1 d4;rfl) ?_
   refine bn ?_;refine aS (fun h3=>?_) (fun h3=>?_)
   ·rw [af h3] at b6 a8 ⊢;have hJ:=g;obtain ⟨bq,oq,cap,c,E,fz,rfl,f5,b8⟩:=c7.at_ Y;have g:=hJ;clear hJ;rw [<- hu] at b8;obtain ⟨du,h1⟩:∃ du,du=bB c (oq+j * 4) 4:=⟨_,rfl⟩
    rw [<- h1] at b8;refine ⟨fun D x8 s0 ra lo xp z4 DZ Du yy tF AV w_=>Fx D 0 [AV=.agg a0.toArray,tF=.pointer (some ⟨b3,3,none⟩),yy=.slice (some ⟨bq,oq,none⟩) ks.length cap,Du=.int .i64 (j:Int),DZ=.pointer (some ⟨bq,oq+j * 4,none⟩),z4=.agg du.toArray,True,True,True,True,True,True]/\∃ S2 a,Ext w.heap.size [] Sj S2/\(D 6=false->S2=Sj)/\(D 6=true->xp=.tuple #[.agg (List.toArray a),.int .i64 (aW u o).2]/\MkS S2 a (aW u o).1)/\(D 7=true->D 6=true/\lo=.tuple #[.agg (List.toArray a),.int .i64 (aW u o).2])/\(D 8=true->D 6=true/\ra=.agg (List.toArray a))/\(D 9=true->s0=.int .i64 (aW u o).2)/\(D 10=true->D 0=true/\D 6=true)/\(D 11=true->x8=.int .i64 (aW u o).2)/\Inv w [] [.blk b2 (.cells (cond (D 10) (List.toArray a) a0.toArray) av),B3,B4,aB lv bD 1 css] S2 w_,⟨Fx.nil _ _,⟨Sj,[],Ext.refl _ _ _,fun _=>rfl,aY,aY,aY,aY,aY,aY,g.draw⟩⟩,⟨?_,?_,?_,?_,?_,?_,?_,?_,?_,?_,?_,?_,trivial⟩,?_⟩;all_goals (intro D bw; intros; rename_i x8 s0 ra lo xp z4 DZ Du yy tF AV w_ a4; have m:=a4.1; obtain ⟨⟨cG,cf,cD,cF,bQ,cE,bZ,cL,dw,dl,ci,c8,_⟩,⟨S2,a,O,k6,M,r,C,N,p,V,g⟩⟩:=a4)
    ·have ci:D 10=false:=cS.2 fun h=>by rw [(p h).1] at bw; cases bw
     refine aq (c:=a0.toArray) g 0 az (by rw [ci]; rfl) (by simpa using e6) ?_;have p:=fun (h:aE D 0 10=true)=>(⟨rfl,(p h).2⟩:aE D 0 0=true/\aE D 0 6=true)
     exact ⟨m.set 0 rfl,⟨S2,a,O,k6,M,r,C,N,p,V,g⟩⟩
    ·refine au ay ?_;exact ⟨m.set 1 rfl,⟨S2,a,O,k6,M,r,C,N,p,V,g⟩⟩
    ·obtain rfl:=cf ‹_›;refine aD g 1 ax e3 rfl ?_;exact ⟨m.set 2 rfl,⟨S2,a,O,k6,M,r,C,N,p,V,g⟩⟩
    ·exact ⟨m.set 3 rfl,⟨S2,a,O,k6,M,r,C,N,p,V,g⟩⟩
    ·obtain rfl:=cD ‹_›;obtain rfl:=cF ‹_›;refine aT ao Y ?_;exact ⟨m.set 4 rfl,⟨S2,a,O,k6,M,r,C,N,p,V,g⟩⟩
    ·obtain rfl:=bQ ‹_›;refine dX (cs:=du) ad b8.length (fun f v hf=>by rw [g.cellS (O.1 _ _ f5)]; exact bd h1.symm f v hf) ?_;exact ⟨m.set 5 rfl,⟨S2,a,O,k6,M,r,C,N,p,V,g⟩⟩
    ·obtain rfl:=cG ‹_›;obtain rfl:=cE ‹_›;have ci:D 10=false:=cS.2 fun h=>by rw [(p h).2] at bw; cases bw
     rw [k6 bw,ci] at g;refine Run.call0E tb uP g (j0 Sj a0 du o a7 b8 e2 f0 i2 (by omega)) fun v' I' S2 w_=>?_;rintro ⟨rfl,a,rfl,f1⟩ f2 g;have g:Inv w [] [.blk b2 (.cells (cond (aE D 6 10) (List.toArray a) a0.toArray) av),B3,B4,aB lv bD 1 css] S2 w_:=by
      show Inv w [] [.blk b2 (.cells (cond (D 10) (List.toArray a) a0.toArray) av),B3,B4,aB lv bD 1 css] S2 w_;rw [ci]; exact g
     have k6:aE D 6 6=false->S2=Sj:=fun h=>absurd (show true=false from h) (by decide);have M:=fun (_:aE D 6 6=true)=>(⟨rfl,f1⟩:Value.tuple #[.agg (List.toArray a),.int .i64 (aW u o).2]=.tuple #[.agg (List.toArray a),.int .i64 (aW u o).2]/\MkS S2 a (aW u o).1)
     have r:=fun (h:aE D 6 7=true)=>(absurd (r h).1 (by rw [bw]; decide):aE D 6 6=true/\lo=.tuple #[.agg (List.toArray a),.int .i64 (aW u o).2])
     have C:=fun (h:aE D 6 8=true)=>(absurd (C h).1 (by rw [bw]; decide):aE D 6 6=true/\ra=.agg (List.toArray a))
     have p:=fun (h:aE D 6 10=true)=>(absurd (p h).2 (by rw [bw]; decide):aE D 6 0=true/\aE D 6 6=true)
     have O:=f2;exact ⟨m.set 6 (by first|assumption|trivial),⟨S2,a,O,k6,M,r,C,N,p,V,g⟩⟩
    ·have BB:=bZ ‹_›;have r:=fun (_:aE D 7 7=true)=>(⟨‹D 6=true›,(M ‹D 6=true›).1⟩:aE D 7 6=true/\xp=.tuple #[.agg (List.toArray a),.int .i64 (aW u o).2])
     exact ⟨m.set 7 (by first|assumption|trivial),⟨S2,a,O,k6,M,r,C,N,p,V,g⟩⟩
    ·have Cs:=cL ‹_›;obtain ⟨d9,c3⟩:=r ‹D 7=true›;subst c3;refine aA rfl ?_;have C:=fun (_:aE D 8 8=true)=>(⟨d9,rfl⟩:aE D 8 6=true/\Value.agg (List.toArray a)=.agg (List.toArray a))
     exact ⟨m.set 8 (by first|assumption|trivial),⟨S2,a,O,k6,M,r,C,N,p,V,g⟩⟩
    ·have Cs:=cL ‹_›;obtain ⟨d9,c3⟩:=r ‹D 7=true›;subst c3;refine aA rfl ?_;have N:=fun (_:aE D 9 9=true)=>(rfl:Value.int .i64 (aW u o).2=.int .i64 (aW u o).2)
     exact ⟨m.set 9 (by first|assumption|trivial),⟨S2,a,O,k6,M,r,C,N,p,V,g⟩⟩
    ·have GD:=dw ‹_›;obtain ⟨d9,h2⟩:=C ‹D 8=true›;subst h2;have hM:=(M d9).2;rw [bw] at g;refine al g 0 rfl az (by simpa using hM.length) (by simpa using e6) (by simpa using hM.one) fun w_ g=>?_;have p:=fun (_:aE D 10 10=true)=>(⟨‹D 0=true›,‹D 6=true›⟩:aE D 10 0=true/\aE D 10 6=true)
     exact ⟨m.set 10 trivial,⟨S2,a,O,k6,M,r,C,N,p,V,g⟩⟩
    ·have DC:=dl ‹_›;have V:=fun (_:aE D 11 11=true)=>(N ‹D 9=true›:s0=.int .i64 (aW u o).2)
     exact ⟨m.set 11 (by first|assumption|trivial),⟨S2,a,O,k6,M,r,C,N,p,V,g⟩⟩
    obtain ⟨rfl,rfl,rfl,rfl,rfl,rfl,BB,Cs,GD,DC,_,Rv,_⟩:=m.all;have NE:D 6=true:=by assumption
    have CK:D 10=true:=by assumption
    have r6:D 11=true:=by assumption
    clear m cG cf cD cF bQ cE bZ cL dw dl ci c8;rw [CK] at g;obtain ⟨_,hM⟩:=M NE;rw [V r6];exact ⟨by rw [a8.1],a,S2,O,hM,g⟩
   ·rw [ae h3] at b6 a8 ⊢;exact ⟨by rw [a8.1],a0,Sj,Ext.refl _ _ _,a7,g⟩
  intro z _ _ _ _ _ _ _ _ _ _ _ _ _ _ _ _ _ w';rintro ⟨rfl,J,Sn,b7,a9,g⟩;have h7:=hR.hc;rw [iJ] at h7;refine lf (css:=css) g 3 jl rfl rfl rfl (by omega) (by omega) fun n7 w' g=>?_;refine bF (by omega) ?_;have hg:Gn o (if u.kind=3 then aW u o else (o,-1)).1/\(if u.kind=3 then aW u o else (o,-1)).1.sz<=o.sz+8 * bM u:=by
   split
   ·exact ⟨(qM u o).1,by have:=(kD u o).2; omega⟩
   ·exact ⟨.refl o,by show o.sz<=_; omega⟩
  refine ⟨⟨j+1,_,J,Sn,_,Y,rfl,d2.trans b7,a9,by rw [hg.1.len]; exact f0,by have:=hg.1.next; omega,by have:=hg.2; omega,b6,a8.2,?_,g⟩,by simp [intOf]; omega⟩;rw [ia a6];exact hR.snoc (cs:=[.int .i64 vs[j]]) rfl rfl
 have f7:j=ks.length:=by omega
 subst f7;have f8:ks.drop ks.length=[]:=ew;rw [f8,bg] at b6;rw [f8,bi] at g4;have h8:bg ks s=(o,vs):=b6;rw [AQ (by omega)] at hR;have f9:=(ti ks s).2;rw [h8] at f9;have f9:o.sz+2 * ks.length<=s.sz+8 * bi ks:=f9;have j1:o.sz<=900000000:=by omega
 have k1:o.next<=900000000/\o.code.length<=900000000:=by
  have hb:=j1;unfold CS.sz at hb;omega
 have g:Inv w [] ([.blk b2 (.cells a0.toArray av),B3,B4]++[aB lv bD 1 css]) Sj _:=g;obtain ⟨S4,f6,i7,g⟩:=g.lendExt;have g0:RdSl S4 1 jG lv vs:=RowRd.rows hR i7;have a7:=a7.mono f6.1;obtain ⟨v1,v2,rfl,g1,g2⟩:=id a7;refine ah g 0 rfl cT aw rfl ?_;refine bF (by omega) ?_;refine dG g 0 rfl cT aw rfl rfl rfl fun w' g=>?_;have g:Inv w [] [.blk b2 (.cells #[v1,.int .i64 (o.next+1),v2] av),B3,B4] S4 w':=g;refine aq g 0 az rfl rfl ?_;refine ah g 1 e3 ay ax rfl ?_;have i0:=c2.monoT (d2.trans f6).1;refine aG i0 ao ?_;refine ah g 1 e3 bk aZ rfl ?_;refine ES ?_;have i1:MkS S4 [v1,.int .i64 (o.next+1),v2] o.inc:=⟨v1,v2,rfl,g1,g2⟩
 refine Run.call0E c9 db g (cP (s:=o.inc) ⟨7,ks.length,o.next,nm⟩ i1 (by show o.code.length<=_; omega)) fun v' I' S5 w'=>?_;rintro ⟨rfl,f3,rfl,c1⟩ g5 g;refine al g 0 rfl az (by simpa using c1.length) rfl (by simpa using c1.one) fun w' g=>?_;have g:Inv w [] [.blk b2 (.cells f3.toArray av),B3,B4] S5 w':=g;have e7:=(d2.trans f6).trans g5;have g0:=g0.monoN g5.1;obtain ⟨sf,c4⟩:∃ sf,sf=(o.emit ⟨7,ks.length,o.next,nm⟩).inc:=⟨_,rfl⟩
 have o7:sf.sz=o.sz+2:=by rw [c4,wF,d6]; omega
 have j2:aW (.mk k n nm ks) s=(cJ sf ks vs,o.next):=by rw [aW,h8,c4]
 have c1:MkS S5 f3 sf:=by rw [c4]; exact c1
 have j3:sf.sl.length=26:=by rw [c4]; exact f0
 have j4:0<=sf.next:=by rw [c4]; show 0<=o.next+1; omega
 rw [j2];clear a7 i1 hR;refine ⟨fun i w'=>∃ (j:Nat) (U:CS) (J:List Value) (Sn:ag),j<=ks.length/\i=.int .i64 j/\Ext w.heap.size [] S5 Sn/\MkS Sn J U/\U.sl.length=26/\0<=U.next/\U.sz<=sf.sz+2 * j/\cJ sf ks vs=cJ U (ks.drop j) (vs.drop j)/\
   Inv w [] [.blk b2 (.cells J.toArray av),B3,B4] Sn w',fun i _=>ks.length - (intOf i).toNat,
   ⟨0,sf,f3,S5,aK _,rfl,Ext.refl _ _ _,c1,j3,j4,by omega,by rw [dT,dT],g⟩,?_⟩
 intro i _ _ _ l6 l7 l8 l9 m0 m1 m2 m3 m4 m5 m6 m7 m8 m9 n0 n1 n2 n3 n4 n5 _ _ _ _ _ _ _ _ _ _ w';rintro ⟨j,U,J,Sn,hj,rfl,b7,a9,g6,i3,n6,d3,g⟩;have d0:=c2.monoT (e7.trans b7).1;have e8:=g0.monoN b7.1;have a2:=a9.length;refine ah g 1 e3 ay ax rfl ?_;refine aG d0 ao ?_;refine cu ?_;refine aS (fun f4=>?_) (fun f4=>?_)
 ·have Y:j<ks.length:=by omega
  have a6:j<vs.length:=by omega
  obtain ⟨u,hu⟩:∃ u,u=ks[j]:=⟨_,rfl⟩
  have e2:okU 26 u:=by rw [hu]; exact h5 _ (cH Y)
  have e5:=i9 j Y a6;rw [<- hu] at e5;rw [Az ks vs U j Y a6,<- hu] at d3;have j5:U.sz<=900000000:=by omega
  have k2:U.next<=900000000/\U.code.length<=900000000:=by
   have hb:=j5;unfold CS.sz at hb;omega
  refine ⟨fun w'=>∃ (d1:List Value) (Sm:ag),Ext w.heap.size [] Sn Sm/\MkS Sm d1 (if u.kind=3 then U.emit ⟨5,vs[j],0,emptyB⟩ else eq U u)/\Inv w [] [.blk b2 (.cells d1.toArray av),B3,B4] Sm w',?_,?_⟩
  ·refine lr g e8 fI aw a6 (fun cs d4=>d4) ?_;refine lj ?_;refine aS (fun h0=>?_) (fun h0=>?_)
   ·have h3:u.kind=3:=by
     rcases e2.three with e|e|e
     ·have:=e5.2 (by omega); omega
     ·have:=e5.2 (by omega); omega
     ·exact e
    rw [af h3];have hJ:=g;obtain ⟨bq,oq,cap,c,E,fz,rfl,f5,b8⟩:=e8.at_ a6;have g:=hJ;clear hJ;refine ⟨fun D QP QZ QV Q1 QW QT Q6 w_=>Fx D 0 [Q6=.agg J.toArray,QT=.slice (some ⟨bq,oq,none⟩) vs.length cap,QW=.int .i64 (j:Int),Q1=.pointer (some ⟨bq,oq+j * 1,none⟩),QV=.int .i64 vs[j],QZ=.agg (Ist.cells ⟨5,vs[j],0,emptyB⟩).toArray,True,True]/\∃ n_:Nat,n_<=2/\D 6=decide (1<=n_)/\D 7=decide (2<=n_)/\(emS w [] (fun c=>[.blk b2 (.cells c av),B3,B4]) Sn J.toArray (U.emit ⟨5,vs[j],0,emptyB⟩) QP w_ n_/\(D 7=true->D 0=true)),⟨Fx.nil _ _,⟨0,aK _,rfl,rfl,⟨g.draw,aY⟩⟩⟩,⟨?_,?_,?_,?_,?_,?_,?_,?_,trivial⟩,?_⟩;all_goals (intro D bw; intros; rename_i QP QZ QV Q1 QW QT Q6 w_ a4; have m:=a4.1; obtain ⟨⟨cG,cf,cD,cF,bQ,cE,bZ,cL,_⟩,⟨n_,b5,a3,a1,hS⟩⟩:=a4)
    ·have cL:D 7=false:=cS.2 fun h=>by rw [hS.2 h] at bw; cases bw
     obtain ⟨S6,a5,g⟩:=hS.1.inv (ML a1 cL);refine aq g 0 az rfl (by simpa using a2) ?_;have hS:=And.intro hS.1 (fun (_:aE D 0 7=true)=>(rfl:aE D 0 0=true));exact ⟨m.set 0 rfl,⟨n_,b5,a3,a1,hS⟩⟩
    ·exact ⟨m.set 1 rfl,⟨n_,b5,a3,a1,hS⟩⟩
    ·exact ⟨m.set 2 rfl,⟨n_,b5,a3,a1,hS⟩⟩
    ·obtain rfl:=cf ‹_›;obtain rfl:=cD ‹_›;refine aT fI a6 ?_;exact ⟨m.set 3 rfl,⟨n_,b5,a3,a1,hS⟩⟩
    ·obtain rfl:=cF ‹_›;obtain ⟨S6,c6,a5,g⟩:=hS.1.any;refine dE (v:=.int .i64 vs[j]) aw (by rw [g.cellS (a5 _ _ f5)]; exact bd b8 0 _ rfl) ?_;exact ⟨m.set 4 rfl,⟨n_,b5,a3,a1,hS⟩⟩
    ·obtain rfl:=bQ ‹_›;refine l4 ?_;exact ⟨m.set 5 rfl,⟨n_,b5,a3,a1,hS⟩⟩
    ·obtain rfl:=cG ‹_›;obtain rfl:=cE ‹_›;obtain rfl:n_=0:=iI a3 bw;refine Run.call0E c9 db hS.1 (cP ⟨5,vs[j],0,emptyB⟩ a9 (by omega)) fun v' I' S6 w_=>?_;rintro ⟨rfl,b0,rfl,b1⟩ a5 g;have g3:emS w [] (fun c=>[.blk b2 (.cells c av),B3,B4]) Sn J.toArray (U.emit ⟨5,vs[j],0,emptyB⟩) (.agg b0.toArray) w_ 1:=⟨S6,b0,rfl,b1,a5,g⟩
     exact ⟨m.set 6 (by first|assumption|trivial),⟨1,by decide,rfl,(by first|exact a1|rfl),⟨g3,hS.2⟩⟩⟩
    ·have BB:=bZ ‹_›;obtain rfl:n_=1:=gF a3 ‹D 6=true› a1 bw;obtain ⟨S6,b0,rfl,b1,a5,g⟩:=hS.1;refine al g 0 rfl az (by simpa using b1.length) (by simpa using a2) (by simpa using b1.one) fun w_ g=>?_;have g3:emS w [] (fun c=>[.blk b2 (.cells c av),B3,B4]) Sn J.toArray (U.emit ⟨5,vs[j],0,emptyB⟩) (.agg b0.toArray) w_ 2:=⟨S6,b0,b1,a5,g⟩
     exact ⟨m.set 7 trivial,⟨2,by decide,(by first|exact a3|rfl),rfl,⟨g3,fun _=>‹D 0=true›⟩⟩⟩
    obtain rfl:n_=2:=iH b5 a1 ‹D 7=true›;clear a3 a1;obtain ⟨S6,b0,b1,a5,g⟩:=hS.1;exact ⟨b0,S6,a5,b1,g⟩
   ·have h3:u.kind≠3:=fun e=>h0 (e5.1 e);rw [ae h3];have hJ:=g;obtain ⟨ka,kc,rfl,n8,n9,o0⟩:=id d0;have g:=hJ;clear hJ;have k0:(bo U [u]).1=eq U u:=by rw [OA,ch,ae h3]
    refine ⟨fun D Cq np Cr zm Qr zH Em CB GF LT Lu Jn Io w_=>Fx D 0 [Io=.agg J.toArray,Jn=.pointer (some ⟨b3,3,none⟩),Lu=.slice ka ks.length kc,LT=.int .i64 (j:Int),GF=.int .i64 (j:Int),CB=.int .i64 ((j+1:Nat):Int),True,True,True,True,True,True,True,True]/\∃ S2 a u2,Ext w.heap.size [] Sn S2/\(D 7=false->S2=Sn)/\(D 6=true->RdSl Sn 4 (RdT Sn) Em [u])/\(D 7=true->zH=.tuple #[.agg (List.toArray a),u2]/\MkS S2 a (bo U [u]).1)/\(D 8=true->D 7=true/\Qr=.tuple #[.agg (List.toArray a),u2])/\(D 9=true->D 7=true/\zm=.agg (List.toArray a))/\(D 12=true->D 7=true)/\nwP w [] [.blk b2 (.cells J.toArray av),B3,B4] av #[.slice none 0 0,.int .i64 0,.slice none 0 0] (fun _ q=>q=List.toArray a) (D 11) (D 12) np S2 w_,⟨Fx.nil _ _,⟨Sn,[],undef,Ext.refl _ _ _,fun _=>rfl,aY,aY,aY,aY,aY,nwP.mk g.draw _⟩⟩,⟨?_,?_,?_,?_,?_,?_,?_,?_,?_,?_,?_,?_,?_,?_,trivial⟩,?_⟩;all_goals (intro D bw; intros; rename_i Cq np Cr zm Qr zH Em CB GF LT Lu Jn Io w_ a4; have m:=a4.1; obtain ⟨⟨cG,cf,cD,cF,bQ,cE,bZ,cL,dw,dl,ci,c8,dN,fJ,_⟩,⟨S2,a,u2,O,k7,M,r,C,N,G,Z⟩⟩:=a4)
    ·obtain ⟨B,g⟩:=Z.inv;refine aq g 0 az rfl (by simpa using a2) ?_;exact ⟨m.set 0 rfl,⟨S2,a,u2,O,k7,M,r,C,N,G,Z⟩⟩
    ·refine au ay ?_;exact ⟨m.set 1 rfl,⟨S2,a,u2,O,k7,M,r,C,N,G,Z⟩⟩
    ·obtain rfl:=cf ‹_›;obtain ⟨B,g⟩:=Z.inv;refine aD g 1 ax e3 rfl ?_;exact ⟨m.set 2 rfl,⟨S2,a,u2,O,k7,M,r,C,N,G,Z⟩⟩
    ·exact ⟨m.set 3 rfl,⟨S2,a,u2,O,k7,M,r,C,N,G,Z⟩⟩
    ·exact ⟨m.set 4 rfl,⟨S2,a,u2,O,k7,M,r,C,N,G,Z⟩⟩
    ·obtain rfl:=bQ ‹_›;refine bF (by omega) ?_;exact ⟨m.set 5 rfl,⟨S2,a,u2,O,k7,M,r,C,N,G,Z⟩⟩
    ·obtain rfl:=cD ‹_›;obtain rfl:=cF ‹_›;obtain rfl:=cE ‹_›;refine Au ao d0 (l:=j) (h:=j+1) (by omega) (by omega) fun v9 h9=>?_;have e9:(ks.take (j+1)).drop j=[u]:=by rw [ia Y,List.drop_left' (by rw [iJ]; omega),hu]
     rw [e9] at h9;have M:=fun (_:aE D 6 6=true)=>h9;exact ⟨m.set 6 (by first|assumption|trivial),⟨S2,a,u2,O,k7,M,r,C,N,G,Z⟩⟩
    ·obtain rfl:=cG ‹_›;have BB:=bZ ‹_›;have dN:D 12=false:=cS.2 fun h=>by rw [G h] at bw; cases bw
     obtain ⟨b9,q9,y1,y2,y3,y4,g⟩:=Z;rw [k7 bw] at g;refine Run.call0E xY xW g (vO a9 (M ‹D 6=true›) (fun t ht=>by rw [cO.1 ht]; exact e2) g6 i3 (by simp only [vh]; omega)) fun v' I' S2 w_=>?_;rintro ⟨rfl,a,u2,rfl,f1,_⟩ f2 g;rw [dc] at g;have Z:nwP w [] [.blk b2 (.cells J.toArray av),B3,B4] av #[.slice none 0 0,.int .i64 0,.slice none 0 0] (fun _ q=>q=List.toArray a) (aE D 7 11) (aE D 7 12) np S2 w_:=⟨b9,q9,y1,y2,y3,fun h=>(by have h:D 12=true:=h; rw [dN] at h; cases h),g⟩
     have k7:aE D 7 7=false->S2=Sn:=fun h=>absurd (show true=false from h) (by decide);have r:=fun (_:aE D 7 7=true)=>(⟨rfl,f1⟩:Value.tuple #[.agg (List.toArray a),u2]=.tuple #[.agg (List.toArray a),u2]/\MkS S2 a (bo U [u]).1)
     have C:=fun (h:aE D 7 8=true)=>(absurd (C h).1 (by rw [bw]; decide):aE D 7 7=true/\Qr=.tuple #[.agg (List.toArray a),u2])
     have N:=fun (h:aE D 7 9=true)=>(absurd (N h).1 (by rw [bw]; decide):aE D 7 7=true/\zm=.agg (List.toArray a))
     have G:=fun (_:aE D 7 12=true)=>(rfl:aE D 7 7=true)
     have O:=f2;exact ⟨m.set 7 (by first|assumption|trivial),⟨S2,a,u2,O,k7,M,r,C,N,G,Z⟩⟩
    ·have Cs:=cL ‹_›;have C:=fun (_:aE D 8 8=true)=>(⟨‹D 7=true›,(r ‹D 7=true›).1⟩:aE D 8 7=true/\zH=.tuple #[.agg (List.toArray a),u2])
     exact ⟨m.set 8 (by first|assumption|trivial),⟨S2,a,u2,O,k7,M,r,C,N,G,Z⟩⟩
    ·have GD:=dw ‹_›;obtain ⟨e1,c5⟩:=C ‹D 8=true›;subst c5;refine aA rfl ?_;have N:=fun (_:aE D 9 9=true)=>(⟨e1,rfl⟩:aE D 9 7=true/\Value.agg (List.toArray a)=.agg (List.toArray a))
     exact ⟨m.set 9 (by first|assumption|trivial),⟨S2,a,u2,O,k7,M,r,C,N,G,Z⟩⟩
    ·have GD:=dw ‹_›;obtain ⟨e1,c5⟩:=C ‹D 8=true›;subst c5;refine aA rfl ?_;exact ⟨m.set 10 (by first|assumption|trivial),⟨S2,a,u2,O,k7,M,r,C,N,G,Z⟩⟩
    ·refine Z.alloc bw eo rfl fun v9 w_ Z=>?_;exact ⟨m.set 11 (by first|assumption|trivial),⟨S2,a,u2,O,k7,M,r,C,N,G,Z⟩⟩
    ·have Rv:=c8 ‹_›;have DC:=dl ‹_›;obtain ⟨e1,h4⟩:=N ‹D 9=true›;subst h4;have hM:=(r e1).2;refine Z.store ‹D 11=true› bw az (by simpa using hM.length) rfl (by simpa using hM.one) rfl fun w_ Z=>?_;have G:=fun (_:aE D 12 12=true)=>(‹D 7=true›:aE D 12 7=true)
     exact ⟨m.set 12 trivial,⟨S2,a,u2,O,k7,M,r,C,N,G,Z⟩⟩
    ·have Gj:=ci ‹_›;exact ⟨m.set 13 (by first|assumption|trivial),⟨S2,a,u2,O,k7,M,r,C,N,G,Z⟩⟩
    obtain ⟨rfl,rfl,rfl,rfl,rfl,rfl,BB,Cs,GD,DC,Gj,Rv,_,Us,_⟩:=m.all;have sZ:D 7=true:=by assumption
    have r6:D 11=true:=by assumption
    have AF:D 12=true:=by assumption
    clear m cG cf cD cF bQ cE bZ cL dw dl ci c8 dN fJ;rw [r6,AF] at Z;obtain ⟨_,hM⟩:=r sZ;obtain ⟨b9,q9,rfl,rfl,g⟩:=Z.fin;rw [k0] at hM;refine aq g 3 az rfl (by simpa using hM.length) ?_;refine al g 0 rfl az (by simpa using hM.length) (by simpa using a2) (by simpa using hM.one) fun w' g=>?_;exact ⟨a,S2,O,hM,g.pick [true,true,true,false]⟩
  intro _ _ _ _ _ _ _ _ _ _ _ _ _ _ _ _ _ _ _ _ _ _ _ _ _ _ w';rintro ⟨d1,Sm,i4,i5,g⟩;refine bF (by omega) ?_;have hg:Gn U (if u.kind=3 then U.emit ⟨5,vs[j],0,emptyB⟩ else eq U u)/\(if u.kind=3 then U.emit ⟨5,vs[j],0,emptyB⟩ else eq U u).sz<=U.sz+2:=by
   split
   ·exact ⟨.emit U _,by rw [d6]; omega⟩
   ·exact ⟨Gk U u,(zL U u).2⟩
  exact ⟨⟨j+1,_,d1,Sm,Y,rfl,b7.trans i4,i5,by rw [hg.1.len]; exact g6,by have:=hg.1.next; omega,by have:=hg.2; omega,d3,g⟩,by simp [intOf]; omega⟩
 have f7:j=ks.length:=by omega
 subst f7;have e0:cJ U [] (vs.drop ks.length)=U:=by rw [cJ]; all_goals simp
 rw [f8,e0] at d3;rw [d3];refine aq g 0 az rfl (by simpa using a2) ?_;refine al g 2 e4 az (by simpa using a2) rfl (by simpa using a9.one) fun w' g=>?_;refine bp g 2 az rfl (by simpa using a2) ?_;exact ⟨_,_,Sn,rfl,g.nil,e7.trans b7,rfl,J,rfl,a9⟩
end
end
section
open Go Go.RowKit
section
attribute [local irreducible] Run CondV aC aU
set_option maxHeartbeats 1000000 in
theorem HV {s:CS} {t:T} {i:Int} {S:ag} {cs ds:List Value} (h:MkS S cs s) (hd:RdT S ds t) (ho:okU 26 t) (hl:s.sl.length=26) (a2:0<=s.next) (a3:s.sz+8 * bM t<=800000000) :
  Tri Tryz.prog Nl [.agg cs.toArray,.agg ds.toArray,.int .i64 i] [] S (DI (eY s i t)):=by
 intro w a;have a8:=h.length;have a9:=hd;obtain ⟨kv,rfl,_,_,_,b2⟩:=RdT.iff.1 hd;have b5:=cZ t;have hb:s.sz<=900000000:=by omega
 have b1:s.next<=900000000/\s.code.length<=900000000:=by
  unfold CS.sz at hb;omega
 refine AH.2 ?_;dsimp only[AH,fB];refine bH a fun b3 w' a=>?_;refine bH a fun b4 w' a=>?_;refine aH a eo fun b6 w' a=>?_;obtain ⟨B4,a1⟩:∃ B4,B4=Item.blk b4 (.cells #[.int .i64 t.kind,.int .i64 t.n,.string t.name,kv] ac):=⟨_,rfl⟩
 have O:=congrArg some a1;have a:Inv w [] [.blk b3 (.cells cs.toArray av),B4,.blk b6 (.cells #[.slice none 0 0,.int .i64 0,.slice none 0 0] av)] S w':=by rw [a1]; exact a
 refine ah a 1 O bb aw rfl ?_;refine bn ?_;refine aS (fun h2=>?_) (fun h2=>?_)
 ·refine aq a 0 az rfl (by simpa using a8) ?_;refine ah a 1 O aV aw rfl ?_;refine jL ?_;refine Run.call0E c9 db a (cP ⟨10,t.n,i,emptyB⟩ h (by omega)) fun v' I' S2 w'=>?_;rintro ⟨rfl,o,rfl,g⟩ p a;refine al a 2 rfl az (by simpa using g.length) rfl (by simpa using g.one) fun w' a=>?_;refine bp a 2 az rfl (by simpa using g.length) ?_;have e:eY s i t=s.emit ⟨10,t.n,i,emptyB⟩:=by rw [eY,af h2]
  rw [e];exact ⟨_,_,S2,rfl,a.nil,p,rfl,o,rfl,g⟩
 refine ⟨fun q w'=>q=.bool (decide (t.kind=1/\0<=s.at_ t.n))/\Inv w [] [.blk b3 (.cells cs.toArray av),B4,.blk b6 (.cells #[.slice none 0 0,.int .i64 0,.slice none 0 0] av)] S w',?_,?_⟩
 ·refine ah a 1 O bb aw rfl ?_;refine bn ?_;by_cases J:t.kind=1
  ·rw [aP J];refine rpG ?_;obtain ⟨v1,v2,rfl,g1,g2⟩:=id h;have hv:=ho.var J;obtain ⟨m,hm⟩:∃ m:Nat,t.n=(m:Int):=⟨t.n.toNat,by omega⟩
   have M:m<s.sl.length:=by omega
   refine ah a 0 rfl dF fG rfl ?_;refine ah a 1 O aV aw rfl ?_;rw [hm,wt M];refine lr a g1 fI aw M (fun cs a5=>a5) ?_;refine lj ?_;refine rpG ?_;refine ⟨?_,a⟩;simp [J]
  ·rw [bf J];refine rpG ?_;refine ⟨?_,a⟩;simp [J]
 intro z _ _ _ _ _ _ _ _ _ _ _ _ w';rintro ⟨rfl,a⟩;obtain ⟨v1,v2,rfl,g1,g2⟩:=id h;refine aS (fun Y=>?_) (fun Y=>?_)
 ·obtain ⟨J,h0⟩:=Y;have e:eY s i t=s.emit ⟨9,s.at_ t.n,i,emptyB⟩:=by rw [eY,ae h2,af J,af h0]
  have hv:=ho.var J;obtain ⟨m,hm⟩:∃ m:Nat,t.n=(m:Int):=⟨t.n.toNat,by omega⟩
  have M:m<s.sl.length:=by omega
  have hJ:=a;obtain ⟨bq,oq,cap,c,E,fz,rfl,a6,a7⟩:=g1.at_ M;have a:=hJ;clear hJ;have b0:=wt M;rw [e];refine ⟨fun D Aq xZ qe s0 ra xp z4 DZ Du yy w_=>Fx D 0 [yy=.agg #[.slice (some ⟨bq,oq,none⟩) s.sl.length cap,.int .i64 s.next,v2],Du=.pointer (some ⟨b3,0,none⟩),DZ=.slice (some ⟨bq,oq,none⟩) s.sl.length cap,z4=.pointer (some ⟨b4,1,none⟩),xp=.int .i64 (m:Int),ra=.pointer (some ⟨bq,oq+m * 1,none⟩),s0=.int .i64 (s.at_ t.n),qe=.int .i64 i,xZ=.agg (Ist.cells ⟨9,s.at_ t.n,i,emptyB⟩).toArray,True,True]/\∃ C:Nat,C<=2/\D 9=decide (1<=C)/\D 10=decide (2<=C)/\(emS w [] (fun c=>[.blk b3 (.cells #[.slice (some ⟨bq,oq,none⟩) s.sl.length cap,.int .i64 s.next,v2] av),B4,.blk b6 (.cells c av)]) S #[.slice none 0 0,.int .i64 0,.slice none 0 0] (s.emit ⟨9,s.at_ t.n,i,emptyB⟩) Aq w_ C),⟨Fx.nil _ _,⟨0,aK _,rfl,rfl,a.draw⟩⟩,⟨?_,?_,?_,?_,?_,?_,?_,?_,?_,?_,?_,trivial⟩,?_⟩;all_goals (intro D bw; intros; rename_i Aq xZ qe s0 ra xp z4 DZ Du yy w_ a0; have u:=a0.1; obtain ⟨⟨cG,cf,cD,cF,bQ,cE,bZ,cL,dw,dl,ci,_⟩,⟨C,B,j,l,G⟩⟩:=a0)
  ·obtain ⟨S5,c5,N,a⟩:=G.any;refine aq a 0 az rfl rfl ?_;exact ⟨u.set 0 rfl,⟨C,B,j,l,G⟩⟩
  ·refine au dF ?_;exact ⟨u.set 1 rfl,⟨C,B,j,l,G⟩⟩
  ·obtain rfl:=cf ‹_›;obtain ⟨S5,c5,N,a⟩:=G.any;refine aD a 0 fG rfl rfl ?_;exact ⟨u.set 2 rfl,⟨C,B,j,l,G⟩⟩
  ·refine au aV ?_;exact ⟨u.set 3 rfl,⟨C,B,j,l,G⟩⟩
  ·obtain rfl:=cF ‹_›;obtain ⟨S5,c5,N,a⟩:=G.any;refine aD (v:=.int .i64 (m:Int)) a 1 aw O (by rw [<- hm]; rfl) ?_;exact ⟨u.set 4 rfl,⟨C,B,j,l,G⟩⟩
  ·obtain rfl:=cD ‹_›;obtain rfl:=bQ ‹_›;refine aT fI M ?_;exact ⟨u.set 5 rfl,⟨C,B,j,l,G⟩⟩
  ·obtain rfl:=cE ‹_›;obtain ⟨S5,c5,N,a⟩:=G.any;refine dE (v:=.int .i64 (s.at_ t.n)) aw (by rw [a.cellS (N _ _ a6),hm,b0]; exact bd a7 0 _ rfl) ?_;exact ⟨u.set 6 rfl,⟨C,B,j,l,G⟩⟩
  ·exact ⟨u.set 7 rfl,⟨C,B,j,l,G⟩⟩
  ·obtain rfl:=bZ ‹_›;obtain rfl:=cL ‹_›;refine jL ?_;exact ⟨u.set 8 rfl,⟨C,B,j,l,G⟩⟩
  ·obtain rfl:=cG ‹_›;obtain rfl:=dw ‹_›;obtain rfl:C=0:=iI j bw;refine Run.call0E c9 db G (cP ⟨9,s.at_ t.n,i,emptyB⟩ h (by omega)) fun v' I' S2 w_=>?_;rintro ⟨rfl,o,rfl,g⟩ p a;have Z:emS w [] (fun c=>[.blk b3 (.cells #[.slice (some ⟨bq,oq,none⟩) s.sl.length cap,.int .i64 s.next,v2] av),B4,.blk b6 (.cells c av)]) S #[.slice none 0 0,.int .i64 0,.slice none 0 0] (s.emit ⟨9,s.at_ t.n,i,emptyB⟩) (.agg o.toArray) w_ 1:=⟨S2,o,rfl,g,p,a⟩
   exact ⟨u.set 9 (by first|assumption|trivial),⟨1,by decide,rfl,(by first|exact l|rfl),Z⟩⟩
  ·have DC:=dl ‹_›;obtain rfl:C=1:=gF j ‹D 9=true› l bw;obtain ⟨S2,o,rfl,g,p,a⟩:=G;refine al a 2 rfl az (by simpa using g.length) rfl (by simpa using g.one) fun w_ a=>?_;have Z:emS w [] (fun c=>[.blk b3 (.cells #[.slice (some ⟨bq,oq,none⟩) s.sl.length cap,.int .i64 s.next,v2] av),B4,.blk b6 (.cells c av)]) S #[.slice none 0 0,.int .i64 0,.slice none 0 0] (s.emit ⟨9,s.at_ t.n,i,emptyB⟩) (.agg o.toArray) w_ 2:=⟨S2,o,g,p,a⟩
   exact ⟨u.set 10 trivial,⟨2,by decide,(by first|exact j|rfl),rfl,Z⟩⟩
  obtain rfl:C=2:=iH B l ‹D 10=true›;clear j l;obtain ⟨S2,o,g,p,a⟩:=G;refine bp a 2 az rfl (by simpa using g.length) ?_;exact ⟨_,_,S2,rfl,a.nil,p,rfl,o,rfl,g⟩
 refine ah a 1 O bb aw rfl ?_;refine bn ?_;refine aS (fun J=>?_) (fun J=>?_)
 ·have hv:=ho.var J;have h0:¬ 0<=s.at_ t.n:=fun h0=>Y ⟨J,h0⟩;have e:eY s i t=(s.put t.n s.next).inc.emit ⟨8,s.next,i,emptyB⟩:=by rw [eY,ae h2,af J,ae h0]
  refine aq a 0 az rfl rfl ?_;refine ah a 1 O aV aw rfl ?_;refine ah a 0 rfl cT aw rfl ?_;refine Run.call0E pr o8 a (ny (n:=t.n) (k:=s.next) h hl (by omega)) fun v' I' S2 w'=>?_;rintro ⟨rfl,o,rfl,g⟩ p a;refine al a 0 rfl az (by simpa using g.length) rfl (by simpa using g.one) fun w' a=>?_;obtain ⟨z1,z2,rfl,y1,y2⟩:=id g;refine ah a 0 rfl cT aw rfl ?_;have en:(s.put t.n s.next).next=s.next:=rfl;rw [en];refine bF (by omega) ?_;refine dG a 0 rfl cT aw rfl rfl rfl fun w' a=>?_;have a:Inv w [] [.blk b3 (.cells #[z1,.int .i64 (s.next+1),z2] av),B4,.blk b6 (.cells #[.slice none 0 0,.int .i64 0,.slice none 0 0] av)] S2 w':=a;have r:MkS S2 [z1,.int .i64 (s.next+1),z2] (s.put t.n s.next).inc:=⟨z1,z2,rfl,y1,y2⟩
  refine aq a 0 az rfl rfl ?_;refine ah a 0 rfl cT aw rfl ?_;refine jx (by omega) ?_;rw [show s.next+1 - 1=s.next by omega];refine jL ?_;refine Run.call0E c9 db a (cP ⟨8,s.next,i,emptyB⟩ r (by show s.code.length<=_; omega)) fun v' I' S3 w'=>?_;rintro ⟨rfl,U,rfl,r⟩ V a;refine al a 2 rfl az (by simpa using r.length) rfl (by simpa using r.one) fun w' a=>?_;refine bp a 2 az rfl (by simpa using r.length) ?_;rw [e];exact ⟨_,_,S3,rfl,a.nil,p.trans V,rfl,U,rfl,r⟩
 ·have h3:t.kind=3:=by have:=ho.three; omega
  have e:eY s i t=(aW t s).1.emit ⟨9,(aW t s).2,i,emptyB⟩:=by rw [eY,ae h2,ae J]
  refine aq a 0 az rfl rfl ?_;refine aq a 1 ad O rfl ?_;refine Run.call0E tb uP a (C6 t S _ _ s h a9 ho hl a2 a3) fun v' I' S2 w'=>?_;rintro ⟨rfl,o,rfl,g⟩ p a;refine aA rfl ?_;refine aA rfl ?_;refine al a 0 rfl az (by simpa using g.length) rfl (by simpa using g.one) fun w' a=>?_;refine aq a 0 az rfl (by simpa using g.length) ?_;refine jL ?_;have b7:=(kD t s).2;have b8:=(qM t s).1.next;refine Run.call0E c9 db a (cP ⟨9,(aW t s).2,i,emptyB⟩ g (by
   have a4:(aW t s).1.sz<=900000000:=by omega
   unfold CS.sz at a4;omega)) fun v' I' S3 w'=>?_
  rintro ⟨rfl,U,rfl,r⟩ V a;refine al a 2 rfl az (by simpa using r.length) rfl (by simpa using r.one) fun w' a=>?_;refine bp a 2 az rfl (by simpa using r.length) ?_;rw [e];exact ⟨_,_,S3,rfl,a.nil,p.trans V,rfl,U,rfl,r⟩
set_option maxHeartbeats 1000000 in
theorem CM {s:CS} {J:List T} {S:ag} {cs:List Value} {v:Value} (h:MkS S cs s) (c7:RdSl S 4 (RdT S) v J) (ho:∀ t∈J,okU 26 t/\t.kind=3) (hl:s.sl.length=26) (e1:0<=s.next) (g5:s.sz+8 * bi J<=800000000) :
  Tri Tryz.prog HD [.agg cs.toArray,v] [] S (DI ((dr s J).emit ⟨14,0,0,emptyB⟩)):=by
 intro w l;have h6:=h.length;have d7:=c7.le;simp only [maxLen] at d7;have h7:0<=s.sz:=by unfold CS.sz; omega
 have h8:=iM J;refine tm.2 ?_;dsimp only[tm,bm];refine bH l fun b2 w' l=>?_;refine aH l eo fun b4 w' l=>?_;obtain ⟨B4,d2⟩:∃ B4,B4=Item.blk b4 (.cells #[.slice none 0 0,.int .i64 0,.slice none 0 0] av):=⟨_,rfl⟩
 have e4:=congrArg some d2;have l:Inv w [] [.blk b2 (.cells cs.toArray av),B4] S w':=by rw [d2]; exact l
 refine ⟨fun i w'=>∃ (j:Nat) (B:CS) (a2:List Value) (Sj:ag),j<=J.length/\i=.int .i64 j/\Ext w.heap.size [] S Sj/\MkS Sj a2 B/\B.sl.length=26/\0<=B.next/\B.sz+8 * bi (J.drop j)<=s.sz+8 * bi J/\dr s J=dr B (J.drop j)/\
   Inv w [] [.blk b2 (.cells a2.toArray av),B4] Sj w',fun i _=>J.length - (intOf i).toNat,
   ⟨0,s,cs,S,aK _,rfl,Ext.refl _ _ _,h,hl,e1,by rw [dT]; omega,by rw [dT],l⟩,?_⟩
 intro i _ _ _ _ _ _ _ _ _ _ _ _ _ _ _ _ _ _ _ _ _ _ _ _ _ _ _ _ _ _ _ _ _ _ _ _ _ _ _ _ _ _ _ _ _ _ _ _ w';rintro ⟨j,B,a2,Sj,hj,rfl,c2,b0,c8,e2,e3,b1,l⟩;have c1:=c7.monoT c2.1;have a6:=b0.length;refine aG c1 ao ?_;refine cu ?_;have hb:B.sz<=900000000:=by have:=bU (J.drop j); omega
 have g2:B.next<=900000000/\B.code.length<=900000000:=by
  unfold CS.sz at hb;omega
 refine aS (fun f0=>?_) (fun f0=>?_)
 ·have a7:j<J.length:=by omega
  obtain ⟨g,hg⟩:∃ g,g=J[j]:=⟨_,rfl⟩
  have d9:okU 26 g/\g.kind=3:=by rw [hg]; exact ho _ (cH a7)
  have h9:=bU (J.drop (j+1));rw [ku J j a7,<- hg] at e3;rw [yz J B j a7,<- hg] at b1;have i0:bM g=1+bi g.kids:=by cases g; rw [bM]; rfl
  refine ⟨fun w'=>∃ (a9:List Value) (Sn:ag),Ext w.heap.size [] Sj Sn/\MkS Sn a9 (eJ B g)/\Inv w [] [.blk b2 (.cells a9.toArray av),B4] Sn w',?_,?_⟩
  ·refine dy l c1 ao ad a7 (fun _ _=>RdT.length) fun ds a5=>?_;rw [<- hg] at a5;have f4:=a5.length;refine aH l aM fun b6 w' l=>?_;refine al l 2 rfl ad (by simpa using f4) rfl (by simpa using a5.one) fun w' l=>?_;have f5:=a5;obtain ⟨ka,kn,kc,h4,d3,d4⟩:∃ ka kn kc,kn=g.kids.length/\ds=[.int .i64 g.kind,.int .i64 g.n,.string g.name,.slice ka kn kc]/\RdSl Sj 4 (RdT Sj) (.slice ka kn kc) g.kids:=by
    obtain ⟨h5,e,_,_,_,b9⟩:=RdT.iff.1 a5;obtain ⟨a,c,rfl,_⟩:=id b9;exact ⟨a,_,c,rfl,e,b9⟩
   subst d3;obtain ⟨B6,b5⟩:∃ B6,B6=Item.blk b6 (.cells #[.int .i64 g.kind,.int .i64 g.n,.string g.name,.slice ka kn kc] ac):=⟨_,rfl⟩
   have e6:=congrArg some b5;have l:Inv w [] [.blk b2 (.cells a2.toArray av),B4,B6] Sj w':=by rw [b5]; exact l
   refine aq l 2 ad e6 rfl ?_;refine Run.callPure Bj AN l (yE f5) fun w' l=>?_;refine aI (fun hc=>?_) (fun hc=>?_)
   ·refine aq l 0 az rfl (by simpa using a6) ?_;refine Fa ?_;refine Run.call0E c9 db l (cP ⟨13,0,0,emptyB⟩ b0 (by omega)) fun v' I' S2 w'=>?_;rintro ⟨rfl,a3,rfl,p⟩ a4 l;refine al l 0 rfl az (by simpa using p.length) (by simpa using a6) (by simpa using p.one) fun w' l=>?_;have e:eJ B g=B.emit ⟨13,0,0,emptyB⟩:=by rw [eJ,af hc]
    rw [e];exact ⟨a3,S2,a4,p,l.pick [true,true,false]⟩
   have e:eJ B g=(dM B 0 g.kids).emit ⟨if eX g=true then 12 else 11,g.kids.length,0,g.name⟩:=by rw [eJ,ae (by rw [hc]; decide)]
   rw [e];have e0:∀ t∈g.kids,okU 26 t:=iv d9.1.kids;have f6:=d4.le;simp only [maxLen] at f6;refine ⟨fun i w'=>∃ (m:Nat) (U:CS) (M:List Value) (Sm:ag),m<=g.kids.length/\i=.int .i64 m/\Ext w.heap.size [] Sj Sm/\MkS Sm M U/\U.sl.length=26/\0<=U.next/\U.sz+8 * bi (g.kids.drop m)<=B.sz+8 * bi g.kids/\dM B 0 g.kids=dM U m (g.kids.drop m)/\
     Inv w [] [.blk b2 (.cells M.toArray av),B4,B6] Sm w',fun i _=>g.kids.length - (intOf i).toNat,
     ⟨0,B,a2,Sj,aK _,rfl,Ext.refl _ _ _,b0,c8,e2,by rw [dT]; omega,by rw [dT]; rfl,l⟩,?_⟩
   intro i _ _ g6 g7 g8 g9 h0 h1 h2 h3 _ _ _ _ _ w';rintro ⟨m,U,M,Sm,hm,rfl,c3,c4,d0,e5,e7,b3,l⟩;have b8:=d4.monoT c3.1;have a0:=c4.length;refine ah l 2 e6 ay ax rfl ?_;refine aG b8 ao ?_;refine cu ?_;have f7:U.sz<=900000000:=by have:=bU (g.kids.drop m); omega
   have g3:U.next<=900000000/\U.code.length<=900000000:=by
    unfold CS.sz at f7;omega
   refine aS (fun f1=>?_) (fun f1=>?_)
   ·have a1:m<g.kids.length:=by omega
    obtain ⟨u,hu⟩:∃ u,u=g.kids[m]:=⟨_,rfl⟩
    have f8:okU 26 u:=by rw [hu]; exact e0 _ (cH a1)
    have g4:=bU (g.kids.drop (m+1));rw [ku g.kids m a1,<- hu] at e7;rw [zR g.kids U m m a1,<- hu] at b3;obtain ⟨bq,oq,cap,c,E,fz,f2,f3,b7⟩:=b8.at_ a1;rw [<- hu] at b7;obtain ⟨du,d6⟩:∃ du,du=bB c (oq+m * 4) 4:=⟨_,rfl⟩
    rw [<- d6] at b7;rw [f2] at b5;have e6:=congrArg some b5;refine ⟨fun D qe s0 ra xp z4 DZ Du yy w_=>Fx D 0 [yy=.agg M.toArray,Du=.pointer (some ⟨b6,3,none⟩),DZ=.slice (some ⟨bq,oq,none⟩) g.kids.length cap,z4=.int .i64 (m:Int),xp=.pointer (some ⟨bq,oq+m * 4,none⟩),ra=.agg du.toArray,s0=.int .i64 (m:Int),True,True]/\∃ Z:Nat,Z<=2/\D 7=decide (1<=Z)/\D 8=decide (2<=Z)/\(emS w [] (fun c=>[.blk b2 (.cells c av),B4,B6]) Sm M.toArray (eY U m u) qe w_ Z/\(D 8=true->D 0=true)),⟨Fx.nil _ _,⟨0,aK _,rfl,rfl,⟨l.draw,aY⟩⟩⟩,⟨?_,?_,?_,?_,?_,?_,?_,?_,?_,trivial⟩,?_⟩;all_goals (intro D bw; intros; rename_i qe s0 ra xp z4 DZ Du yy w_ d1; have G:=d1.1; obtain ⟨⟨cG,cf,cD,cF,bQ,cE,bZ,cL,dw,_⟩,⟨Z,N,r,q,O⟩⟩:=d1)
    ·have dw:D 8=false:=cS.2 fun h=>by rw [O.2 h] at bw; cases bw
     obtain ⟨S6,C,l⟩:=O.1.inv (ML q dw);refine aq l 0 az rfl (by simpa using a0) ?_;have O:=And.intro O.1 (fun (_:aE D 0 8=true)=>(rfl:aE D 0 0=true));exact ⟨G.set 0 rfl,⟨Z,N,r,q,O⟩⟩
    ·refine au ay ?_;exact ⟨G.set 1 rfl,⟨Z,N,r,q,O⟩⟩
    ·obtain rfl:=cf ‹_›;obtain ⟨S6,c6,C,l⟩:=O.1.any;refine aD l 2 ax e6 rfl ?_;exact ⟨G.set 2 rfl,⟨Z,N,r,q,O⟩⟩
    ·exact ⟨G.set 3 rfl,⟨Z,N,r,q,O⟩⟩
    ·obtain rfl:=cD ‹_›;obtain rfl:=cF ‹_›;refine aT ao a1 ?_;exact ⟨G.set 4 rfl,⟨Z,N,r,q,O⟩⟩
    ·obtain rfl:=bQ ‹_›;obtain ⟨S6,c6,C,l⟩:=O.1.any;refine dX (cs:=du) ad b7.length (fun f v hf=>by rw [l.cellS (C _ _ f3)]; exact bd d6.symm f v hf) ?_;exact ⟨G.set 5 rfl,⟨Z,N,r,q,O⟩⟩
    ·exact ⟨G.set 6 rfl,⟨Z,N,r,q,O⟩⟩
    ·obtain rfl:=cG ‹_›;obtain rfl:=cE ‹_›;obtain rfl:=bZ ‹_›;obtain rfl:Z=0:=iI r bw;refine Run.call0E Ld Jw O.1 (HV (i:=(m:Int)) c4 b7 f8 d0 e5 (by omega)) fun v' I' S6 w_=>?_;rintro ⟨rfl,V,rfl,Y⟩ C l;have c5:emS w [] (fun c=>[.blk b2 (.cells c av),B4,B6]) Sm M.toArray (eY U m u) (.agg V.toArray) w_ 1:=⟨S6,V,rfl,Y,C,l⟩
     exact ⟨G.set 7 (by first|assumption|trivial),⟨1,by decide,rfl,(by first|exact q|rfl),⟨c5,O.2⟩⟩⟩
    ·have Cs:=cL ‹_›;obtain rfl:Z=1:=gF r ‹D 7=true› q bw;obtain ⟨S6,V,rfl,Y,C,l⟩:=O.1;refine al l 0 rfl az (by simpa using Y.length) (by simpa using a0) (by simpa using Y.one) fun w_ l=>?_;have c5:emS w [] (fun c=>[.blk b2 (.cells c av),B4,B6]) Sm M.toArray (eY U m u) (.agg V.toArray) w_ 2:=⟨S6,V,Y,C,l⟩
     exact ⟨G.set 8 trivial,⟨2,by decide,(by first|exact r|rfl),rfl,⟨c5,fun _=>‹D 0=true›⟩⟩⟩
    obtain rfl:Z=2:=iH N q ‹D 8=true›;clear r q;obtain ⟨S6,V,Y,C,l⟩:=O.1;refine bF (by omega) ?_;have a8:=Mt U m u;have f9:=(FN U m u).2;exact ⟨⟨m+1,_,V,S6,a1,rfl,c3.trans C,Y,by rw [a8.len]; exact d0,by have:=a8.next; omega,by omega,b3,l⟩,by simp [intOf]; omega⟩
   have g0:m=g.kids.length:=by omega
   subst g0;rw [ew,dM] at b3;rw [b3];refine ⟨fun o w'=>o=.int .i64 (if eX g=true then 12 else 11)/\Inv w [] [.blk b2 (.cells M.toArray av),B4,B6] Sm w',?_,?_⟩
   ·refine ah l 2 e6 bk aZ rfl ?_;refine ah l 2 e6 ay ax rfl ?_;refine aG b8 ao ?_;refine Run.callPure lg kG l (i8 _ _ Sm) fun w' l=>?_;have eb:eX g=gg g.name g.kids.length:=by rw [eX,aP d9.2,eL]
    refine aI (fun hb=>?_) (fun hb=>?_)
    ·exact ⟨by rw [af (by rw [eb]; exact hb)],l⟩
    ·exact ⟨by rw [ae (by rw [eb,hb]; decide)],l⟩
   intro o _ _ _ _ _ _ w';rintro ⟨rfl,l⟩;refine aq l 0 az rfl (by simpa using a0) ?_;refine ah l 2 e6 ay ax rfl ?_;refine aG b8 ao ?_;refine ah l 2 e6 bk aZ rfl ?_;refine OK ?_;refine Run.call0E c9 db l (cP ⟨if eX g=true then 12 else 11,g.kids.length,0,g.name⟩ c4 (by omega)) fun v' I' S2 w'=>?_;rintro ⟨rfl,a3,rfl,p⟩ a4 l;refine al l 0 rfl az (by simpa using p.length) (by simpa using a0) (by simpa using p.one) fun w' l=>?_;exact ⟨a3,S2,c3.trans a4,p,l.pick [true,true,false]⟩
  intro _ _ _ _ _ _ _ _ _ _ _ _ _ _ _ _ _ _ _ _ _ _ _ _ _ _ _ _ _ _ _ _ _ _ _ _ _ _ _ _ _ _ w';rintro ⟨a9,Sn,e8,e9,l⟩;refine bF (by omega) ?_;have a8:=NV B g;have f9:=(IM B g).2;exact ⟨⟨j+1,_,a9,Sn,a7,rfl,c2.trans e8,e9,by rw [a8.len]; exact c8,by have:=a8.next; omega,by omega,b1,l⟩,by simp [intOf]; omega⟩
 have g1:j=J.length:=by omega
 subst g1;rw [ew,dr] at b1;rw [b1];refine aq l 0 az rfl (by simpa using a6) ?_;refine Fa ?_;refine Run.call0E c9 db l (cP ⟨14,0,0,emptyB⟩ b0 (by omega)) fun v' I' S2 w'=>?_;rintro ⟨rfl,a3,rfl,p⟩ a4 l;refine al l 1 e4 az (by simpa using p.length) rfl (by simpa using p.one) fun w' l=>?_;refine bp l 1 az rfl (by simpa using p.length) ?_;exact ⟨_,_,S2,rfl,l.nil,c2.trans a4,rfl,a3,rfl,p⟩
end
end
section
open Go Go.RowKit
theorem Ec:∀ (ts:List T) (s:CS),∀ x∈(bo s ts).2,x.1∈ts
 | [],s,x,h=>by rw [bo] at h; cases h
 | t::ts,s,x,h=>by
  rw [bo] at h;rcases cI.1 h with h|h
  ·unfold ch at h;split at h
   ·rw [cO.1 h]; exact bL ..
   ·cases h
  ·exact bV _ (Ec ts _ x h)
section
variable {P:Program} {w w0:World} {X:List Nat} {L:List Item} {S:ag} {K:Value->World->Prop}
attribute [local irreducible] Run CondV aC aU
theorem Nz (h:Inv w0 X L S w) (i:Nat) {T ty e:TypeId} {cs:List Bool} {k n:Nat} {v:Value} {xs:List Value} {Ek:TypeId × Nat} (j:L[i]?=some (.row v e k n xs)) (a:cY P T=some Ek) (hk:K (.int .i64 (n:Int)) w) :
  Run P (bO .len #[T] ty cs [v]) w K:=by
 have l:w.ownsRow 0 e k v n xs:=h.its (.row v e k n xs) (fj j);rcases l.2 with ⟨rfl,hn⟩|⟨g,cap,m,rfl,_⟩
 ·subst hn;exact iN a hk
 ·exact iN a hk
end
section
attribute [local irreducible] Run CondV aC aU
set_option maxHeartbeats 2000000 in
theorem Gl {s:CS} {ks:List T} {S:ag} {cs:List Value} {v:Value} (h:MkS S cs s) (e3:RdSl S 4 (RdT S) v ks) (ho:∀ t∈ks,okU 26 t) (hl:s.sl.length=26) (g6:0<=s.next) (j9:s.sz+16 * bi ks<=800000000) :
  Tri Tryz.prog Jp [.agg cs.toArray,v] [] S (DI (fp s ks)):=by
 intro w a;have l2:=h.length;have f5:=e3.le;simp only [maxLen] at f5;have l3:0<=s.sz:=by unfold CS.sz; omega
 have l4:=iM ks;refine yb.2 ?_;dsimp only[yb,bm];refine bH a fun b2 w' a=>?_;refine aH a eo fun b4 w' a=>?_;refine fc a jJ fun Y w' a=>?_;obtain ⟨B4,f0⟩:∃ B4,B4=Item.blk b4 (.cells #[.slice none 0 0,.int .i64 0,.slice none 0 0] av):=⟨_,rfl⟩
 have e4:=congrArg some f0;have a:Inv w [] [.blk b2 (.cells cs.toArray av),B4,aB Y co 5 []] S w':=by rw [f0]; exact a
 refine ⟨fun i Y w'=>∃ (j:Nat) (l:CS) (a5:List Value) (Sj:ag) (css:List (List Value)) (q:List (T × Int)),j<=ks.length/\i=.int .i64 j/\Ext w.heap.size [] S Sj/\MkS Sj a5 l/\l.sl.length=26/\0<=l.next/\l.sz<=s.sz+j/\q.length<=j/\(∀ x∈q,okU 26 x.1)/\bj s 0 ks=((bj l j (ks.drop j)).1,q++(bj l j (ks.drop j)).2)/\Rows 5 (RdQ Sj) css q/\
   Inv w [] [.blk b2 (.cells a5.toArray av),B4,aB Y co 5 css] Sj w',fun i _ _=>ks.length - (intOf i).toNat,
   ⟨0,s,cs,S,[],[],aK _,rfl,Ext.refl _ _ _,h,hl,g6,by omega,by simp,fun x hx=>by simp at hx,by rw [dT,rC]; rfl,Rows.nil _ _,a⟩,?_⟩
 intro i _ _ Y _ _ _ _ _ _ _ _ _ _ _ _ _ _ _ k0 k1 k2 k3 k4 k5 k6 k7 k8 k9 _ _ _ _ _ _ _ _ _ _ _ _ _ _ _ _ _ _ _ _ _ _ _ _ _ _ _ _ _ _ _ _ w';rintro ⟨j,l,a5,Sj,css,q,hj,rfl,c7,U,c8,g7,g8,l0,a8,hA,hR,a⟩;have c4:=e3.monoT c7.1;have c6:=U.length;refine aG c4 ao ?_;refine cu ?_;refine aS (fun d0=>?_) (fun d0=>?_)
 ·have b7:j<ks.length:=by omega
  obtain ⟨u,hu⟩:∃ u,u=ks[j]:=⟨_,rfl⟩
  have c1:okU 26 u:=by rw [hu]; exact ho _ (cH b7)
  rw [xC ks l j j b7,<- hu] at hA;have l5:=hR.hc;have hb:l.sz<=900000000:=by omega
  have f6:l.next<=900000000/\l.code.length<=900000000:=by
   unfold CS.sz at hb;omega
  refine ⟨fun Y w'=>∃ (p:List Value) (Sn:ag) (css:List (List Value)),Ext w.heap.size [] Sj Sn/\MkS Sn p (bx l j u).1/\Rows 5 (RdQ Sn) css (q++(bx l j u).2)/\
    Inv w [] [.blk b2 (.cells p.toArray av),B4,aB Y co 5 css] Sn w',?_,?_⟩
  ·refine dy a c4 ao ad b7 (fun _ _=>RdT.length) fun ds a3=>?_;rw [<- hu] at a3;have i4:=a3.length;refine aH a aM fun b8 w' a=>?_;refine al a 3 rfl ad (by simpa using i4) rfl (by simpa using a3.one) fun w' a=>?_;have f7:=a3;obtain ⟨a9,rfl,_,_,_,j4⟩:=RdT.iff.1 a3;obtain ⟨B8,f1⟩:∃ B8,B8=Item.blk b8 (.cells #[.int .i64 u.kind,.int .i64 u.n,.string u.name,a9] ac):=⟨_,rfl⟩
   have e8:=congrArg some f1;have a:Inv w [] [.blk b2 (.cells a5.toArray av),B4,aB Y co 5 css,B8] Sj w':=by rw [f1]; exact a
   have fin:∀ (p:List Value) (Sn:ag) (V:CS) (w':World),bx l j u=(V,[])->Ext w.heap.size [] Sj Sn->MkS Sn p V->Inv w [] [.blk b2 (.cells p.toArray av),B4,aB Y co 5 css,B8] Sn w'->∃ (p:List Value) (Sn:ag) (css:List (List Value)),Ext w.heap.size [] Sj Sn/\MkS Sn p (bx l j u).1/\Rows 5 (RdQ Sn) css (q++(bx l j u).2)/\
     Inv w [] [.blk b2 (.cells p.toArray av),B4,aB Y co 5 css] Sn w':=fun p Sn V w' e Z h2 h3=>by
    rw [e];exact ⟨p,Sn,css,Z,h2,by rw [dc]; exact hR.monoR fun _ _ h=>h.mono Z.1,h3.pick [true,true,true,false]⟩
   refine ah a 3 e8 bb aw rfl ?_;refine bn ?_;refine aS (fun h2=>?_) (fun h2=>?_)
   ·refine aq a 0 az rfl (by simpa using c6) ?_;refine ah a 3 e8 aV aw rfl ?_;refine jL ?_;refine Run.call0E c9 db a (cP ⟨2,u.n,j,emptyB⟩ U (by omega)) fun v' I' S2 w'=>?_;rintro ⟨rfl,G,rfl,o⟩ B a;refine al a 0 rfl az (by simpa using o.length) (by simpa using c6) (by simpa using o.one) fun w' a=>?_;exact fin G S2 _ _ (by rw [bx,af h2]) B o a
   refine ⟨fun q w'=>q=.bool (decide (u.kind=1/\0<=l.at_ u.n))/\Inv w [] [.blk b2 (.cells a5.toArray av),B4,aB Y co 5 css,B8] Sj w',?_,?_⟩
   ·refine ah a 3 e8 bb aw rfl ?_;refine bn ?_;by_cases Z:u.kind=1
    ·rw [aP Z];refine rpG ?_;obtain ⟨v1,v2,rfl,g1,g2⟩:=id U;have hv:=c1.var Z;obtain ⟨m,hm⟩:∃ m:Nat,u.n=(m:Int):=⟨u.n.toNat,by omega⟩
     have a7:m<l.sl.length:=by omega
     refine ah a 0 rfl dF fG rfl ?_;refine ah a 3 e8 aV aw rfl ?_;rw [hm,wt a7];refine lr a g1 fI aw a7 (fun cs d1=>d1) ?_;refine lj ?_;refine rpG ?_;refine ⟨?_,a⟩;simp [Z]
    ·rw [bf Z];refine rpG ?_;refine ⟨?_,a⟩;simp [Z]
   intro z _ _ _ _ _ _ _ _ _ _ _ _ w';rintro ⟨rfl,a⟩;refine aS (fun d2=>?_) (fun d2=>?_)
   ·obtain ⟨Z,h0⟩:=d2;have e:bx l j u=(l.emit ⟨1,l.at_ u.n,j,emptyB⟩,[]):=by rw [bx,ae h2,af Z,af h0]
    have hv:=c1.var Z;obtain ⟨m,hm⟩:∃ m:Nat,u.n=(m:Int):=⟨u.n.toNat,by omega⟩
    have a7:m<l.sl.length:=by omega
    obtain ⟨v1,v2,rfl,g1,g2⟩:=id U;obtain ⟨bq,oq,cap,c,E,fz,rfl,h9,i0⟩:=g1.at_ a7;have i5:=wt a7;refine ⟨fun D tU rr rT pE rY oG oR s3 pD ot w_=>Fx D 0 [ot=.agg #[.slice (some ⟨bq,oq,none⟩) l.sl.length cap,.int .i64 l.next,v2],pD=.pointer (some ⟨b2,0,none⟩),s3=.slice (some ⟨bq,oq,none⟩) l.sl.length cap,oR=.pointer (some ⟨b8,1,none⟩),oG=.int .i64 (m:Int),rY=.pointer (some ⟨bq,oq+m * 1,none⟩),pE=.int .i64 (l.at_ u.n),rT=.int .i64 (j:Int),rr=.agg (Ist.cells ⟨1,l.at_ u.n,j,emptyB⟩).toArray,True,True]/\∃ n_:Nat,n_<=2/\D 9=decide (1<=n_)/\D 10=decide (2<=n_)/\(emS w [] (fun c=>[.blk b2 (.cells c av),B4,aB Y co 5 css,B8]) Sj #[.slice (some ⟨bq,oq,none⟩) l.sl.length cap,.int .i64 l.next,v2] (l.emit ⟨1,l.at_ u.n,j,emptyB⟩) tU w_ n_/\(D 10=true->D 0=true/\D 2=true)),⟨Fx.nil _ _,⟨0,aK _,rfl,rfl,⟨a.draw,aY⟩⟩⟩,⟨?_,?_,?_,?_,?_,?_,?_,?_,?_,?_,?_,trivial⟩,?_⟩;all_goals (intro D bw; intros; rename_i tU rr rT pE rY oG oR s3 pD ot w_ e5; have M:=e5.1; obtain ⟨⟨cG,cf,cD,cF,bQ,cE,bZ,cL,dw,dl,ci,_⟩,⟨n_,O,C,r,J⟩⟩:=e5)
    ·have dl:D 10=false:=cS.2 fun h=>by rw [(J.2 h).1] at bw; cases bw
     obtain ⟨S5,b6,a⟩:=J.1.inv (ML r dl);refine aq a 0 az rfl rfl ?_;have J:=And.intro J.1 (fun (h:aE D 0 10=true)=>(⟨rfl,(J.2 h).2⟩:aE D 0 0=true/\aE D 0 2=true));exact ⟨M.set 0 rfl,⟨n_,O,C,r,J⟩⟩
    ·refine au dF ?_;exact ⟨M.set 1 rfl,⟨n_,O,C,r,J⟩⟩
    ·obtain rfl:=cf ‹_›;have dl:D 10=false:=cS.2 fun h=>by rw [(J.2 h).2] at bw; cases bw
     obtain ⟨S5,b6,a⟩:=J.1.inv (ML r dl);refine aD a 0 fG rfl rfl ?_;have J:=And.intro J.1 (fun (h:aE D 2 10=true)=>(⟨(J.2 h).1,rfl⟩:aE D 2 0=true/\aE D 2 2=true));exact ⟨M.set 2 rfl,⟨n_,O,C,r,J⟩⟩
    ·refine au aV ?_;exact ⟨M.set 3 rfl,⟨n_,O,C,r,J⟩⟩
    ·obtain rfl:=cF ‹_›;obtain ⟨S5,c5,b6,a⟩:=J.1.any;refine aD (v:=.int .i64 (m:Int)) a 3 aw e8 (by rw [<- hm]; rfl) ?_;exact ⟨M.set 4 rfl,⟨n_,O,C,r,J⟩⟩
    ·obtain rfl:=cD ‹_›;obtain rfl:=bQ ‹_›;refine aT fI a7 ?_;exact ⟨M.set 5 rfl,⟨n_,O,C,r,J⟩⟩
    ·obtain rfl:=cE ‹_›;obtain ⟨S5,c5,b6,a⟩:=J.1.any;refine dE (v:=.int .i64 (l.at_ u.n)) aw (by rw [a.cellS (b6 _ _ h9),hm,i5]; exact bd i0 0 _ rfl) ?_;exact ⟨M.set 6 rfl,⟨n_,O,C,r,J⟩⟩
    ·exact ⟨M.set 7 rfl,⟨n_,O,C,r,J⟩⟩
    ·obtain rfl:=bZ ‹_›;obtain rfl:=cL ‹_›;refine jL ?_;exact ⟨M.set 8 rfl,⟨n_,O,C,r,J⟩⟩
    ·obtain rfl:=cG ‹_›;obtain rfl:=dw ‹_›;obtain rfl:n_=0:=iI C bw;refine Run.call0E c9 db J.1 (cP ⟨1,l.at_ u.n,j,emptyB⟩ U (by omega)) fun v' I' S2 w_=>?_;rintro ⟨rfl,G,rfl,o⟩ B a;have d9:emS w [] (fun c=>[.blk b2 (.cells c av),B4,aB Y co 5 css,B8]) Sj #[.slice (some ⟨bq,oq,none⟩) l.sl.length cap,.int .i64 l.next,v2] (l.emit ⟨1,l.at_ u.n,j,emptyB⟩) (.agg G.toArray) w_ 1:=⟨S2,G,rfl,o,B,a⟩
     exact ⟨M.set 9 (by first|assumption|trivial),⟨1,by decide,rfl,(by first|exact r|rfl),⟨d9,J.2⟩⟩⟩
    ·have DC:=dl ‹_›;obtain rfl:n_=1:=gF C ‹D 9=true› r bw;obtain ⟨S2,G,rfl,o,B,a⟩:=J.1;refine al a 0 rfl az (by simpa using o.length) rfl (by simpa using o.one) fun w_ a=>?_;have d9:emS w [] (fun c=>[.blk b2 (.cells c av),B4,aB Y co 5 css,B8]) Sj #[.slice (some ⟨bq,oq,none⟩) l.sl.length cap,.int .i64 l.next,v2] (l.emit ⟨1,l.at_ u.n,j,emptyB⟩) (.agg G.toArray) w_ 2:=⟨S2,G,o,B,a⟩
     exact ⟨M.set 10 trivial,⟨2,by decide,(by first|exact C|rfl),rfl,⟨d9,fun _=>⟨‹D 0=true›,‹D 2=true›⟩⟩⟩⟩
    obtain rfl:n_=2:=iH O r ‹D 10=true›;clear C r;obtain ⟨S2,G,o,B,a⟩:=J.1;exact fin G S2 _ _ e B o a
   refine ah a 3 e8 bb aw rfl ?_;refine bn ?_;obtain ⟨v1,v2,rfl,g1,g2⟩:=id U;refine aS (fun Z=>?_) (fun Z=>?_)
   ·have hv:=c1.var Z;have h0:¬ 0<=l.at_ u.n:=fun h0=>d2 ⟨Z,h0⟩;have e:bx l j u=(l.put u.n j,[]):=by rw [bx,ae h2,af Z,ae h0]
    refine aq a 0 az rfl rfl ?_;refine ah a 3 e8 aV aw rfl ?_;refine Run.call0E pr o8 a (ny (n:=u.n) (k:=(j:Int)) U c8 (by omega)) fun v' I' S2 w'=>?_;rintro ⟨rfl,G,rfl,o⟩ B a;refine al a 0 rfl az (by simpa using o.length) rfl (by simpa using o.one) fun w' a=>?_;exact fin G S2 _ _ e B o a
   ·have e:bx l j u=(l,[(u,(j:Int))]):=by rw [bx,ae h2,ae Z]
    refine aq a 3 ad e8 rfl ?_;refine yG ?_;refine dC (css:=css) a 2 [.int .i64 u.kind,.int .i64 u.n,.string u.name,a9,.int .i64 j] jJ (by omega) (by omega) rfl rfl ?_ (by omega) (by omega) fun h8 w' a=>?_
    ·exact RdQ.one (S:=Sj) (x:=(u,(j:Int))) ⟨[.int .i64 u.kind,.int .i64 u.n,.string u.name,a9],rfl,f7⟩
    have b5:Rows 5 (RdQ Sj) (css++[[.int .i64 u.kind,.int .i64 u.n,.string u.name,a9,.int .i64 j]]) (q++[(u,(j:Int))]):=hR.snoc ⟨_,rfl,f7⟩ rfl;generalize css++[[.int .i64 u.kind,.int .i64 u.n,.string u.name,a9,.int .i64 j]]=a4 at a b5;rw [e];exact ⟨[v1,.int .i64 l.next,v2],Sj,a4,Ext.refl _ _ _,U,b5,a.pick [true,true,true,false,false]⟩
  intro Y _ _ _ _ _ _ _ _ _ _ _ _ _ _ _ _ _ _ _ _ _ _ _ _ _ _ _ _ _ _ _ _ _ _ _ _ _ _ _ _ _ _ _ _ _ _ _ _ _ _ _ _ _ w';rintro ⟨p,Sn,css,b3,a6,hR,a⟩;refine bF (by omega) ?_;have hg:=Iu l j u;have hz:=(BS l j u).2;refine ⟨⟨j+1,(bx l j u).1,p,Sn,css,q++(bx l j u).2,b7,rfl,c7.trans b3,a6,by rw [hg.len]; exact c8,by have:=hg.next; omega,by omega,?_,?_,?_,hR,a⟩,by simp [intOf]; omega⟩
  ·have:(bx l j u).2.length<=1:=by
    unfold bx;split
    ·exact aK _
    ·split
     ·exact aK _
     ·exact be _
   rw [bv]; omega
  ·intro x hx;rcases cI.1 hx with hx|hx
   ·exact a8 x hx
   ·unfold bx at hx;split at hx
    ·cases hx
    ·split at hx
     ·cases hx
     ·rw [cO.1 hx]; exact c1
  ·rw [hA,cN]; rfl
 have i6:j=ks.length:=by omega
 subst i6;rw [ew,bj,dc] at hA;have hA:bj s 0 ks=(l,q):=hA;have f8:=qz ks s 0;rw [hA] at f8;obtain ⟨d3,i1,f2,i2⟩:=f8;have d3:s.sz<=l.sz:=d3;have f2:((ce q:Nat):Int)<=bi ks:=f2;have f9:fp s ks=eD (ce q) l q:=by rw [fp,hA]
 rw [f9];have hB:l.sz+8 * ce q<=800000000/\0<=l.sz:=by omega
 clear d3 i1 i2 g8 hA f9;refine ⟨fun i Y w'=>∃ (m f:Nat) (V:CS) (p:List Value) (Sn:ag) (css:List (List Value)) (N:List (T × Int)),m<=N.length/\i=.int .i64 m/\Ext w.heap.size [] S Sn/\MkS Sn p V/\V.sl.length=26/\0<=V.next/\m+ce (N.drop m)<=ce q/\ce (N.drop m)<=f/\V.sz+8 * ce (N.drop m)<=800000000+2 * (N.drop m).length/\eD (ce q) l q=eD f V (N.drop m)/\(∀ x∈N,okU 26 x.1)/\Rows 5 (RdQ Sn) css N/\
   Inv w [] [.blk b2 (.cells p.toArray av),B4,aB Y co 5 css] Sn w',fun i _ _=>ce q - (intOf i).toNat,
   ⟨0,ce q,l,a5,Sj,css,q,aK _,rfl,c7,U,c8,g7,by rw [dT]; omega,by rw [dT]; exact be _,by rw [dT]; omega,by rw [dT],a8,hR,a⟩,?_⟩
 intro i _ _ Y _ _ _ _ _ _ _ _ _ _ _ _ _ _ _ _ _ _ _ _ _ _ _ _ _ _ _ _ _ _ _ _ _ _ _ w';rintro ⟨m,f,V,p,Sn,css,N,hm,rfl,b3,a6,g9,h4,h5,hf,h6,a1,a8,hR,a⟩;have a0:=a6.length;have l6:=hR.hc;have l7:=gU (N.drop m);have l8:(N.drop m).length=N.length - m:=tu ..;refine Nz a 2 rfl xR ?_;refine cu ?_;refine aS (fun d0=>?_) (fun d0=>?_)
 ·have c2:m<css.length:=by omega
  have e0:m<N.length:=by omega
  obtain ⟨x,hx⟩:∃ x,x=N[m]:=⟨_,rfl⟩
  obtain ⟨q2,d4⟩:∃ q2,q2=N.drop (m+1):=⟨_,rfl⟩
  have hd:N.drop m=x::q2:=by rw [hx,d4,dR e0]
  rw [hd,ce] at h5 hf;rw [hd,ce,aO] at h6;rw [hd] at a1;have g0:okU 26 x.1:=by rw [hx]; exact a8 _ (cH e0)
  have e1:RdQ Sn css[m] x:=by rw [hx]; exact hR.hR m e0 c2
  have g3:=hR.hk _ (cH c2);obtain ⟨g,cap,rfl,b0⟩:=a.rowPtr (i:=2) rfl c2 hR.hk;obtain ⟨cm,i3⟩:∃ cm,cm=css[m]:=⟨_,rfl⟩
  rw [<- i3] at e1 g3 b0;obtain ⟨ds,d1,a3⟩:=id e1;obtain ⟨kx,f3,_,_,_,d7⟩:=RdT.iff.1 a3;subst f3;subst d1;have i7:=d7.le;simp only [maxLen] at i7;have l9:(bM x.1).toNat=1+(bi x.1.kids).toNat:=by
   have:=bU x.1.kids;obtain ⟨x1,x2⟩:=x;cases x1;simp only [bM,T.kids] at this ⊢;omega
  have m0:=bU x.1.kids;have j5:=iM x.1.kids;have j6:=gU q2;have j7:q2.length=N.length - (m+1):=by rw [d4,tu]
  have f6:V.next<=810000000/\V.code.length<=810000000:=by
   have hb:V.sz<=810000000:=by omega
   unfold CS.sz at hb;omega
  obtain ⟨f,rfl⟩:∃ g,f=g+1:=⟨f - 1,by omega⟩
  rw [eD] at a1;obtain ⟨se,b1⟩:∃ se,se=V.emit ⟨3,x.1.kids.length,x.2,x.1.name⟩:=⟨_,rfl⟩
  have m1:se.sz=V.sz+1:=by rw [b1,d6]
  have g4:se.sl.length=26:=by rw [b1]; exact g9
  have i8:0<=se.next:=by rw [b1]; exact h4
  rw [<- b1] at a1;have i9:=(ta x.1.kids se).2;have j0:=nw x.1.kids se;have j1:=qD x.1.kids se;have e2:=BZ x.1.kids se;have g5:=Ec x.1.kids se;refine aT xR c2 ?_;refine dX (cs:=[.int .i64 x.1.kind,.int .i64 x.1.n,.string x.1.name,kx]++[.int .i64 x.2]) AK g3 (fun f v hf=>by rw [df]; exact b0 f v hf) ?_;refine aH a Kb fun b9 w' a=>?_;refine al a 3 rfl AK rfl rfl (by simpa using e1.one) fun w' a=>?_;obtain ⟨B9,f4⟩:∃ B9,B9=Item.blk b9 (.cells #[.int .i64 x.1.kind,.int .i64 x.1.n,.string x.1.name,kx,.int .i64 x.2] co):=⟨_,rfl⟩
  have e9:=congrArg some f4;have a:Inv w [] [.blk b2 (.cells p.toArray av),B4,aB (.slice (some ⟨g,0,none⟩) css.length cap) co 5 css,B9] Sn w':=by rw [f4]; exact a
  refine aq a 0 az rfl (by simpa using a0) ?_;refine au nE ?_;refine au ay ?_;refine aD a 3 ax e9 rfl ?_;refine aG d7 ao ?_;refine ah a 3 e9 Gs aw rfl ?_;refine au nE ?_;refine au bk ?_;refine aD a 3 aZ e9 rfl ?_;refine ES ?_;refine Run.call0E c9 db a (cP ⟨3,x.1.kids.length,x.2,x.1.name⟩ a6 (by omega)) fun v' I' S2 w'=>?_;rintro ⟨rfl,G,rfl,o⟩ B a;rw [<- b1] at o;refine al a 0 rfl az (by simpa using o.length) (by simpa using a0) (by simpa using o.one) fun w' a=>?_;refine aq a 0 az rfl (by simpa using o.length) ?_;refine au nE ?_;refine au ay ?_;refine aD a 3 ax e9 rfl ?_;refine Run.call0E xY xW a (vO o (d7.monoT B.1) (iv g0.kids) g4 i8 (by omega)) fun v' I' S3 w'=>?_;rintro ⟨rfl,h7,lu,rfl,a2,e6⟩ e7 a;refine aA rfl ?_;refine aA rfl ?_;refine aH a eo fun l1 w' a=>?_;refine al a 4 rfl az (by simpa using a2.length) rfl (by simpa using a2.one) fun w' a=>?_;refine aq a 4 az rfl (by simpa using a2.length) ?_;refine al a 0 rfl az (by simpa using a2.length) (by simpa using o.length) (by simpa using a2.one) fun w' a=>?_;obtain ⟨A,hA⟩:∃ A,A=bo se x.1.kids:=⟨_,rfl⟩
  rw [<- hA] at a1 i9 j0 j1 e2 g5 e6 a2;have j8:=gU A.2;refine hK (css:=css) a 2 jJ (by omega) rfl e6 (fun _ _ h=>h.length) (fun _ _ h=>h.one) (by omega) (by omega) fun h8 w' a4 b5 a=>?_;refine bF (by omega) ?_;have j2:Rows 5 (RdQ S3) (css++a4) (N++A.2):=(hR.monoR fun _ _ h=>(h.mono B.1).mono e7.1).append b5;have c3:(N++A.2).drop (m+1)=q2++A.2:=by rw [d4,OO (by omega)]
  refine ⟨⟨m+1,f,A.1,h7,S3,css++a4,N++A.2,by rw [bv]; omega,rfl,(b3.trans B).trans e7,a2,by rw [e2.len]; exact g4,by have:=e2.next; omega,?_,?_,?_,?_,?_,j2,a.pick [true,true,true,false,false]⟩,by simp [intOf]; omega⟩
  ·rw [c3,eA]; omega
  ·rw [c3,eA]; omega
  ·rw [c3,eA,bv]; omega
  ·rw [c3]; exact a1
  ·intro y hy;rcases cI.1 hy with hy|hy
   ·exact a8 y hy
   ·exact iv g0.kids _ (g5 y hy)
 have j3:m=N.length:=by omega
 subst j3;have e:eD f V []=V:=by cases f <;> rfl
 rw [ew,e] at a1;rw [a1];refine aq a 0 az rfl (by simpa using a0) ?_;refine al a 1 e4 az (by simpa using a0) rfl (by simpa using a6.one) fun w' a=>?_;refine bp a 1 az rfl (by simpa using a0) ?_;exact ⟨_,_,Sn,rfl,a.nil,b3,rfl,p,rfl,a6⟩
end
end
end Go.Proofs.YtjbcdmheajljpaaGreat
