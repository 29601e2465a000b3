/- impl's search in memory: a run. -/
import Derived.Test.YtgllldjiaglkcaaGreatDoorZUf22
namespace Go.Proofs.YtgllldjiaglkcaaGreatDoor
section
open Go Go.RowKit
theorem RunI.invG {p:List C} {vars:List Int} {most n:Nat} {s:SI} {out:List (List T)} {r:List (List T) × Int} (h:RunI p vars most n s out r) (a:s.goals≠[]) :
  (n=0/\r=(out,2)) ∨ ∃ m o e,n=m+1/\StepI p false s o e/\((o=none/\r=(out,e)) ∨ ∃ f,o=some f/\RunI p vars most m f out r):=by
 cases h with
 | fuel _=>exact .inl ⟨rfl,rfl⟩
 | stop _ h=>exact .inr ⟨_,_,_,rfl,h,.inl ⟨rfl,rfl⟩⟩
 | step _ h g=>exact .inr ⟨_,_,_,rfl,h,.inr ⟨_,rfl,g⟩⟩
 | more h=>exact absurd h a
 | large h=>exact absurd h a
 | last h=>exact absurd h a
 | next h=>exact absurd h a
theorem RunI.invN {p:List C} {vars:List Int} {most n:Nat} {s:SI} {out:List (List T)} {r:List (List T) × Int} (h:RunI p vars most n s out r) (g:s.goals=[]) :
  (out.length=most/\r=(out,1)) ∨ (out.length≠most/\∃ v,ValsI s.st vars v/\((v=none/\r=(out,3)) ∨ ∃ vs o,v=some vs/\BackI p s.chs s.st.length s.nodes o/\((o=none/\r=(out++[vs],0)) ∨ ∃ i,o=some i/\RunI p vars most n i (out++[vs]) r))):=by
 cases h with
 | fuel h=>exact absurd g h
 | stop h=>exact absurd g h
 | step h=>exact absurd g h
 | more _ h=>exact .inl ⟨h,rfl⟩
 | large _ h f=>exact .inr ⟨h,_,f,.inl ⟨rfl,rfl⟩⟩
 | last _ h f a=>exact .inr ⟨h,_,f,.inr ⟨_,_,rfl,a,.inl ⟨rfl,rfl⟩⟩⟩
 | next _ h f a l=>exact .inr ⟨h,_,f,.inr ⟨_,_,rfl,a,.inr ⟨_,rfl,l⟩⟩⟩
theorem XE (c:Int):Ni c≠-1:=by
 unfold Ni;split
 ·decide
 ·split
  ·decide
  ·split <;> decide
theorem StepI.ne {p:List C} {nc:Bool} {s:SI} {e:Int} (h:StepI p nc s none e):e≠-1:=by
 obtain ⟨g,gs,t,_,_,h⟩:=h.inv;rcases h with ⟨_,_,rfl⟩|⟨_,h⟩
 ·decide
 rcases h with ⟨_,h⟩|⟨_,h⟩
 ·rcases h with ⟨_,_,rfl⟩|⟨_,h,_⟩
  ·decide
  ·cases h
 rcases h with ⟨_,st,c,_,h⟩|⟨_,h⟩
 ·rcases h with ⟨_,h,_⟩|⟨_,_,rfl⟩|⟨_,_,_,rfl⟩
  ·cases h
  ·decide
  ·exact XE c
 rcases h with ⟨_,_,rfl⟩|⟨_,a,m,_,h⟩
 ·decide
 rcases h with ⟨r,_,h,_⟩|⟨_,_,rfl⟩
 ·cases h
 ·decide
def RdAns (S:ae) (cs:List Value) (ts:List T):Prop:=∃ v,cs=[v]/\RdSl S 4 (RdT S) v ts
theorem RdAns.mono {S S':ae} (a:Sle S S') {cs:List Value} {ts:List T} (h:RdAns S cs ts):RdAns S' cs ts:=by
 obtain ⟨v,rfl,h⟩:=h;exact ⟨v,rfl,h.monoT a⟩
def lenZ:Value->Nat
 | .slice _ n _=>n
 | _=>0
def fuN (sp:Nat) (w:World):Nat:=match w.heap[sp]? with
 | some (.cells c _ _)=>(match (c[5]?:Option Value),(c[6]?:Option Value) with|some (.int _ a),some (.int _ b)=>(a - b).toNat|_,_=>0)
 | _=>0
def Vj (sp most:Nat) (t9 t10:Value) (w:World):Nat:=match t10 with
 | .int _ x=>if x=-1 then 1+fuN sp w+(most - lenZ t9) else 0
 | _=>0
theorem Inv.fuN {w0 w:World} {X:List Nat} {L:List Item} {S:ae} (h:Inv w0 X L S w) (i:Nat) {sp sb:Nat} {a f:Value} {nc:Bool} {fuel used fr:Int} {g cv nv:Value} {mo:Int}
  (l:L[i]?=some (fL sp (dX sb a f nc fuel used fr g cv nv mo))):fuN sp w=(fuel - used).toNat:=by
 have m:w.heap[sp]?=some (.cells (dX sb a f nc fuel used fr g cv nv mo) o5):=h.its _ (cz l);unfold Go.Proofs.YtgllldjiaglkcaaGreatDoor.fuN;rw [m];rfl
theorem Inv.lenZ {w0 w:World} {X:List Nat} {L:List Item} {S:ae} (h:Inv w0 X L S w) (i:Nat) {v:Value} {e:TypeId} {k n:Nat} {xs:List Value} (f:L[i]?=some (.row v e k n xs)):lenZ v=n:=by
 obtain ⟨a,cap,rfl,_⟩:=h.rowSlice' f;rfl
section
variable {w:World} {K:Value->World->Prop}
attribute [local irreducible] Run
theorem Pq {p:Option Addr} {n m:Nat} (hk:K (.agg #[.slice p n m]) w):Run Tryz.prog (cR eD [(0,.slice p n m)]) w K:=by
 refine Run.of (v:=.agg #[.slice p n m]) (w':=w) ?_ hk;unfold cR;rw [Sem.run_bind,run_build w eD _ #[.slice p n m] (by kernel_rfl),Result.andThen_ok];rfl
end
theorem Lm (S:ae):Pure Tryz.prog CG [] S (.tuple #[]):=by
 intro w a;refine yC.2 ?_;dsimp only[yC,nV];exact done a rfl
structure Za (p:List C) (n:Nat) (s:SI):Prop where
 ok:uB p.length s
 h26:26<=s.st.length
 hn:s.st.length+26 * io s.chs+26 * p.length * (n+1)<=900000
 hc:s.chs.length+n<=100000
 hl:s.nodes.length+n<=100000
section
attribute [local irreducible] Run CondV aq aK
set_option maxHeartbeats 4000000 in
theorem TG {p:List C} (hp:∀ cl∈p,ie cl) (c2:∀ cl∈p,cl.body.length<=1048576) (d4:p.length<=20000) {q:List T} {most n:Nat} (e7:most<=1000) {s:SI} {r:List (List T) × Int} (hr:RunI p (cU q []) most n s [] r)
  (D:Za p n s) (hv:∀ n∈cU q [],0<=n/\n<26) (c3:(cU q []).length<=1000) (d6:cY q<=1000000000) {fuel used:Int} (hu:0<=used) (a0:used+n=fuel) (hf:fuel<=100000)
  {S:ae} {Y pv qv cv nv tv:Value} {ms:List Nat} {tr:List Int} {Z:Array MapEntry} {g ncs:List (List Value)} {sp sb mb ck:Nat} {mo:Int}
  (h4:RdSl S 5 (RdC S) pv p) (hq:RdSl S 4 (RdT S) qv q) (hG:GL S Y s.goals) (hK:SeaK S s.chs s.nodes s.st ms tr Z g ncs) :
  Tri Tryz.prog ES [.pointer (some ⟨sp,0,none⟩),.int .i64 (most:Int),.func (.func CG) #[] #[]] (sV sp sb mb pv qv false fuel used s.st.length Y cv g nv ncs mo Z ck tv tr) S
   fun x I' S'=>∃ v css,x=.tuple #[v,.int .i64 r.2]/\I'=[aA v eD 1 css]/\Rows 1 (RdAns S') css r.1:=by
 intro w l;obtain ⟨X,hX⟩:∃ X,X=bP (sV sp sb mb pv qv false fuel used s.st.length Y cv g nv ncs mo Z ck tv tr):=⟨_,rfl⟩
 rw [<- hX] at l ⊢;refine r9.2 ?_;dsimp only[r9,fQ];refine aE ?_;refine af l 0 rfl L7 al rfl ?_;refine Run.call0 tX tN l (qL hq d6) fun v1 I' S3 w'=>?_;rintro ⟨rfl,rfl⟩ _ c4;obtain ⟨S0,G,c7,N⟩:=Inv.lendI c4;generalize e5:cU q []=vars at hr hv c3 c7;have N:Inv w X ([aA (.slice none 0 0) eD 1 []]++sV sp sb mb pv qv false fuel used s.st.length Y cv g nv ncs mo Z ck tv tr) S0 w':=(N.rowNil eD 1).perm (cj (l₁:=[_]));refine ⟨fun t9 a6 w'=>∃ (out:List (List T)) (css:List (List Value)) (S1:ae),Ext w.heap.size X S0 S1/\Rows 1 (RdAns S1) css out/\
   ((∃ (n:Nat) (s:SI) (used:Int) (Y cv nv tv:Value) (ms:List Nat) (tr:List Int) (Z:Array MapEntry) (g ncs:List (List Value)) (ck:Nat) (mo:Int),a6=.int .i64 (-1)/\RunI p vars most n s out r/\Za p n s/\0<=used/\used+n=fuel/\out.length<=most/\
    GL S1 Y s.goals/\SeaK S1 s.chs s.nodes s.st ms tr Z g ncs/\Inv w X ([aA t9 eD 1 css]++sV sp sb mb pv qv false fuel used s.st.length Y cv g nv ncs mo Z ck tv tr) S1 w') ∨
       (∃ e L',e≠-1/\a6=.int .i64 e/\r=(out,e)/\Inv w X ([aA t9 eD 1 css]++L') S1 w')),
  Vj sp most,⟨[],[],S0,Ext.refl _ _ _,Rows.nil _ _,.inl ⟨n,s,used,Y,cv,nv,tv,ms,tr,Z,g,ncs,ck,mo,rfl,hr,D,hu,a0,bk _,hG.mono G.1,hK.mono G.1,N⟩⟩,?_⟩
 clear l c4 N hr D hu a0 hG hK hX;clear N;clear n s used Y cv nv tv ms tr Z g ncs ck mo;have c8:=h4.monoC G.1;intro _ _ t9 _ _ _ _ _ _ _ _ _ _ _ _ _ _ _ _ _ _ _ _ _ _ _ _ _ _ a6 _ _ _ _ _ _ _ _ _ _ _ w';rintro ⟨out,css,S1,i,hR,a7⟩;have e9:=hR.hc;rcases a7 with ⟨n,s,used,Y,cv,nv,tv,ms,tr,Z,g,ncs,ck,mo,rfl,hr,D,hu,a0,e4,hG,hK,l⟩|⟨e,L',he,rfl,a,l⟩
 ·refine bw ?_;refine aL (fun _=>?_) (fun h=>absurd rfl h);have c9:=l.fuN 1 rfl;have d0:=l.lenZ 0 rfl;refine Run.callPure Kk Kb l (Lm S1) fun w2 l=>?_;refine aE ?_;refine af l 1 rfl ic dP rfl ?_;obtain ⟨gp,rfl⟩:=hG.ptr;refine U6 (e:=nT) (by kernel_rfl) ?_;have f0:=D.hn;have f1:=D.hc;have f2:=D.hl;have e6:26 * p.length * (n+1)=26 * p.length * n+26 * p.length:=Nat.mul_succ _ _;by_cases hg:s.goals=[]
  ·rw [hg] at hG;cases hG;refine aD (fun h=>by cases h) (fun _=>?_);refine kN l 0 rfl fo ?_;refine bw ?_;rcases hr.invN hg with ⟨hm,a⟩|⟨hm,v,d2,f⟩
   ·refine aL (fun _=>?_) (fun h=>absurd (by omega) h);exact ⟨_,_,S1,rfl,l.sub (dt _ _),G.trans i,_,css,by rw [a],rfl,by rw [a]; exact hR⟩
   ·refine aL (fun h=>absurd (by omega) hm) (fun _=>?_);refine aE ?_;refine af l 1 rfl gd fu rfl ?_;have h26:=D.h26;refine Run.callE (A:=[_,_,_,_]) zq zy l (K2 D.ok.good (by omega) (fun n hn=>⟨(hv n hn).1,by have:=(hv n hn).2; omega⟩) c3 d2 (c7.mono i.1 fun _ _ h=>h) hK.km) fun v' I' S2 w3=>?_;rintro ⟨rfl,a8⟩ J c5;rcases f with ⟨rfl,a⟩|⟨vs,o,rfl,hb,f⟩
    ·simp only at a8;subst a8;refine av rfl ?_;refine av rfl ?_;refine cw ?_;refine aD (fun _=>?_) (fun h=>by cases h);exact ⟨_,_,S2,rfl,c5.sub (dt [_] _),(G.trans i).trans J,_,css,by rw [a],rfl,by rw [a]; exact hR.monoR fun _ _=>RdAns.mono J.1⟩
    ·obtain ⟨u,rfl,a2⟩:=a8;obtain ⟨ua,a4,rfl,-⟩:=id a2;refine av rfl ?_;refine av rfl ?_;refine cw ?_;refine aD (fun h=>by cases h) (fun _=>?_);refine Pq ?_;refine de c5 0 [.slice ua vs.length a4] Nm (by omega) (by omega) rfl rfl (by simp [Value.oneCell']) (by omega) (by omega) fun e8 w4 M=>?_;refine Run.callE (A:=[_]) kz jT M (xi hp c2 hb D.ok.chs (by omega) (by omega) rfl ((c8.monoC i.1).monoC J.1) (hK.mono J.1)) fun v' I' S5 w5=>?_;rintro ⟨rfl,hQ⟩ c6 a1;have V:=J.trans c6;obtain ⟨a9,b0,b1,b2,b3,b4,b5,O,b6,U,b7,d9,rfl,t⟩:=hQ;have d1:Rows 1 (RdAns S5) (css++[[.slice ua vs.length a4]]) (out++[vs]):=(hR.monoR fun _ _=>RdAns.mono V.1).snoc ⟨_,rfl,a2.monoT c6.1⟩ rfl;rcases f with ⟨rfl,a⟩|⟨B,rfl,c1⟩
     ·refine ⟨⟨out++[vs],_,S5,i.trans V,d1,.inr ⟨0,_,by decide,rfl,a,a1⟩⟩,?_⟩;unfold Vj;simp only [Option.isSome_none,Ha,if_false,if_true];rw [ag (by decide)];omega
     ·obtain ⟨j1,j2,j3,j4⟩:=hb.ok hp D.ok.chs B rfl;have j5:=hb.chs B rfl;obtain ⟨rfl,b8,b9⟩:=t B rfl;refine ⟨⟨out++[vs],_,S5,i.trans V,d1,.inl ⟨n,B,used,b4,b5,b6,b1,b3,b2,a9,O,U,b0,b7,rfl,c1,⟨j1,by omega,by omega,by omega,by omega⟩,hu,a0,by rw [bA,bq,bW]; omega,b8,b9,a1⟩⟩,?_⟩;unfold Vj;have c0:=a1.fuN 1 rfl;have e1:=a1.lenZ 0 rfl;simp only [Option.isSome_some,if_true];rw [c0,c9,d0,e1,bA,bq,bW];omega
  ·have e2:gp.isSome=true:=by
    cases gp with
    | none=>
     generalize f3:s.goals=gl at hG hg;cases hG with
     | nil=>exact absurd rfl hg
    | some=>rfl
   rw [e2];refine aD (fun _=>?_) (fun h=>by cases h);obtain ⟨o,e,e0,f⟩:∃ o e,((used=fuel/\o=none/\e=2) ∨ (used≠fuel/\StepI p false s o e))/\((o=none/\e≠-1/\r=(out,e)) ∨ ∃ B m,n=m+1/\o=some B/\StepI p false s (some B) e/\RunI p vars most m B out r):=by
    rcases hr.invG hg with ⟨rfl,h2⟩|⟨m,o,e,rfl,h2,h3⟩
    ·exact ⟨none,2,.inl ⟨by omega,rfl,rfl⟩,.inl ⟨rfl,by decide,h2⟩⟩
    ·refine ⟨o,e,.inr ⟨by omega,h2⟩,?_⟩;rcases h3 with ⟨rfl,h3⟩|⟨B,rfl,h3⟩
     ·exact .inl ⟨rfl,h2.ne,h3⟩
     ·exact .inr ⟨B,m,rfl,rfl,h2,h3⟩
   refine Run.callE (A:=[_]) AK Bh l (P6 hp c2 d4 ⟨hu,by omega⟩ e0 D.ok (by omega) (by omega) (by omega) (c8.monoC i.1) hG hK) fun v' I' S4 w4=>?_;rintro ⟨rfl,d7,hQ,a2⟩ a3 M;obtain ⟨a9,b0,b1,b2,b3,b4,b5,O,b6,U,b7,d9,rfl,t⟩:=hQ;rcases f with ⟨rfl,d3,a⟩|⟨B,m,rfl,rfl,a5,c1⟩
   ·refine ⟨⟨out,css,S4,i.trans a3,hR.monoR fun _ _=>RdAns.mono a3.1,.inr ⟨e,_,d3,rfl,a,M⟩⟩,?_⟩;unfold Vj;simp only [ag d3,if_true];omega
   ·obtain ⟨j1,j2,j3,rfl,j5⟩:=a5.ok hp D.ok B rfl;have j6:=a5.chs;obtain ⟨rfl,b8,b9⟩:=t B rfl;obtain rfl:=a2 rfl;have e3:26 * p.length * (m+1)=26 * p.length * m+26 * p.length:=Nat.mul_succ _ _;have h26:=D.h26;refine ⟨⟨out,css,S4,i.trans a3,hR.monoR fun _ _=>RdAns.mono a3.1,.inl ⟨m,B,used+1,b4,b5,b6,b1,b3,b2,a9,O,U,b0,b7,rfl,c1,⟨j1,by omega,by omega,by omega,by omega⟩,by omega,by omega,e4,b8,b9,M⟩⟩,?_⟩;unfold Vj;have c0:=M.fuN 1 rfl;simp only [if_true];rw [c0,c9,d0];omega
 ·refine bw ?_;refine aL (fun h=>absurd h he) (fun _=>?_);exact ⟨_,_,S1,rfl,l.sub (dt _ _),G.trans i,_,css,by rw [a],rfl,by rw [a]; exact hR⟩
end
end
section
open Go Go.RowKit
mutual
def mvT (f:Int->Int):T->T
 | .mk k n s ks=>.mk k (if k=1 then f n else n) s (mvL f ks)
def mvL (f:Int->Int):List T->List T
 | []=>[]
 | t::ts=>mvT f t::mvL f ts
end
theorem Sy (f:Int->Int):∀ ts:List T,(mvL f ts).length=ts.length
 | []=>rfl
 | t::ts=>by rw [mvL,bq,bq,Sy f ts]
theorem SA (f:Int->Int):∀ ts:List T,mvL f ts=ts.map (mvT f)
 | []=>rfl
 | t::ts=>by rw [mvL,lr,SA f ts]
mutual
theorem MH (vs:List Int):∀ t:T,dq vs t=mvT (fun n=>kU vs n n 0) t
 | .mk k n s ks=>by rw [dq,mvT,Fb vs ks]
theorem Fb (vs:List Int):∀ ts:List T,er vs ts=mvL (fun n=>kU vs n n 0) ts
 | []=>rfl
 | t::ts=>by rw [er,mvL,MH vs t,Fb vs ts]
end
mutual
theorem Rb {f g:Int->Int} {a:List Int} (h:∀ n∈a,f n=g n):∀ t:T,inT a t->mvT f t=mvT g t
 | .mk k n s ks,hi=>by
  rw [inT] at hi;rw [mvT,mvT,LJ h ks hi.2];split
  ·rename_i hk; rw [h n (hi.1 hk)]
  ·rfl
theorem LJ {f g:Int->Int} {a:List Int} (h:∀ n∈a,f n=g n):∀ ts:List T,inL a ts->mvL f ts=mvL g ts
 | [],_=>rfl
 | t::ts,hi=>by
  rw [inL] at hi;rw [mvL,mvL,Rb h t hi.1,LJ h ts hi.2]
end
theorem U2 {f:Int->Int} {l:List Int} {n:Int} (h:∀ m∈l,f m=f n->m=n):jr (l.map f) (f n)=(jr l n).map f:=by
 have e:vw (l.map f) (f n)=vw l n:=by
  rw [nZ,sH,sH,dp];constructor
  ·rintro ⟨m,a,e⟩;rw [<- h m a e]; exact a
  ·intro hn;exact ⟨n,hn,rfl⟩
 unfold jr;rw [e];split
 ·rfl
 ·simp
mutual
theorem VZ {f:Int->Int} {h:List Int} (hf:∀ a∈h,∀ b∈h,f a=f b->a=b):∀ (t:T) (l:List Int),(∀ m∈l,m∈h)->inT h t->iy (mvT f t) (l.map f)=(iy t l).map f/\∀ m∈iy t l,m∈h
 | .mk k n s ks,l,hl,hi=>by
  rw [inT] at hi;rw [mvT,iy,iy];by_cases hk:k=1
  ·rw [ai hk,ai hk,ai hk,U2 fun m g e=>hf m (hl m g) n (hi.1 hk) e];refine xR hf ks _ (fun m g=>?_) hi.2;unfold jr at g;split at g
   ·exact hl m g
   ·rcases bF.1 g with g|g
    ·exact hl m g
    ·rw [bK.1 g]; exact hi.1 hk
  ·rw [ag hk,ag hk];exact xR hf ks l hl hi.2
theorem xR {f:Int->Int} {g:List Int} (hf:∀ a∈g,∀ b∈g,f a=f b->a=b):∀ (ts:List T) (l:List Int),(∀ m∈l,m∈g)->inL g ts->cU (mvL f ts) (l.map f)=(cU ts l).map f/\∀ m∈cU ts l,m∈g
 | [],l,hl,_=>⟨rfl,hl⟩
 | t::ts,l,hl,hi=>by
  rw [inL] at hi;obtain ⟨e,h⟩:=VZ hf t l hl hi.1;rw [mvL,cU,cU,e];exact xR hf ts _ h hi.2
end
theorem MF:∀ (xs:List Int) (n:Int) (k:Nat),n∈xs->∃ i,xs[i]?=some n/\(cn (σ:=Unit) (fun _ x=>(decide (n=x),())) () xs k).1=((k+i:Nat):Int)
 | x::xs,n,k,h=>by
  rw [cn];by_cases e:n=x
  ·subst e;exact ⟨0,rfl,by simp⟩
  ·have g:n∈xs:=by
    rcases bY.1 h with h|h
    ·exact absurd h e
    ·exact h
   obtain ⟨i,a,f⟩:=MF xs n (k+1) g;refine ⟨i+1,a,?_⟩;rw [ba e];simp only [Ha,if_false];rw [f];omega
theorem Bk {xs:List Int} {n:Int} (h:n∈xs):∃ i:Nat,xs[i]?=some n/\ot xs n=(i:Int)/\i<xs.length:=by
 obtain ⟨i,a,f⟩:=MF xs n 0 h;exact ⟨i,a,by rw [ot,f,cP],(fa.1 a).1⟩
theorem SB {f:Int->Int} {n:Int}:∀ (xs:List Int) (k:Nat),(∀ m∈xs,f m=f n->m=n)->(cn (σ:=Unit) (fun _ x=>(decide (f n=x),())) () (xs.map f) k).1=(cn (σ:=Unit) (fun _ x=>(decide (n=x),())) () xs k).1
 | [],_,_=>rfl
 | x::xs,k,h=>by
  rw [lr,cn,cn];have:decide (f n=f x)=decide (n=x):=by
   rw [gB];exact ⟨fun e=>(h x (aM ..) e.symm).symm,fun e=>by rw [e]⟩
  rw [this];have g:=SB xs (k+1) fun m a=>h m (aR _ a);split
  ·rfl
  ·exact g
theorem UN {f:Int->Int} {xs:List Int} {n:Int} (h:∀ m∈xs,f m=f n->m=n):ot (xs.map f) (f n)=ot xs n:=SB xs 0 h
mutual
theorem RY (f:Int->Int):∀ t:T,dF (mvT f t)=dF t
 | .mk k n s ks=>by rw [mvT,dF,dF,Sl f ks]
theorem Sl (f:Int->Int):∀ ts:List T,cY (mvL f ts)=cY ts
 | []=>rfl
 | t::ts=>by rw [mvL,cY,cY,RY f t,Sl f ts]
end
mutual
theorem Td:∀ (t:T) (l:List Int),okV t->(∀ m∈l,0<=m/\m<26)->∀ m∈iy t l,0<=m/\m<26
 | .mk k n s ks,l,ho,hl=>by
  rw [okV] at ho;rw [iy];refine AV ks _ ho.2 fun m a=>?_;split at a
  ·rename_i hk
   unfold jr at a;split at a
   ·exact hl m a
   ·rcases bF.1 a with a|a
    ·exact hl m a
    ·have:=ho.1 hk;rw [bK.1 a];omega
  ·exact hl m a
theorem AV:∀ (ts:List T) (l:List Int),AC ts->(∀ m∈l,0<=m/\m<26)->∀ m∈cU ts l,0<=m/\m<26
 | [],l,_,hl=>hl
 | t::ts,l,ho,hl=>by
  rw [AC] at ho;rw [cU];exact AV ts _ ho.2 (Td t l ho.1 hl)
end
end
section
open Go Go.RowKit
mutual
theorem WM (vs:List Int):∀ t:T,wT (jQ vs t)<=wT t
 | .mk k n s ks=>by
  rw [jQ];split
  ·show (0+0+0:Nat)<=_;omega
  ·have:=Lu vs ks;rw [wT,wT,pV vs ks];omega
theorem Lu (vs:List Int):∀ ts:List T,wL (fC vs ts)<=wL ts
 | []=>by rw [fC]; exact aS _
 | t::ts=>by
  have a:=WM vs t;have f:=Lu vs ts;rw [fC,wL,wL];omega
end
def RJ (vs:List T):Prop:=vs.length+wL vs<=1048576
theorem ValsI.small {N:Nat} {st:aj} (m:Good N st) {vars:List Int} (o:∀ n∈vars,0<=n/\n<N) (hl:vars.length<=1000) {vs:List T} (h:ValsI st vars (some vs)):RJ vs:=by
 obtain ⟨us,a,f⟩:=h;have g:=Kq a;rw [jO] at g;split at f
 ·rename_i hc
  cases f;have r:=Fv (N:=N) (us:=us) fun u l=>by
   obtain ⟨i,q,rfl⟩:=B0 l;refine ⟨dD.1 hc.1 _ l,fj m (BH a i (by rw [jO]; omega) q) ?_⟩;rw [EP];exact Ep (o _ (bG _))
  have:=Lu (cU us []) us;unfold RJ;rw [pV];omega
 ·cases f
theorem RunI.small {p:List C} (t:∀ cl∈p,ie cl) {vars:List Int} (l:∀ n∈vars,0<=n/\n<26) (hl:vars.length<=1000) {most n:Nat} {s:SI} {out:List (List T)} {r:List (List T) × Int} (h:RunI p vars most n s out r) :
  uB p.length s->26<=s.st.length->(∀ vs∈out,RJ vs)->∀ vs∈r.1,RJ vs:=by
 induction h with
 | fuel=>exact fun _ _ h=>h
 | stop=>exact fun _ _ h=>h
 | more=>exact fun _ _ h=>h
 | large=>exact fun _ _ h=>h
 | step _ o _ q=>
  intro g h26 i;obtain ⟨m,_,_,_,D⟩:=o.ok t g _ rfl;exact q m (by omega) i
 | last _ _ a _=>
  intro g h26 i vs f;rcases bF.1 f with h|h
  ·exact i vs h
  ·rw [bK.1 h];exact a.small g.good (fun n hn=>⟨(l n hn).1,by have:=(l n hn).2; omega⟩) hl
 | next _ _ a B _ q=>
  intro g h26 i;obtain ⟨m,_,_,G⟩:=B.ok t g.chs _ rfl;refine q m (by omega) fun vs f=>?_;rcases bF.1 f with h|h
  ·exact i vs h
  ·rw [bK.1 h];exact a.small g.good (fun n hn=>⟨(l n hn).1,by have:=(l n hn).2; omega⟩) hl
def SolR (p:List C) (q:List T) (most fuel:Nat) (r:List (List T) × Int):Prop:=((dc p && dZ q)=true/\RunI p (cU q []) most fuel (fx q) [] r) ∨ ((dc p && dZ q)=false/\r=([],9))
theorem gT {p:List C} (h:dc p=true):(∀ cl∈p,ie cl)/\(∀ cl∈p,cl.body.length<=1048576)/\p.length<=20:=by
 rw [dc,bM,bD,dD] at h;exact ⟨fun cl hc=>N3 (h.2 cl hc),fun cl hc=>by have:=(dU (h.2 cl hc)).2.2; omega,h.1⟩
theorem CU {q:List T} (h:dZ q=true):q.length<=6/\(∀ t∈q,d6 t=true):=by
 rw [dZ,bM,bD,dD] at h;exact ⟨h.1,fun t a=>nf (h.2 t a)⟩
theorem Er:∀ {q:List T},(∀ t∈q,d6 t=true)->cY q<=120 * (q.length:Int)
 | [],_=>by simp [cY]
 | t::q,h=>by
  have a:=h t (aM ..);rw [d6,bM] at a;have g:dF t<=120:=by simpa using a.2
  have i:=Er fun x f=>h x (aR _ f);rw [cY,bq];omega
theorem wM {q:List T} (h:dZ q=true):(∀ n∈cU q [],0<=n/\n<26)/\(cU q []).length<=1000/\cY q<=1000:=by
 obtain ⟨i,a⟩:=CU h;have l:=Er a;have g:=zc q [];rw [bW] at g;exact ⟨AV q [] (L9 fun t f=>za t (jY (a t f))) (by simp),by omega,by omega⟩
theorem mx {q:List T} (h:dZ q=true) (m:Nat):uB m (fx q):=SV m fun t f=>by
 have a:=(CU h).2 t f;exact ⟨⟨jY a,by have:=uL a; omega⟩,AL a⟩
theorem SolR.ex (p:List C) (q:List T) (most fuel:Nat):∃ r,SolR p q most fuel r:=by
 by_cases h:(dc p && dZ q)=true
 ·have a:=h;rw [bM] at a;obtain ⟨r,f⟩:=RunI.ex (gT a.1).1 (wM a.2).1 most _ fuel (fx q) [] (aS _) (bk _) (mx a.2 _) (by show 26<=(List.replicate 26 (none:Option T)).length; simp);exact ⟨r,.inl ⟨h,f⟩⟩
 ·exact ⟨_,.inr ⟨by simpa using h,rfl⟩⟩
end
section
open Go Go.RowKit
def cls (p:List C) (l:List Int):List (Option C):=l.map fun i=>p[i.toNat]?
def sameHd (t u:T):Prop:=u.kind=t.kind/\u.name=t.name/\u.kids.length=t.kids.length
structure Alk (p s:List C) (R:T->Prop):Prop where
 for_:∀ t,R t->ez t=false->bU t=false->cls p (eY p t)=cls s (eY s t)
 body:∀ t,R t->∀ i∈eY p t,∀ cl,p[i.toNat]?=some cl->∀ b∈cl.body,R b
 hd:∀ t u,R t->sameHd t u->R u
 three:∀ t,R t->t.kind=3
def XJ (p:List C) (R:T->Prop) (l:List Int):Prop:=∀ i∈l,∀ cl,p[i.toNat]?=some cl->∀ b∈cl.body,R b
structure YI (p s:List C) (R:T->Prop) (c d:CI):Prop where
 goal:d.goal=c.goal
 node:d.node=c.node
 rest:d.rest=c.rest
 left:cls s d.left=cls p c.left
 binds:d.binds=c.binds
 taken:d.taken=c.taken
 rR:∀ g∈c.rest,R g.t
 lR:XJ p R c.left
def simCs (p s:List C) (R:T->Prop) (cs ds:List CI):Prop:=cs.length=ds.length/\∀ i (h:i<cs.length) (h':i<ds.length),YI p s R cs[i] ds[i]
structure V2 (p s:List C) (R:T->Prop) (x y:SI):Prop where
 st:y.st=x.st
 goals:y.goals=x.goals
 chs:simCs p s R x.chs y.chs
 nodes:y.nodes.length=x.nodes.length
 gR:∀ g∈x.goals,R g.t
def aa5 (p s:List C) (R:T->Prop) (o o':Option HI):Prop:=(o=none/\o'=none) ∨ ∃ r r':HI,o=some r/\o'=some r'/\r'.cl=r.cl/\r'.by_=r.by_/\r'.st=r.st/\cls s r'.l=cls p r.l/\XJ p R r.l/\∀ b∈r.cl.body,R b
def simO (p s:List C) (R:T->Prop) (o o':Option SI):Prop:=(o=none/\o'=none) ∨ ∃ x y,o=some x/\o'=some y/\V2 p s R x y
section
variable {p s:List C} {R:T->Prop}
theorem sameHd.shift (b:Int) (t:T) (h:t.kind≠1):sameHd t (bp b t):=by
 cases t with
 | mk k n m ks=>
  simp only [T.kind] at h;rw [bp,ag h];exact ⟨rfl,rfl,by simp [T.kids,eU]⟩
theorem xq {st:aj} {t u:T} (h:Res st (.one t u)) (a:t.kind≠1):sameHd t u:=by
 cases h with
 | @one _ v us g hl=>
  have f:v=t:=by
   cases g with
   | stop _=>rfl
   | step hk _=>exact absurd (dh.1 hk).1 a
  subst f;refine ⟨rfl,rfl,?_⟩;show us.length=v.kids.length;have:∀ {ts us:List T},Res st (.list ts us)->us.length=ts.length:=by
   intro ts;induction ts with
   | nil=>intro us h; cases h; rfl
   | cons t ts i=>intro us h; cases h with|cons _ h=>rw [bq,bq,i h]
  exact this hl
theorem mf {l a:List Int} (h:cls s a=cls p l):a=[]↔l=[]:=by
 have:=congrArg List.length h;simp only [cls,jO] at this;constructor
 ·rintro rfl; exact gF (by simpa using this.symm)
 ·rintro rfl; exact gF (by simpa using this)
theorem TryI.sim {g:T} {l:List Int} {st:aj} {o:Option HI} {n:Nat} (h:TryI p g l st o n):∀ a,cls s a=cls p l->XJ p R l->(∀ i∈a,0<=i)->∃ r,TryI s g a st r n/\aa5 p s R o r:=by
 induction h with
 | nil=>
  intro a hl _ _;obtain rfl:=(mf hl).2 rfl;exact ⟨none,.nil,.inl ⟨rfl,rfl⟩⟩
 | @hit i l cl st B t D=>
  intro a hl f m;cases a with
  | nil=>simp [cls] at hl
  | cons j a=>
   obtain ⟨k,rfl⟩:∃ k:Nat,j=(k:Int):=⟨j.toNat,by have:=m j (by simp); omega⟩
   simp only [cls,lr,dK,cu] at hl;rw [t] at hl;exact ⟨_,.hit hl.1 D,.inr ⟨_,_,rfl,rfl,rfl,rfl,rfl,hl.2,fun x q=>f x (aR _ q),f i (aM ..) cl (by rw [cu]; exact t)⟩⟩
 | @miss i l cl st B o n t D _ M=>
  intro a hl f m;cases a with
  | nil=>simp [cls] at hl
  | cons j a=>
   obtain ⟨k,rfl⟩:∃ k:Nat,j=(k:Int):=⟨j.toNat,by have:=m j (by simp); omega⟩
   simp only [cls,lr,dK,cu] at hl;rw [t] at hl;obtain ⟨r,G,J⟩:=M a hl.2 (fun x q=>f x (aR _ q)) fun x q=>m x (aR _ q);exact ⟨r,.miss hl.1 D G,J⟩
theorem simCs.snoc {cs ds:List CI} {c d:CI} (h:simCs p s R cs ds) (hc:YI p s R c d):simCs p s R (cs++[c]) (ds++[d]):=by
 refine ⟨by simp [h.1],fun i f g=>?_⟩;by_cases a:i<cs.length
 ·rw [fA a,fA (h:=by have:=h.1; omega)];exact h.2 i a _
 ·rw [bA,bq,bW] at f;have l:=h.1;obtain rfl:i=cs.length:=by omega
  rw [eZ (aS _),eZ (by omega)];simpa [l] using hc
theorem simCs.last {cs ds:List CI} {c d:CI} (h:simCs p s R (cs++[c]) (ds++[d])):simCs p s R cs ds/\YI p s R c d:=by
 have f:cs.length=ds.length:=by have:=h.1; simpa using this
 refine ⟨⟨f,fun i g a=>?_⟩,?_⟩
 ·have:=h.2 i (by rw [bA]; omega) (by rw [bA]; omega)
  rwa [fA g,fA a] at this
 ·have:=h.2 cs.length (by simp) (by simp [f]);rw [eZ (aS _),eZ (by omega)] at this;simpa [f] using this
theorem OG (hR:Alk p s R) {cs ds:List CI} {ns o:List NI} {g:T} {a:Int} {rest:List GI} {b:aj} {r h:HI} (m:simCs p s R cs ds) (hn:o.length=ns.length) (B:∀ x∈rest,R x.t)
  (M:h.cl=r.cl/\h.by_=r.by_/\h.st=r.st/\cls s h.l=cls p r.l/\XJ p R r.l/\∀ b∈r.cl.body,R b):V2 p s R (gC cs ns g a rest b r) (gC ds o g a rest b h):=by
 obtain ⟨O,U,D,q,V,G⟩:=M;refine ⟨D,?_,?_,?_,?_⟩
 ·show fy h.cl h.by_ ds.length a rest=fy r.cl r.by_ cs.length a rest;rw [O,U,m.1]
 ·show simCs p s R (cs++(if r.l=[] then [] else [⟨g,a,rest,r.l,b,ns.length⟩])) (ds++(if h.l=[] then [] else [⟨g,a,rest,h.l,b,o.length⟩]));by_cases hl:r.l=[]
  ·rw [ai hl,ai ((mf q).2 hl),bV,bV]; exact m
  ·rw [ag hl,ag (fun e=>hl ((mf q).1 e))];exact m.snoc ⟨rfl,rfl,rfl,q,rfl,hn,B,V⟩
 ·show (LQ o a.toNat h.i).length=(LQ ns a.toNat r.i).length;rw [yV,yV,hn]
 ·intro x N;have f:x∈fy r.cl r.by_ cs.length a rest:=N;unfold fy at f;rcases bF.1 f with f|f
  ·obtain ⟨t,J,rfl⟩:=dp.1 f;have D:=hR.three t (G t J);exact hR.hd t _ (G t J) (sameHd.shift _ t (by omega))
  ·exact B x f
theorem BackI.sim (hR:Alk p s R) {cs:List CI} {n:Nat} {ns:List NI} {o:Option SI} (h:BackI p cs n ns o):∀ ds l,simCs p s R cs ds->l.length=ns.length->(∀ d∈ds,∀ i∈d.left,0<=i)->∃ B,BackI s ds n l B/\simO p s R o B:=by
 induction h with
 | nil=>
  intro ds l hd _ _;obtain rfl:ds=[]:=gF (by simpa using hd.1.symm);exact ⟨none,.nil,.inl ⟨rfl,rfl⟩⟩
 | @hit cs c n m ns r J=>
  intro ds l hd hn t;obtain ⟨f,d,rfl⟩:∃ f d,ds=f++[d]:=⟨ds.dropLast,ds.getLast (by intro e; rw [e] at hd; simp [simCs] at hd),(Sr _).symm⟩
  obtain ⟨D,a⟩:=hd.last;obtain ⟨B,g,G⟩:=J.sim (s:=s) (R:=R) d.left a.left a.lR (t d (by simp));rcases G with ⟨q,_⟩|⟨Z,M,e1,rfl,hh⟩
  ·cases q
  simp only [aY] at e1;subst e1;have g:TryI s d.goal d.left (bI d.binds n) (some M) m:=by rw [a.goal,a.binds]; exact g
  refine ⟨_,.hit g,.inr ⟨_,_,rfl,rfl,?_⟩⟩;rw [a.goal,a.node,a.rest,a.binds,a.taken];exact OG hR D (by rw [cM,cM,hn]) a.rR hh
 | @miss cs c n m ns o J _ Y=>
  intro ds l hd hn t;obtain ⟨f,d,rfl⟩:∃ f d,ds=f++[d]:=⟨ds.dropLast,ds.getLast (by intro e; rw [e] at hd; simp [simCs] at hd),(Sr _).symm⟩
  obtain ⟨D,a⟩:=hd.last;obtain ⟨B,g,G⟩:=J.sim (s:=s) (R:=R) d.left a.left a.lR (t d (by simp));rcases G with ⟨_,rfl⟩|⟨Z,M,e1,_⟩
  ·have g:TryI s d.goal d.left (bI d.binds n) none m:=by rw [a.goal,a.binds]; exact g
   obtain ⟨O,U,V⟩:=Y f (l.take d.taken) D (by rw [cM,cM,hn,a.taken]) fun x N=>t x (cZ _ N);exact ⟨O,.miss g U,V⟩
  ·cases e1
theorem simO.isSome {o a:Option SI} (h:simO p s R o a):a.isSome=o.isSome:=by
 rcases h with ⟨rfl,rfl⟩|⟨x,y,rfl,rfl,_⟩ <;> rfl
theorem StepI.sim (hR:Alk p s R) {x y:SI} {o:Option SI} {e:Int} (h:StepI p false x o e) (M:V2 p s R x y) (h0:∀ d∈y.chs,∀ i∈d.left,0<=i):∃ V,StepI s false y V e/\simO p s R o V:=by
 have a:=M.st;have D:=M.goals;have O:=M.gR;have nd:∀ z:NI,(y.nodes++[z]).length=(x.nodes++[z]).length:=fun z=>by simp [M.nodes]
 have U:∀ {g:GI} {gs:List GI} {t:T},x.goals=g::gs->Res x.st (.one g.t t)->R t:=fun {g gs t} l B=>by
  have h1:=O g (by rw [l]; simp);have h3:=hR.three _ h1;exact hR.hd _ _ h1 (xq B (by omega))
 cases h with
 | large l B f=>exact ⟨none,.large (by rw [D]; exact l) (by rw [a]; exact B) f,.inl ⟨rfl,rfl⟩⟩
 | noCut _ _ _ _ h=>cases h
 | @cut g gs t l B f hc a1=>
  refine ⟨_,.cut (by rw [D]; exact l) (by rw [a]; exact B) f hc rfl,.inr ⟨_,_,rfl,rfl,a,rfl,?_,nd _,fun z Y=>O z (by rw [l]; exact aR _ Y)⟩⟩;refine ⟨by rw [cM,cM,M.chs.1],fun i Z a0=>?_⟩;rw [cM] at Z a0;rw [C3,C3];exact M.chs.2 i (by omega) (by omega)
 | @solved g gs t st l B f hc J hB=>
  exact ⟨_,.solved (by rw [D]; exact l) (by rw [a]; exact B) f hc J (by rw [a]; exact hB),.inr ⟨_,_,rfl,rfl,rfl,rfl,M.chs,nd _,fun z Y=>O z (by rw [l]; exact aR _ Y)⟩⟩
 | @fail g gs t st o l B f hc J hB ho=>
  obtain ⟨V,k1,k2⟩:=ho.sim hR y.chs _ M.chs (nd ⟨t,g.up,-1⟩) h0;rw [<- k2.isSome];exact ⟨V,.fail (by rw [D]; exact l) (by rw [a]; exact B) f hc J (by rw [a]; exact hB) (by rw [a]; exact k1),k2⟩
 | err l B f hc J hB h1 h2=>exact ⟨none,.err (by rw [D]; exact l) (by rw [a]; exact B) f hc J (by rw [a]; exact hB) h1 h2,.inl ⟨rfl,rfl⟩⟩
 | unknown l B f hc J hf=>
  have G:=hR.for_ _ (U l B) hc J;exact ⟨none,.unknown (by rw [D]; exact l) (by rw [a]; exact B) f hc J ((mf G.symm).2 hf),.inl ⟨rfl,rfl⟩⟩
 | @took g gs t r m l B f hc J hf hT=>
  have N:=U l B;have G:=hR.for_ _ N hc J;obtain ⟨V,q1,q2⟩:=hT.sim (s:=s) (R:=R) (eY s t) G.symm (hR.body t N) fun i Z=>(lT s t i Z).1;rcases q2 with ⟨q,_⟩|⟨r1,r',e1,rfl,hh⟩
  ·cases q
  simp only [aY] at e1;subst e1;refine ⟨_,.took (by rw [D]; exact l) (by rw [a]; exact B) f hc J (fun e=>hf ((mf G.symm).1 e)) (by rw [a]; exact q1),.inr ⟨_,_,rfl,rfl,?_⟩⟩;rw [a,M.nodes];exact OG hR M.chs (nd _) (fun z Y=>O z (by rw [l]; exact aR _ Y)) hh
 | @back g gs t m o l B f hc J hf hT ho=>
  have N:=U l B;have G:=hR.for_ _ N hc J;obtain ⟨V,q1,q2⟩:=hT.sim (s:=s) (R:=R) (eY s t) G.symm (hR.body t N) fun i Z=>(lT s t i Z).1;rcases q2 with ⟨_,rfl⟩|⟨r1,r',e1,_⟩
  ·obtain ⟨o2,k1,k2⟩:=ho.sim hR y.chs _ M.chs (nd ⟨t,g.up,-1⟩) h0;rw [<- k2.isSome];exact ⟨o2,.back (by rw [D]; exact l) (by rw [a]; exact B) f hc J (fun e=>hf ((mf G.symm).1 e)) (by rw [a]; exact q1) k1,k2⟩
  ·cases e1
theorem okCs.pos {m n k:Nat} {cs:List CI} (h:okCs m n k cs):∀ d∈cs,∀ i∈d.left,0<=i:=fun d hd i a=>by
 obtain ⟨j,f,rfl⟩:=B0 hd;exact ((h.at_ j f).1.left i a).1
theorem RunI.sim (hR:Alk p s R) (O:∀ cl∈p,ie cl) (U:∀ cl∈s,ie cl) {vars:List Int} {most n:Nat} {x:SI} {out:List (List T)} {r:List (List T) × Int} (h:RunI p vars most n x out r):∀ y,V2 p s R x y->uB p.length x->uB s.length y->RunI s vars most n y out r:=by
 induction h with
 | fuel f=>intro y a _ _; exact .fuel (by rw [a.goals]; exact f)
 | stop f l=>
  intro y a _ g;obtain ⟨J,i,m⟩:=l.sim hR a g.chs.pos;rcases m with ⟨_,rfl⟩|⟨_,_,e,_⟩
  ·exact .stop (by rw [a.goals]; exact f) i
  ·cases e
 | step f l _ M=>
  intro y a G g;obtain ⟨J,i,m⟩:=l.sim hR a g.chs.pos;rcases m with ⟨e,_⟩|⟨V,N,e,rfl,q⟩
  ·cases e
  simp only [aY] at e;subst e;exact .step (by rw [a.goals]; exact f) i (M N q (l.ok O G _ rfl).1 (i.ok U g _ rfl).1)
 | more f o=>intro y a _ _; exact .more (by rw [a.goals]; exact f) o
 | large f o B=>intro y a _ _; exact .large (by rw [a.goals]; exact f) o (by rw [a.st]; exact B)
 | last f o B D=>
  intro y a _ g;obtain ⟨J,i,m⟩:=D.sim hR y.chs y.nodes a.chs a.nodes g.chs.pos;rcases m with ⟨_,rfl⟩|⟨_,_,e,_⟩
  ·exact .last (by rw [a.goals]; exact f) o (by rw [a.st]; exact B) (by rw [a.st]; exact i)
  ·cases e
 | next f o B D _ M=>
  intro y a G g;obtain ⟨J,i,m⟩:=D.sim hR y.chs y.nodes a.chs a.nodes g.chs.pos;rcases m with ⟨e,_⟩|⟨V,N,e,rfl,q⟩
  ·cases e
  simp only [aY] at e;subst e;refine .next (by rw [a.goals]; exact f) o (by rw [a.st]; exact B) (by rw [a.st]; exact i) (M N q (D.ok O G.chs _ rfl).1 ?_);have t:=g.chs;rw [a.st] at t;exact (i.ok U t _ rfl).1
end
end
section
open Go Go.RowKit
attribute [local irreducible] Run CondV aq aK

def isP (x:Pd) (c:C):Bool:=gQ (bN c.head) x
def fY (p:List C) (x:Pd):List C:=(p.filter fun c=>!isP x c)++p.filter (isP x)
def qy (p:List C) (x:Pd):List C:=if dc p=true then fY p x else []
theorem N7 (p:List C) (x:Pd):(fY p x).length+wP (fY p x)=p.length+wP p:=by
 have:=Ix (isP x) p;rw [fY,JG,bA];omega
end
section
open Go Go.RowKit
attribute [local irreducible] Run CondV aq aK

def inP (l:List Pd) (c:C):Bool:=G0 l (bN c.head)
def RE (p:List C) (q:List T):List C:=if (dc p && dZ q)=true then p.filter (inP (xu p (iL [] q))) else []
end
section
open Go Go.RowKit

theorem Fy {l:List Pd} {x:Pd}:G0 l x=true↔x∈l:=by
 simp [G0,pf]
theorem Es {l:List Pd} {x y:Pd}:y∈mv l x↔y∈l ∨ y=x:=by
 unfold mv;split
 ·rename_i h
  rw [Fy] at h;exact ⟨.inl,fun a=>a.elim id fun e=>e ▸ h⟩
 ·simp
theorem KZ {l:List Pd} {x:Pd} (h:l.Nodup):(mv l x).Nodup:=by
 unfold mv;split
 ·exact h
 ·rename_i f
  rw [Fy] at f;rw [oB];refine ⟨h,by simp,fun a i b g e=>?_⟩;simp at g;subst g;subst e;exact f i
theorem U8 (l:List Pd) (x:Pd):∃ s,mv l x=l++s:=by
 unfold mv;split
 ·exact ⟨[],by simp⟩
 ·exact ⟨[x],rfl⟩
theorem xo:∀ (ts:List T) (l:List Pd) (y:Pd),y∈iL l ts↔y∈l ∨ ∃ t∈ts,dI t=true/\bN t=y
 | [],l,y=>by simp [iL]
 | t::ts,l,y=>by
  have e:iL l (t::ts)=iL (if dI t=true then mv l (bN t) else l) ts:=rfl;rw [e,xo ts];split
  ·rename_i h
   rw [Es];constructor
   ·rintro ((a|a)|⟨u,a,h2⟩)
    ·exact .inl a
    ·exact .inr ⟨t,aM ..,h,a.symm⟩
    ·exact .inr ⟨u,aR _ a,h2⟩
   ·rintro (a|⟨u,a,h2,h3⟩)
    ·exact .inl (.inl a)
    ·rcases bY.1 a with rfl|a
     ·exact .inl (.inr h3.symm)
     ·exact .inr ⟨u,a,h2,h3⟩
  ·rename_i h
   constructor
   ·rintro (a|⟨u,a,h2⟩)
    ·exact .inl a
    ·exact .inr ⟨u,aR _ a,h2⟩
   ·rintro (a|⟨u,a,h2,h3⟩)
    ·exact .inl a
    ·rcases bY.1 a with rfl|a
     ·exact absurd h2 h
     ·exact .inr ⟨u,a,h2,h3⟩
theorem Iw:∀ (ts:List T) (l:List Pd),l.Nodup->(iL l ts).Nodup
 | [],l,h=>h
 | t::ts,l,h=>by
  have e:iL l (t::ts)=iL (if dI t=true then mv l (bN t) else l) ts:=rfl;rw [e];refine Iw ts _ ?_;split
  ·exact KZ h
  ·exact h
theorem vZ (x:Pd):∀ (p:List C) (l:List Pd) (y:Pd),y∈jb l p x↔y∈l ∨ ∃ c∈p,bN c.head=x/\∃ t∈c.body,dI t=true/\bN t=y
 | [],l,y=>by simp [jb]
 | c::p,l,y=>by
  have e:jb l (c::p) x=jb (if gQ (bN c.head) x=true then iL l c.body else l) p x:=rfl;rw [e,vZ x p];split
  ·rename_i h
   rw [pf,bD] at h;rw [xo];constructor
   ·rintro ((a|a)|⟨u,a,h2⟩)
    ·exact .inl a
    ·exact .inr ⟨c,aM ..,h,a⟩
    ·exact .inr ⟨u,aR _ a,h2⟩
   ·rintro (a|⟨u,a,h2,h3⟩)
    ·exact .inl (.inl a)
    ·rcases bY.1 a with rfl|a
     ·exact .inl (.inr h3)
     ·exact .inr ⟨u,a,h2,h3⟩
  ·rename_i h
   rw [pf,bD] at h;constructor
   ·rintro (a|⟨u,a,h2⟩)
    ·exact .inl a
    ·exact .inr ⟨u,aR _ a,h2⟩
   ·rintro (a|⟨u,a,h2,h3⟩)
    ·exact .inl a
    ·rcases bY.1 a with rfl|a
     ·exact absurd h2 h
     ·exact .inr ⟨u,a,h2,h3⟩
theorem QS {p:List C} {x y:Pd}:y∈jt p x↔∃ c∈p,bN c.head=x/\∃ t∈c.body,dI t=true/\bN t=y:=by
 rw [jt,vZ];simp
theorem oF:∀ (p:List C) (l:List Pd) (y:Pd),y∈gH l p↔y∈l ∨ ∃ c∈p,bN c.head=y
 | [],l,y=>by simp [gH]
 | c::p,l,y=>by
  have e:gH l (c::p)=gH (mv l (bN c.head)) p:=rfl;rw [e,oF p,Es];constructor
  ·rintro ((a|a)|⟨u,a,h2⟩)
   ·exact .inl a
   ·exact .inr ⟨c,aM ..,a.symm⟩
   ·exact .inr ⟨u,aR _ a,h2⟩
  ·rintro (a|⟨u,a,h2⟩)
   ·exact .inl (.inl a)
   ·rcases bY.1 a with rfl|a
    ·exact .inl (.inr h2.symm)
    ·exact .inr ⟨u,a,h2⟩
theorem qi:∀ (p:List C) (l:List Pd),l.Nodup->(gH l p).Nodup
 | [],l,h=>h
 | c::p,l,h=>by
  have e:gH l (c::p)=gH (mv l (bN c.head)) p:=rfl;rw [e];exact qi p _ (KZ h)
theorem F3 {α:Type} [DecidableEq α]:∀ {l m:List α},l.Nodup->(∀ x∈l,x∈m)->l.length<=m.length
 | [],_,_,_=>bk _
 | x::l,m,h,hs=>by
  rw [ED] at h;have g:=hs x (aM ..);have i:=F3 (l:=l) (m:=m.erase x) h.2 fun y f=>by
   have a:y≠x:=fun e=>h.1 (e ▸ f);exact (List.mem_erase_of_ne a).2 (hs y (aR _ f))
  rw [List.length_erase_of_mem g] at i;have:0<m.length:=List.length_pos_of_mem g;rw [bq];omega

inductive Star (p:List C) (x:Pd):Pd->Prop
 | refl:Star p x x
 | step {y z:Pd}:Star p x y->z∈jt p y->Star p x z
theorem Star.trans {p:List C} {x y z:Pd} (h:Star p x y) (a:Star p y z):Star p x z:=by
 induction a with
 | refl=>exact h
 | step _ f g=>exact .step g f
theorem qS:∀ (m l:List Pd) (y:Pd),y∈hH l m↔y∈l ∨ y∈m
 | [],l,y=>by simp [hH]
 | x::m,l,y=>by
  have e:hH l (x::m)=hH (mv l x) m:=rfl;rw [e,qS m,Es,bY];constructor
  ·rintro ((h|h)|h)
   ·exact .inl h
   ·exact .inr (.inl h)
   ·exact .inr (.inr h)
  ·rintro (h|h|h)
   ·exact .inl (.inl h)
   ·exact .inl (.inr h)
   ·exact .inr h
theorem IH:∀ (m l:List Pd),l.Nodup->(hH l m).Nodup
 | [],_,h=>h
 | _::m,_,h=>IH m _ (KZ h)
theorem Gw:∀ (m l:List Pd),∃ s,hH l m=l++s
 | [],l=>⟨[],by simp [hH]⟩
 | x::m,l=>by
  obtain ⟨s,f⟩:=U8 l x;obtain ⟨g,a⟩:=Gw m (mv l x);have e:hH l (x::m)=hH (mv l x) m:=rfl;exact ⟨s++g,by rw [e,a,f,dx]⟩
theorem EU {G:List Pd}:∀ (m l:List Pd),(∀ x∈m,x∈G)->(hH l m).length+pot G (hH l m)<=l.length+pot G l
 | [],l,_=>aS _
 | x::m,l,h=>by
  have e:hH l (x::m)=hH (mv l x) m:=rfl;have f:=EU m (mv l x) fun y a=>h y (aR _ a);have g:=Uv (l:=l) (h x (aM ..));rw [e];omega
theorem BP (p:List C):∀ (n:Nat) (l:List Pd) (i:Nat),l.length+pot (gPs p) l<=n+i->(∀ j (h:j<l.length),j<i->∀ z∈jt p l[j],z∈l)->l.Nodup->
  (qj n p l i).Nodup/\(∀ y∈qj n p l i,∃ x∈l,Star p x y)/\(∀ x∈l,x∈qj n p l i)/\∀ y∈qj n p l i,∀ z∈jt p y,z∈qj n p l i
 | 0,l,i,hn,hc,hd=>by
  simp only [qj];refine ⟨hd,fun y f=>⟨y,f,.refl⟩,fun x a=>a,fun y f z g=>?_⟩;obtain ⟨j,o,rfl⟩:=mT.1 f;exact hc j o (by omega) z g
 | n+1,l,i,hn,hc,hd=>by
  rw [qj];split
  ·rename_i r
   have U:=EU (G:=gPs p) (jt p l[i]) l fun x a=>QT a;obtain ⟨s,B⟩:=Gw (jt p l[i]) l;obtain ⟨D,J,M,N⟩:=BP p n (hH l (jt p l[i])) (i+1) (by omega) (fun j o t z g=>by
    rw [qS];have m:j<l.length:=by omega
    have O:(hH l (jt p l[i]))[j]=l[j]:=by
     have:(hH l (jt p l[i]))[j]?=l[j]?:=by rw [B,wo m]
     rw [ew o,ew m] at this;exact uH this
    rw [O] at g;by_cases e:j=i
    ·subst e; exact .inr g
    ·exact .inl (hc j m (by omega) z g)) (IH _ _ hd)
   refine ⟨D,fun y f=>?_,fun x a=>M x ((qS _ _ _).2 (.inl a)),N⟩;obtain ⟨x,a,q⟩:=J y f;rcases (qS _ _ _).1 a with a|a
   ·exact ⟨x,a,q⟩
   ·exact ⟨l[i],bG r,Star.trans (.step .refl a) q⟩
  ·refine ⟨hd,fun y f=>⟨y,f,.refl⟩,fun x a=>a,fun y f z g=>?_⟩;obtain ⟨j,o,rfl⟩:=mT.1 f;exact hc j o (by omega) z g
theorem Cs (p:List C) {l:List Pd} (hd:l.Nodup):(xu p l).Nodup/\(∀ y,y∈xu p l↔∃ x∈l,Star p x y)/\∀ y∈xu p l,∀ z∈jt p y,z∈xu p l:=by
 obtain ⟨i,m,o,a⟩:=BP p (l.length+(gPs p).length) l 0 (by have:=Yu (gPs p) l; omega) (fun j _ h=>by omega) hd;refine ⟨i,fun y=>⟨m y,?_⟩,a⟩;rintro ⟨x,f,g⟩;induction g with
 | refl=>exact o x f
 | step _ q r=>exact a _ r _ q
theorem PG {p:List C} {l:List Pd} (hd:l.Nodup) {y:Pd}:y∈xu p l↔∃ x∈l,Star p x y:=(Cs p hd).2.1 y

theorem KA (p:List C) (x:Pd):fY (fY p x) x=fY p x:=by
 simp only [fY,Ra,Rf];have f:(p.filter fun a=>(!isP x a) && isP x a)=[]:=by
  rw [Oj]; intro c _; cases isP x c <;> simp
 have g:(p.filter fun a=>isP x a && !isP x a)=[]:=by
  rw [Oj]; intro c _; cases isP x c <;> simp
 simp only [Bool.and_self,f,g,bV,fZ]
theorem Fd {p:List C} {x:Pd} {c:C}:c∈fY p x↔c∈p:=by
 simp only [fY,bF,LE];cases isP x c <;> simp
theorem P4 (p:List C) (x:Pd):(fY p x).length=p.length:=by
 have:=N7 p x;simp only [fY,bA];induction p with
 | nil=>rfl
 | cons c p a=>
  have a:=a (N7 p x);rw [rN,rN];cases isP x c <;> simp <;> omega
theorem Nj {p:List C} (h:dc p=true) (x:Pd):dc (fY p x)=true:=by
 rw [dc,bM,dD,bD] at h ⊢;exact ⟨by rw [P4]; exact h.1,fun c hc=>h.2 c (Fd.1 hc)⟩
theorem K4 {p:List C} (h:dc p=true) (x:Pd):qy (qy p x) x=qy p x/\dc (qy p x)=true/\(Ec (qy p x)).length=(Ec p).length:=by
 have f:=Nj h x;have e:qy p x=fY p x:=ai h;refine ⟨by rw [e,qy,ai f,KA],by rw [e]; exact f,?_⟩;rw [e,Ec,Ec,ai h,ai f];have g:∀ y,y∈gH [] (fY p x)↔y∈gH [] p:=fun y=>by
  rw [oF,oF];simp only [Fd]
 exact Nat.le_antisymm (F3 (qi _ _ xr) fun y a=>(g y).1 a) (F3 (qi _ _ xr) fun y a=>(g y).2 a)
end
section
open Go Go.RowKit
theorem zg {x y:Pd}:gQ x y=true↔x=y:=by rw [pf,bD]
theorem JX (f:C->Bool) (P:List C):∀ (p a:List C),P=a++p->(dT f p a.length).map (fun i=>P[i.toNat]?)=(p.filter f).map some
 | [],a,_=>by simp [dT]
 | c::p,a,h=>by
  have g:=JX f P p (a++[c]) (by rw [h]; simp);rw [bA,bq,bW] at g;have hc:P[a.length]?=some c:=by rw [h]; simp
  rw [dT];split
  ·rename_i hf
   rw [List.filter_cons_of_pos hf,lr,lr,cu,hc,g]
  ·rename_i hf
   rw [List.filter_cons_of_neg hf,g]
theorem pH (p:List C) (t:T):cls p (eY p t)=(p.filter fun c=>gQ (bN c.head) (bN t)).map some:=JX _ p p [] rfl
theorem je {t u:T} (h:sameHd t u):bN u=bN t:=by
 unfold bN;rw [h.2.1,h.2.2]
theorem j8 {t u:T} (h:sameHd t u):ez u=ez t:=by
 unfold ez;rw [h.1,h.2.1,h.2.2]
theorem eI {t u:T} (h:sameHd t u):bU u=bU t:=by
 unfold bU;rw [h.1,h.2.1,h.2.2]
theorem Ji {p:List C} {t:T} {i:Int} (g:i∈eY p t) {cl:C} (a:p[i.toNat]?=some cl):cl∈p/\bN cl.head=bN t:=by
 obtain ⟨j,_,h,f,hf⟩:=mM _ p 0 i g;have:i.toNat=j:=by omega
 rw [this,ew f] at a;cases a;exact ⟨bG f,zg.1 hf⟩
theorem mS {t:T} (h:eN t=true):t.kind=3:=of_decide_eq_true (JF h)
theorem uN {p:List C} (h:dc p=true) {cl:C} (hc:cl∈p) {b:T} (a:b∈cl.body):eN b=true:=by
 rw [dc,bM,dD] at h;have:=h.2 cl hc;rw [bt,bM,bM,dD] at this;exact this.2.1 b a
theorem TB {p s:List C} {R:T->Prop} {q:List T} (h:∀ t∈q,R t):V2 p s R (fx q) (fx q):=
 ⟨rfl,rfl,⟨rfl,fun i a=>by simp [fx] at a⟩,rfl,fun g f=>by
  obtain ⟨t,l,rfl⟩:=dp.1 f;exact h t l⟩
theorem SolR.sim {p s:List C} {R:T->Prop} {q:List T} {most fuel:Nat} {r:List (List T) × Int} (i:Alk p s R) (f:dc p=true) (g:dc s=true) (a:dZ q=true) (hR:∀ t∈q,R t) (h:SolR p q most fuel r):SolR s q most fuel r:=by
 rcases h with ⟨_,h⟩|⟨h,_⟩
 ·exact .inl ⟨by rw [g,a]; rfl,h.sim i (gT f).1 (gT g).1 _ (TB hR) (mx a _) (mx a _)⟩
 ·rw [f,a] at h;cases h
theorem SolR.bad {p s:List C} {q:List T} {most fuel:Nat} {r:List (List T) × Int} (f:dc p=true) (g:dc s=true) (a:dZ q=false) (h:SolR p q most fuel r):SolR s q most fuel r:=by
 rcases h with ⟨h,_⟩|⟨_,h⟩
 ·rw [f,a] at h;cases h
 ·exact .inr ⟨by rw [g,a]; rfl,h⟩
theorem Kl (p:List C) (x:Pd) (f:C->Bool) (h:(∀ c,f c=true->isP x c=true) ∨ (∀ c,f c=true->isP x c=false)):(fY p x).filter f=p.filter f:=by
 unfold fY;rw [Ra,Rf,Rf];rcases h with h|h
 ·have e1:p.filter (fun c=>f c && !isP x c)=[]:=Oj.2 fun c _ hc=>by
   rw [bM] at hc;rw [h c hc.1] at hc;exact absurd hc.2 (by decide)
  have e2:p.filter (fun c=>f c && isP x c)=p.filter f:=Wf fun c _=>by
   cases hc:f c with
   | false=>rfl
   | true=>rw [h c hc]; rfl
  rw [e1,e2];rfl
 ·have e1:p.filter (fun c=>f c && !isP x c)=p.filter f:=Wf fun c _=>by
   cases hc:f c with
   | false=>rfl
   | true=>rw [h c hc]; rfl
  have e2:p.filter (fun c=>f c && isP x c)=[]:=Oj.2 fun c _ hc=>by
   rw [bM] at hc;rw [h c hc.1] at hc;exact absurd hc.2 (by decide)
  rw [e1,e2,bV]
theorem Tm {p:List C} (g:dc p=true) (x:Pd):Alk p (fY p x) fun t=>t.kind=3:=by
 refine ⟨fun t _ _ _=>?_,fun t _ i l cl a b m=>mS (uN g (Ji l a).1 m),fun t u h o=>by rw [o.1]; exact h,fun t h=>h⟩;rw [pH,pH,Kl]
 ·by_cases h:bN t=x
  ·left;intro c hc;unfold isP;rw [zg] at hc ⊢;rw [hc,h]
  ·right;intro c hc;rw [zg] at hc;cases f:isP x c with
   | false=>rfl
   | true=>
    unfold isP at f;rw [zg] at f;exact absurd (hc.symm.trans f) h
theorem SolR.moved {p:List C} {q:List T} {most fuel:Nat} {r:List (List T) × Int} (a:dc p=true) (x:Pd) (h:SolR p q most fuel r):SolR (qy p x) q most fuel r:=by
 have g:=(K4 a x).2.1;have e:qy p x=fY p x:=ai a;rw [e] at g ⊢;cases f:dZ q with
 | false=>exact h.bad a g f
 | true=>
  refine h.sim (Tm a x) a g f fun t i=>?_;rw [dZ,bM,dD] at f;exact mS (f.2 t i)
end
section
open Go Go.RowKit
theorem FY {t:T} (h:eN t=true) (hc:ez t=false) (a:bU t=false):dI t=true:=by
 rw [eN,hc,a] at h;simpa using (Bool.and_eq_true_iff.1 h).2
theorem uV {h t:T} (g:dI h=true) (i:bN h=bN t):ez t=false/\bU t=false:=by
 have e1:h.name=t.name:=congrArg Pd.name i;have e2:(h.kids.length:Int)=(t.kids.length:Int):=congrArg Pd.arity i;rw [dI,bM,bM,bM] at g;obtain ⟨_,a,f,_⟩:=g;rw [e1] at a;rw [e1,e2] at f;constructor
 ·cases hc:ez t with
  | false=>rfl
  | true=>
   rw [ez,bM,bM] at hc;have hn:=of_decide_eq_true hc.2.1;rw [hn] at a;exact absurd a (by decide +kernel)
 ·rw [bU];simp only [o6] at f;rw [f,y5]
theorem O3 {p:List C} (h:dc p=true) {cl:C} (hc:cl∈p):dI cl.head=true:=by
 rw [dc,bM,dD] at h;have:=h.2 cl hc;rw [bt,bM,bM,bM] at this;exact this.2.2.2
abbrev P7 (p:List C) (q:List T):List Pd:=xu p (iL [] q)
theorem T1 (q:List T):(iL [] q).Nodup:=Iw q [] xr
theorem Un {p:List C} {q:List T} {x z:Pd} (a:x∈P7 p q) (f:z∈jt p x):z∈P7 p q:=(Cs p (T1 q)).2.2 x a z f
theorem U9 {p:List C} {q:List T} {t:T} (a:t∈q) (f:dI t=true):bN t∈P7 p q:=
 (PG (T1 q)).2 ⟨bN t,(xo q [] _).2 (.inr ⟨t,a,f,rfl⟩),.refl⟩
def slR (p:List C) (q:List T) (t:T):Prop:=t.kind=3/\(ez t=false->bU t=false->bN t∈P7 p q)
theorem TH {p:List C} (r:dc p=true) (q:List T):Alk p (p.filter (inP (P7 p q))) (slR p q):=by
 refine ⟨fun t h hc a=>?_,fun t h i g cl l b a=>?_,fun t u h f=>?_,fun t h=>h.1⟩
 ·rw [pH,pH,Rf]
  congr 1
  refine Wf fun c _=>?_;cases hf:gQ (bN c.head) (bN t) with
  | false=>rfl
  | true=>
   have g:inP (P7 p q) c=true:=by
    rw [inP,Fy,zg.1 hf];exact h.2 hc a
   rw [g];rfl
 ·obtain ⟨o,B⟩:=Ji g l;obtain ⟨G,J⟩:=uV (O3 r o) B;have D:=uN r o a;refine ⟨mS D,fun hc m=>Un (h.2 G J) (QS.2 ⟨cl,o,B,b,a,FY D hc m,rfl⟩)⟩
 ·refine ⟨by rw [f.1]; exact h.1,fun hc a=>?_⟩;rw [j8 f] at hc;rw [eI f] at a;rw [je f];exact h.2 hc a
theorem PL {p:List C} (a:dc p=true) (f:C->Bool):dc (p.filter f)=true:=by
 rw [dc,bM,bD,dD] at a ⊢;exact ⟨gz (VI f p) a.1,fun c hc=>a.2 c (LE.1 hc).1⟩
theorem SolR.sliced {p:List C} {q:List T} {most fuel:Nat} {r:List (List T) × Int} (f:(dc p && dZ q)=true) (h:SolR p q most fuel r):SolR (RE p q) q most fuel r:=by
 have a:=f;rw [bM] at a;have e:RE p q=p.filter (inP (P7 p q)):=ai f;rw [e];refine h.sim (TH a.1 q) a.1 (PL a.1 _) a.2 fun t g=>?_;have i:=a.2;rw [dZ,bM,dD] at i;have l:=i.2 t g;exact ⟨mS l,fun hc m=>U9 g (FY l hc m)⟩
end
end Go.Proofs.YtgllldjiaglkcaaGreatDoor
