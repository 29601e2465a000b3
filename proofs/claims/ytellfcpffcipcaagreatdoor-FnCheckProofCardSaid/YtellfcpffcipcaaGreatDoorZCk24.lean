/- impl's search in memory: a run. -/
import Derived.Test.YtellfcpffcipcaaGreatDoorZCkA
import Derived.Test.YtellfcpffcipcaaGreatDoorZCk23
namespace Go.Proofs.YtellfcpffcipcaaGreatDoor
attribute [local irreducible] Run CondV aF aT
section
open Go Go.RowKit
theorem RunI.invG {p:List C} {vars:List Int} {most n:Nat} {s:SI} {out:List (List T)} {r:List (List T) × Int} (h:RunI p vars most n s out r) (a:s.goals≠[]) :
  (n=0/\r=(out,2)) ∨ ∃ m o e,n=m+1/\StepI p false s o e/\((o=none/\r=(out,e)) ∨ ∃ f,o=some f/\RunI p vars most m f out r):=by
 cases h with
 | fuel _=>exact .inl ⟨rfl,rfl⟩
 | stop _ h=>exact .inr ⟨_,_,_,rfl,h,.inl ⟨rfl,rfl⟩⟩
 | step _ h g=>exact .inr ⟨_,_,_,rfl,h,.inr ⟨_,rfl,g⟩⟩
 | more h=>exact absurd h a
 | large h=>exact absurd h a
 | last h=>exact absurd h a
 | next h=>exact absurd h a
theorem RunI.invN {p:List C} {vars:List Int} {most n:Nat} {s:SI} {out:List (List T)} {r:List (List T) × Int} (h:RunI p vars most n s out r) (g:s.goals=[]) :
  (out.length=most/\r=(out,1)) ∨ (out.length≠most/\∃ v,ValsI s.st vars v/\((v=none/\r=(out,3)) ∨ ∃ vs o,v=some vs/\BackI p s.chs s.st.length s.nodes o/\((o=none/\r=(out++[vs],0)) ∨ ∃ i,o=some i/\RunI p vars most n i (out++[vs]) r))):=by
 cases h with
 | fuel h=>exact absurd g h
 | stop h=>exact absurd g h
 | step h=>exact absurd g h
 | more _ h=>exact .inl ⟨h,rfl⟩
 | large _ h f=>exact .inr ⟨h,_,f,.inl ⟨rfl,rfl⟩⟩
 | last _ h f a=>exact .inr ⟨h,_,f,.inr ⟨_,_,rfl,a,.inl ⟨rfl,rfl⟩⟩⟩
 | next _ h f a j=>exact .inr ⟨h,_,f,.inr ⟨_,_,rfl,a,.inr ⟨_,rfl,j⟩⟩⟩
theorem abG (c:Int):Q0 c≠-1:=by
 unfold Q0;split
 ·decide
 ·split
  ·decide
  ·split <;> decide
theorem StepI.ne {p:List C} {nc:Bool} {s:SI} {e:Int} (h:StepI p nc s none e):e≠-1:=by
 obtain ⟨g,gs,t,_,_,h⟩:=h.inv;rcases h with ⟨_,_,rfl⟩|⟨_,h⟩
 ·decide
 rcases h with ⟨_,h⟩|⟨_,h⟩
 ·rcases h with ⟨_,_,rfl⟩|⟨_,h,_⟩
  ·decide
  ·cases h
 rcases h with ⟨_,st,c,_,h⟩|⟨_,h⟩
 ·rcases h with ⟨_,h,_⟩|⟨_,_,rfl⟩|⟨_,_,_,rfl⟩
  ·cases h
  ·decide
  ·exact abG c
 rcases h with ⟨_,_,rfl⟩|⟨_,a,m,_,h⟩
 ·decide
 rcases h with ⟨r,_,h,_⟩|⟨_,_,rfl⟩
 ·cases h
 ·decide
def RdAns (S:ae) (cs:List Value) (ts:List T):Prop:=∃ v,cs=[v]/\RdSl S 4 (RdT S) v ts
theorem RdAns.mono {S S':ae} (a:Sle S S') {cs:hZ} {ts:List T} (h:RdAns S cs ts):RdAns S' cs ts:=by
 obtain ⟨v,rfl,h⟩:=h;exact ⟨v,rfl,h.monoT a⟩
def lenZ:Value->Nat
 | .slice _ n _=>n
 | _=>0
def fuN (sp:Nat) (w:World):Nat:=match w.heap[sp]? with
 | some (.cells c _ _)=>(match (c[5]?:Option Value),(c[6]?:Option Value) with|some (.int _ a),some (.int _ b)=>(a - b).toNat|_,_=>0)
 | _=>0
def YU (sp most:Nat) (t9 t10:Value) (w:World):Nat:=match t10 with
 | .int _ x=>if x=-1 then 1+fuN sp w+(most - lenZ t9) else 0
 | _=>0
theorem Inv.fuN {w0 w:World} {X:List Nat} {L:List Item} {S:ae} (h:Inv w0 X L S w) (i:Nat) {sp sb:Nat} {a f:Value} {nc:Bool} {fuel used fr:Int} {g cv nv:Value} {mo:Int}
  (j:L[i]?=some (g7 sp (eW sb a f nc fuel used fr g cv nv mo))):fuN sp w=(fuel - used).toNat:=by
 have l:w.heap[sp]?=some (.cells (eW sb a f nc fuel used fr g cv nv mo) sx):=h.its _ (cJ j);unfold Go.Proofs.YtellfcpffcipcaaGreatDoor.fuN;rw [l];rfl
theorem Inv.lenZ {w0 w:World} {X:List Nat} {L:List Item} {S:ae} (h:Inv w0 X L S w) (i:Nat) {v:Value} {e:TypeId} {k n:Nat} {xs:hZ} (f:L[i]?=some (.row v e k n xs)):lenZ v=n:=by
 obtain ⟨a,cap,rfl,_⟩:=h.rowSlice' f;rfl
section
variable {w:World} {K:Value->World->Prop}
theorem To {p:Option Addr} {n m:Nat} (hk:K (.agg #[.slice p n m]) w):Run Tryz.prog (bZ gy [(0,.slice p n m)]) w K:=by
 refine Run.of (v:=.agg #[.slice p n m]) (w':=w) ?_ hk;unfold bZ;rw [Sem.run_bind,run_build w gy _ #[.slice p n m] (by kernel_rfl),Result.andThen_ok];rfl
end
theorem NK (S:ae):ll FY [] S (.tuple #[]):=by
 intro w a;apply A5.2;dsimp only[A5,ub];exact done a rfl
structure act (p:List C) (n:Nat) (s:SI):Prop where
 ok:tz p.length s
 h26:26<=s.st.length
 hn:s.st.length+26 * jA s.chs+26 * p.length * (n+1)<=900000
 hc:s.chs.length+n<=100000
 hl:s.nodes.length+n<=100000
section
set_option maxHeartbeats 4000000 in
theorem XP {p:List C} (hp:∀ cl∈p,kB cl) (c2:∀ cl∈p,cl.body.length<=1048576) (d4:p.length<=20000) {q:List T} {most n:Nat} (e7:most<=1000) {s:SI} {r:List (List T) × Int} (hr:RunI p (fm q []) most n s [] r)
  (D:act p n s) (hv:∀ n∈fm q [],0<=n/\n<26) (c3:(fm q []).length<=1000) (d6:dx q<=1000000000) {fuel used:Int} (hu:0<=used) (a0:used+n=fuel) (hf:fuel<=100000)
  {S:ae} {Y pv qv cv nv tv:Value} {ms:List Nat} {tr:List Int} {Z:Array MapEntry} {g i:List (hZ)} {sp sb mb ck:Nat} {mo:Int}
  (h4:RdSl S 5 (RdC S) pv p) (hq:RdSl S 4 (RdT S) qv q) (hG:GL S Y s.goals) (hK:SeaK S s.chs s.nodes s.st ms tr Z g i) :
  kt Ic [ee sp,ax (most:Int),.func (.func FY) #[] #[]] (uY sp sb mb pv qv false fuel used s.st.length Y cv g nv i mo Z ck tv tr) S
   fun x I' S'=>∃ v css,x=.tuple #[v,ax r.2]/\I'=[aK v gy 1 css]/\Rows 1 (RdAns S') css r.1:=by
 intro w l;obtain ⟨X,hX⟩:∃ X,X=bS (uY sp sb mb pv qv false fuel used s.st.length Y cv g nv i mo Z ck tv tr):=⟨_,rfl⟩
 rw [<- hX] at l ⊢;refine tO.2 ?_;dsimp only[tO,dR];refine aH ?_;refine ad l 0 rfl Nq aj rfl ?_;refine Run.call0 uL wz l (te hq d6) fun v1 I' S3 w'=>?_;rintro ⟨rfl,rfl⟩ _ c4;obtain ⟨S0,G,c7,N⟩:=Inv.lendI c4;generalize e5:fm q []=vars at hr hv c3 c7;have N:Inv w X ([aK (hV) gy 1 []]++uY sp sb mb pv qv false fuel used s.st.length Y cv g nv i mo Z ck tv tr) S0 w':=(N.rowNil gy 1).perm (cT (l₁:=[_]));refine ⟨fun t9 a6 w'=>∃ (out:List (List T)) (css:List (hZ)) (S1:ae),Ext w.heap.size X S0 S1/\Rows 1 (RdAns S1) css out/\
   ((∃ (n:Nat) (s:SI) (used:Int) (Y cv nv tv:Value) (ms:List Nat) (tr:List Int) (Z:Array MapEntry) (g i:List (hZ)) (ck:Nat) (mo:Int),a6=ax (-1)/\RunI p vars most n s out r/\act p n s/\0<=used/\used+n=fuel/\out.length<=most/\
    GL S1 Y s.goals/\SeaK S1 s.chs s.nodes s.st ms tr Z g i/\Inv w X ([aK t9 gy 1 css]++uY sp sb mb pv qv false fuel used s.st.length Y cv g nv i mo Z ck tv tr) S1 w') ∨
       (∃ e L',e≠-1/\a6=ax e/\r=(out,e)/\Inv w X ([aK t9 gy 1 css]++L') S1 w')),
  YU sp most,⟨[],[],S0,Ext.refl _ _ _,Rows.nil _ _,.inl ⟨n,s,used,Y,cv,nv,tv,ms,tr,Z,g,i,ck,mo,rfl,hr,D,hu,a0,bf _,hG.mono G.1,hK.mono G.1,N⟩⟩,?_⟩
 clear l c4 N hr D hu a0 hG hK hX;clear N;clear n s used Y cv nv tv ms tr Z g i ck mo;have c8:=h4.monoC G.1;intro _ _ t9;(iterate 26 intro);intro a6 _ _ _ _ _ _ _ _ _ _ _ w';rintro ⟨out,css,S1,j,hR,a7⟩;have e9:=hR.hc;rcases a7 with ⟨n,s,used,Y,cv,nv,tv,ms,tr,Z,g,i,ck,mo,rfl,hr,D,hu,a0,e4,hG,hK,l⟩|⟨e,L',he,rfl,a,l⟩
 ·refine bn ?_;refine aJ (fun _=>?_) (fun h=>absurd rfl h);have c9:=l.fuN 1 rfl;have d0:=l.lenZ 0 rfl;refine Run.callPure NO Pr l (NK S1) fun w2 l=>?_;refine aH ?_;refine ad l 1 rfl jD eO rfl ?_;obtain ⟨gp,rfl⟩:=hG.ptr;refine Z4 (e:=pQ) (by kernel_rfl) ?_;have f0:=D.hn;have f1:=D.hc;have f2:=D.hl;have e6:26 * p.length * (n+1)=26 * p.length * n+26 * p.length:=Nat.mul_succ _ _;by_cases hg:s.goals=[]
  ·rw [hg] at hG;cases hG;refine aE (fun h=>by cases h) (fun _=>?_);refine mG l 0 rfl nl ?_;refine bn ?_;rcases hr.invN hg with ⟨hm,a⟩|⟨hm,v,d2,f⟩
   ·refine aJ (fun _=>?_) (fun h=>absurd (by omega) h);exact ⟨_,_,S1,rfl,l.sub (eh _ _),G.trans j,_,css,by rw [a],rfl,by rw [a];exact hR⟩
   ·refine aJ (fun h=>absurd (by omega) hm) (fun _=>?_);refine aH ?_;refine ad l 1 rfl iH gP rfl ?_;have h26:=D.h26;refine Run.callE (A:=[_,_,_,_]) C5 BK l (Ni D.ok.good (by omega) (fun n hn=>⟨(hv n hn).1,by have:=(hv n hn).2;omega⟩) c3 d2 (c7.mono j.1 fun _ _ h=>h) hK.km) fun v' I' S2 w3=>?_;rintro ⟨rfl,a8⟩ J c5;rcases f with ⟨rfl,a⟩|⟨vs,o,rfl,hb,f⟩
    ·simp only at a8;subst a8;refine al rfl ?_;refine al rfl ?_;refine cq ?_;refine aE (fun _=>?_) (fun h=>by cases h);exact ⟨_,_,S2,rfl,c5.sub (eh [_] _),(G.trans j).trans J,_,css,by rw [a],rfl,by rw [a];exact hR.monoR fun _ _=>RdAns.mono J.1⟩
    ·obtain ⟨u,rfl,a2⟩:=a8;obtain ⟨ua,a4,rfl,-⟩:=id a2;refine al rfl ?_;refine al rfl ?_;refine cq ?_;refine aE (fun h=>by cases h) (fun _=>?_);refine To ?_;refine ei c5 0 [.slice ua vs.length a4] Rk (by omega) (by omega) rfl rfl (by simp [Value.oneCell']) (by omega) (by omega) fun e8 w4 M=>?_;refine Run.callE (A:=[_]) mh l8 M (z0 hp c2 hb D.ok.chs (by omega) (by omega) rfl ((c8.monoC j.1).monoC J.1) (hK.mono J.1)) fun v' I' S5 w5=>?_;rintro ⟨rfl,hQ⟩ c6 a1;have V:=J.trans c6;obtain ⟨a9,b0,b1,b2,b3,b4,b5,O,b6,U,b7,d9,rfl,t⟩:=hQ;have d1:Rows 1 (RdAns S5) (css++[[.slice ua vs.length a4]]) (out++[vs]):=(hR.monoR fun _ _=>RdAns.mono V.1).snoc ⟨_,rfl,a2.monoT c6.1⟩ rfl;rcases f with ⟨rfl,a⟩|⟨B,rfl,c1⟩
     ·refine ⟨⟨out++[vs],_,S5,j.trans V,d1,.inr ⟨0,_,by decide,rfl,a,a1⟩⟩,?_⟩;unfold YU;simp only [Option.isSome_none,H2,if_false,if_true];rw [af (by decide)];omega
     ·obtain ⟨j1,j2,j3,j4⟩:=hb.ok hp D.ok.chs B rfl;have j5:=hb.chs B rfl;obtain ⟨rfl,b8,b9⟩:=t B rfl;refine ⟨⟨out++[vs],_,S5,j.trans V,d1,.inl ⟨n,B,used,b4,b5,b6,b1,b3,b2,a9,O,U,b0,b7,rfl,c1,⟨j1,by omega,by omega,by omega,by omega⟩,hu,a0,by rw [bK,bI,cB];omega,b8,b9,a1⟩⟩,?_⟩;unfold YU;have c0:=a1.fuN 1 rfl;have e1:=a1.lenZ 0 rfl;simp only [Option.isSome_some,if_true];rw [c0,c9,d0,e1,bK,bI,cB];omega
  ·have e2:gp.isSome=true:=by
    cases gp with
    | none=>
     generalize f3:s.goals=gl at hG hg;cases hG with
     | nil=>exact absurd rfl hg
    | some=>rfl
   rw [e2];refine aE (fun _=>?_) (fun h=>by cases h);obtain ⟨o,e,e0,f⟩:∃ o e,((used=fuel/\o=none/\e=2) ∨ (used≠fuel/\StepI p false s o e))/\((o=none/\e≠-1/\r=(out,e)) ∨ ∃ B m,n=m+1/\o=some B/\StepI p false s (some B) e/\RunI p vars most m B out r):=by
    rcases hr.invG hg with ⟨rfl,h2⟩|⟨m,o,e,rfl,h2,h3⟩
    ·exact ⟨none,2,.inl ⟨by omega,rfl,rfl⟩,.inl ⟨rfl,by decide,h2⟩⟩
    ·refine ⟨o,e,.inr ⟨by omega,h2⟩,?_⟩;rcases h3 with ⟨rfl,h3⟩|⟨B,rfl,h3⟩
     ·exact .inl ⟨rfl,h2.ne,h3⟩
     ·exact .inr ⟨B,m,rfl,rfl,h2,h3⟩
   refine Run.callE (A:=[_]) DK DI l (UG hp c2 d4 ⟨hu,by omega⟩ e0 D.ok (by omega) (by omega) (by omega) (c8.monoC j.1) hG hK) fun v' I' S4 w4=>?_;rintro ⟨rfl,d7,hQ,a2⟩ a3 M;obtain ⟨a9,b0,b1,b2,b3,b4,b5,O,b6,U,b7,d9,rfl,t⟩:=hQ;rcases f with ⟨rfl,d3,a⟩|⟨B,m,rfl,rfl,a5,c1⟩
   ·refine ⟨⟨out,css,S4,j.trans a3,hR.monoR fun _ _=>RdAns.mono a3.1,.inr ⟨e,_,d3,rfl,a,M⟩⟩,?_⟩;unfold YU;simp only [af d3,if_true];omega
   ·obtain ⟨j1,j2,j3,rfl,j5⟩:=a5.ok hp D.ok B rfl;have j6:=a5.chs;obtain ⟨rfl,b8,b9⟩:=t B rfl;obtain rfl:=a2 rfl;have e3:26 * p.length * (m+1)=26 * p.length * m+26 * p.length:=Nat.mul_succ _ _;have h26:=D.h26;refine ⟨⟨out,css,S4,j.trans a3,hR.monoR fun _ _=>RdAns.mono a3.1,.inl ⟨m,B,used+1,b4,b5,b6,b1,b3,b2,a9,O,U,b0,b7,rfl,c1,⟨j1,by omega,by omega,by omega,by omega⟩,by omega,by omega,e4,b8,b9,M⟩⟩,?_⟩;unfold YU;have c0:=M.fuN 1 rfl;simp only [if_true];rw [c0,c9,d0];omega
 ·refine bn ?_;refine aJ (fun h=>absurd h he) (fun _=>?_);exact ⟨_,_,S1,rfl,l.sub (eh _ _),G.trans j,_,css,by rw [a],rfl,by rw [a];exact hR⟩
end
end
section
open Go Go.RowKit
theorem SC:∀ (xs:List Int) (n:Int) (k:Nat),n∈xs->∃ i,xs[i]?=some n/\(df (σ:=Unit) (fun _ x=>(decide (n=x),())) () xs k).1=((k+i:Nat):Int)
 | x::xs,n,k,h=>by
  rw [df];by_cases e:n=x
  ·subst e;exact ⟨0,rfl,by simp⟩
  ·have g:n∈xs:=by
    rcases cw.1 h with h|h
    ·exact absurd h e
    ·exact h
   obtain ⟨i,a,f⟩:=SC xs n (k+1) g;refine ⟨i+1,a,?_⟩;rw [aS e];simp only [H2,if_false];rw [f];omega
theorem W5 {xs:List Int} {n:Int} (h:n∈xs):∃ i:Nat,xs[i]?=some n/\Nl xs n=(i:Int)/\i<xs.length:=by
 obtain ⟨i,a,f⟩:=SC xs n 0 h;exact ⟨i,a,by rw [Nl,f,dr],(fS.1 a).1⟩
mutual
theorem XZ:∀ (t:T) (l:List Int),okV t->(∀ m∈l,0<=m/\m<26)->∀ m∈r4 t l,0<=m/\m<26
 | .mk k n s ks,l,ho,hl=>by
  rw [okV] at ho;rw [r4];refine Ec ks _ ho.2 fun m a=>?_;split at a
  ·rename_i hk
   unfold nu at a;split at a
   ·exact hl m a
   ·rcases ci.1 a with a|a
    ·exact hl m a
    ·have:=ho.1 hk;rw [cE.1 a];omega
  ·exact hl m a
theorem Ec:∀ (ts:List T) (l:List Int),n6 ts->(∀ m∈l,0<=m/\m<26)->∀ m∈fm ts l,0<=m/\m<26
 | [],l,_,hl=>hl
 | t::ts,l,ho,hl=>by
  rw [n6] at ho;rw [fm];exact Ec ts _ ho.2 (XZ t l ho.1 hl)
end
end
section
open Go Go.RowKit
mutual
theorem abi (vs:List Int):∀ t:T,wT (uo vs t)<=wT t
 | .mk k n s ks=>by
  rw [uo];split
  ·show (0+0+0:Nat)<=_;omega
  ·have:=Po vs ks;rw [wT,wT,qY vs ks];omega
theorem Po (vs:List Int):∀ ts:List T,wL (kU vs ts)<=wL ts
 | []=>by rw [kU]; exact be _
 | t::ts=>by
  have a:=abi vs t;have f:=Po vs ts;rw [kU,wL,wL];omega
end
def Ws (vs:List T):Prop:=vs.length+wL vs<=1048576
theorem ValsI.small {N:Nat} {st:au} (l:Good N st) {vars:List Int} (m:∀ n∈vars,0<=n/\n<N) (hl:vars.length<=1000) {vs:List T} (h:ValsI st vars (some vs)):Ws vs:=by
 obtain ⟨us,a,f⟩:=h;have g:=Pv a;rw [nN] at g;split at f
 ·rename_i hc
  cases f;have q:=Kr (N:=N) (us:=us) fun u j=>by
   obtain ⟨i,o,rfl⟩:=CV j;refine ⟨eX.1 hc.1 _ j,kz l (Ou a i (by rw [nN];omega) o) ?_⟩;rw [M4];exact Bu (m _ (bJ _))
  have:=Po (fm us []) us;unfold Ws;rw [qY];omega
 ·cases f
theorem RunI.small {p:List C} (q:∀ cl∈p,kB cl) {vars:List Int} (j:∀ n∈vars,0<=n/\n<26) (hl:vars.length<=1000) {most n:Nat} {s:SI} {out:List (List T)} {r:List (List T) × Int} (h:RunI p vars most n s out r) :
  tz p.length s->26<=s.st.length->(∀ vs∈out,Ws vs)->∀ vs∈r.1,Ws vs:=by
 induction h with
 | fuel=>exact fun _ _ h=>h
 | stop=>exact fun _ _ h=>h
 | more=>exact fun _ _ h=>h
 | large=>exact fun _ _ h=>h
 | step _ m _ o=>
  intro g h26 i;obtain ⟨l,_,_,_,B⟩:=m.ok q g _ rfl;exact o l (by omega) i
 | last _ _ a _=>
  intro g h26 i vs f;rcases ci.1 f with h|h
  ·exact i vs h
  ·rw [cE.1 h];exact a.small g.good (fun n hn=>⟨(j n hn).1,by have:=(j n hn).2;omega⟩) hl
 | next _ _ a t _ o=>
  intro g h26 i;obtain ⟨l,_,_,D⟩:=t.ok q g.chs _ rfl;refine o l (by omega) fun vs f=>?_;rcases ci.1 f with h|h
  ·exact i vs h
  ·rw [cE.1 h];exact a.small g.good (fun n hn=>⟨(j n hn).1,by have:=(j n hn).2;omega⟩) hl
def SolR (p:List C) (q:List T) (most fuel:Nat) (r:List (List T) × Int):Prop:=((dZ p && eJ q)=true/\RunI p (fm q []) most fuel (jb q) [] r) ∨ ((dZ p && eJ q)=false/\r=([],9))
theorem kM {p:List C} (h:dZ p=true):(∀ cl∈p,kB cl)/\(∀ cl∈p,cl.body.length<=1048576)/\p.length<=20:=by
 rw [dZ,aZ,bt,eX] at h;exact ⟨fun cl hc=>SE (h.2 cl hc),fun cl hc=>by have:=(iJ (h.2 cl hc)).2.2;omega,h.1⟩
theorem uQ {q:List T} (h:eJ q=true):q.length<=6/\(∀ t∈q,dP t=true):=by
 rw [eJ,aZ,bt,eX] at h;exact ⟨h.1,fun t a=>eL (h.2 t a)⟩
theorem JK:∀ {q:List T},(∀ t∈q,dP t=true)->dx q<=120 * (q.length:Int)
 | [],_=>by simp [dx]
 | t::q,h=>by
  have a:=h t (bi ..);rw [dP,aZ] at a;have g:ez t<=120:=by simpa using a.2
  have i:=JK fun x f=>h x (bk _ f);rw [dx,bI];omega
theorem zi {q:List T} (h:eJ q=true):(∀ n∈fm q [],0<=n/\n<26)/\(fm q []).length<=1000/\dx q<=1000:=by
 obtain ⟨i,a⟩:=uQ h;have j:=JK a;have g:=As q [];rw [cB] at g;exact ⟨Ec q [] (Hj fun t f=>Ny t (ie (a t f))) (by simp),by omega,by omega⟩
theorem pl {q:List T} (h:eJ q=true) (m:Nat):tz m (jb q):=X4 m fun t f=>by
 have a:=(uQ h).2 t f;exact ⟨⟨ie a,by have:=lr a;omega⟩,r9 a⟩
theorem SolR.ex (p:List C) (q:List T) (most fuel:Nat):∃ r,SolR p q most fuel r:=by
 by_cases h:(dZ p && eJ q)=true
 ·have a:=h;rw [aZ] at a;obtain ⟨r,f⟩:=RunI.ex (kM a.1).1 (zi a.2).1 most _ fuel (jb q) [] (be _) (bf _) (pl a.2 _) (by show 26<=(List.replicate 26 (none:Option T)).length;simp);exact ⟨r,.inl ⟨h,f⟩⟩
 ·exact ⟨_,.inr ⟨by simpa using h,rfl⟩⟩
end
section
open Go Go.RowKit
def cls (p:List C) (l:List Int):List (Option C):=l.map fun i=>p[i.toNat]?
def sameHd (t u:T):Prop:=u.kind=t.kind/\u.name=t.name/\u.kids.length=t.kids.length
structure Alk (p s:List C) (R:T->Prop):Prop where
 for_:∀ t,R t->fC t=false->bW t=false->cls p (hH p t)=cls s (hH s t)
 body:∀ t,R t->∀ i∈hH p t,∀ cl,p[i.toNat]?=some cl->∀ b∈cl.body,R b
 hd:∀ t u,R t->sameHd t u->R u
 three:∀ t,R t->t.kind=3
def aaL (p:List C) (R:T->Prop) (l:List Int):Prop:=∀ i∈l,∀ cl,p[i.toNat]?=some cl->∀ b∈cl.body,R b
structure acm (p s:List C) (R:T->Prop) (c d:CI):Prop where
 goal:d.goal=c.goal
 node:d.node=c.node
 rest:d.rest=c.rest
 left:cls s d.left=cls p c.left
 binds:d.binds=c.binds
 taken:d.taken=c.taken
 rR:∀ g∈c.rest,R g.t
 lR:aaL p R c.left
def simCs (p s:List C) (R:T->Prop) (cs ds:List CI):Prop:=cs.length=ds.length/\∀ i (h:i<cs.length) (h':i<ds.length),acm p s R cs[i] ds[i]
structure aab (p s:List C) (R:T->Prop) (x y:SI):Prop where
 st:y.st=x.st
 goals:y.goals=x.goals
 chs:simCs p s R x.chs y.chs
 nodes:y.nodes.length=x.nodes.length
 gR:∀ g∈x.goals,R g.t
def aeD (p s:List C) (R:T->Prop) (o o':Option HI):Prop:=(o=none/\o'=none) ∨ ∃ r r':HI,o=some r/\o'=some r'/\r'.cl=r.cl/\r'.by_=r.by_/\r'.st=r.st/\cls s r'.l=cls p r.l/\aaL p R r.l/\∀ b∈r.cl.body,R b
def simO (p s:List C) (R:T->Prop) (o o':Option SI):Prop:=(o=none/\o'=none) ∨ ∃ x y,o=some x/\o'=some y/\aab p s R x y
section
variable {p s:List C} {R:T->Prop}
theorem sameHd.shift (b:Int) (t:T) (h:t.kind≠1):sameHd t (bD b t):=by
 cases t with
 | mk k n m a=>
  simp only [T.kind] at h;rw [bD,af h];exact ⟨rfl,rfl,by simp [T.kids,jk]⟩
theorem vD {st:au} {t u:T} (h:Res st (.one t u)) (a:t.kind≠1):sameHd t u:=by
 cases h with
 | @one _ v us g hl=>
  have f:v=t:=by
   cases g with
   | stop _=>rfl
   | step hk _=>exact absurd (dC.1 hk).1 a
  subst f;refine ⟨rfl,rfl,?_⟩;show us.length=v.kids.length;have:∀ {ts us:List T},Res st (.list ts us)->us.length=ts.length:=by
   intro ts;induction ts with
   | nil=>intro us h;cases h;rfl
   | cons t ts i=>intro us h;cases h with|cons _ h=>rw [bI,bI,i h]
  exact this hl
theorem oq {l a:List Int} (h:cls s a=cls p l):a=[]↔l=[]:=by
 have:=congrArg List.length h;simp only [cls,nN] at this;constructor
 ·rintro rfl;exact iy (by simpa using this.symm)
 ·rintro rfl;exact iy (by simpa using this)
theorem TryI.sim {g:T} {l:List Int} {st:au} {o:Option HI} {n:Nat} (h:TryI p g l st o n):∀ a,cls s a=cls p l->aaL p R l->(∀ i∈a,0<=i)->∃ r,TryI s g a st r n/\aeD p s R o r:=by
 induction h with
 | nil=>
  intro a hl _ _;obtain rfl:=(oq hl).2 rfl;exact ⟨none,.nil,.inl ⟨rfl,rfl⟩⟩
 | @hit i l cl st B t D=>
  intro a hl f m;cases a with
  | nil=>simp [cls] at hl
  | cons j a=>
   obtain ⟨k,rfl⟩:∃ k:Nat,j=(k:Int):=⟨j.toNat,by have:=m j (by simp);omega⟩
   simp only [cls,qD,gV,dq] at hl;rw [t] at hl;exact ⟨_,.hit hl.1 D,.inr ⟨_,_,rfl,rfl,rfl,rfl,rfl,hl.2,fun x q=>f x (bk _ q),f i (bi ..) cl (by rw [dq];exact t)⟩⟩
 | @miss i l cl st B o n t D _ M=>
  intro a hl f m;cases a with
  | nil=>simp [cls] at hl
  | cons j a=>
   obtain ⟨k,rfl⟩:∃ k:Nat,j=(k:Int):=⟨j.toNat,by have:=m j (by simp);omega⟩
   simp only [cls,qD,gV,dq] at hl;rw [t] at hl;obtain ⟨r,G,J⟩:=M a hl.2 (fun x q=>f x (bk _ q)) fun x q=>m x (bk _ q);exact ⟨r,.miss hl.1 D G,J⟩
theorem simCs.snoc {cs ds:List CI} {c d:CI} (h:simCs p s R cs ds) (hc:acm p s R c d):simCs p s R (cs++[c]) (ds++[d]):=by
 refine ⟨by simp [h.1],fun i f g=>?_⟩;by_cases a:i<cs.length
 ·rw [iO a,iO (h:=by have:=h.1;omega)];exact h.2 i a _
 ·rw [bK,bI,cB] at f;have j:=h.1;obtain rfl:i=cs.length:=by omega
  rw [gF (be _),gF (by omega)];simpa [j] using hc
theorem simCs.last {cs ds:List CI} {c d:CI} (h:simCs p s R (cs++[c]) (ds++[d])):simCs p s R cs ds/\acm p s R c d:=by
 have f:cs.length=ds.length:=by have:=h.1;simpa using this
 refine ⟨⟨f,fun i g a=>?_⟩,?_⟩
 ·have:=h.2 i (by rw [bK];omega) (by rw [bK];omega)
  rwa [iO g,iO a] at this
 ·have:=h.2 cs.length (by simp) (by simp [f]);rw [gF (be _),gF (by omega)] at this;simpa [f] using this
theorem QB (hR:Alk p s R) {cs ds:List CI} {ns m:List NI} {g:T} {a:Int} {rest:List GI} {b:au} {r h:HI} (j:simCs p s R cs ds) (hn:m.length=ns.length) (q:∀ x∈rest,R x.t)
  (J:h.cl=r.cl/\h.by_=r.by_/\h.st=r.st/\cls s h.l=cls p r.l/\aaL p R r.l/\∀ b∈r.cl.body,R b):aab p s R (jj cs ns g a rest b r) (jj ds m g a rest b h):=by
 obtain ⟨N,O,B,o,U,D⟩:=J;refine ⟨B,?_,?_,?_,?_⟩
 ·show nf h.cl h.by_ ds.length a rest=nf r.cl r.by_ cs.length a rest;rw [N,O,j.1]
 ·show simCs p s R (cs++(if r.l=[] then [] else [⟨g,a,rest,r.l,b,ns.length⟩])) (ds++(if h.l=[] then [] else [⟨g,a,rest,h.l,b,m.length⟩]));by_cases hl:r.l=[]
  ·rw [ai hl,ai ((oq o).2 hl),dc,dc];exact j
  ·rw [af hl,af (fun e=>hl ((oq o).1 e))];exact j.snoc ⟨rfl,rfl,rfl,o,rfl,hn,q,U⟩
 ·show (OX m a.toNat h.i).length=(OX ns a.toNat r.i).length;rw [C9,C9,hn]
 ·intro x M;have f:x∈nf r.cl r.by_ cs.length a rest:=M;unfold nf at f;rcases ci.1 f with f|f
  ·obtain ⟨t,G,rfl⟩:=eV.1 f;have B:=hR.three t (D t G);exact hR.hd t _ (D t G) (sameHd.shift _ t (by omega))
  ·exact q x f
theorem BackI.sim (hR:Alk p s R) {cs:List CI} {n:Nat} {ns:List NI} {o:Option SI} (h:BackI p cs n ns o):∀ ds j,simCs p s R cs ds->j.length=ns.length->(∀ d∈ds,∀ i∈d.left,0<=i)->∃ t,BackI s ds n j t/\simO p s R o t:=by
 induction h with
 | nil=>
  intro ds j hd _ _;obtain rfl:ds=[]:=iy (by simpa using hd.1.symm);exact ⟨none,.nil,.inl ⟨rfl,rfl⟩⟩
 | @hit cs c n m ns r G=>
  intro ds j hd hn l;obtain ⟨f,d,rfl⟩:∃ f d,ds=f++[d]:=⟨ds.dropLast,ds.getLast (by intro e;rw [e] at hd;simp [simCs] at hd),(Wf _).symm⟩
  obtain ⟨B,a⟩:=hd.last;obtain ⟨t,g,D⟩:=G.sim (s:=s) (R:=R) d.left a.left a.lR (l d (by simp));rcases D with ⟨q,_⟩|⟨Y,J,e1,rfl,Z⟩
  ·cases q
  simp only [aY] at e1;subst e1;have g:TryI s d.goal d.left (ct d.binds n) (some J) m:=by rw [a.goal,a.binds];exact g
  refine ⟨_,.hit g,.inr ⟨_,_,rfl,rfl,?_⟩⟩;rw [a.goal,a.node,a.rest,a.binds,a.taken];exact QB hR B (by rw [ey,ey,hn]) a.rR Z
 | @miss cs c n m ns o G _ V=>
  intro ds j hd hn l;obtain ⟨f,d,rfl⟩:∃ f d,ds=f++[d]:=⟨ds.dropLast,ds.getLast (by intro e;rw [e] at hd;simp [simCs] at hd),(Wf _).symm⟩
  obtain ⟨B,a⟩:=hd.last;obtain ⟨t,g,D⟩:=G.sim (s:=s) (R:=R) d.left a.left a.lR (l d (by simp));rcases D with ⟨_,rfl⟩|⟨Y,J,e1,_⟩
  ·have g:TryI s d.goal d.left (ct d.binds n) none m:=by rw [a.goal,a.binds];exact g
   obtain ⟨N,O,U⟩:=V f (j.take d.taken) B (by rw [ey,ey,hn,a.taken]) fun x M=>l x (dO _ M);exact ⟨N,.miss g O,U⟩
  ·cases e1
theorem simO.isSome {o a:Option SI} (h:simO p s R o a):a.isSome=o.isSome:=by
 rcases h with ⟨rfl,rfl⟩|⟨x,y,rfl,rfl,_⟩ <;> rfl
theorem StepI.sim (hR:Alk p s R) {x y:SI} {o:Option SI} {e:Int} (h:StepI p false x o e) (J:aab p s R x y) (h0:∀ d∈y.chs,∀ i∈d.left,0<=i):∃ U,StepI s false y U e/\simO p s R o U:=by
 have a:=J.st;have B:=J.goals;have N:=J.gR;have nd:∀ z:NI,(y.nodes++[z]).length=(x.nodes++[z]).length:=fun z=>by simp [J.nodes]
 have O:∀ {g:GI} {gs:List GI} {t:T},x.goals=g::gs->Res x.st (.one g.t t)->R t:=fun {g gs t} j l=>by
  have h1:=N g (by rw [j];simp);have h3:=hR.three _ h1;exact hR.hd _ _ h1 (vD l (by omega))
 cases h with
 | large j l f=>exact ⟨none,.large (by rw [B];exact j) (by rw [a];exact l) f,.inl ⟨rfl,rfl⟩⟩
 | noCut _ _ _ _ h=>cases h
 | @cut g gs t j l f hc a1=>
  refine ⟨_,.cut (by rw [B];exact j) (by rw [a];exact l) f hc rfl,.inr ⟨_,_,rfl,rfl,a,rfl,?_,nd _,fun z V=>N z (by rw [j];exact bk _ V)⟩⟩;refine ⟨by rw [ey,ey,J.chs.1],fun i Y a0=>?_⟩;rw [ey] at Y a0;rw [IU,IU];exact J.chs.2 i (by omega) (by omega)
 | @solved g gs t st j l f hc G hB=>
  exact ⟨_,.solved (by rw [B];exact j) (by rw [a];exact l) f hc G (by rw [a];exact hB),.inr ⟨_,_,rfl,rfl,rfl,rfl,J.chs,nd _,fun z V=>N z (by rw [j];exact bk _ V)⟩⟩
 | @fail g gs t st o j l f hc G hB ho=>
  obtain ⟨U,k1,Z⟩:=ho.sim hR y.chs _ J.chs (nd ⟨t,g.up,-1⟩) h0;rw [<- Z.isSome];exact ⟨U,.fail (by rw [B];exact j) (by rw [a];exact l) f hc G (by rw [a];exact hB) (by rw [a];exact k1),Z⟩
 | err j l f hc G hB h1 h2=>exact ⟨none,.err (by rw [B];exact j) (by rw [a];exact l) f hc G (by rw [a];exact hB) h1 h2,.inl ⟨rfl,rfl⟩⟩
 | unknown j l f hc G hf=>
  have D:=hR.for_ _ (O j l) hc G;exact ⟨none,.unknown (by rw [B];exact j) (by rw [a];exact l) f hc G ((oq D.symm).2 hf),.inl ⟨rfl,rfl⟩⟩
 | @took g gs t r m j l f hc G hf hT=>
  have M:=O j l;have D:=hR.for_ _ M hc G;obtain ⟨U,q1,q2⟩:=hT.sim (s:=s) (R:=R) (hH s t) D.symm (hR.body t M) fun i Y=>(sH s t i Y).1;rcases q2 with ⟨q,_⟩|⟨r1,r',e1,rfl,hh⟩
  ·cases q
  simp only [aY] at e1;subst e1;refine ⟨_,.took (by rw [B];exact j) (by rw [a];exact l) f hc G (fun e=>hf ((oq D.symm).1 e)) (by rw [a];exact q1),.inr ⟨_,_,rfl,rfl,?_⟩⟩;rw [a,J.nodes];exact QB hR J.chs (nd _) (fun z V=>N z (by rw [j];exact bk _ V)) hh
 | @back g gs t m o j l f hc G hf hT ho=>
  have M:=O j l;have D:=hR.for_ _ M hc G;obtain ⟨U,q1,q2⟩:=hT.sim (s:=s) (R:=R) (hH s t) D.symm (hR.body t M) fun i Y=>(sH s t i Y).1;rcases q2 with ⟨_,rfl⟩|⟨r1,r',e1,_⟩
  ·obtain ⟨o2,k1,Z⟩:=ho.sim hR y.chs _ J.chs (nd ⟨t,g.up,-1⟩) h0;rw [<- Z.isSome];exact ⟨o2,.back (by rw [B];exact j) (by rw [a];exact l) f hc G (fun e=>hf ((oq D.symm).1 e)) (by rw [a];exact q1) k1,Z⟩
  ·cases e1
theorem okCs.pos {m n k:Nat} {cs:List CI} (h:okCs m n k cs):∀ d∈cs,∀ i∈d.left,0<=i:=fun d hd i a=>by
 obtain ⟨j,f,rfl⟩:=CV hd;exact ((h.at_ j f).1.left i a).1
theorem RunI.sim (hR:Alk p s R) (N:∀ cl∈p,kB cl) (O:∀ cl∈s,kB cl) {vars:List Int} {most n:Nat} {x:SI} {out:List (List T)} {r:List (List T) × Int} (h:RunI p vars most n x out r):∀ y,aab p s R x y->tz p.length x->tz s.length y->RunI s vars most n y out r:=by
 induction h with
 | fuel f=>intro y a _ _;exact .fuel (by rw [a.goals];exact f)
 | stop f j=>
  intro y a _ g;obtain ⟨G,i,l⟩:=j.sim hR a g.chs.pos;rcases l with ⟨_,rfl⟩|⟨_,_,e,_⟩
  ·exact .stop (by rw [a.goals];exact f) i
  ·cases e
 | step f j _ J=>
  intro y a D g;obtain ⟨G,i,l⟩:=j.sim hR a g.chs.pos;rcases l with ⟨e,_⟩|⟨U,M,e,rfl,o⟩
  ·cases e
  simp only [aY] at e;subst e;exact .step (by rw [a.goals];exact f) i (J M o (j.ok N D _ rfl).1 (i.ok O g _ rfl).1)
 | more f m=>intro y a _ _;exact .more (by rw [a.goals];exact f) m
 | large f m t=>intro y a _ _;exact .large (by rw [a.goals];exact f) m (by rw [a.st];exact t)
 | last f m t B=>
  intro y a _ g;obtain ⟨G,i,l⟩:=B.sim hR y.chs y.nodes a.chs a.nodes g.chs.pos;rcases l with ⟨_,rfl⟩|⟨_,_,e,_⟩
  ·exact .last (by rw [a.goals];exact f) m (by rw [a.st];exact t) (by rw [a.st];exact i)
  ·cases e
 | next f m t B _ J=>
  intro y a D g;obtain ⟨G,i,l⟩:=B.sim hR y.chs y.nodes a.chs a.nodes g.chs.pos;rcases l with ⟨e,_⟩|⟨U,M,e,rfl,o⟩
  ·cases e
  simp only [aY] at e;subst e;refine .next (by rw [a.goals];exact f) m (by rw [a.st];exact t) (by rw [a.st];exact i) (J M o (B.ok N D.chs _ rfl).1 ?_);have q:=g.chs;rw [a.st] at q;exact (i.ok O q _ rfl).1
end
end
section
open Go Go.RowKit

def isP (x:Pd) (c:C):Bool:=kX (cW c.head) x
def iD (p:List C) (x:Pd):List C:=(p.filter fun c=>!isP x c)++p.filter (isP x)
def sY (p:List C) (x:Pd):List C:=if dZ p=true then iD p x else []
theorem SH (p:List C) (x:Pd):(iD p x).length+wP (iD p x)=p.length+wP p:=by
 have:=MG (isP x) p;rw [iD,ML,bK];omega
end
section
open Go Go.RowKit

def inP (l:List Pd) (c:C):Bool:=JT l (cW c.head)
def V8 (p:List C) (q:List T):List C:=if (dZ p && eJ q)=true then p.filter (inP (zW p (jM [] q))) else []
end
section
open Go Go.RowKit

theorem Ju {l:List Pd} {x:Pd}:JT l x=true↔x∈l:=by
 simp [JT,rF]
theorem HL {l:List Pd} {x y:Pd}:y∈oU l x↔y∈l ∨ y=x:=by
 unfold oU;split
 ·rename_i h
  rw [Ju] at h;exact ⟨.inl,fun a=>a.elim id fun e=>e ▸ h⟩
 ·simp
theorem Px {l:List Pd} {x:Pd} (h:l.Nodup):(oU l x).Nodup:=by
 unfold oU;split
 ·exact h
 ·rename_i f
  rw [Ju] at f;rw [qF];refine ⟨h,by simp,fun a i b g e=>?_⟩;simp at g;subst g;subst e;exact f i
theorem ZA (l:List Pd) (x:Pd):∃ s,oU l x=l++s:=by
 unfold oU;split
 ·exact ⟨[],by simp⟩
 ·exact ⟨[x],rfl⟩
theorem zF:∀ (ts:List T) (l:List Pd) (y:Pd),y∈jM l ts↔y∈l ∨ ∃ t∈ts,eI t=true/\cW t=y
 | [],l,y=>by simp [jM]
 | t::ts,l,y=>by
  have e:jM l (t::ts)=jM (if eI t=true then oU l (cW t) else l) ts:=rfl;rw [e,zF ts];split
  ·rename_i h
   rw [HL];constructor
   ·rintro ((a|a)|⟨u,a,h2⟩)
    ·exact .inl a
    ·exact .inr ⟨t,bi ..,h,a.symm⟩
    ·exact .inr ⟨u,bk _ a,h2⟩
   ·rintro (a|⟨u,a,h2,h3⟩)
    ·exact .inl (.inl a)
    ·rcases cw.1 a with rfl|a
     ·exact .inl (.inr h3.symm)
     ·exact .inr ⟨u,a,h2,h3⟩
  ·rename_i h
   constructor
   ·rintro (a|⟨u,a,h2⟩)
    ·exact .inl a
    ·exact .inr ⟨u,bk _ a,h2⟩
   ·rintro (a|⟨u,a,h2,h3⟩)
    ·exact .inl a
    ·rcases cw.1 a with rfl|a
     ·exact absurd h2 h
     ·exact .inr ⟨u,a,h2,h3⟩
theorem L0:∀ (ts:List T) (l:List Pd),l.Nodup->(jM l ts).Nodup
 | [],l,h=>h
 | t::ts,l,h=>by
  have e:jM l (t::ts)=jM (if eI t=true then oU l (cW t) else l) ts:=rfl;rw [e];refine L0 ts _ ?_;split
  ·exact Px h
  ·exact h
theorem yF (x:Pd):∀ (p:List C) (l:List Pd) (y:Pd),y∈kS l p x↔y∈l ∨ ∃ c∈p,cW c.head=x/\∃ t∈c.body,eI t=true/\cW t=y
 | [],l,y=>by simp [kS]
 | c::p,l,y=>by
  have e:kS l (c::p) x=kS (if kX (cW c.head) x=true then jM l c.body else l) p x:=rfl;rw [e,yF x p];split
  ·rename_i h
   rw [rF,bt] at h;rw [zF];constructor
   ·rintro ((a|a)|⟨u,a,h2⟩)
    ·exact .inl a
    ·exact .inr ⟨c,bi ..,h,a⟩
    ·exact .inr ⟨u,bk _ a,h2⟩
   ·rintro (a|⟨u,a,h2,h3⟩)
    ·exact .inl (.inl a)
    ·rcases cw.1 a with rfl|a
     ·exact .inl (.inr h3)
     ·exact .inr ⟨u,a,h2,h3⟩
  ·rename_i h
   rw [rF,bt] at h;constructor
   ·rintro (a|⟨u,a,h2⟩)
    ·exact .inl a
    ·exact .inr ⟨u,bk _ a,h2⟩
   ·rintro (a|⟨u,a,h2,h3⟩)
    ·exact .inl a
    ·rcases cw.1 a with rfl|a
     ·exact absurd h2 h
     ·exact .inr ⟨u,a,h2,h3⟩
theorem TD {p:List C} {x y:Pd}:y∈kZ p x↔∃ c∈p,cW c.head=x/\∃ t∈c.body,eI t=true/\cW t=y:=by
 rw [kZ,yF];simp
theorem qR:∀ (p:List C) (l:List Pd) (y:Pd),y∈iX l p↔y∈l ∨ ∃ c∈p,cW c.head=y
 | [],l,y=>by simp [iX]
 | c::p,l,y=>by
  have e:iX l (c::p)=iX (oU l (cW c.head)) p:=rfl;rw [e,qR p,HL];constructor
  ·rintro ((a|a)|⟨u,a,h2⟩)
   ·exact .inl a
   ·exact .inr ⟨c,bi ..,a.symm⟩
   ·exact .inr ⟨u,bk _ a,h2⟩
  ·rintro (a|⟨u,a,h2⟩)
   ·exact .inl (.inl a)
   ·rcases cw.1 a with rfl|a
    ·exact .inl (.inr h2.symm)
    ·exact .inr ⟨u,a,h2⟩
theorem s4:∀ (p:List C) (l:List Pd),l.Nodup->(iX l p).Nodup
 | [],l,h=>h
 | c::p,l,h=>by
  have e:iX l (c::p)=iX (oU l (cW c.head)) p:=rfl;rw [e];exact s4 p _ (Px h)
theorem JO {α:Type} [DecidableEq α]:∀ {l m:List α},l.Nodup->(∀ x∈l,x∈m)->l.length<=m.length
 | [],_,_,_=>bf _
 | x::l,m,h,hs=>by
  rw [N8] at h;have g:=hs x (bi ..);have i:=JO (l:=l) (m:=m.erase x) h.2 fun y f=>by
   have a:y≠x:=fun e=>h.1 (e ▸ f);exact (List.mem_erase_of_ne a).2 (hs y (bk _ f))
  rw [List.length_erase_of_mem g] at i;have:0<m.length:=List.length_pos_of_mem g;rw [bI];omega

inductive Star (p:List C) (x:Pd):Pd->Prop
 | refl:Star p x x
 | step {y z:Pd}:Star p x y->z∈kZ p y->Star p x z
theorem Star.trans {p:List C} {x y z:Pd} (h:Star p x y) (a:Star p y z):Star p x z:=by
 induction a with
 | refl=>exact h
 | step _ f g=>exact .step g f
theorem sC:∀ (m l:List Pd) (y:Pd),y∈ji l m↔y∈l ∨ y∈m
 | [],l,y=>by simp [ji]
 | x::m,l,y=>by
  have e:ji l (x::m)=ji (oU l x) m:=rfl;rw [e,sC m,HL,cw];constructor
  ·rintro ((h|h)|h)
   ·exact .inl h
   ·exact .inr (.inl h)
   ·exact .inr (.inr h)
  ·rintro (h|h|h)
   ·exact .inl (.inl h)
   ·exact .inl (.inr h)
   ·exact .inr h
theorem LX:∀ (m l:List Pd),l.Nodup->(ji l m).Nodup
 | [],_,h=>h
 | _::m,_,h=>LX m _ (Px h)
theorem JW:∀ (m l:List Pd),∃ s,ji l m=l++s
 | [],l=>⟨[],by simp [ji]⟩
 | x::m,l=>by
  obtain ⟨s,f⟩:=ZA l x;obtain ⟨g,a⟩:=JW m (oU l x);have e:ji l (x::m)=ji (oU l x) m:=rfl;exact ⟨s++g,by rw [e,a,f,eY]⟩
theorem Ki {G:List Pd}:∀ (m l:List Pd),(∀ x∈m,x∈G)->(ji l m).length+pot G (ji l m)<=l.length+pot G l
 | [],l,_=>be _
 | x::m,l,h=>by
  have e:ji l (x::m)=ji (oU l x) m:=rfl;have f:=Ki m (oU l x) fun y a=>h y (bk _ a);have g:=Z2 (l:=l) (h x (bi ..));rw [e];omega
theorem Gm (p:List C):∀ (n:Nat) (l:List Pd) (i:Nat),l.length+pot (gPs p) l<=n+i->(∀ j (h:j<l.length),j<i->∀ z∈kZ p l[j],z∈l)->l.Nodup->
  (tp n p l i).Nodup/\(∀ y∈tp n p l i,∃ x∈l,Star p x y)/\(∀ x∈l,x∈tp n p l i)/\∀ y∈tp n p l i,∀ z∈kZ p y,z∈tp n p l i
 | 0,l,i,hn,hc,hd=>by
  simp only [tp];refine ⟨hd,fun y f=>⟨y,f,.refl⟩,fun x a=>a,fun y f z g=>?_⟩;obtain ⟨j,o,rfl⟩:=zu.1 f;exact hc j o (by omega) z g
 | n+1,l,i,hn,hc,hd=>by
  rw [tp];split
  ·rename_i r
   have U:=Ki (G:=gPs p) (kZ p l[i]) l fun x a=>Tc a;obtain ⟨s,B⟩:=JW (kZ p l[i]) l;obtain ⟨D,J,M,N⟩:=Gm p n (ji l (kZ p l[i])) (i+1) (by omega) (fun j o t z g=>by
    rw [sC];have m:j<l.length:=by omega
    have O:(ji l (kZ p l[i]))[j]=l[j]:=by
     have:(ji l (kZ p l[i]))[j]?=l[j]?:=by rw [B,vA m]
     rw [gd o,gd m] at this;exact JI this
    rw [O] at g;by_cases e:j=i
    ·subst e;exact .inr g
    ·exact .inl (hc j m (by omega) z g)) (LX _ _ hd)
   refine ⟨D,fun y f=>?_,fun x a=>M x ((sC _ _ _).2 (.inl a)),N⟩;obtain ⟨x,a,q⟩:=J y f;rcases (sC _ _ _).1 a with a|a
   ·exact ⟨x,a,q⟩
   ·exact ⟨l[i],bJ r,Star.trans (.step .refl a) q⟩
  ·refine ⟨hd,fun y f=>⟨y,f,.refl⟩,fun x a=>a,fun y f z g=>?_⟩;obtain ⟨j,o,rfl⟩:=zu.1 f;exact hc j o (by omega) z g
theorem FA (p:List C) {l:List Pd} (hd:l.Nodup):(zW p l).Nodup/\(∀ y,y∈zW p l↔∃ x∈l,Star p x y)/\∀ y∈zW p l,∀ z∈kZ p y,z∈zW p l:=by
 obtain ⟨i,m,o,a⟩:=Gm p (l.length+(gPs p).length) l 0 (by have:=acM (gPs p) l;omega) (fun j _ h=>by omega) hd;refine ⟨i,fun y=>⟨m y,?_⟩,a⟩;rintro ⟨x,f,g⟩;induction g with
 | refl=>exact o x f
 | step _ q r=>exact a _ r _ q
theorem TL {p:List C} {l:List Pd} (hd:l.Nodup) {y:Pd}:y∈zW p l↔∃ x∈l,Star p x y:=(FA p hd).2.1 y

theorem Ok (p:List C) (x:Pd):iD (iD p x) x=iD p x:=by
 simp only [iD,List.filter_append,Wx];have f:(p.filter fun a=>(!isP x a) && isP x a)=[]:=by
  rw [Wj];intro c _;cases isP x c <;> simp
 have g:(p.filter fun a=>isP x a && !isP x a)=[]:=by
  rw [Wj];intro c _;cases isP x c <;> simp
 simp only [Bool.and_self,f,g,dc,u9]
theorem JC {p:List C} {x:Pd} {c:C}:c∈iD p x↔c∈p:=by
 simp only [iD,ci,OR];cases isP x c <;> simp
theorem Vn (p:List C) (x:Pd):(iD p x).length=p.length:=by
 have:=SH p x;simp only [iD,bK];induction p with
 | nil=>rfl
 | cons c p a=>
  have a:=a (SH p x);rw [wH,wH];cases isP x c <;> simp <;> omega
theorem SB {p:List C} (h:dZ p=true) (x:Pd):dZ (iD p x)=true:=by
 rw [dZ,aZ,eX,bt] at h ⊢;exact ⟨by rw [Vn];exact h.1,fun c hc=>h.2 c (JC.1 hc)⟩
theorem PR {p:List C} (h:dZ p=true) (x:Pd):sY (sY p x) x=sY p x/\dZ (sY p x)=true/\(Hq (sY p x)).length=(Hq p).length:=by
 have f:=SB h x;have e:sY p x=iD p x:=ai h;refine ⟨by rw [e,sY,ai f,Ok],by rw [e];exact f,?_⟩;rw [e,Hq,Hq,ai h,ai f];have g:∀ y,y∈iX [] (iD p x)↔y∈iX [] p:=fun y=>by
  rw [qR,qR];simp only [JC]
 exact Nat.le_antisymm (JO (s4 _ _ IQ) fun y a=>(g y).1 a) (JO (s4 _ _ IQ) fun y a=>(g y).2 a)
end
section
open Go Go.RowKit
theorem xr {x y:Pd}:kX x y=true↔x=y:=by rw [rF,bt]
theorem Ma (f:C->Bool) (P:List C):∀ (p a:List C),P=a++p->(ig f p a.length).map (fun i=>P[i.toNat]?)=(p.filter f).map some
 | [],a,_=>by simp [ig]
 | c::p,a,h=>by
  have g:=Ma f P p (a++[c]) (by rw [h];simp);rw [bK,bI,cB] at g;have hc:P[a.length]?=some c:=by rw [h];simp
  rw [ig];split
  ·rename_i hf
   rw [List.filter_cons_of_pos hf,qD,qD,dq,hc,g]
  ·rename_i hf
   rw [List.filter_cons_of_neg hf,g]
theorem vg (p:List C) (t:T):cls p (hH p t)=(p.filter fun c=>kX (cW c.head) (cW t)).map some:=Ma _ p p [] rfl
theorem kQ {t u:T} (h:sameHd t u):cW u=cW t:=by
 unfold cW;rw [h.2.1,h.2.2]
theorem sD {t u:T} (h:sameHd t u):fC u=fC t:=by
 unfold fC;rw [h.1,h.2.1,h.2.2]
theorem gz {t u:T} (h:sameHd t u):bW u=bW t:=by
 unfold bW;rw [h.1,h.2.1,h.2.2]
theorem Mx {p:List C} {t:T} {i:Int} (g:i∈hH p t) {cl:C} (a:p[i.toNat]?=some cl):cl∈p/\cW cl.head=cW t:=by
 obtain ⟨j,_,h,f,hf⟩:=Iq _ p 0 i g;have:i.toNat=j:=by omega
 rw [this,gd f] at a;cases a;exact ⟨bJ f,xr.1 hf⟩
theorem kL {t:T} (h:fi t=true):t.kind=3:=of_decide_eq_true (LQ h)
theorem rY {p:List C} (h:dZ p=true) {cl:C} (hc:cl∈p) {b:T} (a:b∈cl.body):fi b=true:=by
 rw [dZ,aZ,eX] at h;have:=h.2 cl hc;rw [cz,aZ,aZ,eX] at this;exact this.2.1 b a
theorem X2 {p s:List C} {R:T->Prop} {q:List T} (h:∀ t∈q,R t):aab p s R (jb q) (jb q):=
 ⟨rfl,rfl,⟨rfl,fun i a=>by simp [jb] at a⟩,rfl,fun g f=>by
  obtain ⟨t,j,rfl⟩:=eV.1 f;exact h t j⟩
theorem SolR.sim {p s:List C} {R:T->Prop} {q:List T} {most fuel:Nat} {r:List (List T) × Int} (i:Alk p s R) (f:dZ p=true) (g:dZ s=true) (a:eJ q=true) (hR:∀ t∈q,R t) (h:SolR p q most fuel r):SolR s q most fuel r:=by
 rcases h with ⟨_,h⟩|⟨h,_⟩
 ·exact .inl ⟨by rw [g,a];rfl,h.sim i (kM f).1 (kM g).1 _ (X2 hR) (pl a _) (pl a _)⟩
 ·rw [f,a] at h;cases h
theorem SolR.bad {p s:List C} {q:List T} {most fuel:Nat} {r:List (List T) × Int} (f:dZ p=true) (g:dZ s=true) (a:eJ q=false) (h:SolR p q most fuel r):SolR s q most fuel r:=by
 rcases h with ⟨h,_⟩|⟨_,h⟩
 ·rw [f,a] at h;cases h
 ·exact .inr ⟨by rw [g,a];rfl,h⟩
theorem Ol (p:List C) (x:Pd) (f:C->Bool) (h:(∀ c,f c=true->isP x c=true) ∨ (∀ c,f c=true->isP x c=false)):(iD p x).filter f=p.filter f:=by
 unfold iD;rw [List.filter_append,Wx,Wx];rcases h with h|h
 ·have e1:p.filter (fun c=>f c && !isP x c)=[]:=Wj.2 fun c _ hc=>by
   rw [aZ] at hc;rw [h c hc.1] at hc;exact absurd hc.2 (by decide)
  have e2:p.filter (fun c=>f c && isP x c)=p.filter f:=ZD fun c _=>by
   cases hc:f c with
   | false=>rfl
   | true=>rw [h c hc];rfl
  rw [e1,e2];rfl
 ·have e1:p.filter (fun c=>f c && !isP x c)=p.filter f:=ZD fun c _=>by
   cases hc:f c with
   | false=>rfl
   | true=>rw [h c hc];rfl
  have e2:p.filter (fun c=>f c && isP x c)=[]:=Wj.2 fun c _ hc=>by
   rw [aZ] at hc;rw [h c hc.1] at hc;exact absurd hc.2 (by decide)
  rw [e1,e2,dc]
theorem Xy {p:List C} (g:dZ p=true) (x:Pd):Alk p (iD p x) fun t=>t.kind=3:=by
 refine ⟨fun t _ _ _=>?_,fun t _ i j cl a b l=>kL (rY g (Mx j a).1 l),fun t u h m=>by rw [m.1];exact h,fun t h=>h⟩;rw [vg,vg,Ol]
 ·by_cases h:cW t=x
  ·left;intro c hc;unfold isP;rw [xr] at hc ⊢;rw [hc,h]
  ·right;intro c hc;rw [xr] at hc;cases f:isP x c with
   | false=>rfl
   | true=>
    unfold isP at f;rw [xr] at f;exact absurd (hc.symm.trans f) h
theorem SolR.moved {p:List C} {q:List T} {most fuel:Nat} {r:List (List T) × Int} (a:dZ p=true) (x:Pd) (h:SolR p q most fuel r):SolR (sY p x) q most fuel r:=by
 have g:=(PR a x).2.1;have e:sY p x=iD p x:=ai a;rw [e] at g ⊢;cases f:eJ q with
 | false=>exact h.bad a g f
 | true=>
  refine h.sim (Xy a x) a g f fun t i=>?_;rw [eJ,aZ,eX] at f;exact kL (f.2 t i)
end
section
open Go Go.RowKit
theorem JH {t:T} (h:fi t=true) (hc:fC t=false) (a:bW t=false):eI t=true:=by
 rw [fi,hc,a] at h;simpa using (Bool.and_eq_true_iff.1 h).2
theorem sw {h t:T} (g:eI h=true) (i:cW h=cW t):fC t=false/\bW t=false:=by
 have e1:h.name=t.name:=congrArg Pd.name i;have e2:(h.kids.length:Int)=(t.kids.length:Int):=congrArg Pd.arity i;rw [eI,aZ,aZ,aZ] at g;obtain ⟨_,a,f,_⟩:=g;rw [e1] at a;rw [e1,e2] at f;constructor
 ·cases hc:fC t with
  | false=>rfl
  | true=>
   rw [fC,aZ,aZ] at hc;have hn:=of_decide_eq_true hc.2.1;rw [hn] at a;exact absurd a (by decide +kernel)
 ·rw [bW];simp only [lg] at f;rw [f,m5]
theorem IB {p:List C} (h:dZ p=true) {cl:C} (hc:cl∈p):eI cl.head=true:=by
 rw [dZ,aZ,eX] at h;have:=h.2 cl hc;rw [cz,aZ,aZ,aZ] at this;exact this.2.2.2
abbrev VJ (p:List C) (q:List T):List Pd:=zW p (jM [] q)
theorem ZO (q:List T):(jM [] q).Nodup:=L0 q [] IQ
theorem Yy {p:List C} {q:List T} {x z:Pd} (a:x∈VJ p q) (f:z∈kZ p x):z∈VJ p q:=(FA p (ZO q)).2.2 x a z f
theorem aae {p:List C} {q:List T} {t:T} (a:t∈q) (f:eI t=true):cW t∈VJ p q:=
 (TL (ZO q)).2 ⟨cW t,(zF q [] _).2 (.inr ⟨t,a,f,rfl⟩),.refl⟩
def slR (p:List C) (q:List T) (t:T):Prop:=t.kind=3/\(fC t=false->bW t=false->cW t∈VJ p q)
theorem Xv {p:List C} (o:dZ p=true) (q:List T):Alk p (p.filter (inP (VJ p q))) (slR p q):=by
 refine ⟨fun t h hc a=>?_,fun t h i g cl j b a=>?_,fun t u h f=>?_,fun t h=>h.1⟩
 ·rw [vg,vg,Wx]
  congr 1
  refine ZD fun c _=>?_;cases hf:kX (cW c.head) (cW t) with
  | false=>rfl
  | true=>
   have g:inP (VJ p q) c=true:=by
    rw [inP,Ju,xr.1 hf];exact h.2 hc a
   rw [g];rfl
 ·obtain ⟨m,r⟩:=Mx g j;obtain ⟨D,G⟩:=sw (IB o m) r;have B:=rY o m a;refine ⟨kL B,fun hc l=>Yy (h.2 D G) (TD.2 ⟨cl,m,r,b,a,JH B hc l,rfl⟩)⟩
 ·refine ⟨by rw [f.1];exact h.1,fun hc a=>?_⟩;rw [sD f] at hc;rw [gz f] at a;rw [kQ f];exact h.2 hc a
theorem Te {p:List C} (a:dZ p=true) (f:C->Bool):dZ (p.filter f)=true:=by
 rw [dZ,aZ,bt,eX] at a ⊢;exact ⟨gM (ZR f p) a.1,fun c hc=>a.2 c (OR.1 hc).1⟩
theorem SolR.sliced {p:List C} {q:List T} {most fuel:Nat} {r:List (List T) × Int} (f:(dZ p && eJ q)=true) (h:SolR p q most fuel r):SolR (V8 p q) q most fuel r:=by
 have a:=f;rw [aZ] at a;have e:V8 p q=p.filter (inP (VJ p q)):=ai f;rw [e];refine h.sim (Xv a.1 q) a.1 (Te a.1 _) a.2 fun t g=>?_;have i:=a.2;rw [eJ,aZ,eX] at i;have j:=i.2 t g;exact ⟨kL j,fun hc l=>aae g (JH j hc l)⟩
end
section
open Go Go.RowKit

def Vp (c:C):Bool:=match c.body with
 | []=>false
 | g::_=>eI g
theorem Xh {c:C} (h:Vp c=true):∃ g gs,c.body=g::gs/\eI g=true:=by
 unfold Vp at h;split at h
 ·cases h
 ·exact ⟨_,_,‹_›,h⟩
end
section
open Go Go.RowKit
def YJ (c d:C):Bool:=cz c && (cz d && Vp c)
theorem WD {c d:C} (h:YJ c d=true):cz c=true/\cz d=true/\c.body≠[]:=by
 rw [YJ,aZ,aZ] at h;obtain ⟨g,gs,e,_⟩:=Xh h.2.2;exact ⟨h.1,h.2.1,by rw [e];simp⟩
def RB (c d r:C) (b:Bool):Prop:=(YJ c d=false/\r=Wp/\b=false) ∨ (YJ c d=true/\∃ o,RO c d o/\((acG o=true/\r=clO o/\b=true) ∨ (acG o=false/\r=Wp/\b=false)))
theorem RB.ex {c d:C} (h:wC c<=1048576) (f:wC d<=1048576):∃ r b,RB c d r b:=by
 cases a:YJ c d with
 | false=>exact ⟨_,_,.inl ⟨a,rfl,rfl⟩⟩
 | true=>
  obtain ⟨i,j,l⟩:=WD a;obtain ⟨o,g⟩:=RO.ex i j h f l;cases hk:acG o with
  | false=>exact ⟨_,_,.inr ⟨a,o,g,.inr ⟨hk,rfl,rfl⟩⟩⟩
  | true=>exact ⟨_,_,.inr ⟨a,o,g,.inl ⟨hk,rfl,rfl⟩⟩⟩
theorem Cz:wC Wp<=20000:=by decide +kernel
theorem adA {c d:C} (g:cz c=true) (h:cz d=true) (l:wC c<=1048576) (i:wC d<=1048576) (m:c.body≠[]) {o:Option (Option C)} (q:RO c d o):wC (clO o)<=20000:=by
 obtain ⟨r,st,t,f⟩:=q;rcases f with ⟨_,rfl⟩|⟨_,us,j,⟨_,rfl⟩|⟨D,rfl⟩⟩
 ·exact Cz
 ·exact Cz
 ·have B:=(t.good Kh (Ms g h l i m)).1;obtain ⟨e1,e2⟩:=kz B j (RX g h);have hl:=W4 g h;have a:=Q4 D e1;show wC (abe (abP (ofL us)) (ofL us))<=20000;rw [acO]
  match us,a,e2 with
  | [],_,_=>exact Cz
  | u::us,a,e2=>
   rw [wL] at a;rw [bI] at a e2;simp only [wC,ofL];omega
theorem RB.w {c d r:C} {b:Bool} (h:RB c d r b) (f:wC c<=1048576) (a:wC d<=1048576):wC r<=20000:=by
 rcases h with ⟨_,rfl,_⟩|⟨l,o,m,⟨_,rfl,_⟩|⟨_,rfl,_⟩⟩
 ·exact Cz
 ·obtain ⟨g,i,j⟩:=WD l;exact adA g i f a j m
 ·exact Cz
end
section
open Go Go.RowKit
theorem Qn {st:au} {t v:T} (h:dL st t v):∀ f,dL st t f->f=v:=by
 induction h with
 | stop hl=>
  intro f g;cases g with
  | stop _=>rfl
  | step a _=>rw [hl] at a;cases a
 | step hl _ i=>
  intro f g;cases g with
  | stop a=>rw [hl] at a;cases a
  | step a j=>rw [hl] at a;cases a;exact i _ j
theorem aaS {st:au} {j:Nz} (h:Res st j):match j with
  | .one t u=>∀ g,Res st (.one t g)->g=u
  | .list ts us=>∀ a,Res st (.list ts a)->a=us:=by
 induction h with
 | one q _ r=>
  intro g f;cases f with
  | one i l=>
   obtain rfl:=Qn q _ i;rw [r _ l]
 | nil=>
  intro a f;cases f;rfl
 | cons _ _ m o=>
  intro a f;cases f with
  | cons B D=>rw [m _ B,o _ D]
open Classical in
noncomputable def sgR (st:au) (n:Int):T:=if h:∃ u,Res st (.one (idS n) u) then h.choose else idS n
theorem ZP {st:au} {n:Int} {u:T} (h:Res st (.one (idS n) u)):sgR st n=u:=by
 have a:∃ u,Res st (.one (idS n) u):=⟨u,h⟩
 rw [sgR,dif_pos a];exact aaS h _ a.choose_spec
theorem acx {N:Nat} {st:au} {j:Nz} (o:Res st j):match j with
  | .one t u=>okU N t->u=sbT (sgR st) t
  | .list ts us=>du N ts->us=sbL (sgR st) ts:=by
 induction o with
 | one m hl B=>
  rename_i t v us
  intro a;by_cases hk:t.kind=1
  ·obtain ⟨_,_,h,i⟩:=a.var hk;obtain ⟨k,n,s,q⟩:=t;simp only [T.kind,T.name,T.kids] at hk h i;subst hk;subst h;subst i;rw [sbT,ai rfl];exact (ZP (.one m hl)).symm
  ·have r:v=t:=Qn (.stop (xq.2 fun e=>absurd e hk)) _ m;subst r;have l:=B a.kids;obtain ⟨k,n,s,q⟩:=v;simp only [T.kind] at hk;rw [sbT,af hk];simp only [T.kids] at l;rw [l];rfl
 | nil=>exact fun _=>rfl
 | cons _ _ f g=>
  intro a;rw [du] at a;rw [sbL,f a.1,g a.2]
end
end Go.Proofs.YtellfcpffcipcaaGreatDoor
