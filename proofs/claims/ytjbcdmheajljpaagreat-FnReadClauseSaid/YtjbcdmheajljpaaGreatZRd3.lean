/- Texts read: spec.l1Struct, l1Chain, l2Read, l2Prime, l2Terms, l2Items. (printed by gen_read.py) -/
import Derived.Test.YtjbcdmheajljpaaGreatZRdA
import Derived.Test.YtjbcdmheajljpaaGreatZRd2
namespace Go.Proofs.YtjbcdmheajljpaaGreat
attribute [local irreducible] Run CondV aI bg
section
open Go Go.RowKit
theorem WP {s:Bs} {i e:Nat} {t:T} (hn:TV s i=some (t,e)):i<e/\e<=s.length:=by
 unfold TV at hn;obtain ⟨fr,a⟩:∃ fr,fr=if sgn s i 45=true then i+1 else i:=⟨_,rfl⟩
 simp only [<- a] at hn;have g:=Kj s 4 fr;have j:i<=fr/\fr<=i+1:=by rw [a];split <;> omega
 split at hn
 ·cases hn
 rename_i hc
 simp only [not_or] at hc;simp only [bj,c9] at hn;obtain ⟨_,rfl⟩:=hn;have l:fr<uB s 4 fr:=by
  rcases KV fr (uB s 4 fr) with h|h
  ·exact h
  ·refine absurd ?_ hc.1;rw [cut,uY];rw [ig];omega
 have:=FO (xo s 4 fr (uB s 4 fr - 1) (by omega) (by omega));omega
theorem jo:∀ f:Nat,(∀ s i d l t n,lR f s i d l=some (t,n)->i<n/\n<=s.length)/\(∀ s i d l G t n,LM f s i d l G=some (t,n)->i<=s.length->i<=n/\n<=s.length)/\
  (∀ s i d t n,v4 f s i d=some (t,n)->i<n/\n<=s.length)/\(∀ s i d e o j ts n,j3 f s i d e o j=some (ts,n)->i<n/\n<s.length)
 | 0=>⟨fun s i d l t n h=>by simp [lR] at h,fun s i d l G t n h=>by simp [LM] at h,fun s i d t n h=>by simp [v4] at h,fun s i d e o j ts n h=>by simp [j3] at h⟩
 | f+1=>by
  obtain ⟨q,N,U,J⟩:=jo f;refine ⟨fun s i d l t n h=>?_,fun s i d l G t n h Y=>?_,fun s i d t n h=>?_,fun s i d e o j ts n h=>?_⟩
  ·cases l with
   | zero=>rw [lR] at h;exact U _ _ _ _ _ h
   | succ l=>
    rw [lR] at h;split at h
    ·cases h
    ·rename_i B m g
     have a:=q _ _ _ _ _ _ g;have b:=N _ _ _ _ _ _ _ h a.2;omega
  ·rw [LM] at h;split at h
   ·simp only [bj,c9] at h;omega
   ·rename_i name C O
    have a:=UM O;split at h
    ·split at h
     ·cases h
     ·rename_i r e g
      have b:=q _ _ _ _ _ _ g;split at h
      ·simp only [bj,c9] at h;omega
      ·have c:=N _ _ _ _ _ _ _ h b.2;omega
    ·simp only [bj,c9] at h;omega
  ·rw [v4] at h;split at h
   ·cases h
   rename_i M
   have M:i<s.length:=by omega
   split at h
   ·split at h
    ·cases h
    ·rename_i B m g
     have a:=q _ _ _ _ _ _ g;split at h
     ·rename_i p
      have:=jZ p;simp only [bj,c9] at h;omega
     ·cases h
   ·split at h
    ·split at h
     ·cases h
     ·rename_i ts m g
      have a:=J _ _ _ _ _ _ _ _ g;split at h
      ·simp only [bj,c9] at h;omega
      ·split at h
       ·cases h
       ·rename_i B e D
        have b:=q _ _ _ _ _ _ D;split at h
        ·rename_i p
         have:=jZ p;simp only [bj,c9] at h;omega
        ·cases h
    ·split at h
     ·simp only [bj,c9] at h;omega
     ·split at h
      ·exact WP h
      ·split at h
       ·cases h
       ·rename_i name m hn
        have a:=wZ M hn;split at h
        ·simp only [bj,c9] at h;omega
        ·split at h
         ·cases h
         ·rename_i ts e g
          have b:=J _ _ _ _ _ _ _ _ g;simp only [bj,c9] at h;omega
  ·rw [j3] at h;split at h
   ·cases h
   ·rename_i B m g
    have a:=q _ _ _ _ _ _ g;split at h
    ·rename_i p
     have V:m<s.length:=p.elim jZ jZ;simp only [bj,c9] at h;omega
    ·split at h
     ·have b:=J _ _ _ _ _ _ _ _ h;omega
     ·cases h
abbrev Yu (t:T):Value->List Item->ai->Prop:=fun v I' S'=>I'=[]/\∃ cs,v=.agg cs.toArray/\RdT S' cs t
abbrev TY (t:T) (n:Nat):Value->List Item->ai->Prop:=fun v I' S'=>I'=[]/\∃ cs,v=.tuple #[.agg cs.toArray,ee (n:Int)]/\RdT S' cs t
abbrev Xg (ts:List T) (n:Nat):Value->List Item->ai->Prop:=fun v I' S'=>I'=[]/\∃ u,v=.tuple #[u,ee (n:Int)]/\RdSl S' 4 (RdT S') u ts
theorem ll (S:ai):RdSl S 4 (RdT S) (nx) []:=⟨none,0,rfl,aY _,aT _,.inl rfl⟩
theorem EV {S:ai} {b:Nat} {E:TypeId} {a c:T} {g h j l:Int} {m o:ByteArray} {v1 v2:Value} (p:S b=some (.cells #[ee g,ee h,.string m,v1,ee j,ee l,.string o,v2] E))
  (q:RdT S [ee g,ee h,.string m,v1] a) (r:RdT S [ee j,ee l,.string o,v2] c):RdSl S 4 (RdT S) (kt b 0 2 2) [a,c]:=by
 refine ⟨_,2,rfl,aY _,by simp [maxLen],.inr ⟨b,0,_,E,(0,0),rfl,p,fun i t=>?_⟩⟩
 match i,t with
 | 0,_=>exact q
 | 1,_=>exact r
section
variable {w w0:World} {X:List Nat} {L:List Item} {S:ai} {K:Value->World->Prop}
theorem gx {P:Program} {T:TypeId} {g h:Bool} {x y:Int} {a b:Nat} (i:x=a) (j:y=b) (l:a+b<=1000000000000000) (hk:K (ee ((a+b:Nat):Int)) w):Run P (el .add T g h (ee x) (ee y)) w K:=by
 subst i j;refine bL (by omega) ?_;rw [<- Int.natCast_add];exact hk
theorem F7 {P:Program} {T:TypeId} {h i:Bool} {x y:Int} {a b:Nat} (j:x=a) (l:y=b) (g:b<=a) (m:a<=1000000000000000) (hk:K (ee ((a - b:Nat):Int)) w):Run P (el .sub T h i (ee x) (ee y)) w K:=by
 subst j l;refine jl (by omega) ?_;rw [<- Int.ofNat_sub g];exact hk
theorem lc {s:ByteArray} {v:Value} (a:∃ p n m,v=.slice p n m) (hk:K (.agg #[ee 3,ee 0,.string s,v]) w):Run Tryz.prog (cr ac [(0,ee 3),(2,.string s),(3,v)]) w K:=by
 obtain ⟨p,n,m,rfl⟩:=a;refine Run.of (v:=.agg #[ee 3,ee 0,.string s,.slice p n m]) (w':=w) ?_ hk;unfold cr;rw [Sem.run_bind,run_build w ac _ #[ee 3,ee 0,.string s,.slice p n m] (by kernel_rfl),Result.andThen_ok];rfl
theorem pY (s:ByteArray) {ks:List T} {u:Value} (h:RdSl S 4 (RdT S) u ks) (hk:ks.length<=1000000):nB xk [.string s,u] [] S fun v I' S'=>S'=S/\∃ kv css,v=.agg #[ee 3,ee 0,.string s,kv]/\I'=[aB kv ac 4 css]/\Rows 4 (RdT S) css ks:=by
 intro w g;refine uN.2 ?_;dsimp only[uN,bv];refine aE g aQ fun j w' g=>?_;refine eZ g bi fun v0 w' g=>?_;have g:Inv w [] [ei j et ac,aB v0 ac 4 []] S w':=g;refine ge g 1 (css:=[]) bi (by omega) rfl h (fun _ _=>RdT.length) (fun _ _=>RdT.one) (by simp;omega) (by omega) fun v' w' i hR g=>?_;have g:Inv w [] [ei j et ac,aB v' ac 4 i] S w':=g;obtain ⟨a,n,c,rfl⟩:=g.rowSlice 1 rfl;refine lc ⟨_,_,_,rfl⟩ ?_;refine aj g 0 rfl af rfl rfl (by simp [Value.oneCell']) fun w' g=>?_;refine be g 0 af rfl rfl ?_;exact ⟨_,_,_,rfl,g.sub (jd _ _),Ext.refl _ _ _,rfl,_,i,rfl,rfl,hR⟩
theorem eF (s:ByteArray) (l:s.size<=maxLen) {ks:List T} {u:Value} (h:RdSl S 4 (RdT S) u ks) (hk:ks.length<=1000000):nB xk [.string s,u] [] S (Yu (.mk 3 0 s ks)):=by
 intro w a;refine (pY s h hk w a).mono ?_;rintro e w' ⟨v,I',S',rfl,a,m,rfl,kv,css,rfl,rfl,hR⟩;obtain ⟨S1,g,i,a⟩:=Inv.lendExt (A:=[]) a;have j:=RowRd.rows (hR.monoR fun _ _ h=>RdT.mono g.1 h) i;exact ⟨_,[],S1,rfl,a,m.trans g,rfl,[ee 3,ee 0,.string s,kv],rfl,RdT.iff.2 ⟨kv,rfl,by simp [inI,T.kind],by simp [inI,T.n],l,j⟩⟩
theorem P4 {ts:List T} {j:Nat} (h:j<ts.length) (t:T):kM (ts.drop j) t=NU ts[j] (kM (ts.drop (j+1)) t):=by
 rw [ef h,kM]
theorem uP {ts:List T} {t:T} {u:Value} {cs:nA} (h:RdSl S 4 (RdT S) u ts) (ht:RdT S cs t) (hl:ts.length<=1000000):nB NB [u,.agg cs.toArray] [] S (Yu (kM ts t)):=by
 intro w g;obtain ⟨kv,rfl,g1,g2,g3,g4⟩:=RdT.iff.1 ht;obtain ⟨ka,kn,kc,a8⟩:∃ a n m,kv=.slice a n m:=by
  obtain ⟨a,m,e,_⟩:=g4;exact ⟨_,_,_,e⟩
 refine xB.2 ?_;dsimp only[xB,bv];refine bH g fun b3 w' g=>?_;refine aE g aQ fun b4 w' g=>?_;refine aq g 0 af rfl rfl ?_;refine aE g aQ fun b5 w' g=>?_;refine aj g 2 rfl af rfl rfl (by simp [Value.oneCell',Value.cells,a8]) fun w' g=>?_;refine aO h ao ?_;refine jl (by omega) ?_;obtain ⟨B3,a9⟩:∃ B3,B3=Item.blk b3 (.cells (ku t kv) ac):=⟨_,rfl⟩
 have g:Inv w [] [B3,ei b4 et ac,ei b5 (ku t kv) ac] S w':=by rw [a9];exact g
 refine ⟨fun i w'=>∃ (j:Nat) (S1:ai) (ds:nA),j<=ts.length/\i=ee ((j:Int) - 1)/\Ext w.heap.size [] S S1/\RdT S1 ds (kM (ts.drop j) t)/\Inv w [] [B3,ei b4 et ac,ei b5 ds.toArray ac] S1 w',
  fun i _=>(intOf i+1).toNat,⟨ts.length,S,_,aY _,rfl,Ext.refl _ _ _,by rw [eL];exact ht,g⟩,?_⟩
 intro t6 _ _ b7 b8 b9 c1 c2 c3 c4 _ _ w';rintro ⟨j,S1,ds,hj,rfl,hE,O,g⟩;by_cases b6:j=0
 ·subst b6;refine Ax (by omega) ?_;refine aL (fun hb=>by cases hb) (fun _=>?_);obtain ⟨c7,rfl,_,_,_,a,m,rfl,_⟩:=RdT.iff.1 O;refine aq g 2 af rfl rfl ?_;refine aj g 1 rfl af rfl rfl (by simp [Value.oneCell']) fun w' g=>?_;refine be g 1 af rfl rfl ?_;exact ⟨_,_,_,rfl,g.nil,hE,rfl,_,rfl,O⟩
 ·refine qK (by omega) ?_;refine aL (fun _=>?_) (fun hb=>by cases hb);obtain ⟨m,rfl⟩:∃ m,j=m+1:=⟨j - 1,by omega⟩
  have hm:m<ts.length:=by omega
  have ej:((m+1:Nat):Int) - 1=(m:Int):=by omega
  rw [ej];obtain ⟨b,o,cap,c,E,fz,rfl,hS,hR⟩:=(h.monoT hE.1).at_ hm;obtain ⟨c8,a0,_,_,_,aa,am,a3,_⟩:=RdT.iff.1 hR;subst a3;obtain ⟨kd,rfl,_,_,_,da,dm,rfl,_⟩:=RdT.iff.1 O;obtain ⟨p,a4⟩:∃ p,p=kM (ts.drop (m+1)) t:=⟨_,rfl⟩
  rw [<- a4] at O g;obtain ⟨q,a5⟩:∃ q,q=ts[m]:=⟨_,rfl⟩
  rw [<- a5] at hR a0
  skip
  refine ⟨fun D oM lT mY oX lS p8 DS Z=>Fx D 0 [DS=kt b o ts.length cap,p8=ee (m:Int),lS=kh b (o+m * 4),oX=.agg (ku q (.slice aa q.kids.length am)),mY=.agg (ku p (.slice da p.kids.length dm)),True,True,True]/\∃ S2 r,Ext w.heap.size [] S1 S2/\(D 5=true->RdSl S2 4 (RdT S2) lT [q,p])/\(D 6=true->oM=.agg r.toArray/\RdT S2 r (NU q p))/\(D 7=true->D 6=true)/\(D 6=true->D 5=true)/\(D 5=true->D 4=true)/\Inv w [] [B3,ei b4 et ac,ei b5 (match D 7 with|true=>r.toArray|false=>(ku p (.slice da p.kids.length dm))) ac] S2 Z,⟨Fx.nil _ _,⟨S1,[],Ext.refl _ _ _,aU,aU,aU,aU,aU,g.draw⟩⟩,⟨?_,?_,?_,?_,?_,?_,?_,?_,trivial⟩,?_⟩;all_goals (intro D Y;intros;rename_i oM lT mY oX lS p8 DS Z a2;have B:=a2.1;obtain ⟨⟨cF,ci,cG,cD,bU,cH,cj,cR,_⟩,⟨S2,r,l,J,M,G,N,U,g⟩⟩:=a2)
  ·exact ⟨B.set 0 rfl,⟨S2,r,l,J,M,G,N,U,g⟩⟩
  ·exact ⟨B.set 1 rfl,⟨S2,r,l,J,M,G,N,U,g⟩⟩
  ·obtain rfl:=cF ‹_›;obtain rfl:=ci ‹_›;refine aN ao hm ?_;exact ⟨B.set 2 rfl,⟨S2,r,l,J,M,G,N,U,g⟩⟩
  ·obtain rfl:=cG ‹_›;refine eE (cs:=(kB q (.slice aa q.kids.length am))) af rfl (fun j v hj=>by rw [g.cellS (l.1 _ _ hS)];exact bf a0 j v hj) ?_;exact ⟨B.set 3 rfl,⟨S2,r,l,J,M,G,N,U,g⟩⟩
  ·have f5:D 5=false:=bA.2 fun h=>by rw [U h] at Y;cases Y
   have f6:D 6=false:=bA.2 fun h=>by rw [N h] at f5;cases f5
   have f7:D 7=false:=bA.2 fun h=>by rw [G h] at f6;cases f6
   have b1:=g;rw [f7] at g;refine aq g 2 af rfl rfl ?_;have g:=b1;have U:=fun (_:aF D 4 5=true)=>(rfl:aF D 4 4=true)
   exact ⟨B.set 4 rfl,⟨S2,r,l,J,M,G,N,U,g⟩⟩
  ·obtain rfl:=cD ‹_›;obtain rfl:=bU ‹_›;have f6:D 6=false:=bA.2 fun h=>by rw [N h] at Y;cases Y
   have f7:D 7=false:=bA.2 fun h=>by rw [G h] at f6;cases f6
   rw [f7] at g;refine oK (v:=fun b=>.slice (some ⟨b,0,none⟩) 2 2) (o:=.cells #[ee q.kind,ee q.n,.string q.name,.slice aa q.kids.length am,ee p.kind,ee p.n,.string p.name,.slice da p.kids.length dm] ac) g (by kernel_rfl) fun c5 Z g=>?_;obtain ⟨S2,g,V,b0⟩:=Inv.pub1 (A:=[_,_,_]) g;have l:=l.trans V;have b2:RdT S2 (kB q (.slice aa q.kids.length am)) q:=by
    have:=RdT.mono l.1 hR
    rwa [a0] at this
   have J:=fun (_:aF D 5 5=true)=>EV b0 b2 (RdT.mono l.1 O);have M:=fun (h:D 6=true)=>(absurd h (by rw [f6];decide):oM=.agg r.toArray/\RdT S2 r (NU q p))
   have N:=fun (_:aF D 5 6=true)=>(rfl:aF D 5 5=true)
   have U:=fun (_:aF D 5 5=true)=>‹D 4=true›;have g:Inv w [] [B3,ei b4 et ac,ei b5 (match D 7 with|true=>r.toArray|false=>(ku p (.slice da p.kids.length dm))) ac] S2 Z:=by
    rw [f7];exact g
   exact ⟨B.set 5 (by first|assumption|trivial),⟨S2,r,l,J,M,G,N,U,g⟩⟩
  ·have zM:=cH ‹_›;have f7:D 7=false:=bA.2 fun h=>by rw [G h] at Y;cases Y
   rw [f7] at g;refine Run.call0E dl dr g (eF ⟨#[46]⟩ (by decide +kernel) (J ‹D 5=true›) (by simp)) fun v' I' S2 Z=>?_;rintro ⟨rfl,r,rfl,C⟩ V g;have l:=l.trans V;have J:=fun (h:D 5=true)=>(J h).monoT V.1;have M:aF D 6 6=true->Value.agg r.toArray=Value.agg r.toArray/\RdT S2 r (NU q p):=fun _=>⟨rfl,C⟩
   have G:=fun (_:aF D 6 7=true)=>(rfl:aF D 6 6=true)
   have N:=fun (_:aF D 6 6=true)=>‹D 5=true›;have g:Inv w [] [B3,ei b4 et ac,ei b5 (match D 7 with|true=>r.toArray|false=>(ku p (.slice da p.kids.length dm))) ac] S2 Z:=by
    rw [f7];exact g
   exact ⟨B.set 6 (by first|assumption|trivial),⟨S2,r,l,J,M,G,N,U,g⟩⟩
  ·have vV:=cj ‹_›;obtain ⟨q6,C⟩:=M ‹D 6=true›;subst q6;rw [Y] at g;have a6:=C.one;have a7:=C.length;refine aj g 2 rfl af (by simpa using a7) rfl (by simpa using a6) fun Z g=>?_;have G:=fun (_:aF D 7 7=true)=>‹D 6=true›;exact ⟨B.set 7 trivial,⟨S2,r,l,J,M,G,N,U,g⟩⟩
  obtain ⟨rfl,rfl,rfl,rfl,rfl,zM,vV,_,_⟩:=B.all;have F5:D 6=true:=by assumption
  have nI:D 7=true:=by assumption
  clear B cF ci cG cD bU cH cj cR;rw [nI] at g;obtain ⟨_,C⟩:=M F5;refine jl (by omega) ?_;refine ⟨⟨m,S2,r,by omega,rfl,hE.trans l,?_,g⟩,by simp [intOf]⟩;rw [P4 hm,<- a5,<- a4];exact C
end
def tn (f:Nat):Prop:=∀ (s:Bs) (i d l:Nat) (t:T) (n:Nat) (S:ai),lR f s i d l=some (t,n)->s.length<=100000->i<=s.length->d<=100->l<=3->
 Tri Tryz.prog Px [.string (st s),ee (i:Int),ee (d:Int),ee (l:Int)] [] S (TY t n)
def Jf (f:Nat):Prop:=∀ (s:Bs) (i d:Nat) (t:T) (n:Nat) (S:ai),v4 f s i d=some (t,n)->s.length<=100000->i<=s.length->d<=100->
 Tri Tryz.prog MS [.string (st s),ee (i:Int),ee (d:Int)] [] S (TY t n)
def yM (f:Nat):Prop:=∀ (s:Bs) (i d e o:Nat) (ts:List T) (n:Nat) (S:ai),j3 f s i d e o []=some (ts,n)->s.length<=100000->i<=s.length->d<=100->
 Tri Tryz.prog NX [.string (st s),ee (i:Int),ee (d:Int),.int .u8 (e:Int),.int .u8 (o:Int)] [] S (Xg ts n)
theorem HM:∀ (f:Nat) (s:Bs) (i d e o:Nat) (g ts:List T) (n:Nat),j3 f s i d e o g=some (ts,n)->ts.length+i<=g.length+n
 | 0,s,i,d,e,o,g,ts,n,h=>by simp [j3] at h
 | f+1,s,i,d,e,o,g,ts,n,h=>by
  rw [j3] at h;split at h
  ·cases h
  ·rename_i l m j
   have a:=(jo f).1 _ _ _ _ _ _ j;split at h
   ·simp only [bj,c9] at h;obtain ⟨rfl,rfl⟩:=h;rw [bt];simp only [aP,ce];omega
   ·split at h
    ·have b:=HM f _ _ _ _ _ _ _ _ h;rw [bt] at b;simp only [aP,ce] at b;omega
    ·cases h
section
theorem US {f:Nat} (ih:∀ g,g<f->tn g):yM f:=by
 intro s i d e o ts n S h hs hi hd w j;refine xJ.2 ?_;dsimp only[xJ,Xa];refine eZ j bi fun v0 w' j=>?_;refine ⟨fun a b w'=>∃ (N C:Nat) (p:List T) (S1:ai) (css:List (nA)),N<=f/\a=ee (C:Int)/\i<=C/\C<=s.length/\p.length+i<=C/\j3 N s C d e o p=some (ts,n)/\Ext w.heap.size [] S S1/\Rows 4 (RdT S1) css p/\Inv w [] [aB b ac 4 css] S1 w',
  fun a _ _=>s.length+1 - (intOf a).toNat,⟨f,i,[],S,[],aY _,rfl,aY _,hi,by simp,h,Ext.refl _ _ _,Rows.nil _ _,j⟩,?_⟩
 intro t1 _ _ _ _ _ _ _ _ _ _ _ _ _ _ _ _ _ _ _ _ a1 _ _ _ _ _ _ _ _ _ _ _ _ _ _ _ _ _ _ w';rintro ⟨N,C,p,S1,css,a2,rfl,a3,O,a0,q,hE,hR,j⟩;have a6:=hR.hc;cases N with
 | zero=>simp [j3] at q
 | succ g=>
 rw [j3] at q;split at q
 ·cases q
 rename_i t l hr
 have a7:=(jo g).1 _ _ _ _ _ _ hr;refine Run.call0E iN iB j (ih g (by omega) s C d 3 t l S1 hr hs O hd (by omega)) fun v I' S2 w'=>?_;rintro ⟨rfl,cs,rfl,r⟩ D j;have V:=hR.monoR fun _ _ h=>RdT.mono D.1 h;obtain ⟨kv,rfl,_,_,_,a,m,rfl,_⟩:=RdT.iff.1 r;refine aA (v:=.agg _) rfl ?_;refine aA (v:=ee (l:Int)) rfl ?_;refine aE j aQ fun a5 w' j=>?_;refine aj j 1 rfl af rfl rfl (by simp [Value.oneCell']) fun w' j=>?_;refine gu (by omega) ?_;refine aL (fun B=>by cases B) (fun _=>?_);refine aq j 1 af rfl rfl ?_;refine dB (css:=css) j 0 _ bi (by omega) (by omega) rfl r.length r.one (by omega) (by omega) fun v' w' j=>?_;have j:Inv w [] [aB v' ac 4 (css++[(kB t (.slice a t.kids.length m))])] S2 w':=j.pick [true,false];have M:=V.snoc r r.length;refine ⟨fun b w'=>b=.bool (sgn s l e || sgn s l o)/\Inv w [] [aB v' ac 4 (css++[(kB t (.slice a t.kids.length m))])] S2 w',?_,?_⟩
 ·refine Run.callPure ey ez j (dN s l e S2) fun w' j=>?_;cases he:sgn s l e
  ·refine rpG ?_;refine Run.callPure ey ez j (dN s l o S2) fun w' j=>?_;refine rpG ?_;exact ⟨by simp,j⟩
  ·refine rpG ?_;exact ⟨by simp,j⟩
 intro a4 _ _ _ _ _ _ _ _ _ w';rintro ⟨rfl,j⟩;refine aL (fun B=>?_) (fun B=>?_)
 ·rw [na] at B;rw [ag B] at q;simp only [bj,c9] at q;obtain ⟨rfl,rfl⟩:=q;obtain ⟨S3,J,U,j⟩:=Inv.lendExt (A:=[]) j;have Y:=RowRd.rows (M.monoR fun _ _ h=>RdT.mono J.1 h) U;exact ⟨_,[],S3,rfl,j,(hE.trans D).trans J,rfl,_,rfl,Y⟩
 ·have Z:¬ (sgn s l e=true ∨ sgn s l o=true):=fun h=>by rw [<- na,B] at h;cases h
  rw [ae Z] at q;split at q
  ·rename_i G
   refine Run.callPure ey ez j (dN s l 44 S2) fun w' j=>?_;refine c8 ?_;rw [G];refine aL (fun B=>by cases B) (fun _=>?_);have:=jZ G;refine gx (a:=l) (b:=1) rfl rfl (by omega) ?_;refine ⟨⟨g,l+1,p++[t],S2,css++[(kB t (.slice a t.kids.length m))],by omega,rfl,by omega,by omega,?_,q,hE.trans D,M,j⟩,?_⟩
   ·rw [bt];simp only [aP,ce];omega
   ·simp only [intOf,dH];omega
  ·cases q
theorem Mq {g:Nat} (U:yM g) (hR:tn g) {s:Bs} {i d:Nat} {ts:List T} {n:Nat} {t:T} {e:Nat} (B:j3 g s i d 93 124 []=some (ts,n))
  (V:(sgn s n 93=true/\t=kM ts XT/\e=n+1) ∨ (sgn s n 93=false/\∃ u m,lR g s (n+1) d 3=some (u,m)/\sgn s m 93=true/\t=kM ts u/\e=m+1))
  (G:s.length<=100000) (Y:i<=s.length) (J:d<=100) (S:ai):nB Mn [.string (st s),ee (i:Int),ee (d:Int)] [] S (TY t e):=by
 intro w h;have a1:=(jo g).2.2.2 _ _ _ _ _ _ _ _ B;have C:=HM _ _ _ _ _ _ _ _ _ B;simp only [ce] at C;refine zH.2 ?_;dsimp only[zH,eX];refine aE h aQ fun Z w' h=>?_;refine Run.call0E wv wF h (U s i d 93 124 ts n S B G Y J) fun v I' S1 w'=>?_;rintro ⟨rfl,u,rfl,M⟩ r h;have h:Inv w [] [ei Z et ac] S1 w':=h;refine aA (v:=u) rfl ?_;refine aA (v:=ee (n:Int)) rfl ?_;refine gu (by omega) ?_;refine aL (fun p=>by cases p) (fun _=>?_);refine Run.callPure ey ez h (dN s n 93 S1) fun w' h=>?_;rcases V with ⟨D,rfl,rfl⟩|⟨D,x,m,O,h5,rfl,rfl⟩
 ·rw [D];refine aL (fun _=>?_) (fun p=>by cases p);refine Run.call0E dl dr h (eF ⟨#[91,93]⟩ (by decide +kernel) (ll S1) (by simp)) fun v I' S2 w'=>?_;rintro ⟨rfl,cs,rfl,o⟩ j h;refine Run.call0E wW xw h (uP (M.monoT j.1) o (by omega)) fun v I' S3 w'=>?_;rintro ⟨rfl,ds,rfl,l⟩ q h;refine gx (a:=n) (b:=1) rfl rfl (by omega) ?_;obtain ⟨kv,rfl,_,_,_,a,k,rfl,_⟩:=RdT.iff.1 l;refine aj h 0 rfl af rfl rfl (by simp [Value.oneCell']) fun w' h=>?_;refine be h 0 af rfl rfl ?_;exact ⟨_,[],S3,rfl,h.nil,(r.trans j).trans q,rfl,_,rfl,l⟩
 ·rw [D];refine aL (fun p=>by cases p) (fun _=>?_);refine gx (a:=n) (b:=1) rfl rfl (by omega) ?_;have N:=(jo g).1 _ _ _ _ _ _ O;refine Run.call0E iN iB h (hR s (n+1) d 3 x m S1 O G (by omega) J (by omega)) fun v I' S2 w'=>?_;rintro ⟨rfl,cs,rfl,o⟩ j h;obtain ⟨kv,rfl,_,_,_,a,k,rfl,_⟩:=RdT.iff.1 o;refine aA (v:=.agg _) rfl ?_;refine aA (v:=ee (m:Int)) rfl ?_;refine aE h aQ fun a0 w' h=>?_;refine aj h 1 rfl af rfl rfl (by simp [Value.oneCell']) fun w' h=>?_;refine gu (by omega) ?_;refine aL (fun p=>by cases p) (fun _=>?_);refine Run.callPure ey ez h (dN s m 93 S2) fun w' h=>?_;refine c8 ?_;rw [h5];refine aL (fun p=>by cases p) (fun _=>?_);refine aq h 1 af rfl rfl ?_;refine Run.call0E wW xw h (uP (M.monoT j.1) o (by omega)) fun v I' S3 w'=>?_;rintro ⟨rfl,ds,rfl,l⟩ q h;refine gx (a:=m) (b:=1) rfl rfl (by omega) ?_;obtain ⟨kv,rfl,_,_,_,a,k,rfl,_⟩:=RdT.iff.1 l;refine aj h 0 rfl af rfl rfl (by simp [Value.oneCell']) fun w' h=>?_;refine be h 0 af rfl rfl ?_;exact ⟨_,[],S3,rfl,h.nil,(r.trans j).trans q,rfl,_,rfl,l⟩
theorem Kq {n:Bs} (h:n.length<=6):(st n).size<=maxLen:=by rw [lj]; simp only [maxLen]; omega
theorem T4 {f:Nat} (a2:∀ g,g<f->tn g) (a3:∀ g,g<f->yM g):Jf f:=by
 intro s i d t n S h hs hi hd w j;cases f with
 | zero=>simp [v4] at h
 | succ g=>
 have hR:=a2 g (by omega);have hT:=a3 g (by omega);have b1:=(jo (g+1)).2.2.1 _ _ _ _ _ h;rw [v4] at h;split at h
 ·cases h
 rename_i h0
 have V:1<=d:=by omega
 have l:i<s.length:=by omega
 refine xd.2 ?_;dsimp only[xd,eX];refine aE j aQ fun O w' j=>?_;have j:Inv w [] [ei O et ac] S w':=j;refine ⟨fun b w'=>b=.bool false/\Inv w [] [ei O et ac] S w',?_,?_⟩
 ·refine gu (by omega) ?_;refine rpG ?_;refine g6 bm ?_;refine Ax (by omega) ?_;refine rpG ?_;exact ⟨rfl,j⟩
 intro a7 _ _ _ _ _ _ _ w';rintro ⟨rfl,j⟩;refine aL (fun o=>by cases o) (fun _=>?_);refine fZ bm l ?_;split at h
 ·rename_i J
  rw [mH l,bK] at J;refine ik (by omega) ?_;refine aL (fun _=>?_) (fun o=>by cases o);split at h
  ·cases h
  rename_i u m hr
  split at h
  ·rename_i a4
   simp only [bj,c9] at h;obtain ⟨rfl,rfl⟩:=h;have Y:=(jo g).1 _ _ _ _ _ _ hr;refine gx (a:=i) (b:=1) rfl rfl (by omega) ?_;refine Run.call0E iN iB j (hR s (i+1) d 3 u m S hr hs (by omega) hd (by omega)) fun v I' S2 w'=>?_;rintro ⟨rfl,cs,rfl,p⟩ B j;obtain ⟨kv,rfl,_,_,_,a,k,rfl,_⟩:=RdT.iff.1 p;refine aA (v:=.agg _) rfl ?_;refine aA (v:=ee (m:Int)) rfl ?_;refine aE j aQ fun b8 w' j=>?_;refine aj j 1 rfl af rfl rfl (by simp [Value.oneCell']) fun w' j=>?_;refine gu (by omega) ?_;refine aL (fun o=>by cases o) (fun _=>?_);refine Run.callPure ey ez j (dN s m 41 S2) fun w' j=>?_;refine c8 ?_;rw [a4];refine aL (fun o=>by cases o) (fun _=>?_);refine aq j 1 af rfl rfl ?_;refine gx (a:=m) (b:=1) rfl rfl (by omega) ?_;refine aj j 0 rfl af rfl rfl (by simp [Value.oneCell']) fun w' j=>?_;refine be j 0 af rfl rfl ?_;exact ⟨_,[],S2,rfl,j.nil,B,rfl,_,rfl,p⟩
  ·cases h
 rename_i J
 rw [mH l,bK] at J;refine gk (by omega) ?_;refine aL (fun o=>by cases o) (fun _=>?_);refine ⟨fun b w'=>b=.bool (sgn s i 91 && !sgn s (i+1) 93)/\Inv w [] [ei O et ac] S w',?_,?_⟩
 ·refine fZ bm l ?_;by_cases C:s[i].toNat=91
  ·refine ik (by omega) ?_;refine rpG ?_;refine gx (a:=i) (b:=1) rfl rfl (by omega) ?_;refine Run.callPure ey ez j (dN s (i+1) 93 S) fun w' j=>?_;refine c8 ?_;refine rpG ?_;exact ⟨by rw [mH l,aD C,fk],j⟩
  ·refine gk (by omega) ?_;refine rpG ?_;exact ⟨by rw [mH l,aM C,jm],j⟩
 intro a8 _ _ _ _ _ _ _ _ _ _ w';rintro ⟨rfl,j⟩;split at h
 ·rename_i C
  rw [C.1,C.2];refine aL (fun _=>?_) (fun o=>by cases o);split at h
  ·cases h
  rename_i ts m D
  have h2:(sgn s m 93=true/\t=kM ts XT/\n=m+1) ∨ (sgn s m 93=false/\∃ u k,lR g s (m+1) (d - 1) 3=some (u,k)/\sgn s k 93=true/\t=kM ts u/\n=k+1):=by
   split at h
   ·rename_i h3
    simp only [bj,c9] at h;exact .inl ⟨h3,h.1.symm,h.2.symm⟩
   ·rename_i h3
    split at h
    ·cases h
    rename_i u k hr
    split at h
    ·rename_i h4
     simp only [bj,c9] at h;exact .inr ⟨bA.2 h3,u,k,hr,h4,h.1.symm,h.2.symm⟩
    ·cases h
  refine gx (a:=i) (b:=1) rfl rfl (by omega) ?_;refine F7 (a:=d) (b:=1) rfl rfl V (by omega) ?_;refine Run.call0E KH JC j (Mq hT hR D h2 hs (by omega) (by omega) S) fun v I' S2 w'=>?_;rintro ⟨rfl,cs,rfl,p⟩ B j;obtain ⟨kv,rfl,_,_,_,a,k,rfl,_⟩:=RdT.iff.1 p;refine aA (v:=.agg _) rfl ?_;refine aA (v:=ee (n:Int)) rfl ?_;refine aj j 0 rfl af rfl rfl (by simp [Value.oneCell']) fun w' j=>?_;refine be j 0 af rfl rfl ?_;exact ⟨_,[],S2,rfl,j.nil,B,rfl,_,rfl,p⟩
 rename_i C
 have a5:(sgn s i 91 && !sgn s (i+1) 93)=false:=by
  cases h5:sgn s i 91
  ·rfl
  ·cases h6:sgn s (i+1) 93
   ·exact absurd ⟨h5,h6⟩ C
   ·rfl
 rw [a5];refine aL (fun o=>by cases o) (fun _=>?_);refine ⟨fun b w'=>b=.bool (upp s i)/\Inv w [] [ei O et ac] S w',?_,?_⟩
 ·refine fZ bm l ?_;by_cases a0:65<=s[i].toNat
  ·refine qK (by omega) ?_;refine rpG ?_;refine fZ bm l ?_;refine jK ?_;refine rpG ?_;refine ⟨?_,j⟩;rw [upp,p9 l,aD a0,fk]
   congr 1
   rw [cW];omega
  ·refine Ax (by omega) ?_;refine rpG ?_;exact ⟨by rw [upp,p9 l,aM a0,jm],j⟩
 intro a9 _ _ _ _ _ _ _ _ _ w';rintro ⟨rfl,j⟩;split at h
 ·rename_i G
  simp only [bj,c9] at h;obtain ⟨rfl,rfl⟩:=h;rw [G];rw [upp,p9 l,bQ,bK,bK] at G;refine aL (fun _=>?_) (fun o=>by cases o);refine fZ bm l ?_;refine Ud (c:=(s[i].toNat:Int) - 65) (IntWalk.u8_in _ (by omega)) ?_;refine sg iJ dS (IntWalk.i64_in _ (by omega)) ?_;refine Run.callPure qM qh j (lo _ S) fun w' j=>?_;refine gx (a:=i) (b:=1) rfl rfl (by omega) ?_;refine aj j 0 rfl af rfl rfl (by simp [Value.oneCell']) fun w' j=>?_;refine be j 0 af rfl rfl ?_;have eg:((s.getD i 0).toNat:Int) - 65=(s[i].toNat:Int) - 65:=by rw [List.getD_eq_getElem?_getD,me l];rfl
  rw [eg];exact ⟨_,[],S,rfl,j.nil,Ext.refl _ _ _,rfl,_,rfl,RdT.nil (by simp [inI]) (by unfold inI;omega) (by decide +kernel) (aT _)⟩
 rename_i G
 rw [bA.2 G];refine aL (fun o=>by cases o) (fun _=>?_);refine ⟨fun b w'=>b=.bool (dig s i || (sgn s i 45 && dig s (i+1)))/\Inv w [] [ei O et ac] S w',?_,?_⟩
 ·refine Run.callPure mw mv j (jt s i S) fun w' j=>?_;cases b2:dig s i
  ·refine rpG ?_;refine fZ bm l ?_;by_cases a1:s[i].toNat=45
   ·refine ik (by omega) ?_;refine rpG ?_;refine gx (a:=i) (b:=1) rfl rfl (by omega) ?_;refine Run.callPure mw mv j (jt s (i+1) S) fun w' j=>?_;refine rpG ?_;exact ⟨by rw [mH l,aD a1,fk,jb],j⟩
   ·refine gk (by omega) ?_;refine rpG ?_;exact ⟨by rw [mH l,aM a1,jm,jb],j⟩
  ·refine rpG ?_;exact ⟨by rw [za],j⟩
 intro a6 _ _ _ _ _ _ _ _ _ _ _ _ _ _ w';rintro ⟨rfl,j⟩;split at h
 ·rename_i M
  have:(dig s i || (sgn s i 45 && dig s (i+1)))=true:=by rw [na,bQ];exact M
  rw [this];refine aL (fun _=>?_) (fun o=>by cases o);obtain ⟨k,hk,rfl,_,_,U⟩:=F3 h (by omega) S;refine Run.callPure Hy Hh j U fun w' j=>?_;refine aA (v:=HK 2 k) rfl ?_;refine aA (v:=ee (n:Int)) rfl ?_;refine aE j aQ fun b0 w' j=>?_;refine aj j 1 rfl af rfl rfl (by simp [Value.oneCell']) fun w' j=>?_;refine gu (by omega) ?_;refine aL (fun o=>by cases o) (fun _=>?_);refine aq j 1 af rfl rfl ?_;refine aj j 0 rfl af rfl rfl (by simp [Value.oneCell']) fun w' j=>?_;refine be j 0 af rfl rfl ?_;exact ⟨_,[],S,rfl,j.nil,Ext.refl _ _ _,rfl,_,rfl,RdT.nil (by simp [inI]) hk (by decide +kernel) (aT _)⟩
 rename_i M
 have:(dig s i || (sgn s i 45 && dig s (i+1)))=false:=by
  rw [bA,ne_eq,na,bQ];exact M
 rw [this];refine aL (fun o=>by cases o) (fun _=>?_);refine Run.callPure CR Cw j (zi l hs S) fun w' j=>?_;cases N:xO s i with
 | none=>rw [N] at h;cases h
 | some q=>
 obtain ⟨name,m⟩:=q;rw [N] at h;simp only [] at h;simp only [Rl];have Z:=wZ l N;refine aA (v:=.string (st name)) rfl ?_;refine aA (v:=ee (m:Int)) rfl ?_;refine gu (by omega) ?_;refine aL (fun o=>by cases o) (fun _=>?_);refine Run.callPure ey ez j (dN s m 40 S) fun w' j=>?_;refine c8 ?_;split at h
 ·rename_i r
  simp only [bj,c9] at h;obtain ⟨rfl,rfl⟩:=h;rw [r];refine aL (fun _=>?_) (fun o=>by cases o);refine Run.call0E dl dr j (eF (st name) (Kq Z.2.2.1) (ll S) (by simp)) fun v I' S2 w'=>?_;rintro ⟨rfl,cs,rfl,p⟩ B j;obtain ⟨kv,rfl,_,_,_,a,k,rfl,_⟩:=RdT.iff.1 p;refine aj j 0 rfl af rfl rfl (by simp [Value.oneCell']) fun w' j=>?_;refine be j 0 af rfl rfl ?_;exact ⟨_,[],S2,rfl,j.nil,B,rfl,_,rfl,p⟩
 ·rename_i r
  rw [Bool.not_eq_false] at r;rw [r];refine aL (fun o=>by cases o) (fun _=>?_);split at h
  ·cases h
  rename_i ts k D
  simp only [bj,c9] at h;obtain ⟨rfl,rfl⟩:=h;have hm:=jZ r;have Y:=(jo g).2.2.2 _ _ _ _ _ _ _ _ D;refine gx (a:=m) (b:=1) rfl rfl (by omega) ?_;refine F7 (a:=d) (b:=1) rfl rfl V (by omega) ?_;refine Run.call0E wv wF j (hT s (m+1) (d - 1) 41 41 ts k S D hs (by omega) (by omega)) fun v I' S2 w'=>?_;rintro ⟨rfl,u,rfl,hu⟩ B j;refine aA (v:=u) rfl ?_;refine aA (v:=ee (k:Int)) rfl ?_;refine gu (by omega) ?_;refine aL (fun o=>by cases o) (fun _=>?_);obtain ⟨a,c,rfl,_⟩:=id hu;refine lc ⟨_,_,_,rfl⟩ ?_;refine gx (a:=k) (b:=1) rfl rfl (by omega) ?_;refine aj j 0 rfl af rfl rfl (by simp [Value.oneCell']) fun w' j=>?_;refine be j 0 af rfl rfl ?_;exact ⟨_,[],S2,rfl,j.nil,B,rfl,_,rfl,RdT.iff.2 ⟨_,rfl,by simp [inI,T.kind,M5],by simp [inI,T.n,M5],Kq Z.2.2.1,hu⟩⟩
theorem WI {f:Nat} (a0:∀ g,g<f->tn g) (a5:∀ g,g<f->Jf g):tn f:=by
 intro s i d l t n S h hs hi hd hl w j;cases f with
 | zero=>simp [lR] at h
 | succ f=>
 refine C0.2 ?_;dsimp only[C0,vg];refine aE j aQ fun b8 w' j=>?_;have j:Inv w [] [ei b8 et ac] S w':=j;cases l with
 | zero=>
  rw [lR] at h;refine ik rfl ?_;refine aL (fun _=>?_) (fun m=>by cases m);refine Run.call0E Kb J0 j (a5 f (by omega) s i d t n S h hs hi hd) fun v I' S2 w'=>?_;rintro ⟨rfl,cs,rfl,C⟩ G j;obtain ⟨kv,rfl,_,_,_,a,k,rfl,_⟩:=RdT.iff.1 C;refine aA (v:=.agg _) rfl ?_;refine aA (v:=ee (n:Int)) rfl ?_;refine aj j 0 rfl af rfl rfl (by simp [Value.oneCell']) fun w' j=>?_;refine be j 0 af rfl rfl ?_;exact ⟨_,[],S2,rfl,j.nil,G,rfl,_,rfl,C⟩
 | succ l=>
  rw [lR] at h;split at h
  ·cases h
  rename_i t0 n0 hr
  have M:=(jo f).1 _ _ _ _ _ _ hr;refine gk (by omega) ?_;refine aL (fun m=>by cases m) (fun _=>?_);refine F7 (a:=l+1) (b:=1) rfl rfl (by omega) (by omega) ?_;rw [Nat.add_sub_cancel];refine Run.call0E iN iB j (a0 f (by omega) s i d l t0 n0 S hr hs hi hd (by omega)) fun v I' S1 w'=>?_;rintro ⟨rfl,cs,rfl,C⟩ a1 j;obtain ⟨kv,rfl,_,_,_,a,k,rfl,_⟩:=RdT.iff.1 C;refine aA (v:=.agg _) rfl ?_;refine aA (v:=ee (n0:Int)) rfl ?_;refine aE j aQ fun U w' j=>?_;refine aj j 1 rfl af rfl rfl (by simp [Value.oneCell']) fun w' j=>?_;refine ⟨fun a w'=>∃ (f' Z:Nat) (B:T) (ds:nA) (S1:ai),f'<=f/\a=ee (Z:Int)/\Z<=s.length/\LM f' s Z d l B=some (t,n)/\Ext w.heap.size [] S S1/\RdT S1 ds B/\Inv w [] [ei b8 et ac,ei U ds.toArray ac] S1 w',
   fun a _=>s.length+1 - (intOf a).toNat,⟨f,n0,t0,_,S1,aY _,rfl,M.2,h,a1,C,j⟩,?_⟩
  clear h a1 C j hr M;intro _ _ _ _ b3 _ _ _ _ _ _ _ _ _ _ _ _ _ _ _ _ _ _ _ _ _ _ _ _ _ _ _ _ _ _ _ _ _ _ _ _ _ _ _ _ _ _ w';rintro ⟨f',Z,B,ds,S1,b4,rfl,a6,p,hE,J,j⟩;obtain ⟨kd,rfl,_,_,b2,da,dm,rfl,_⟩:=RdT.iff.1 J;cases f' with
  | zero=>simp [LM] at p
  | succ g=>
  rw [LM] at p;refine qK (by omega) ?_;refine aL (fun _=>?_) (fun m=>by cases m);refine Run.callPure R9 Sg j (PY hs a6 S1) fun w' j=>?_;cases Y:opF s Z with
  | none=>
   rw [Y] at p;simp only [bj,c9] at p;obtain ⟨rfl,rfl⟩:=p;simp only [opV];refine aA (v:=.string ⟨#[]⟩) rfl ?_;refine aA (v:=ee (Z:Int)) rfl ?_;refine ⟨fun b w'=>b=.bool true/\Inv w [] [ei b8 et ac,ei U (ku B (.slice da B.kids.length dm)) ac] S1 w',?_,?_⟩
   ·refine bT ?_;rw [aD rfl];refine rpG ?_;exact ⟨rfl,j⟩
   intro a7 _ _ _ _ _ _ _ w';rintro ⟨rfl,j⟩;refine aL (fun _=>?_) (fun m=>by cases m);refine aq j 1 af rfl rfl ?_;refine aj j 0 rfl af rfl rfl (by simp [Value.oneCell']) fun w' j=>?_;refine be j 0 af rfl rfl ?_;exact ⟨_,[],S1,rfl,j.nil,hE,rfl,_,rfl,J⟩
  | some q=>
   obtain ⟨name,D⟩:=q;rw [Y] at p;simp only [] at p;simp only [opV];have a3:=UM Y;refine aA (v:=.string (st name)) rfl ?_;refine aA (v:=ee (D:Int)) rfl ?_;refine ⟨fun b w'=>b=.bool (!decide (dA (st name)=((l+1:Nat):Int)))/\Inv w [] [ei b8 et ac,ei U (ku B (.slice da B.kids.length dm)) ac] S1 w',?_,?_⟩
   ·refine F0 (b:=[]) ?_;rw [aM a3.2.2.2];refine rpG ?_;refine Run.callPure ia hZ j (fQ _ S1) fun w' j=>?_;refine jN ?_;refine rpG ?_;exact ⟨rfl,j⟩
   intro a7 _ _ _ _ _ _ _ w';rintro ⟨rfl,j⟩;split at p
   ·rename_i N
    rw [aD N];refine aL (fun m=>by cases m) (fun _=>?_);split at p
    ·cases p
    rename_i r e hr
    have M:=(jo g).1 _ _ _ _ _ _ hr;refine F7 (a:=l+1) (b:=1) rfl rfl (by omega) (by omega) ?_;rw [Nat.add_sub_cancel];refine Run.call0E iN iB j (a0 g (by omega) s D d l r e S1 hr hs (by omega) hd (by omega)) fun v I' S2 w'=>?_;rintro ⟨rfl,es,rfl,a2⟩ G j;obtain ⟨ke,rfl,_,_,_,ea,em,rfl,_⟩:=RdT.iff.1 a2;refine aA (v:=.agg _) rfl ?_;refine aA (v:=ee (e:Int)) rfl ?_;refine aE j aQ fun b5 w' j=>?_;refine aj j 2 rfl af rfl rfl (by simp [Value.oneCell']) fun w' j=>?_;refine gu (by omega) ?_;refine aL (fun m=>by cases m) (fun _=>?_);refine aq j 1 af rfl rfl ?_;refine aq j 2 af rfl rfl ?_;refine oK (v:=fun b=>.slice (some ⟨b,0,none⟩) 2 2) (o:=.cells #[ee B.kind,ee B.n,.string B.name,.slice da B.kids.length dm,ee r.kind,ee r.n,.string r.name,.slice ea r.kids.length em] ac) j (by kernel_rfl) fun b6 w' j=>?_;obtain ⟨S3,j,V,b0⟩:=Inv.pub1 (A:=[_,_,_]) j;have b1:=EV b0 (RdT.mono (G.1.trans V.1) J) (RdT.mono V.1 a2);refine Run.call0E dl dr j (eF (st name) (Kq a3.2.2.1) b1 (by simp)) fun v I' S4 w'=>?_;rintro ⟨rfl,gs,rfl,O⟩ a8 j;obtain ⟨kg,rfl,_,_,_,ga,gm,rfl,_⟩:=RdT.iff.1 O;have a4:=((hE.trans G).trans V).trans a8;refine aj j 1 rfl af rfl rfl (by simp [Value.oneCell']) fun w' j=>?_;split at p
    ·rename_i a9
     subst a9;simp only [bj,c9] at p;obtain ⟨rfl,rfl⟩:=p;refine ik rfl ?_;refine aL (fun _=>?_) (fun m=>by cases m);refine aq j 1 af rfl rfl ?_;refine aj j 0 rfl af rfl rfl (by simp [Value.oneCell']) fun w' j=>?_;refine be j 0 af rfl rfl ?_;exact ⟨_,[],S4,rfl,j.nil,a4,rfl,_,rfl,O⟩
    ·refine gk (by omega) ?_;refine aL (fun m=>by cases m) (fun _=>?_);refine ⟨⟨g,e,_,_,S4,by omega,rfl,M.2,p,a4,O,j.pick [true,true,false]⟩,?_⟩;simp only [intOf,dH];omega
   ·rename_i N
    rw [aM N];simp only [bj,c9] at p;obtain ⟨rfl,rfl⟩:=p;refine aL (fun _=>?_) (fun m=>by cases m);refine aq j 1 af rfl rfl ?_;refine aj j 0 rfl af rfl rfl (by simp [Value.oneCell']) fun w' j=>?_;refine be j 0 af rfl rfl ?_;exact ⟨_,[],S1,rfl,j.nil,hE,rfl,_,rfl,J⟩
theorem T0:∀ F f,f<F->tn f/\Jf f/\yM f
 | 0,f,h=>by omega
 | F+1,f,h=>by
  have a:=T0 F;have hR:tn f:=WI (fun g i=>(a g (by omega)).1) (fun g i=>(a g (by omega)).2.1);have j:yM f:=US fun g i=>(a g (by omega)).1;exact ⟨hR,T4 (fun g i=>(a g (by omega)).1) (fun g i=>(a g (by omega)).2.2),j⟩
theorem IK (f:Nat):tn f:=(T0 (f+1) f (by omega)).1
end
end
section
open Go Go.RowKit

def lY (cs:List Value) (n:Nat):Prop:=cs=[.int .u8 (n:Int)]/\n<256
abbrev rdI (br:Nat) (sl:Value) (p:Nat):Item:=ei br #[sl,ee (p:Int)] MU
abbrev rdP (br:Nat):Value:=hV br
section
variable {P:Program} {w:World} {K:Value->World->Prop}
theorem O4 {T:TypeId} {g h:Bool} {x y:Int} {a b:Nat} (i:x=a) (j:y=b) (l:0<b) (hk:K (ee ((a % b:Nat):Int)) w):Run P (el .rem T g h (ee x) (ee y)) w K:=by
 subst i j;exact OW l hk
theorem O7 {T:TypeId} {g h:Bool} {x y:Int} {a b:Nat} (i:x=a) (j:y=b) (l:0<b) (m:a<=9223372036854775807) (hk:K (ee ((a / b:Nat):Int)) w):Run P (el .quo T g h (ee x) (ee y)) w K:=by
 subst i j;exact XF l m hk
theorem XC {T:TypeId} {g h:Bool} {x y:Int} {a b:Nat} (i:x=a) (j:y=b) (l:a<4611686018427387904) (m:b<4611686018427387904) (hk:K (ee ((a ^^^ b:Nat):Int)) w):Run P (el .xor T g h (ee x) (ee y)) w K:=by
 subst i j;exact XS l m hk
end
theorem RdSl.u8 {S:ai} {sl:Value} {ys:List Nat} (h:RdSl S 1 lY sl ys) (j:0<ys.length):∃ b o cap c E g,sl=kt b o ys.length cap/\S b=some (.cells c E g)/\
  ∀ i,i<ys.length->∃ y:Nat,c[o+i * 1]?=some (.int .u8 (y:Int))/\y<256:=by
 obtain ⟨a,cap,rfl,r,hc,h⟩:=h;rcases h with rfl|⟨b,o,c,E,g,rfl,q,hR⟩
 ·simp at j
 ·refine ⟨b,o,cap,c,E,g,rfl,q,fun i l=>?_⟩;obtain ⟨m,p⟩:=hR i l;exact ⟨ys[i],bf m 0 _ rfl,p⟩
section
abbrev Ze (S:ai) (br:Nat) (sl:Value) (p n:Nat):Value->List Item->ai->Prop:=fun v I' S'=>S'=S/\I'=[rdI br sl (p+1)]/\∃ k:Nat,k<n/\v=ee (k:Int)
theorem dD {ys:List Nat} {S:ai} {sl:Value} {br p n:Nat} (h:RdSl S 1 lY sl ys) (hp:p<=1000000000000) (hn:0<n):nB F6 [rdP br,ee (n:Int)] [rdI br sl p] S (Ze S br sl p n):=by
 intro w i;refine rx.2 ?_;dsimp only[rx,bv];obtain ⟨X,hX⟩:∃ X,X=cg [rdI br sl p]:=⟨_,rfl⟩
 rw [<- hX] at i ⊢;have a6:∃ a m cap,sl=.slice a m cap/\m=ys.length:=by
  obtain ⟨a,cap,e,_⟩:=h;exact ⟨a,_,cap,e,rfl⟩
 refine bh ?_;refine ax sF ?_;refine aG i 0 au rfl rfl ?_;refine bL (by omega) ?_;refine bh ?_;refine ax sF ?_;refine eV i 0 (n:=1) rfl (by decide +kernel) rfl (by simp) (by simp [Value.cells,Value.oneCell']) fun w' i=>?_;have i:Inv w X [rdI br sl (p+1)] S w':=i;have hN:∃ N:Nat,N=ys.length:=⟨_,rfl⟩
 refine ⟨fun t w'=>t=.bool (decide (ys.length=0))/\Inv w X [rdI br sl (p+1)] S w',?_,?_⟩
 ·refine gu (by omega) ?_;refine Qo (fun _=>?_) (fun hb=>by simp at hb);refine bh ?_;refine ax gM ?_;refine aG i 0 jQ rfl rfl ?_;refine aO h fD ?_;refine a9 ?_;refine wa ?_;refine ⟨?_,i⟩;simp
 intro a3 _ _ _ _ _ _ _ _ _ w';rintro ⟨rfl,i⟩;refine aJ (fun _=>⟨_,_,_,rfl,i,Ext.refl _ _ _,rfl,rfl,0,hn,rfl⟩) (fun B=>?_);have B:0<ys.length:=by omega
 obtain ⟨b,o,cap,c,E,fz,rfl,Z,hc⟩:=h.u8 B;refine bh ?_;refine ax sF ?_;refine aG i 0 au rfl rfl ?_;refine jl (by omega) ?_;have ep:((p+1:Nat):Int) - 1=(p:Int):=by omega
 rw [ep];refine bh ?_;refine ax gM ?_;refine aG i 0 jQ rfl rfl ?_;refine iP fD ?_;refine cd ?_;refine aJ (fun a4=>?_) (fun _=>?_)
 ·have r:p<ys.length:=by omega
  obtain ⟨y,hy,a0⟩:=hc p r;refine bh ?_;refine ax gM ?_;refine aG i 0 jQ rfl rfl ?_;refine aN fD r ?_;refine eD F1 ((i.cellS Z).trans hy) ?_;refine sg iJ dS (IntWalk.i64_in _ (by omega)) ?_;refine OW hn ?_;exact ⟨_,_,_,rfl,i,Ext.refl _ _ _,rfl,rfl,y % n,AU _ hn,rfl⟩
 ·obtain ⟨C,M⟩:∃ C,C=p % ys.length:=⟨_,rfl⟩
  obtain ⟨G,O⟩:∃ G,G=(p * 7+3) % ys.length:=⟨_,rfl⟩
  obtain ⟨q,U⟩:∃ q,q=p / ys.length:=⟨_,rfl⟩
  have V:C<ys.length:=by rw [M];exact AU _ B
  have Y:G<ys.length:=by rw [O];exact AU _ B
  have hq:q<=p:=by rw [U];exact Nat.div_le_self ..
  obtain ⟨j,a1,a5⟩:=hc C V;obtain ⟨l,a2,a0⟩:=hc G Y
  skip
  refine ⟨fun D x6 Ir Ij Fo DH DK Eh GH DL G1 NY Ly RQ Rv Rd OD L4 WO Vl Uy To SE TQ TM Tq OB NO CW Cf zh yD uL tq sT qU tw pW qN wt rp lM rB pN pq oV nL w_=>Fx D 0 [nL=hV br,oV=hV br,pq=hV br,pN=kt b o ys.length cap,rB=ee (p:Int),lM=hV br,rp=hV br,wt=hV br,qN=kt b o ys.length cap,pW=ee (ys.length:Int),tw=ee (((C:Nat):Int)),qU=kh b (o+C * 1),sT=.int .u8 ((j:Nat):Int),tq=ee (((j:Nat):Int)),uL=ee ((((j:Nat):Int) * 131)),yD=hV br,zh=hV br,Cf=hV br,CW=kt b o ys.length cap,NO=ee (p:Int),OB=ee (((p:Int) * 7)),Tq=ee ((((p:Int) * 7)+3)),TM=hV br,TQ=hV br,SE=hV br,To=kt b o ys.length cap,Uy=ee (ys.length:Int),Vl=ee (((G:Nat):Int)),WO=kh b (o+G * 1),L4=.int .u8 ((l:Nat):Int),OD=ee (((l:Nat):Int)),Rd=ee ((((l:Nat):Int) * 1117)),Rv=ee (((((j:Nat):Int) * 131)+(((l:Nat):Int) * 1117))),RQ=ee (p:Int),Ly=ee (((p:Int) * 29)),NY=ee ((((((j:Nat):Int) * 131)+(((l:Nat):Int) * 1117))+((p:Int) * 29))),G1=ee (p:Int),DL=hV br,GH=hV br,Eh=hV br,DK=kt b o ys.length cap,DH=ee (ys.length:Int),Fo=ee (((q:Nat):Int)),Ij=ee ((((q:Nat):Int) * 53)),Ir=ee (((((((j:Nat):Int) * 131)+(((l:Nat):Int) * 1117))+((p:Int) * 29))+(((q:Nat):Int) * 53))),x6=ee (((((((j:Nat):Int) * 131)+(((l:Nat):Int) * 1117))+((p:Int) * 29))+(((q:Nat):Int) * 53)))]/\Inv w X [rdI br (kt b o ys.length cap) (p+1)] S w_,⟨Fx.nil _ _,i.draw⟩,⟨?_,?_,?_,?_,?_,?_,?_,?_,?_,?_,?_,?_,?_,?_,?_,?_,?_,?_,?_,?_,?_,?_,?_,?_,?_,?_,?_,?_,?_,?_,?_,?_,?_,?_,?_,?_,?_,?_,?_,?_,?_,?_,?_,?_,?_,?_,trivial⟩,?_⟩;all_goals (intro D bp;intros;rename_i x6 Ir Ij Fo DH DK Eh GH DL G1 NY Ly RQ Rv Rd OD L4 WO Vl Uy To SE TQ TM Tq OB NO CW Cf zh yD uL tq sT qU tw pW qN wt rp lM rB pN pq oV nL w_ J;have g:=J.1;obtain ⟨⟨cF,ci,cG,cD,bU,cH,cj,cR,dJ,dQ,cJ,dv,eG,gL,kz,kX,lU,qe,rL,ky,uf,uy,wk,Fl,Mc,Yo,Ye,YJ,Zs,YU,YC,Y1,Zq,Zl,Zn,ZA,YY,YT,Zm,Y4,Zj,Zw,Yi,Zr,YX,ZK,_⟩,i⟩:=J)
  ·exact ⟨g.set 0 rfl,i⟩
  ·obtain rfl:=cF ‹_›;refine bh ?_;exact ⟨g.set 1 rfl,i⟩
  ·obtain rfl:=ci ‹_›;refine ax gM ?_;exact ⟨g.set 2 rfl,i⟩
  ·obtain rfl:=cG ‹_›;refine aG i 0 jQ rfl rfl ?_;exact ⟨g.set 3 rfl,i⟩
  ·exact ⟨g.set 4 rfl,i⟩
  ·exact ⟨g.set 5 rfl,i⟩
  ·obtain rfl:=cH ‹_›;refine bh ?_;exact ⟨g.set 6 rfl,i⟩
  ·obtain rfl:=cj ‹_›;refine ax gM ?_;exact ⟨g.set 7 rfl,i⟩
  ·obtain rfl:=cR ‹_›;refine aG i 0 jQ rfl rfl ?_;exact ⟨g.set 8 rfl,i⟩
  ·obtain rfl:=dJ ‹_›;refine iP fD ?_;exact ⟨g.set 9 rfl,i⟩
  ·obtain rfl:=bU ‹_›;obtain rfl:=dQ ‹_›;refine O4 (a:=p) (b:=ys.length) (by omega) rfl B ?_;rw [<- M];exact ⟨g.set 10 rfl,i⟩
  ·obtain rfl:=cD ‹_›;obtain rfl:=cJ ‹_›;refine aN fD V ?_;exact ⟨g.set 11 rfl,i⟩
  ·obtain rfl:=dv ‹_›;refine eD F1 ((i.cellS Z).trans a1) ?_;exact ⟨g.set 12 rfl,i⟩
  ·obtain rfl:=eG ‹_›;refine sg iJ dS (IntWalk.i64_in _ (by omega)) ?_;exact ⟨g.set 13 rfl,i⟩
  ·obtain rfl:=gL ‹_›;refine H9 (by omega) ?_;exact ⟨g.set 14 rfl,i⟩
  ·exact ⟨g.set 15 rfl,i⟩
  ·obtain rfl:=kX ‹_›;refine bh ?_;exact ⟨g.set 16 rfl,i⟩
  ·obtain rfl:=lU ‹_›;refine ax gM ?_;exact ⟨g.set 17 rfl,i⟩
  ·obtain rfl:=qe ‹_›;refine aG i 0 jQ rfl rfl ?_;exact ⟨g.set 18 rfl,i⟩
  ·exact ⟨g.set 19 rfl,i⟩
  ·obtain rfl:=ky ‹_›;refine H9 (by omega) ?_;exact ⟨g.set 20 rfl,i⟩
  ·obtain rfl:=uf ‹_›;refine bL (by omega) ?_;exact ⟨g.set 21 rfl,i⟩
  ·exact ⟨g.set 22 rfl,i⟩
  ·obtain rfl:=wk ‹_›;refine bh ?_;exact ⟨g.set 23 rfl,i⟩
  ·obtain rfl:=Fl ‹_›;refine ax gM ?_;exact ⟨g.set 24 rfl,i⟩
  ·obtain rfl:=Mc ‹_›;refine aG i 0 jQ rfl rfl ?_;exact ⟨g.set 25 rfl,i⟩
  ·obtain rfl:=Yo ‹_›;refine iP fD ?_;exact ⟨g.set 26 rfl,i⟩
  ·obtain rfl:=uy ‹_›;obtain rfl:=Ye ‹_›;refine O4 (a:=p * 7+3) (b:=ys.length) (by omega) rfl B ?_;rw [<- O];exact ⟨g.set 27 rfl,i⟩
  ·obtain rfl:=rL ‹_›;obtain rfl:=YJ ‹_›;refine aN fD Y ?_;exact ⟨g.set 28 rfl,i⟩
  ·obtain rfl:=Zs ‹_›;refine eD F1 ((i.cellS Z).trans a2) ?_;exact ⟨g.set 29 rfl,i⟩
  ·obtain rfl:=YU ‹_›;refine sg iJ dS (IntWalk.i64_in _ (by omega)) ?_;exact ⟨g.set 30 rfl,i⟩
  ·obtain rfl:=YC ‹_›;refine H9 (by omega) ?_;exact ⟨g.set 31 rfl,i⟩
  ·obtain rfl:=kz ‹_›;obtain rfl:=Y1 ‹_›;refine bL (by omega) ?_;exact ⟨g.set 32 rfl,i⟩
  ·exact ⟨g.set 33 rfl,i⟩
  ·obtain rfl:=Zl ‹_›;refine H9 (by omega) ?_;exact ⟨g.set 34 rfl,i⟩
  ·obtain rfl:=Zq ‹_›;obtain rfl:=Zn ‹_›;refine bL (by omega) ?_;exact ⟨g.set 35 rfl,i⟩
  ·exact ⟨g.set 36 rfl,i⟩
  ·exact ⟨g.set 37 rfl,i⟩
  ·obtain rfl:=YT ‹_›;refine bh ?_;exact ⟨g.set 38 rfl,i⟩
  ·obtain rfl:=Zm ‹_›;refine ax gM ?_;exact ⟨g.set 39 rfl,i⟩
  ·obtain rfl:=Y4 ‹_›;refine aG i 0 jQ rfl rfl ?_;exact ⟨g.set 40 rfl,i⟩
  ·obtain rfl:=Zj ‹_›;refine iP fD ?_;exact ⟨g.set 41 rfl,i⟩
  ·obtain rfl:=YY ‹_›;obtain rfl:=Zw ‹_›;refine O7 (a:=p) (b:=ys.length) rfl rfl B (by omega) ?_;rw [<- U];exact ⟨g.set 42 rfl,i⟩
  ·obtain rfl:=Yi ‹_›;refine H9 (by omega) ?_;exact ⟨g.set 43 rfl,i⟩
  ·obtain rfl:=ZA ‹_›;obtain rfl:=Zr ‹_›;refine bL (by omega) ?_;exact ⟨g.set 44 rfl,i⟩
  ·obtain rfl:=YX ‹_›;exact ⟨g.set 45 rfl,i⟩
  obtain ⟨rfl,rfl,rfl,rfl,rfl,rfl,rfl,rfl,rfl,rfl,rfl,rfl,rfl,rfl,rfl,rfl,rfl,rfl,rfl,rfl,rfl,rfl,rfl,rfl,rfl,rfl,rfl,rfl,rfl,rfl,rfl,rfl,rfl,rfl,rfl,rfl,rfl,rfl,rfl,rfl,rfl,rfl,rfl,rfl,rfl,rfl,_⟩:=g.all;clear g cF ci cG cD bU cH cj cR dJ dQ cJ dv eG gL kz kX lU qe rL ky uf uy wk Fl Mc Yo Ye YJ Zs YU YC Y1 Zq Zl Zn ZA YY YT Zm Y4 Zj Zw Yi Zr YX ZK;obtain ⟨x,hx⟩:∃ x:Nat,((((((j:Nat):Int) * 131)+(((l:Nat):Int) * 1117))+((p:Int) * 29))+(((q:Nat):Int) * 53))=(x:Int):=⟨(((((((j:Nat):Int) * 131)+(((l:Nat):Int) * 1117))+((p:Int) * 29))+(((q:Nat):Int) * 53))).toNat,by omega⟩
  have a7:x<=10000000000000000:=by omega
  rw [hx];refine O7 (a:=x) (b:=64) rfl rfl (by omega) (by omega) ?_;refine XC (a:=x) (b:=x / 64) rfl rfl (by omega) (by omega) ?_;refine OW hn ?_;exact ⟨_,_,_,rfl,i,Ext.refl _ _ _,rfl,rfl,_,AU _ hn,rfl⟩
theorem gG {ys:List Nat} {g:List Int} {S:ai} {sl v:Value} {br p:Nat} (h:RdSl S 1 lY sl ys) (i:RdSl S 1 kH v g) (j:0<g.length) (l:p<=1000000000000) :
  nB Hs [rdP br,v] [rdI br sl p] S fun r I' S'=>S'=S/\I'=[rdI br sl (p+1)]/\∃ n∈g,r=ee n:=by
 intro w a;refine sw.2 ?_;dsimp only[sw,bv];refine aO i ff ?_;refine Run.call (A:=[]) bW bX a (dD h l j) fun v' I' S' w'=>?_;rintro ⟨rfl,rfl,k,hk,rfl⟩ _ a;obtain ⟨b,o,cap,c,E,q,rfl,m,hR⟩:=i.at_ hk;refine aN ff hk ?_;refine eD au ((a.cellS m).trans (bf hR 0 _ rfl)) ?_;exact ⟨_,_,_,rfl,a,Ext.refl _ _ _,rfl,rfl,_,cO hk,rfl⟩
theorem ko {ys:List Nat} {g:List ByteArray} {S:ai} {sl v:Value} {br p:Nat} (h:RdSl S 1 lY sl ys) (i:RdSl S 1 xK v g) (j:0<g.length) (l:p<=1000000000000) :
  nB Jq [rdP br,v] [rdI br sl p] S fun r I' S'=>S'=S/\I'=[rdI br sl (p+1)]/\∃ n∈g,r=.string n:=by
 intro w a;refine uS.2 ?_;dsimp only[uS,bv];refine aO i dM ?_;refine Run.call (A:=[]) bW bX a (dD h l j) fun v' I' S' w'=>?_;rintro ⟨rfl,rfl,k,hk,rfl⟩ _ a;obtain ⟨b,o,cap,c,E,q,rfl,m,hR⟩:=i.at_ hk;refine aN dM hk ?_;refine eD aV ((a.cellS m).trans (bf hR 0 _ rfl)) ?_;exact ⟨_,_,_,rfl,a,Ext.refl _ _ _,rfl,rfl,_,cO hk,rfl⟩
theorem FE {ys:List Nat} {S:ai} {v:Value} (h:RdSl S 1 lY v ys) :
  nB Oa [v] [] S fun r I' S'=>S'=S/\∃ br sl g,r=rdP br/\I'=[rdI br sl 0]/\RdSl S 1 lY sl g:=by
 intro w i;refine xX.2 ?_;dsimp only[xX,bd];refine ⟨fun t w'=>(∃ g,RdSl S 1 lY t g)/\Inv w [] [] S w',?_,?_⟩
 ·refine aO h fD ?_;refine fL ?_;refine aJ (fun l=>?_) (fun _=>⟨⟨_,h⟩,i⟩);obtain ⟨a,cap,rfl,o,hc,p⟩:=id h;refine Uk (h:=2000) fD (by omega) ?_;exact ⟨⟨_,RdSl.to h (by omega)⟩,i⟩
 intro m _ _ _ _ _ w';rintro ⟨⟨g,j⟩,i⟩;obtain ⟨a,cap,rfl,_⟩:=id j;refine Run.of (v:=.agg #[.slice a g.length cap,ee 0]) (w':=w') ?_ ?_
 ·unfold cr;rw [Sem.run_bind,run_build w' MU _ #[.slice a g.length cap,ee 0] (by kernel_rfl),Result.andThen_ok];rfl
 refine bH i fun br w' i=>?_;exact ⟨_,_,_,rfl,i,Ext.refl _ _ _,rfl,br,_,g,rfl,rfl,j⟩
end
end
end Go.Proofs.YtjbcdmheajljpaaGreat
