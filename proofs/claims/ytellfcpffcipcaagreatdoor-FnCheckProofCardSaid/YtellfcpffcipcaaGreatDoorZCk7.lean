/- Texts read: spec.l1Struct, l1Chain, l2Read, l2Prime, l2Terms, l2Items. (printed by gen_read.py) -/
import Derived.Test.YtellfcpffcipcaaGreatDoorZCkA
import Derived.Test.YtellfcpffcipcaaGreatDoorZCk6
namespace Go.Proofs.YtellfcpffcipcaaGreatDoor
attribute [local irreducible] Run CondV aF aT
section
open Go Go.RowKit
theorem aaw {s:Bs} {i e:Nat} {t:T} (hn:Yf s i=some (t,e)):i<e/\e<=s.length:=by
 unfold Yf at hn;obtain ⟨fr,a⟩:∃ fr,fr=if sgn s i 45=true then i+1 else i:=⟨_,rfl⟩
 simp only [<- a] at hn;have f:=Pi s 4 fr;have g:i<=fr/\fr<=i+1:=by rw [a];split <;> omega
 split at hn
 ·cases hn
 rename_i hc
 simp only [not_or] at hc;simp only [aY,cV] at hn;obtain ⟨_,rfl⟩:=hn;have j:fr<xJ s 4 fr:=by
  rcases O6 fr (xJ s 4 fr) with h|h
  ·exact h
  ·refine absurd ?_ hc.1;rw [cut,xZ];rw [ey];omega
 have:=HG (BM s 4 fr (xJ s 4 fr - 1) (by omega) (by omega));omega
theorem kj:∀ f:Nat,(∀ s i d l t n,ld f s i d l=some (t,n)->i<n/\n<=s.length)/\(∀ s i d l J t n,QT f s i d l J=some (t,n)->i<=s.length->i<=n/\n<=s.length)/\
  (∀ s i d t n,zP f s i d=some (t,n)->i<n/\n<=s.length)/\(∀ s i d e o j ts n,lx f s i d e o j=some (ts,n)->i<n/\n<s.length)
 | 0=>⟨fun s i d l t n h=>by simp [ld] at h,fun s i d l J t n h=>by simp [QT] at h,fun s i d t n h=>by simp [zP] at h,fun s i d e o j ts n h=>by simp [lx] at h⟩
 | f+1=>by
  obtain ⟨q,O,V,M⟩:=kj f;refine ⟨fun s i d l t n h=>?_,fun s i d l J t n h Z=>?_,fun s i d t n h=>?_,fun s i d e o j ts n h=>?_⟩
  ·cases l with
   | zero=>rw [ld] at h;exact V _ _ _ _ _ h
   | succ l=>
    rw [ld] at h;split at h
    ·cases h
    ·rename_i B n' g
     have a:=q _ _ _ _ _ _ g;have b:=O _ _ _ _ _ _ _ h a.2;omega
  ·rw [QT] at h;split at h
   ·simp only [aY,cV] at h;omega
   ·rename_i name D U
    have a:=Yx U;split at h
    ·split at h
     ·cases h
     ·rename_i r e g
      have b:=q _ _ _ _ _ _ g;split at h
      ·simp only [aY,cV] at h;omega
      ·have c:=O _ _ _ _ _ _ _ h b.2;omega
    ·simp only [aY,cV] at h;omega
  ·rw [zP] at h;split at h
   ·cases h
   rename_i N
   have N:i<s.length:=by omega
   split at h
   ·split at h
    ·cases h
    ·rename_i B n' g
     have a:=q _ _ _ _ _ _ g;split at h
     ·rename_i m
      have:=lI m;simp only [aY,cV] at h;omega
     ·cases h
   ·split at h
    ·split at h
     ·cases h
     ·rename_i ts n' g
      have a:=M _ _ _ _ _ _ _ _ g;split at h
      ·simp only [aY,cV] at h;omega
      ·split at h
       ·cases h
       ·rename_i B e G
        have b:=q _ _ _ _ _ _ G;split at h
        ·rename_i m
         have:=lI m;simp only [aY,cV] at h;omega
        ·cases h
    ·split at h
     ·simp only [aY,cV] at h;omega
     ·split at h
      ·exact aaw h
      ·split at h
       ·cases h
       ·rename_i name n' hn
        have a:=Bj N hn;split at h
        ·simp only [aY,cV] at h;omega
        ·split at h
         ·cases h
         ·rename_i ts e g
          have b:=M _ _ _ _ _ _ _ _ g;simp only [aY,cV] at h;omega
  ·rw [lx] at h;split at h
   ·cases h
   ·rename_i B n' g
    have a:=q _ _ _ _ _ _ g;split at h
    ·rename_i m
     have Y:n'<s.length:=m.elim lI lI;simp only [aY,cV] at h;omega
    ·split at h
     ·have b:=M _ _ _ _ _ _ _ _ h;omega
     ·cases h
abbrev ada (t:T):Value->List Item->ae->Prop:=fun v I' S'=>I'=[]/\∃ cs,v=.agg cs.toArray/\RdT S' cs t
abbrev ZV (t:T) (n:Nat):Value->List Item->ae->Prop:=fun v I' S'=>I'=[]/\∃ cs,v=.tuple #[.agg cs.toArray,ax (n:Int)]/\RdT S' cs t
abbrev abK (ts:List T) (n:Nat):Value->List Item->ae->Prop:=fun v I' S'=>I'=[]/\∃ u,v=.tuple #[u,ax (n:Int)]/\RdSl S' 4 (RdT S') u ts
theorem mJ (S:ae):RdSl S 4 (RdT S) (hV) []:=⟨none,0,rfl,be _,bf _,.inl rfl⟩
theorem Vu {S:ae} {b:Nat} {E:TypeId} {a c:T} {f g h j:Int} {l m:ByteArray} {v1 v2:Value} (o:S b=some (.cells #[ax f,ax g,.string l,v1,ax h,ax j,.string m,v2] E))
  (q:RdT S [ax f,ax g,.string l,v1] a) (r:RdT S [ax h,ax j,.string m,v2] c):RdSl S 4 (RdT S) (eF b 0 2 2) [a,c]:=by
 refine ⟨_,2,rfl,be _,by simp [maxLen],.inr ⟨b,0,_,E,(0,0),rfl,o,fun i t=>?_⟩⟩
 match i,t with
 | 0,_=>exact q
 | 1,_=>exact r
section
variable {w w0:World} {X:List Nat} {L:List Item} {S:ae} {K:Value->World->Prop}
theorem gU {P:Program} {T:TypeId} {f g:Bool} {x y:Int} {a b:Nat} (h:x=a) (i:y=b) (j:a+b<=1000000000000000) (hk:K (ax ((a+b:Nat):Int)) w):Run P (dH .add T f g (ax x) (ax y)) w K:=by
 subst h i;refine bA (by omega) ?_;rw [<- Int.natCast_add];exact hk
theorem Ke {P:Program} {T:TypeId} {g h:Bool} {x y:Int} {a b:Nat} (i:x=a) (j:y=b) (f:b<=a) (l:a<=1000000000000000) (hk:K (ax ((a - b:Nat):Int)) w):Run P (dH .sub T g h (ax x) (ax y)) w K:=by
 subst i j;refine je (by omega) ?_;rw [<- Int.ofNat_sub f];exact hk
theorem yD {s:ByteArray} {v:Value} (a:∃ p n m,v=.slice p n m) (hk:K (.agg #[ax 3,ax 0,.string s,v]) w):Run Tryz.prog (bZ ab [(0,ax 3),(2,.string s),(3,v)]) w K:=by
 obtain ⟨p,n,m,rfl⟩:=a;refine Run.of (v:=.agg #[ax 3,ax 0,.string s,.slice p n m]) (w':=w) ?_ hk;unfold bZ;rw [Sem.run_bind,run_build w ab _ #[ax 3,ax 0,.string s,.slice p n m] (by kernel_rfl),Result.andThen_ok];rfl
theorem BP (s:ByteArray) {i:List T} {u:Value} (h:RdSl S 4 (RdT S) u i) (hk:i.length<=1000000):kt C6 [.string s,u] [] S fun v I' S'=>S'=S/\∃ kv css,v=.agg #[ax 3,ax 0,.string s,kv]/\I'=[aK kv ab 4 css]/\Rows 4 (RdT S) css i:=by
 intro w f;apply yK.2;dsimp only[yK,bl];refine aG f aV fun j w' f=>?_;refine fg f bx fun v0 w' f=>?_;refine fZ f 1 (css:=[]) bx (by omega) rfl h (fun _ _=>RdT.length) (fun _ _=>RdT.one) (by simp;omega) (by omega) fun l w' g hR f=>?_;have f:Inv w [] [ay j bb ab,aK l ab 4 g] S w':=f;obtain ⟨a,n,c,rfl⟩:=f.rowSlice 1 rfl;refine yD ⟨_,_,_,rfl⟩ (aq f 0 rfl ac rfl rfl (by simp [Value.oneCell']) fun w' f=>?_);apply bm f 0 ac rfl rfl;exact ⟨_,_,_,rfl,f.sub (kA _ _),Ext.refl _ _ _,rfl,_,g,rfl,rfl,hR⟩
theorem fq (s:ByteArray) (l:s.size<=maxLen) {g:List T} {u:Value} (h:RdSl S 4 (RdT S) u g) (hk:g.length<=1000000):kt C6 [.string s,u] [] S (ada (.mk 3 0 s g)):=by
 intro w a;refine (BP s h hk w a).mono ?_;rintro e w' ⟨v,I',S',rfl,a,m,rfl,kv,css,rfl,rfl,hR⟩;obtain ⟨S1,f,i,a⟩:=Inv.lendExt (A:=[]) a;have j:=RowRd.rows (hR.monoR fun _ _ h=>RdT.mono f.1 h) i;exact ⟨_,[],S1,rfl,a,m.trans f,rfl,[ax 3,ax 0,.string s,kv],rfl,RdT.iff.2 ⟨kv,rfl,by simp [inI,T.kind],by simp [inI,T.n],l,j⟩⟩
theorem UD {ts:List T} {j:Nat} (h:j<ts.length) (t:T):mf (ts.drop j) t=RK ts[j] (mf (ts.drop (j+1)) t):=by
 rw [dB h,mf]
theorem yq {ts:List T} {t:T} {u:Value} {cs:hZ} (h:RdSl S 4 (RdT S) u ts) (ht:RdT S cs t) (hl:ts.length<=1000000):kt Rv [u,.agg cs.toArray] [] S (ada (mf ts t)):=by
 intro w f;obtain ⟨kv,rfl,g1,g2,g3,g4⟩:=RdT.iff.1 ht;obtain ⟨ka,kn,kc,a8⟩:∃ a n m,kv=.slice a n m:=by
  obtain ⟨a,m,e,_⟩:=g4;exact ⟨_,_,_,e⟩
 apply Aa.2;dsimp only[Aa,bl];refine bq f fun b3 w' f=>?_;refine aG f aV fun b4 w' f=>?_;refine av f 0 ac rfl rfl (aG f aV fun b5 w' f=>?_);refine aq f 2 rfl ac rfl rfl (by simp [Value.oneCell',Value.cells,a8]) fun w' f=>?_;refine aI h ag (je (by omega) ?_);obtain ⟨B3,a9⟩:∃ B3,B3=Item.blk b3 (.cells (gn t kv) ab):=⟨_,rfl⟩
 have f:Inv w [] [B3,ay b4 bb ab,ay b5 (gn t kv) ab] S w':=by rw [a9];exact f
 refine ⟨fun i w'=>∃ (j:Nat) (S1:ae) (ds:hZ),j<=ts.length/\i=ax ((j:Int) - 1)/\Ext w.heap.size [] S S1/\RdT S1 ds (mf (ts.drop j) t)/\Inv w [] [B3,ay b4 bb ab,ay b5 ds.toArray ab] S1 w',
  fun i _=>(intOf i+1).toNat,⟨ts.length,S,_,be _,rfl,Ext.refl _ _ _,by rw [dY];exact ht,f⟩,?_⟩
 intro t6 _ _ b7 b8 b9 c0 c1 c2 c3 _ _ w';rintro ⟨j,S1,ds,hj,rfl,hE,U,f⟩;by_cases b6:j=0
 ·subst b6;refine Er (by omega) (aE (fun hb=>by cases hb) (fun _=>?_));obtain ⟨c5,rfl,_,_,_,a,m,rfl,_⟩:=RdT.iff.1 U;refine av f 2 ac rfl rfl (aq f 1 rfl ac rfl rfl (by simp [Value.oneCell']) fun w' f=>?_);apply bm f 1 ac rfl rfl;exact ⟨_,_,_,rfl,f.nil,hE,rfl,_,rfl,U⟩
 ·refine sG (by omega) (aE (fun _=>?_) (fun hb=>by cases hb));obtain ⟨m,rfl⟩:∃ m,j=m+1:=⟨j - 1,by omega⟩
  have hm:m<ts.length:=by omega
  have ej:((m+1:Nat):Int) - 1=(m:Int):=by omega
  rw [ej];obtain ⟨b,o,cap,c,E,fz,rfl,hS,hR⟩:=(h.monoT hE.1).at_ hm;obtain ⟨c7,a0,_,_,_,aa,am,a3,_⟩:=RdT.iff.1 hR;subst a3;obtain ⟨kd,rfl,_,_,_,da,dm,rfl,_⟩:=RdT.iff.1 U;obtain ⟨l,a4⟩:∃ l,l=mf (ts.drop (m+1)) t:=⟨_,rfl⟩
  rw [<- a4] at U f;obtain ⟨q,a5⟩:∃ q,q=ts[m]:=⟨_,rfl⟩
  rw [<- a5] at hR a0
  skip
  refine ⟨fun D qX nX pu ww pF wi zZ w_=>Fx D 0 [zZ=eF b o ts.length cap,wi=ax (m:Int),pF=eu b (o+m * 4),ww=.agg (gn q (.slice aa q.kids.length am)),pu=.agg (gn l (.slice da l.kids.length dm)),True,True,True]/\∃ S2 r,Ext w.heap.size [] S1 S2/\(D 5=true->RdSl S2 4 (RdT S2) nX [q,l])/\(D 6=true->qX=.agg r.toArray/\RdT S2 r (RK q l))/\(D 7=true->D 6=true)/\(D 6=true->D 5=true)/\(D 5=true->D 4=true)/\Inv w [] [B3,ay b4 bb ab,ay b5 (match D 7 with|true=>r.toArray|false=>(gn l (.slice da l.kids.length dm))) ab] S2 w_,⟨Fx.nil _ _,⟨S1,[],Ext.refl _ _ _,aU,aU,aU,aU,aU,f.draw⟩⟩,⟨?_,?_,?_,?_,?_,?_,?_,?_,trivial⟩,?_⟩;all_goals (intro D Z;intros;rename_i qX nX pu ww pF wi zZ w_ a2;have B:=a2.1;obtain ⟨⟨co,cn,bP,cj,cA,bQ,bO,cM,_⟩,⟨S2,r,g,M,N,J,O,V,f⟩⟩:=a2)
  rotate_left;rotate_left;obtain rfl:=co ‹_›;obtain rfl:=cn ‹_›;apply az ag hm;rotate_left
  obtain rfl:=bP ‹_›;refine bV (cs:=(hJ q (.slice aa q.kids.length am))) ac rfl (fun j v hj=>by rw [f.cellS (g.1 _ _ hS)];exact aA a0 j v hj) ?_;rotate_left
  have f5:D 5=false:=bN.2 fun h=>by rw [V h] at Z;cases Z
  have f6:D 6=false:=bN.2 fun h=>by rw [O h] at f5;cases f5
  have f7:D 7=false:=bN.2 fun h=>by rw [J h] at f6;cases f6
  have b1:=f;rw [f7] at f;apply av f 2 ac rfl rfl;have f:=b1;have V:=fun (_:aC D 4 5=true)=>(rfl:aC D 4 4=true)
  rotate_left;obtain rfl:=cj ‹_›;obtain rfl:=cA ‹_›;have f6:D 6=false:=bN.2 fun h=>by rw [O h] at Z;cases Z
  have f7:D 7=false:=bN.2 fun h=>by rw [J h] at f6;cases f6
  rw [f7] at f;refine vu (v:=fun b=>.slice (some ⟨b,0,none⟩) 2 2) (o:=.cells #[ax q.kind,ax q.n,.string q.name,.slice aa q.kids.length am,ax l.kind,ax l.n,.string l.name,.slice da l.kids.length dm] ab) f (by kernel_rfl) fun c4 w_ f=>?_;obtain ⟨S2,f,Y,b0⟩:=Inv.pub1 (A:=[_,_,_]) f;have g:=g.trans Y;have b2:RdT S2 (hJ q (.slice aa q.kids.length am)) q:=by
   have:=RdT.mono g.1 hR
   rwa [a0] at this
  have M:=fun (_:aC D 5 5=true)=>Vu b0 b2 (RdT.mono g.1 U);have N:=fun (h:D 6=true)=>(absurd h (by rw [f6];decide):qX=.agg r.toArray/\RdT S2 r (RK q l))
  have O:=fun (_:aC D 5 6=true)=>(rfl:aC D 5 5=true)
  have V:=fun (_:aC D 5 5=true)=>‹D 4=true›;have f:Inv w [] [B3,ay b4 bb ab,ay b5 (match D 7 with|true=>r.toArray|false=>(gn l (.slice da l.kids.length dm))) ab] S2 w_:=by
   rw [f7];exact f
  rotate_left;have PS:=bQ ‹_›;have f7:D 7=false:=bN.2 fun h=>by rw [J h] at Z;cases Z
  rw [f7] at f;refine Run.call0E eA eC f (fq ⟨#[46]⟩ (by decide +kernel) (M ‹D 5=true›) (by simp)) fun v' I' S2 w_=>?_;rintro ⟨rfl,r,rfl,G⟩ Y f;have g:=g.trans Y;have M:=fun (h:D 5=true)=>(M h).monoT Y.1;have N:aC D 6 6=true->Value.agg r.toArray=Value.agg r.toArray/\RdT S2 r (RK q l):=fun _=>⟨rfl,G⟩
  have J:=fun (_:aC D 6 7=true)=>(rfl:aC D 6 6=true)
  have O:=fun (_:aC D 6 6=true)=>‹D 5=true›;have f:Inv w [] [B3,ay b4 bb ab,ay b5 (match D 7 with|true=>r.toArray|false=>(gn l (.slice da l.kids.length dm))) ab] S2 w_:=by
   rw [f7];exact f
  rotate_left;have Ky:=bO ‹_›;obtain ⟨q6,G⟩:=N ‹D 6=true›;subst q6;rw [Z] at f;have a6:=G.one;have a7:=G.length;refine aq f 2 rfl ac (by simpa using a7) rfl (by simpa using a6) fun w_ f=>?_;have J:=fun (_:aC D 7 7=true)=>‹D 6=true›;rotate_left
  all_goals try exact ⟨B.set _ (by first|rfl|assumption|trivial),S2,r,g,M,N,J,O,V,f⟩
  obtain ⟨rfl,rfl,rfl,rfl,rfl,PS,Ky,_,_⟩:=B.all;have XC:D 6=true:=by assumption
  have CQ:D 7=true:=by assumption
  clear B;rw [CQ] at f;obtain ⟨_,G⟩:=N XC;refine je (by omega) ?_;refine ⟨⟨m,S2,r,by omega,rfl,hE.trans g,?_,f⟩,by simp [intOf]⟩;rw [UD hm,<- a5,<- a4];exact G
end
def vd (f:Nat):Prop:=∀ (s:Bs) (i d l:Nat) (t:T) (n:Nat) (S:ae),ld f s i d l=some (t,n)->s.length<=100000->i<=s.length->d<=100->l<=3->
 Tri Tryz.prog TK [.string (st s),ax (i:Int),ax (d:Int),ax (l:Int)] [] S (ZV t n)
def ND (f:Nat):Prop:=∀ (s:Bs) (i d:Nat) (t:T) (n:Nat) (S:ae),zP f s i d=some (t,n)->s.length<=100000->i<=s.length->d<=100->
 Tri Tryz.prog RG [.string (st s),ax (i:Int),ax (d:Int)] [] S (ZV t n)
def AV (f:Nat):Prop:=∀ (s:Bs) (i d e o:Nat) (ts:List T) (n:Nat) (S:ae),lx f s i d e o []=some (ts,n)->s.length<=100000->i<=s.length->d<=100->
 Tri Tryz.prog RL [.string (st s),ax (i:Int),ax (d:Int),.int .u8 (e:Int),.int .u8 (o:Int)] [] S (abK ts n)
theorem MO:∀ (f:Nat) (s:Bs) (i d e o:Nat) (g ts:List T) (n:Nat),lx f s i d e o g=some (ts,n)->ts.length+i<=g.length+n
 | 0,s,i,d,e,o,g,ts,n,h=>by simp [lx] at h
 | f+1,s,i,d,e,o,g,ts,n,h=>by
  rw [lx] at h;split at h
  ·cases h
  ·rename_i l n' j
   have a:=(kj f).1 _ _ _ _ _ _ j;split at h
   ·simp only [aY,cV] at h;obtain ⟨rfl,rfl⟩:=h;rw [bK];simp only [bI,cB];omega
   ·split at h
    ·have b:=MO f _ _ _ _ _ _ _ _ h;rw [bK] at b;simp only [bI,cB] at b;omega
    ·cases h
section
theorem Zp {f:Nat} (ih:∀ g,g<f->vd g):AV f:=by
 intro s i d e o ts n S h hs hi hd w j;refine Bv.2 ?_;dsimp only[Bv,LY];refine fg j bx fun v0 w' j=>?_;refine ⟨fun a b w'=>∃ (O D:Nat) (l:List T) (S1:ae) (css:List (hZ)),O<=f/\a=ax (D:Int)/\i<=D/\D<=s.length/\l.length+i<=D/\lx O s D d e o l=some (ts,n)/\Ext w.heap.size [] S S1/\Rows 4 (RdT S1) css l/\Inv w [] [aK b ab 4 css] S1 w',
  fun a _ _=>s.length+1 - (intOf a).toNat,⟨f,i,[],S,[],be _,rfl,be _,hi,by simp,h,Ext.refl _ _ _,Rows.nil _ _,j⟩,?_⟩
 intro t1;(iterate 20 intro);intro a2;(iterate 18 intro);intro w';rintro ⟨O,D,l,S1,css,a3,rfl,a4,U,a1,q,hE,hR,j⟩;have a7:=hR.hc;cases O with
 | zero=>simp [lx] at q
 | succ g=>
 rw [lx] at q;split at q
 ·cases q
 rename_i t n' hr
 have a8:=(kj g).1 _ _ _ _ _ _ hr;refine Run.call0E iC iz j (ih g (by omega) s D d 3 t n' S1 hr hs U hd (by omega)) fun v I' S2 w'=>?_;rintro ⟨rfl,cs,rfl,r⟩ G j;have Y:=hR.monoR fun _ _ h=>RdT.mono G.1 h;obtain ⟨kv,rfl,_,_,_,a,m,rfl,_⟩:=RdT.iff.1 r;refine al (v:=.agg _) rfl (al (v:=ax (n':Int)) rfl (aG j aV fun a6 w' j=>?_));refine aq j 1 rfl ac rfl rfl (by simp [Value.oneCell']) fun w' j=>?_;refine gN (by omega) (aE (fun B=>by cases B) (fun _=>?_));refine av j 1 ac rfl rfl (ei (css:=css) j 0 _ bx (by omega) (by omega) rfl r.length r.one (by omega) (by omega) fun v' w' j=>?_);have j:Inv w [] [aK v' ab 4 (css++[(hJ t (.slice a t.kids.length m))])] S2 w':=j.pick [true,false];have N:=Y.snoc r r.length;refine ⟨fun b w'=>b=.bool (sgn s n' e || sgn s n' o)/\Inv w [] [aK v' ab 4 (css++[(hJ t (.slice a t.kids.length m))])] S2 w',?_,?_⟩
 ·refine Run.callPure dT dV j (dG s n' e S2) fun w' j=>?_;cases he:sgn s n' e
  ·refine rpG ?_;refine Run.callPure dT dV j (dG s n' o S2) fun w' j=>?_;refine rpG ?_;exact ⟨by simp,j⟩
  ·refine rpG ?_;exact ⟨by simp,j⟩
 intro a5 _ _ _ _ _ _ _ _ _ w';rintro ⟨rfl,j⟩;refine aE (fun B=>?_) (fun B=>?_)
 ·rw [jI] at B;rw [ai B] at q;simp only [aY,cV] at q;obtain ⟨rfl,rfl⟩:=q;obtain ⟨S3,M,V,j⟩:=Inv.lendExt (A:=[]) j;have Z:=RowRd.rows (N.monoR fun _ _ h=>RdT.mono M.1 h) V;exact ⟨_,[],S3,rfl,j,(hE.trans G).trans M,rfl,_,rfl,Z⟩
 ·have a0:¬ (sgn s n' e=true ∨ sgn s n' o=true):=fun h=>by rw [<- jI,B] at h;cases h
  rw [af a0] at q;split at q
  ·rename_i J
   refine Run.callPure dT dV j (dG s n' 44 S2) fun w' j=>?_;apply cq;rw [J];refine aE (fun B=>by cases B) (fun _=>?_);have:=lI J;refine gU (a:=n') (b:=1) rfl rfl (by omega) ?_;refine ⟨⟨g,n'+1,l++[t],S2,css++[(hJ t (.slice a t.kids.length m))],by omega,rfl,by omega,by omega,?_,q,hE.trans G,N,j⟩,?_⟩
   ·rw [bK];simp only [bI,cB];omega
   ·simp only [intOf,dq];omega
  ·cases q
theorem SK {g:Nat} (U:AV g) (hR:vd g) {s:Bs} {i d:Nat} {ts:List T} {n:Nat} {t:T} {e:Nat} (B:lx g s i d 93 124 []=some (ts,n))
  (V:(sgn s n 93=true/\t=mf ts acF/\e=n+1) ∨ (sgn s n 93=false/\∃ u m,ld g s (n+1) d 3=some (u,m)/\sgn s m 93=true/\t=mf ts u/\e=m+1))
  (J:s.length<=100000) (Y:i<=s.length) (hd:d<=100) (S:ae):kt RH [.string (st s),ax (i:Int),ax (d:Int)] [] S (ZV t e):=by
 intro w f;have a1:=(kj g).2.2.2 _ _ _ _ _ _ _ _ B;have D:=MO _ _ _ _ _ _ _ _ _ B;simp only [cB] at D;apply Cy.2;dsimp only[Cy,dR];refine aG f aV fun Z w' f=>?_;refine Run.call0E Ad CS f (U s i d 93 124 ts n S B J Y hd) fun v I' S1 w'=>?_;rintro ⟨rfl,u,rfl,M⟩ r f;have f:Inv w [] [ay Z bb ab] S1 w':=f;refine al (v:=u) rfl (al (v:=ax (n:Int)) rfl (gN (by omega) (aE (fun o=>by cases o) (fun _=>?_))));refine Run.callPure dT dV f (dG s n 93 S1) fun w' f=>?_;rcases V with ⟨G,rfl,rfl⟩|⟨G,x,m,O,h5,rfl,rfl⟩
 ·rw [G];refine aE (fun _=>?_) (fun o=>by cases o);refine Run.call0E eA eC f (fq ⟨#[91,93]⟩ (by decide +kernel) (mJ S1) (by simp)) fun v I' S2 w'=>?_;rintro ⟨rfl,cs,rfl,l⟩ h f;refine Run.call0E Cf Cw f (yq (M.monoT h.1) l (by omega)) fun v I' S3 w'=>?_;rintro ⟨rfl,ds,rfl,j⟩ q f;refine gU (a:=n) (b:=1) rfl rfl (by omega) ?_;obtain ⟨kv,rfl,_,_,_,a,k,rfl,_⟩:=RdT.iff.1 j;refine aq f 0 rfl ac rfl rfl (by simp [Value.oneCell']) fun w' f=>?_;apply bm f 0 ac rfl rfl;exact ⟨_,[],S3,rfl,f.nil,(r.trans h).trans q,rfl,_,rfl,j⟩
 ·rw [G];refine aE (fun o=>by cases o) (fun _=>?_);refine gU (a:=n) (b:=1) rfl rfl (by omega) ?_;have N:=(kj g).1 _ _ _ _ _ _ O;refine Run.call0E iC iz f (hR s (n+1) d 3 x m S1 O J (by omega) hd (by omega)) fun v I' S2 w'=>?_;rintro ⟨rfl,cs,rfl,l⟩ h f;obtain ⟨kv,rfl,_,_,_,a,k,rfl,_⟩:=RdT.iff.1 l;refine al (v:=.agg _) rfl (al (v:=ax (m:Int)) rfl (aG f aV fun a0 w' f=>?_));refine aq f 1 rfl ac rfl rfl (by simp [Value.oneCell']) fun w' f=>?_;refine gN (by omega) (aE (fun o=>by cases o) (fun _=>?_));refine Run.callPure dT dV f (dG s m 93 S2) fun w' f=>?_;apply cq;rw [h5];refine aE (fun o=>by cases o) (fun _=>?_);refine av f 1 ac rfl rfl (Run.call0E Cf Cw f (yq (M.monoT h.1) l (by omega)) fun v I' S3 w'=>?_);rintro ⟨rfl,ds,rfl,j⟩ q f;refine gU (a:=m) (b:=1) rfl rfl (by omega) ?_;obtain ⟨kv,rfl,_,_,_,a,k,rfl,_⟩:=RdT.iff.1 j;refine aq f 0 rfl ac rfl rfl (by simp [Value.oneCell']) fun w' f=>?_;apply bm f 0 ac rfl rfl;exact ⟨_,[],S3,rfl,f.nil,(r.trans h).trans q,rfl,_,rfl,j⟩
theorem OG {n:Bs} (h:n.length<=6):(st n).size<=maxLen:=by rw [n3]; simp only [maxLen]; omega
theorem Ys {f:Nat} (a4:∀ g,g<f->vd g) (a5:∀ g,g<f->AV g):ND f:=by
 intro s i d t n S h hs hi hd w j;cases f with
 | zero=>simp [zP] at h
 | succ g=>
 have hR:=a4 g (by omega);have hT:=a5 g (by omega);have b3:=(kj (g+1)).2.2.1 _ _ _ _ _ h;rw [zP] at h;split at h
 ·cases h
 rename_i h0
 have Z:1<=d:=by omega
 have l:i<s.length:=by omega
 apply BZ.2;dsimp only[BZ,dR];refine aG j aV fun V w' j=>?_;have j:Inv w [] [ay V bb ab] S w':=j;refine ⟨fun b w'=>b=.bool false/\Inv w [] [ay V bb ab] S w',?_,?_⟩
 ·refine gN (by omega) ?_;refine rpG ?_;refine iL bg (Er (by omega) ?_);refine rpG ?_;exact ⟨rfl,j⟩
 intro a9 _ _ _ _ _ _ _ w';rintro ⟨rfl,j⟩;refine aE (fun o=>by cases o) (fun _=>?_);apply ge bg l;split at h
 ·rename_i N
  rw [pt l,bt] at N;refine iZ (by omega) (aE (fun _=>?_) (fun o=>by cases o));split at h
  ·cases h
  rename_i u m hr
  split at h
  ·rename_i a6
   simp only [aY,cV] at h;obtain ⟨rfl,rfl⟩:=h;have a0:=(kj g).1 _ _ _ _ _ _ hr;refine gU (a:=i) (b:=1) rfl rfl (by omega) (Run.call0E iC iz j (hR s (i+1) d 3 u m S hr hs (by omega) hd (by omega)) fun v I' S2 w'=>?_);rintro ⟨rfl,cs,rfl,r⟩ D j;obtain ⟨kv,rfl,_,_,_,a,k,rfl,_⟩:=RdT.iff.1 r;refine al (v:=.agg _) rfl (al (v:=ax (m:Int)) rfl (aG j aV fun b8 w' j=>?_));refine aq j 1 rfl ac rfl rfl (by simp [Value.oneCell']) fun w' j=>?_;refine gN (by omega) (aE (fun o=>by cases o) (fun _=>?_));refine Run.callPure dT dV j (dG s m 41 S2) fun w' j=>?_;apply cq;rw [a6];refine aE (fun o=>by cases o) (fun _=>?_);refine av j 1 ac rfl rfl (gU (a:=m) (b:=1) rfl rfl (by omega) (aq j 0 rfl ac rfl rfl (by simp [Value.oneCell']) fun w' j=>?_));apply bm j 0 ac rfl rfl;exact ⟨_,[],S2,rfl,j.nil,D,rfl,_,rfl,r⟩
  ·cases h
 rename_i N
 rw [pt l,bt] at N;refine gr (by omega) (aE (fun o=>by cases o) (fun _=>?_));refine ⟨fun b w'=>b=.bool (sgn s i 91 && !sgn s (i+1) 93)/\Inv w [] [ay V bb ab] S w',?_,?_⟩
 ·apply ge bg l;by_cases G:s[i].toNat=91
  ·refine iZ (by omega) ?_;refine rpG ?_;refine gU (a:=i) (b:=1) rfl rfl (by omega) (Run.callPure dT dV j (dG s (i+1) 93 S) fun w' j=>?_);apply cq;refine rpG ?_;exact ⟨by rw [pt l,aL G,dz],j⟩
  ·refine gr (by omega) ?_;refine rpG ?_;exact ⟨by rw [pt l,aS G,jZ],j⟩
 intro b0 _ _ _ _ _ _ _ _ _ _ w';rintro ⟨rfl,j⟩;split at h
 ·rename_i G
  rw [G.1,G.2];refine aE (fun _=>?_) (fun o=>by cases o);split at h
  ·cases h
  rename_i ts m J
  have h2:(sgn s m 93=true/\t=mf ts acF/\n=m+1) ∨ (sgn s m 93=false/\∃ u k,ld g s (m+1) (d - 1) 3=some (u,k)/\sgn s k 93=true/\t=mf ts u/\n=k+1):=by
   split at h
   ·rename_i h3
    simp only [aY,cV] at h;exact .inl ⟨h3,h.1.symm,h.2.symm⟩
   ·rename_i h3
    split at h
    ·cases h
    rename_i u k hr
    split at h
    ·rename_i h4
     simp only [aY,cV] at h;exact .inr ⟨bN.2 h3,u,k,hr,h4,h.1.symm,h.2.symm⟩
    ·cases h
  refine gU (a:=i) (b:=1) rfl rfl (by omega) (Ke (a:=d) (b:=1) rfl rfl Z (by omega) (Run.call0E Nt PL j (SK hT hR J h2 hs (by omega) (by omega) S) fun v I' S2 w'=>?_));rintro ⟨rfl,cs,rfl,r⟩ D j;obtain ⟨kv,rfl,_,_,_,a,k,rfl,_⟩:=RdT.iff.1 r;refine al (v:=.agg _) rfl (al (v:=ax (n:Int)) rfl (aq j 0 rfl ac rfl rfl (by simp [Value.oneCell']) fun w' j=>?_));apply bm j 0 ac rfl rfl;exact ⟨_,[],S2,rfl,j.nil,D,rfl,_,rfl,r⟩
 rename_i G
 have a7:(sgn s i 91 && !sgn s (i+1) 93)=false:=by
  cases h5:sgn s i 91
  ·rfl
  ·cases h6:sgn s (i+1) 93
   ·exact absurd ⟨h5,h6⟩ G
   ·rfl
 rw [a7];refine aE (fun o=>by cases o) (fun _=>?_);refine ⟨fun b w'=>b=.bool (upp s i)/\Inv w [] [ay V bb ab] S w',?_,?_⟩
 ·apply ge bg l;by_cases a2:65<=s[i].toNat
  ·refine sG (by omega) ?_;refine rpG ?_;refine ge bg l (gJ ?_);refine rpG ?_;refine ⟨?_,j⟩;rw [upp,sZ l,aL a2,dz]
   congr 1
   rw [dJ];omega
  ·refine Er (by omega) ?_;refine rpG ?_;exact ⟨by rw [upp,sZ l,aS a2,jZ],j⟩
 intro b1 _ _ _ _ _ _ _ _ _ w';rintro ⟨rfl,j⟩;split at h
 ·rename_i M
  simp only [aY,cV] at h;obtain ⟨rfl,rfl⟩:=h;rw [M];rw [upp,sZ l,aZ,bt,bt] at M;refine aE (fun _=>?_) (fun o=>by cases o);refine ge bg l (ZE (c:=(s[i].toNat:Int) - 65) (IntWalk.u8_in _ (by omega)) (vK jd gO (IntWalk.i64_in _ (by omega)) (Run.callPure HD JR j (yp _ S) fun w' j=>?_)));refine gU (a:=i) (b:=1) rfl rfl (by omega) (aq j 0 rfl ac rfl rfl (by simp [Value.oneCell']) fun w' j=>?_);apply bm j 0 ac rfl rfl;have eg:((s.getD i 0).toNat:Int) - 65=(s[i].toNat:Int) - 65:=by rw [MI,gd l];rfl
  rw [eg];exact ⟨_,[],S,rfl,j.nil,Ext.refl _ _ _,rfl,_,rfl,RdT.nil (by simp [inI]) (by unfold inI;omega) (by decide +kernel) (bf _)⟩
 rename_i M
 rw [bN.2 M];refine aE (fun o=>by cases o) (fun _=>?_);refine ⟨fun b w'=>b=.bool (dig s i || (sgn s i 45 && dig s (i+1)))/\Inv w [] [ay V bb ab] S w',?_,?_⟩
 ·refine Run.callPure nW nY j (kw s i S) fun w' j=>?_;cases b4:dig s i
  ·refine rpG ?_;apply ge bg l;by_cases a3:s[i].toNat=45
   ·refine iZ (by omega) ?_;refine rpG ?_;refine gU (a:=i) (b:=1) rfl rfl (by omega) (Run.callPure nW nY j (kw s (i+1) S) fun w' j=>?_);refine rpG ?_;exact ⟨by rw [pt l,aL a3,dz,ib],j⟩
   ·refine gr (by omega) ?_;refine rpG ?_;exact ⟨by rw [pt l,aS a3,jZ,ib],j⟩
  ·refine rpG ?_;exact ⟨by rw [py],j⟩
 intro a8 _ _ _ _ _ _ _ _ _ _ _ _ _ _ w';rintro ⟨rfl,j⟩;split at h
 ·rename_i O
  have:(dig s i || (sgn s i 45 && dig s (i+1)))=true:=by rw [jI,aZ];exact O
  rw [this];refine aE (fun _=>?_) (fun o=>by cases o);obtain ⟨k,hk,rfl,_,_,Y⟩:=JY h (by omega) S;refine Run.callPure Lb Lu j Y fun w' j=>?_;refine al (v:=JE 2 k) rfl (al (v:=ax (n:Int)) rfl (aG j aV fun b2 w' j=>?_));refine aq j 1 rfl ac rfl rfl (by simp [Value.oneCell']) fun w' j=>?_;refine gN (by omega) (aE (fun o=>by cases o) (fun _=>?_));refine av j 1 ac rfl rfl (aq j 0 rfl ac rfl rfl (by simp [Value.oneCell']) fun w' j=>?_);apply bm j 0 ac rfl rfl;exact ⟨_,[],S,rfl,j.nil,Ext.refl _ _ _,rfl,_,rfl,RdT.nil (by simp [inI]) hk (by decide +kernel) (bf _)⟩
 rename_i O
 have:(dig s i || (sgn s i 45 && dig s (i+1)))=false:=by
  rw [bN,ne_eq,jI,aZ];exact O
 rw [this];refine aE (fun o=>by cases o) (fun _=>?_);refine Run.callPure EC Fq j (BD l hs S) fun w' j=>?_;cases U:Ci s i with
 | none=>rw [U] at h;cases h
 | some q=>
 obtain ⟨name,m⟩:=q;rw [U] at h;simp only [] at h;simp only [WI];have a1:=Bj l U;refine al (v:=.string (st name)) rfl (al (v:=ax (m:Int)) rfl (gN (by omega) (aE (fun o=>by cases o) (fun _=>?_))));refine Run.callPure dT dV j (dG s m 40 S) fun w' j=>?_;apply cq;split at h
 ·rename_i B
  simp only [aY,cV] at h;obtain ⟨rfl,rfl⟩:=h;rw [B];refine aE (fun _=>?_) (fun o=>by cases o);refine Run.call0E eA eC j (fq (st name) (OG a1.2.2.1) (mJ S) (by simp)) fun v I' S2 w'=>?_;rintro ⟨rfl,cs,rfl,r⟩ D j;obtain ⟨kv,rfl,_,_,_,a,k,rfl,_⟩:=RdT.iff.1 r;refine aq j 0 rfl ac rfl rfl (by simp [Value.oneCell']) fun w' j=>?_;apply bm j 0 ac rfl rfl;exact ⟨_,[],S2,rfl,j.nil,D,rfl,_,rfl,r⟩
 ·rename_i B
  rw [Bool.not_eq_false] at B;rw [B];refine aE (fun o=>by cases o) (fun _=>?_);split at h
  ·cases h
  rename_i ts k J
  simp only [aY,cV] at h;obtain ⟨rfl,rfl⟩:=h;have hm:=lI B;have a0:=(kj g).2.2.2 _ _ _ _ _ _ _ _ J;refine gU (a:=m) (b:=1) rfl rfl (by omega) (Ke (a:=d) (b:=1) rfl rfl Z (by omega) (Run.call0E Ad CS j (hT s (m+1) (d - 1) 41 41 ts k S J hs (by omega) (by omega)) fun v I' S2 w'=>?_));rintro ⟨rfl,u,rfl,hu⟩ D j;refine al (v:=u) rfl (al (v:=ax (k:Int)) rfl (gN (by omega) (aE (fun o=>by cases o) (fun _=>?_))));obtain ⟨a,c,rfl,_⟩:=id hu;refine yD ⟨_,_,_,rfl⟩ (gU (a:=k) (b:=1) rfl rfl (by omega) (aq j 0 rfl ac rfl rfl (by simp [Value.oneCell']) fun w' j=>?_));apply bm j 0 ac rfl rfl;exact ⟨_,[],S2,rfl,j.nil,D,rfl,_,rfl,RdT.iff.2 ⟨_,rfl,by simp [inI,T.kind,SM],by simp [inI,T.n,SM],OG a1.2.2.1,hu⟩⟩
theorem abC {f:Nat} (a1:∀ g,g<f->vd g) (a6:∀ g,g<f->ND g):vd f:=by
 intro s i d l t n S h hs hi hd hl w j;cases f with
 | zero=>simp [ld] at h
 | succ f=>
 apply Gf.2;dsimp only[Gf,lQ];refine aG j aV fun b8 w' j=>?_;have j:Inv w [] [ay b8 bb ab] S w':=j;cases l with
 | zero=>
  rw [ld] at h;refine iZ rfl (aE (fun _=>?_) (fun m=>by cases m));refine Run.call0E PH PK j (a6 f (by omega) s i d t n S h hs hi hd) fun v I' S2 w'=>?_;rintro ⟨rfl,cs,rfl,G⟩ M j;obtain ⟨kv,rfl,_,_,_,a,k,rfl,_⟩:=RdT.iff.1 G;refine al (v:=.agg _) rfl (al (v:=ax (n:Int)) rfl (aq j 0 rfl ac rfl rfl (by simp [Value.oneCell']) fun w' j=>?_));apply bm j 0 ac rfl rfl;exact ⟨_,[],S2,rfl,j.nil,M,rfl,_,rfl,G⟩
 | succ l=>
  rw [ld] at h;split at h
  ·cases h
  rename_i t0 n0 hr
  have O:=(kj f).1 _ _ _ _ _ _ hr;refine gr (by omega) ?_;refine aE (fun m=>by cases m) (fun _=>?_);refine Ke (a:=l+1) (b:=1) rfl rfl (by omega) (by omega) ?_;rw [Nat.add_sub_cancel];refine Run.call0E iC iz j (a1 f (by omega) s i d l t0 n0 S hr hs hi hd (by omega)) fun v I' S1 w'=>?_;rintro ⟨rfl,cs,rfl,G⟩ a2 j;obtain ⟨kv,rfl,_,_,_,a,k,rfl,_⟩:=RdT.iff.1 G;refine al (v:=.agg _) rfl ?_;refine al (v:=ax (n0:Int)) rfl ?_;refine aG j aV fun Y w' j=>?_;refine aq j 1 rfl ac rfl rfl (by simp [Value.oneCell']) fun w' j=>?_;refine ⟨fun a w'=>∃ (f' n':Nat) (D:T) (ds:hZ) (S1:ae),f'<=f/\a=ax (n':Int)/\n'<=s.length/\QT f' s n' d l D=some (t,n)/\Ext w.heap.size [] S S1/\RdT S1 ds D/\Inv w [] [ay b8 bb ab,ay Y ds.toArray ab] S1 w',
   fun a _=>s.length+1 - (intOf a).toNat,⟨f,n0,t0,_,S1,be _,rfl,O.2,h,a2,G,j⟩,?_⟩
  clear h;intro _ _ _ _ b4;(iterate 42 intro);intro w';rintro ⟨f',n',D,ds,S1,b5,rfl,a7,B,hE,N,j⟩;obtain ⟨kd,rfl,_,_,b3,da,dm,rfl,_⟩:=RdT.iff.1 N;cases f' with
  | zero=>simp [QT] at B
  | succ g=>
  rw [QT] at B;refine sG (by omega) (aE (fun _=>?_) (fun m=>by cases m));refine Run.callPure Xf X3 j (Tw hs a7 S1) fun w' j=>?_;cases a0:opF s n' with
  | none=>
   rw [a0] at B;simp only [aY,cV] at B;obtain ⟨rfl,rfl⟩:=B;simp only [opV];refine al (v:=.string ⟨#[]⟩) rfl (al (v:=ax (n':Int)) rfl ?_);refine ⟨fun b w'=>b=.bool true/\Inv w [] [ay b8 bb ab,ay Y (gn D (.slice da D.kids.length dm)) ab] S1 w',?_,?_⟩
   ·apply bB;rw [aL rfl];refine rpG ?_;exact ⟨rfl,j⟩
   intro a8 _ _ _ _ _ _ _ w';rintro ⟨rfl,j⟩;refine aE (fun _=>?_) (fun m=>by cases m);refine av j 1 ac rfl rfl (aq j 0 rfl ac rfl rfl (by simp [Value.oneCell']) fun w' j=>?_);apply bm j 0 ac rfl rfl;exact ⟨_,[],S1,rfl,j.nil,hE,rfl,_,rfl,N⟩
  | some q=>
   obtain ⟨name,J⟩:=q;rw [a0] at B;simp only [] at B;simp only [opV];have a4:=Yx a0;refine al (v:=.string (st name)) rfl (al (v:=ax (J:Int)) rfl ?_);refine ⟨fun b w'=>b=.bool (!decide (di (st name)=((l+1:Nat):Int)))/\Inv w [] [ay b8 bb ab,ay Y (gn D (.slice da D.kids.length dm)) ab] S1 w',?_,?_⟩
   ·refine JX (b:=[]) ?_;rw [aS a4.2.2.2];refine rpG ?_;refine Run.callPure gD gI j (eZ _ S1) fun w' j=>?_;apply dw;refine rpG ?_;exact ⟨rfl,j⟩
   intro a8 _ _ _ _ _ _ _ w';rintro ⟨rfl,j⟩;split at B
   ·rename_i U
    rw [aL U];refine aE (fun m=>by cases m) (fun _=>?_);split at B
    ·cases B
    rename_i r e hr
    have O:=(kj g).1 _ _ _ _ _ _ hr;refine Ke (a:=l+1) (b:=1) rfl rfl (by omega) (by omega) ?_;rw [Nat.add_sub_cancel];refine Run.call0E iC iz j (a1 g (by omega) s J d l r e S1 hr hs (by omega) hd (by omega)) fun v I' S2 w'=>?_;rintro ⟨rfl,es,rfl,a3⟩ M j;obtain ⟨ke,rfl,_,_,_,ea,em,rfl,_⟩:=RdT.iff.1 a3;refine al (v:=.agg _) rfl (al (v:=ax (e:Int)) rfl (aG j aV fun b6 w' j=>?_));refine aq j 2 rfl ac rfl rfl (by simp [Value.oneCell']) fun w' j=>?_;refine gN (by omega) (aE (fun m=>by cases m) (fun _=>?_));refine av j 1 ac rfl rfl (av j 2 ac rfl rfl ?_);refine vu (v:=fun b=>.slice (some ⟨b,0,none⟩) 2 2) (o:=.cells #[ax D.kind,ax D.n,.string D.name,.slice da D.kids.length dm,ax r.kind,ax r.n,.string r.name,.slice ea r.kids.length em] ab) j (by kernel_rfl) fun b7 w' j=>?_;obtain ⟨S3,j,Z,b1⟩:=Inv.pub1 (A:=[_,_,_]) j;have b2:=Vu b1 (RdT.mono (M.1.trans Z.1) N) (RdT.mono Z.1 a3);refine Run.call0E eA eC j (fq (st name) (OG a4.2.2.1) b2 (by simp)) fun v I' S4 w'=>?_;rintro ⟨rfl,gs,rfl,V⟩ a9 j;obtain ⟨kg,rfl,_,_,_,ga,gm,rfl,_⟩:=RdT.iff.1 V;have a5:=((hE.trans M).trans Z).trans a9;refine aq j 1 rfl ac rfl rfl (by simp [Value.oneCell']) fun w' j=>?_;split at B
    ·rename_i b0
     subst b0;simp only [aY,cV] at B;obtain ⟨rfl,rfl⟩:=B;refine iZ rfl (aE (fun _=>?_) (fun m=>by cases m));refine av j 1 ac rfl rfl (aq j 0 rfl ac rfl rfl (by simp [Value.oneCell']) fun w' j=>?_);apply bm j 0 ac rfl rfl;exact ⟨_,[],S4,rfl,j.nil,a5,rfl,_,rfl,V⟩
    ·refine gr (by omega) (aE (fun m=>by cases m) (fun _=>?_));refine ⟨⟨g,e,_,_,S4,by omega,rfl,O.2,B,a5,V,j.pick [true,true,false]⟩,?_⟩;simp only [intOf,dq];omega
   ·rename_i U
    rw [aS U];simp only [aY,cV] at B;obtain ⟨rfl,rfl⟩:=B;refine aE (fun _=>?_) (fun m=>by cases m);refine av j 1 ac rfl rfl (aq j 0 rfl ac rfl rfl (by simp [Value.oneCell']) fun w' j=>?_);apply bm j 0 ac rfl rfl;exact ⟨_,[],S1,rfl,j.nil,hE,rfl,_,rfl,N⟩
theorem Yz:∀ F f,f<F->vd f/\ND f/\AV f
 | 0,f,h=>by omega
 | F+1,f,h=>by
  have a:=Yz F;have hR:vd f:=abC (fun g i=>(a g (by omega)).1) (fun g i=>(a g (by omega)).2.1);have j:AV f:=Zp fun g i=>(a g (by omega)).1;exact ⟨hR,Ys (fun g i=>(a g (by omega)).1) (fun g i=>(a g (by omega)).2.2),j⟩
theorem DC (f:Nat):vd f:=(Yz (f+1) f (by omega)).1
end
end
section
open Go Go.RowKit

def nZ (cs:List Value) (n:Nat):Prop:=cs=[.int .u8 (n:Int)]/\n<256
abbrev rdI (br:Nat) (sl:Value) (p:Nat):Item:=ay br #[sl,ax (p:Int)] Qa
abbrev rdP (br:Nat):Value:=ee br
section
variable {P:Program} {w:World} {K:Value->World->Prop}
theorem Vs {T:TypeId} {f g:Bool} {x y:Int} {a b:Nat} (h:x=a) (i:y=b) (j:0<b) (hk:K (ax ((a % b:Nat):Int)) w):Run P (dH .rem T f g (ax x) (ax y)) w K:=by
 subst h i;exact Vy j hk
theorem Vx {T:TypeId} {f g:Bool} {x y:Int} {a b:Nat} (h:x=a) (i:y=b) (j:0<b) (l:a<=9223372036854775807) (hk:K (ax ((a / b:Nat):Int)) w):Run P (dH .quo T f g (ax x) (ax y)) w K:=by
 subst h i;exact abY j l hk
theorem acA {T:TypeId} {f g:Bool} {x y:Int} {a b:Nat} (h:x=a) (i:y=b) (j:a<4611686018427387904) (l:b<4611686018427387904) (hk:K (ax ((a ^^^ b:Nat):Int)) w):Run P (dH .xor T f g (ax x) (ax y)) w K:=by
 subst h i;exact acT j l hk
end
theorem RdSl.u8 {S:ae} {sl:Value} {ys:List Nat} (h:RdSl S 1 nZ sl ys) (g:0<ys.length):∃ b o cap c E f,sl=eF b o ys.length cap/\S b=some (.cells c E f)/\
  ∀ i,i<ys.length->∃ y:Nat,c[o+i * 1]?=some (.int .u8 (y:Int))/\y<256:=by
 obtain ⟨a,cap,rfl,hl,hc,h⟩:=h;rcases h with rfl|⟨b,o,c,E,f,rfl,q,hR⟩
 ·simp at g
 ·refine ⟨b,o,cap,c,E,f,rfl,q,fun i j=>?_⟩;obtain ⟨l,m⟩:=hR i j;exact ⟨ys[i],aA l 0 _ rfl,m⟩
section
abbrev ac9 (S:ae) (br:Nat) (sl:Value) (p n:Nat):Value->List Item->ae->Prop:=fun v I' S'=>S'=S/\I'=[rdI br sl (p+1)]/\∃ k:Nat,k<n/\v=ax (k:Int)
theorem dU {ys:List Nat} {S:ae} {sl:Value} {br p n:Nat} (h:RdSl S 1 nZ sl ys) (hp:p<=1000000000000) (hn:0<n):kt Jw [rdP br,ax (n:Int)] [rdI br sl p] S (ac9 S br sl p n):=by
 intro w g;apply tH.2;dsimp only[tH,bl];obtain ⟨X,hX⟩:∃ X,X=bS [rdI br sl p]:=⟨_,rfl⟩
 rw [<- hX] at g ⊢;have c6:∃ a m cap,sl=.slice a m cap/\m=ys.length:=by
  obtain ⟨a,cap,e,_⟩:=h;exact ⟨a,_,cap,e,rfl⟩
 apply aH;refine ah wN (aD g 0 aw rfl rfl (bA (by omega) (aH (ah wN (dD g 0 (n:=1) rfl (by decide +kernel) rfl (by simp) (by simp [Value.cells,Value.oneCell']) fun w' g=>?_)))));have g:Inv w X [rdI br sl (p+1)] S w':=g;have hN:∃ N:Nat,N=ys.length:=⟨_,rfl⟩
 refine ⟨fun t w'=>t=.bool (decide (ys.length=0))/\Inv w X [rdI br sl (p+1)] S w',?_,?_⟩
 ·refine gN (by omega) (Tj (fun _=>?_) (fun hb=>by simp at hb));refine aH (ah ir (aD g 0 kT rfl rfl (aI h fW (bn (zp ?_)))));refine ⟨?_,g⟩;simp
 intro c3 _ _ _ _ _ _ _ _ _ w';rintro ⟨rfl,g⟩;refine aJ (fun _=>⟨_,_,_,rfl,g,Ext.refl _ _ _,rfl,rfl,0,hn,rfl⟩) (fun r=>?_);have r:0<ys.length:=by omega
 obtain ⟨b,o,cap,c,E,fz,rfl,hS,hc⟩:=h.u8 r;refine aH (ah wN (aD g 0 aw rfl rfl (je (by omega) ?_)));have ep:((p+1:Nat):Int) - 1=(p:Int):=by omega
 rw [ep];refine aH (ah ir (aD g 0 kT rfl rfl (fJ fW (bM (aJ (fun c4=>?_) (fun _=>?_))))))
 ·have l:p<ys.length:=by omega
  obtain ⟨y,hy,b9⟩:=hc p l;apply aH;refine ah ir (aD g 0 kT rfl rfl (az fW l (cS HZ ((g.cellS hS).trans hy) (vK jd gO (IntWalk.i64_in _ (by omega)) (Vy hn ?_)))));exact ⟨_,_,_,rfl,g,Ext.refl _ _ _,rfl,rfl,y % n,wG _ hn,rfl⟩
 ·obtain ⟨B,M⟩:∃ B,B=p % ys.length:=⟨_,rfl⟩
  obtain ⟨G,O⟩:∃ G,G=(p * 7+3) % ys.length:=⟨_,rfl⟩
  obtain ⟨q,U⟩:∃ q,q=p / ys.length:=⟨_,rfl⟩
  have b7:B<ys.length:=by rw [M];exact wG _ r
  have b8:G<ys.length:=by rw [O];exact wG _ r
  have hq:q<=p:=by rw [U];exact Nat.div_le_self ..
  obtain ⟨i,c0,c5⟩:=hc B b7;obtain ⟨j,c1,b9⟩:=hc G b8
  skip
  refine ⟨fun D x6 FU FS xB wx xD wV yn xL yr AF xA yf Ar ze ud Bw Eg D5 Fw EV FF DD Hm Sd YD X9 MQ Me z5 xN yU xj xH vC uk uB sT uv qW nh s6 tV rf qp lL w_=>Fx D 0 [lL=ee br,qp=ee br,rf=ee br,tV=eF b o ys.length cap,s6=ax (p:Int),nh=ee br,qW=ee br,uv=ee br,sT=eF b o ys.length cap,uB=ax (ys.length:Int),uk=ax (((B:Nat):Int)),vC=eu b (o+B * 1),xH=.int .u8 ((i:Nat):Int),xj=ax (((i:Nat):Int)),yU=ax ((((i:Nat):Int) * 131)),xN=ee br,z5=ee br,Me=ee br,MQ=eF b o ys.length cap,X9=ax (p:Int),YD=ax (((p:Int) * 7)),Sd=ax ((((p:Int) * 7)+3)),Hm=ee br,DD=ee br,FF=ee br,EV=eF b o ys.length cap,Fw=ax (ys.length:Int),D5=ax (((G:Nat):Int)),Eg=eu b (o+G * 1),Bw=.int .u8 ((j:Nat):Int),ud=ax (((j:Nat):Int)),ze=ax ((((j:Nat):Int) * 1117)),Ar=ax (((((i:Nat):Int) * 131)+(((j:Nat):Int) * 1117))),yf=ax (p:Int),xA=ax (((p:Int) * 29)),AF=ax ((((((i:Nat):Int) * 131)+(((j:Nat):Int) * 1117))+((p:Int) * 29))),yr=ax (p:Int),xL=ee br,yn=ee br,wV=ee br,xD=eF b o ys.length cap,wx=ax (ys.length:Int),xB=ax (((q:Nat):Int)),FS=ax ((((q:Nat):Int) * 53)),FU=ax (((((((i:Nat):Int) * 131)+(((j:Nat):Int) * 1117))+((p:Int) * 29))+(((q:Nat):Int) * 53))),x6=ax (((((((i:Nat):Int) * 131)+(((j:Nat):Int) * 1117))+((p:Int) * 29))+(((q:Nat):Int) * 53)))]/\Inv w X [rdI br (eF b o ys.length cap) (p+1)] S w_,⟨Fx.nil _ _,g.draw⟩,⟨?_,?_,?_,?_,?_,?_,?_,?_,?_,?_,?_,?_,?_,?_,?_,?_,?_,?_,?_,?_,?_,?_,?_,?_,?_,?_,?_,?_,?_,?_,?_,?_,?_,?_,?_,?_,?_,?_,?_,?_,?_,?_,?_,?_,?_,?_,trivial⟩,?_⟩;all_goals (intro D bw;intros;rename_i x6 FU FS xB wx xD wV yn xL yr AF xA yf Ar ze ud Bw Eg D5 Fw EV FF DD Hm Sd YD X9 MQ Me z5 xN yU xj xH vC uk uB sT uv qW nh s6 tV rf qp lL w_ J;have f:=J.1;obtain ⟨⟨co,cn,bP,cj,cA,bQ,bO,cM,de,dv,bU,cC,cY,dK,dd,ek,eH,fl,gZ,fI,iI,jU,pw,sP,P7,V,Y,Z,a0,a1,a2,a3,a4,a5,a6,a7,a8,a9,b0,b1,b2,b3,b4,b5,b6,c2,_⟩,g⟩:=J)
  rotate_left;obtain rfl:=co ‹_›;apply aH;rotate_left
  obtain rfl:=cn ‹_›;apply ah ir;rotate_left
  obtain rfl:=bP ‹_›;apply aD g 0 kT rfl rfl;rotate_left;rotate_left;rotate_left
  obtain rfl:=bQ ‹_›;apply aH;rotate_left
  obtain rfl:=bO ‹_›;apply ah ir;rotate_left
  obtain rfl:=cM ‹_›;apply aD g 0 kT rfl rfl;rotate_left
  obtain rfl:=de ‹_›;apply fJ fW;rotate_left
  obtain rfl:=cA ‹_›;obtain rfl:=dv ‹_›;refine Vs (a:=p) (b:=ys.length) (by omega) rfl r ?_;rw [<- M];rotate_left
  obtain rfl:=cj ‹_›;obtain rfl:=bU ‹_›;apply az fW b7;rotate_left
  obtain rfl:=cC ‹_›;refine cS HZ ((g.cellS hS).trans c0) ?_;rotate_left
  obtain rfl:=cY ‹_›;refine vK jd gO (IntWalk.i64_in _ (by omega)) ?_;rotate_left
  obtain rfl:=dK ‹_›;refine Fe (by omega) ?_;rotate_left;rotate_left
  obtain rfl:=ek ‹_›;apply aH;rotate_left
  obtain rfl:=eH ‹_›;apply ah ir;rotate_left
  obtain rfl:=fl ‹_›;apply aD g 0 kT rfl rfl;rotate_left;rotate_left
  obtain rfl:=fI ‹_›;refine Fe (by omega) ?_;rotate_left
  obtain rfl:=iI ‹_›;refine bA (by omega) ?_;rotate_left;rotate_left
  obtain rfl:=pw ‹_›;apply aH;rotate_left
  obtain rfl:=sP ‹_›;apply ah ir;rotate_left
  obtain rfl:=P7 ‹_›;apply aD g 0 kT rfl rfl;rotate_left
  obtain rfl:=V ‹_›;apply fJ fW;rotate_left
  obtain rfl:=jU ‹_›;obtain rfl:=Y ‹_›;refine Vs (a:=p * 7+3) (b:=ys.length) (by omega) rfl r ?_;rw [<- O];rotate_left
  obtain rfl:=gZ ‹_›;obtain rfl:=Z ‹_›;apply az fW b8;rotate_left
  obtain rfl:=a0 ‹_›;refine cS HZ ((g.cellS hS).trans c1) ?_;rotate_left
  obtain rfl:=a1 ‹_›;refine vK jd gO (IntWalk.i64_in _ (by omega)) ?_;rotate_left
  obtain rfl:=a2 ‹_›;refine Fe (by omega) ?_;rotate_left
  obtain rfl:=dd ‹_›;obtain rfl:=a3 ‹_›;refine bA (by omega) ?_;rotate_left;rotate_left
  obtain rfl:=a5 ‹_›;refine Fe (by omega) ?_;rotate_left
  obtain rfl:=a4 ‹_›;obtain rfl:=a6 ‹_›;refine bA (by omega) ?_;rotate_left;rotate_left;rotate_left
  obtain rfl:=a9 ‹_›;apply aH;rotate_left
  obtain rfl:=b0 ‹_›;apply ah ir;rotate_left
  obtain rfl:=b1 ‹_›;apply aD g 0 kT rfl rfl;rotate_left
  obtain rfl:=b2 ‹_›;apply fJ fW;rotate_left
  obtain rfl:=a8 ‹_›;obtain rfl:=b3 ‹_›;refine Vx (a:=p) (b:=ys.length) rfl rfl r (by omega) ?_;rw [<- U];rotate_left
  obtain rfl:=b4 ‹_›;refine Fe (by omega) ?_;rotate_left
  obtain rfl:=a7 ‹_›;obtain rfl:=b5 ‹_›;refine bA (by omega) ?_;rotate_left
  obtain rfl:=b6 ‹_›;rotate_left
  all_goals try exact ⟨f.set _ (by first|rfl|assumption|trivial),g⟩
  obtain ⟨rfl,rfl,rfl,rfl,rfl,rfl,rfl,rfl,rfl,rfl,rfl,rfl,rfl,rfl,rfl,rfl,rfl,rfl,rfl,rfl,rfl,rfl,rfl,rfl,rfl,rfl,rfl,rfl,rfl,rfl,rfl,rfl,rfl,rfl,rfl,rfl,rfl,rfl,rfl,rfl,rfl,rfl,rfl,rfl,rfl,rfl,_⟩:=f.all;clear f co cn bP cj cA bQ bO cM de dv bU cC cY dK dd ek eH fl gZ fI iI jU pw sP P7 V Y Z a0 a1 a2 a3 a4 a5 a6 a7 a8 a9 b0 b1 b2 b3 b4 b5 b6 c2;obtain ⟨x,hx⟩:∃ x:Nat,((((((i:Nat):Int) * 131)+(((j:Nat):Int) * 1117))+((p:Int) * 29))+(((q:Nat):Int) * 53))=(x:Int):=⟨(((((((i:Nat):Int) * 131)+(((j:Nat):Int) * 1117))+((p:Int) * 29))+(((q:Nat):Int) * 53))).toNat,by omega⟩
  have c7:x<=10000000000000000:=by omega
  rw [hx];refine Vx (a:=x) (b:=64) rfl rfl (by omega) (by omega) (acA (a:=x) (b:=x / 64) rfl rfl (by omega) (by omega) (Vy hn ?_));exact ⟨_,_,_,rfl,g,Ext.refl _ _ _,rfl,rfl,_,wG _ hn,rfl⟩
theorem mv {ys:List Nat} {ns:List Int} {S:ae} {sl v:Value} {br p:Nat} (h:RdSl S 1 nZ sl ys) (f:RdSl S 1 gW v ns) (g:0<ns.length) (i:p<=1000000000000) :
  kt KV [rdP br,v] [rdI br sl p] S fun r I' S'=>S'=S/\I'=[rdI br sl (p+1)]/\∃ n∈ns,r=ax n:=by
 intro w a;apply wI.2;dsimp only[wI,bl];refine aI f cU (Run.call (A:=[]) cG cH a (dU h i g) fun l I' S' w'=>?_);rintro ⟨rfl,rfl,k,hk,rfl⟩ _ a;obtain ⟨b,o,cap,c,E,m,rfl,j,hR⟩:=f.at_ hk;refine az cU hk (cS aw ((a.cellS j).trans (aA hR 0 _ rfl)) ?_);exact ⟨_,_,_,rfl,a,Ext.refl _ _ _,rfl,rfl,_,bJ hk,rfl⟩
theorem Cn {ys:List Nat} {ns:List ByteArray} {S:ae} {sl v:Value} {br p:Nat} (h:RdSl S 1 nZ sl ys) (f:RdSl S 1 rp v ns) (g:0<ns.length) (i:p<=1000000000000) :
  kt Pe [rdP br,v] [rdI br sl p] S fun r I' S'=>S'=S/\I'=[rdI br sl (p+1)]/\∃ n∈ns,r=.string n:=by
 intro w a;apply yb.2;dsimp only[yb,bl];refine aI f cZ (Run.call (A:=[]) cG cH a (dU h i g) fun l I' S' w'=>?_);rintro ⟨rfl,rfl,k,hk,rfl⟩ _ a;obtain ⟨b,o,cap,c,E,m,rfl,j,hR⟩:=f.at_ hk;refine az cZ hk (cS aP ((a.cellS j).trans (aA hR 0 _ rfl)) ?_);exact ⟨_,_,_,rfl,a,Ext.refl _ _ _,rfl,rfl,_,bJ hk,rfl⟩
theorem TG {ys:List Nat} {S:ae} {v:Value} (h:RdSl S 1 nZ v ys) :
  kt SG [v] [] S fun r I' S'=>S'=S/\∃ br sl f,r=rdP br/\I'=[rdI br sl 0]/\RdSl S 1 nZ sl f:=by
 intro w g;apply Bl.2;dsimp only[Bl,aR];refine ⟨fun t w'=>(∃ f,RdSl S 1 nZ t f)/\Inv w [] [] S w',?_,?_⟩
 ·refine aI h fW (ew ?_);refine aJ (fun j=>?_) (fun _=>⟨⟨_,h⟩,g⟩);obtain ⟨a,cap,rfl,hl,hc,m⟩:=id h;refine Jt (h:=2000) fW (by omega) ?_;exact ⟨⟨_,RdSl.to h (by omega)⟩,g⟩
 intro l _ _ _ _ _ w';rintro ⟨⟨f,i⟩,g⟩;obtain ⟨a,cap,rfl,_⟩:=id i;refine Run.of (v:=.agg #[.slice a f.length cap,ax 0]) (w':=w') ?_ ?_
 ·unfold bZ;rw [Sem.run_bind,run_build w' Qa _ #[.slice a f.length cap,ax 0] (by kernel_rfl),Result.andThen_ok];rfl
 refine bq g fun br w' g=>?_;exact ⟨_,_,_,rfl,g,Ext.refl _ _ _,rfl,br,_,f,rfl,rfl,i⟩
end
end
end Go.Proofs.YtellfcpffcipcaaGreatDoor
