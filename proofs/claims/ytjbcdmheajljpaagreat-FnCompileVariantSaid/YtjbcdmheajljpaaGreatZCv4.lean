/- Texts read: spec.l1Struct, l1Chain, l2Read, l2Prime, l2Terms, l2Items. (printed by gen_read.py) -/
import Derived.Test.YtjbcdmheajljpaaGreatZCv3
namespace Go.Proofs.YtjbcdmheajljpaaGreat
section
open Go Go.RowKit
theorem H3 {s:Bs} {i e:Nat} {t:T} (hn:Gb s i=some (t,e)):i<e/\e<=s.length:=by
 unfold Gb at hn;obtain ⟨a,g⟩:∃ a,a=if sgn s i 45=true then i+1 else i:=⟨_,rfl⟩
 simp only [<- g] at hn;have j:=yN s 4 a;have l:i<=a/\a<=i+1:=by rw [g]; split <;> omega
 split at hn
 ·cases hn
 rename_i hc
 simp only [not_or] at hc;simp only [a9,cO] at hn;obtain ⟨_,rfl⟩:=hn;have m:a<mq s 4 a:=by
  rcases yY a (mq s 4 a) with h|h
  ·exact h
  ·refine absurd ?_ hc.1;rw [cut,tC];rw [mL];omega
 have:=tM (oL s 4 a (mq s 4 a - 1) (by omega) (by omega));omega
theorem fy:∀ f:Nat,(∀ s i d l t n,gA f s i d l=some (t,n)->i<n/\n<=s.length)/\(∀ s i d l G t n,zL f s i d l G=some (t,n)->i<=s.length->i<=n/\n<=s.length)/\
  (∀ s i d t n,nL f s i d=some (t,n)->i<n/\n<=s.length)/\(∀ s i d e o j q n,fL f s i d e o j=some (q,n)->i<n/\n<s.length)
 | 0=>⟨fun s i d l t n h=>by simp [gA] at h,fun s i d l G t n h=>by simp [zL] at h,fun s i d t n h=>by simp [nL] at h,fun s i d e o j q n h=>by simp [fL] at h⟩
 | f+1=>by
  obtain ⟨u,N,U,J⟩:=fy f;refine ⟨fun s i d l t n h=>?_,fun s i d l G t n h Y=>?_,fun s i d t n h=>?_,fun s i d e o j q n h=>?_⟩
  ·cases l with
   | zero=>rw [gA] at h; exact U _ _ _ _ _ h
   | succ l=>
    rw [gA] at h;split at h
    ·cases h
    ·rename_i B m g
     have a:=u _ _ _ _ _ _ g;have b:=N _ _ _ _ _ _ _ h a.2;omega
  ·rw [zL] at h;split at h
   ·simp only [a9,cO] at h;omega
   ·rename_i name C O
    have a:=F7 O;split at h
    ·split at h
     ·cases h
     ·rename_i r e g
      have b:=u _ _ _ _ _ _ g;split at h
      ·simp only [a9,cO] at h;omega
      ·have c:=N _ _ _ _ _ _ _ h b.2;omega
    ·simp only [a9,cO] at h;omega
  ·rw [nL] at h;split at h
   ·cases h
   rename_i M
   have M:i<s.length:=by omega
   split at h
   ·split at h
    ·cases h
    ·rename_i B m g
     have a:=u _ _ _ _ _ _ g;split at h
     ·rename_i p
      have:=fR p;simp only [a9,cO] at h;omega
     ·cases h
   ·split at h
    ·split at h
     ·cases h
     ·rename_i q m g
      have a:=J _ _ _ _ _ _ _ _ g;split at h
      ·simp only [a9,cO] at h;omega
      ·split at h
       ·cases h
       ·rename_i B e D
        have b:=u _ _ _ _ _ _ D;split at h
        ·rename_i p
         have:=fR p;simp only [a9,cO] at h;omega
        ·cases h
    ·split at h
     ·simp only [a9,cO] at h;omega
     ·split at h
      ·exact H3 h
      ·split at h
       ·cases h
       ·rename_i name m hn
        have a:=oC M hn;split at h
        ·simp only [a9,cO] at h;omega
        ·split at h
         ·cases h
         ·rename_i q e g
          have b:=J _ _ _ _ _ _ _ _ g;simp only [a9,cO] at h;omega
  ·rw [fL] at h;split at h
   ·cases h
   ·rename_i B m g
    have a:=u _ _ _ _ _ _ g;split at h
    ·rename_i p
     have V:m<s.length:=p.elim fR fR;simp only [a9,cO] at h;omega
    ·split at h
     ·have b:=J _ _ _ _ _ _ _ _ h;omega
     ·cases h
abbrev Ki (t:T):Value->List Item->af->Prop:=fun v I' S'=>I'=[]/\∃ cs,v=.agg cs.toArray/\RdT S' cs t
abbrev G2 (t:T) (n:Nat):Value->List Item->af->Prop:=fun v I' S'=>I'=[]/\∃ cs,v=.tuple #[.agg cs.toArray,.int .i64 (n:Int)]/\RdT S' cs t
abbrev Il (ts:List T) (n:Nat):Value->List Item->af->Prop:=fun v I' S'=>I'=[]/\∃ u,v=.tuple #[u,.int .i64 (n:Int)]/\RdSl S' 4 (RdT S') u ts
theorem kE (S:af):RdSl S 4 (RdT S) (.slice none 0 0) []:=⟨none,0,rfl,a7 _,aQ _,.inl rfl⟩
theorem yL {S:af} {b:Nat} {E:TypeId} {a c:T} {g h j l:Int} {m o:ByteArray} {v1 v2:Value} (p:S b=some (.cells #[.int .i64 g,.int .i64 h,.string m,v1,.int .i64 j,.int .i64 l,.string o,v2] E))
  (q:RdT S [.int .i64 g,.int .i64 h,.string m,v1] a) (r:RdT S [.int .i64 j,.int .i64 l,.string o,v2] c):RdSl S 4 (RdT S) (.slice (some ⟨b,0,none⟩) 2 2) [a,c]:=by
 refine ⟨_,2,rfl,a7 _,by simp [maxLen],.inr ⟨b,0,_,E,(0,0),rfl,p,fun i t=>?_⟩⟩
 match i,t with
 | 0,_=>exact q
 | 1,_=>exact r
section
variable {w w0:World} {X:List Nat} {L:List Item} {S:af} {K:Value->World->Prop}
attribute [local irreducible] Run CondV aw aI
theorem dN {P:Program} {T:TypeId} {g h:Bool} {x y:Int} {a b:Nat} (i:x=a) (j:y=b) (l:a+b<=1000000000000000) (hk:K (.int .i64 ((a+b:Nat):Int)) w):Run P (cw .add T g h (.int .i64 x) (.int .i64 y)) w K:=by
 subst i j;refine bz (by omega) ?_;rw [<- Int.natCast_add];exact hk
theorem ux {P:Program} {T:TypeId} {h i:Bool} {x y:Int} {a b:Nat} (j:x=a) (l:y=b) (g:b<=a) (m:a<=1000000000000000) (hk:K (.int .i64 ((a - b:Nat):Int)) w):Run P (cw .sub T h i (.int .i64 x) (.int .i64 y)) w K:=by
 subst j l;refine ld (by omega) ?_;rw [<- Int.ofNat_sub g];exact hk
theorem mN {s:ByteArray} {v:Value} (a:∃ p n m,v=.slice p n m) (hk:K (.agg #[.int .i64 3,.int .i64 0,.string s,v]) w):Run Tryz.prog (bP ac [(0,.int .i64 3),(2,.string s),(3,v)]) w K:=by
 obtain ⟨p,n,m,rfl⟩:=a;refine Run.of (v:=.agg #[.int .i64 3,.int .i64 0,.string s,.slice p n m]) (w':=w) ?_ hk;unfold bP;rw [Sem.run_bind,run_build w ac _ #[.int .i64 3,.int .i64 0,.string s,.slice p n m] (by kernel_rfl),Result.andThen_ok];rfl
theorem nU (s:ByteArray) {j:List T} {u:Value} (h:RdSl S 4 (RdT S) u j) (hk:j.length<=1000000):Tri Tryz.prog pG [.string s,u] [] S fun v I' S'=>S'=S/\∃ kv css,v=.agg #[.int .i64 3,.int .i64 0,.string s,kv]/\I'=[ax kv ac 4 css]/\Rows 4 (RdT S) css j:=by
 intro w g;refine mQ.2 ?_;dsimp only[mQ,a6];refine aF g aZ fun l w' g=>?_;refine ey g bw fun v0 w' g=>?_;have g:Inv w [] [.blk l (.cells #[.int .i64 0,.int .i64 0,.string ⟨#[]⟩,.slice none 0 0] ac),ax v0 ac 4 []] S w':=g;refine gq g 1 (css:=[]) bw (by omega) rfl h (fun _ _=>RdT.length) (fun _ _=>RdT.one) (by simp; omega) (by omega) fun m w' i hR g=>?_;have g:Inv w [] [.blk l (.cells #[.int .i64 0,.int .i64 0,.string ⟨#[]⟩,.slice none 0 0] ac),ax m ac 4 i] S w':=g;obtain ⟨a,n,c,rfl⟩:=g.rowSlice 1 rfl;refine mN ⟨_,_,_,rfl⟩ ?_;refine al g 0 rfl ad rfl rfl (by simp [Value.oneCell']) fun w' g=>?_;refine a5 g 0 ad rfl rfl ?_;exact ⟨_,_,_,rfl,g.sub (jz _ _),Ext.refl _ _ _,rfl,_,i,rfl,rfl,hR⟩
theorem db (s:ByteArray) (m:s.size<=maxLen) {i:List T} {u:Value} (h:RdSl S 4 (RdT S) u i) (hk:i.length<=1000000):Tri Tryz.prog pG [.string s,u] [] S (Ki (.mk 3 0 s i)):=by
 intro w a;refine (nU s h hk w a).mono ?_;rintro e w' ⟨v,I',S',rfl,a,o,rfl,kv,css,rfl,rfl,hR⟩;obtain ⟨S1,g,j,a⟩:=Inv.lendExt (A:=[]) a;have l:=RowRd.rows (hR.monoR fun _ _ h=>RdT.mono g.1 h) j;exact ⟨_,[],S1,rfl,a,o.trans g,rfl,[.int .i64 3,.int .i64 0,.string s,kv],rfl,RdT.iff.2 ⟨kv,rfl,by simp [inI,T.kind],by simp [inI,T.n],m,l⟩⟩
theorem CQ {a:List T} {j:Nat} (h:j<a.length) (t:T):gk (a.drop j) t=AO a[j] (gk (a.drop (j+1)) t):=by
 rw [dr h,gk]
theorem mZ {V:List T} {t:T} {u:Value} {cs:List Value} (h:RdSl S 4 (RdT S) u V) (ht:RdT S cs t) (hl:V.length<=1000000):Tri Tryz.prog zZ [u,.agg cs.toArray] [] S (Ki (gk V t)):=by
 intro w g;obtain ⟨kv,rfl,g1,g2,g3,g4⟩:=RdT.iff.1 ht;obtain ⟨ka,kn,kc,b1⟩:∃ a n m,kv=.slice a n m:=by
  obtain ⟨a,m,e,_⟩:=g4;exact ⟨_,_,_,e⟩
 refine pM.2 ?_;dsimp only[pM,a6];refine bB g fun b3 w' g=>?_;refine aF g aZ fun b4 w' g=>?_;refine au g 0 ad rfl rfl ?_;refine aF g aZ fun b5 w' g=>?_;refine al g 2 rfl ad rfl rfl (by simp [Value.oneCell',Value.cells,b1]) fun w' g=>?_;refine aL h ao ?_;refine ld (by omega) ?_;obtain ⟨B3,b2⟩:∃ B3,B3=Item.blk b3 (.cells #[.int .i64 t.kind,.int .i64 t.n,.string t.name,kv] ac):=⟨_,rfl⟩
 have g:Inv w [] [B3,.blk b4 (.cells #[.int .i64 0,.int .i64 0,.string ⟨#[]⟩,.slice none 0 0] ac),.blk b5 (.cells #[.int .i64 t.kind,.int .i64 t.n,.string t.name,kv] ac)] S w':=by rw [b2]; exact g
 refine ⟨fun i w'=>∃ (j:Nat) (S1:af) (ds:List Value),j<=V.length/\i=.int .i64 ((j:Int) - 1)/\Ext w.heap.size [] S S1/\RdT S1 ds (gk (V.drop j) t)/\Inv w [] [B3,.blk b4 (.cells #[.int .i64 0,.int .i64 0,.string ⟨#[]⟩,.slice none 0 0] ac),.blk b5 (.cells ds.toArray ac)] S1 w',
  fun i _=>(intOf i+1).toNat,⟨V.length,S,_,a7 _,rfl,Ext.refl _ _ _,by rw [dV]; exact ht,g⟩,?_⟩
 intro t6 _ _ c1 c2 c3 c5 c7 d0 d1 _ _ w';rintro ⟨j,S1,ds,hj,rfl,hE,O,g⟩;by_cases b9:j=0
 ·subst b9;refine qR (by omega) ?_;refine aE (fun hb=>by cases hb) (fun _=>?_);obtain ⟨d3,rfl,_,_,_,a,m,rfl,_⟩:=RdT.iff.1 O;refine au g 2 ad rfl rfl ?_;refine al g 1 rfl ad rfl rfl (by simp [Value.oneCell']) fun w' g=>?_;refine a5 g 1 ad rfl rfl ?_;exact ⟨_,_,_,rfl,g.nil,hE,rfl,_,rfl,O⟩
 ·refine ku (by omega) ?_;refine aE (fun _=>?_) (fun hb=>by cases hb);obtain ⟨m,rfl⟩:∃ m,j=m+1:=⟨j - 1,by omega⟩
  have hm:m<V.length:=by omega
  have ej:((m+1:Nat):Int) - 1=(m:Int):=by omega
  rw [ej];obtain ⟨b,o,cap,c,E,fz,rfl,hS,hR⟩:=(h.monoT hE.1).at_ hm;obtain ⟨d4,a0,_,_,_,aa,am,a3,_⟩:=RdT.iff.1 hR;subst a3;obtain ⟨kd,rfl,_,_,_,da,dm,rfl,_⟩:=RdT.iff.1 O;obtain ⟨p,a4⟩:∃ p,p=gk (V.drop (m+1)) t:=⟨_,rfl⟩
  rw [<- a4] at O g;obtain ⟨q,a8⟩:∃ q,q=V[m]:=⟨_,rfl⟩
  rw [<- a8] at hR a0
  skip
  refine ⟨fun D qB mc sG D7 te Ds Is w_=>Fx D 0 [Is=.slice (some ⟨b,o,none⟩) V.length cap,Ds=.int .i64 (m:Int),te=.pointer (some ⟨b,o+m * 4,none⟩),D7=.agg #[.int .i64 q.kind,.int .i64 q.n,.string q.name,.slice aa q.kids.length am],sG=.agg #[.int .i64 p.kind,.int .i64 p.n,.string p.name,.slice da p.kids.length dm],True,True,True]/\∃ S2 r,Ext w.heap.size [] S1 S2/\(D 5=true->RdSl S2 4 (RdT S2) mc [q,p])/\(D 6=true->qB=.agg r.toArray/\RdT S2 r (AO q p))/\(D 7=true->D 6=true)/\(D 6=true->D 5=true)/\(D 5=true->D 4=true)/\Inv w [] [B3,.blk b4 (.cells #[.int .i64 0,.int .i64 0,.string ⟨#[]⟩,.slice none 0 0] ac),.blk b5 (.cells (match D 7 with|true=>r.toArray|false=>#[.int .i64 p.kind,.int .i64 p.n,.string p.name,.slice da p.kids.length dm]) ac)] S2 w_,⟨Fx.nil _ _,⟨S1,[],Ext.refl _ _ _,aP,aP,aP,aP,aP,g.draw⟩⟩,⟨?_,?_,?_,?_,?_,?_,?_,?_,trivial⟩,?_⟩;all_goals (intro D Z; intros; rename_i qB mc sG D7 te Ds Is w_ a2; have B:=a2.1; obtain ⟨⟨c9,cX,cZ,c4,cY,c8,cB,df,_⟩,⟨S2,r,l,J,M,G,N,U,g⟩⟩:=a2)
  ·exact ⟨B.set 0 rfl,⟨S2,r,l,J,M,G,N,U,g⟩⟩
  ·exact ⟨B.set 1 rfl,⟨S2,r,l,J,M,G,N,U,g⟩⟩
  ·obtain rfl:=c9 ‹_›;obtain rfl:=cX ‹_›;refine aN ao hm ?_;exact ⟨B.set 2 rfl,⟨S2,r,l,J,M,G,N,U,g⟩⟩
  ·obtain rfl:=cZ ‹_›;refine dC (cs:=[.int .i64 q.kind,.int .i64 q.n,.string q.name,.slice aa q.kids.length am]) ad rfl (fun j v hj=>by rw [g.cellS (l.1 _ _ hS)]; exact aX a0 j v hj) ?_;exact ⟨B.set 3 rfl,⟨S2,r,l,J,M,G,N,U,g⟩⟩
  ·have f5:D 5=false:=bS.2 fun h=>by rw [U h] at Z; cases Z
   have f6:D 6=false:=bS.2 fun h=>by rw [N h] at f5; cases f5
   have f7:D 7=false:=bS.2 fun h=>by rw [G h] at f6; cases f6
   have b7:=g;rw [f7] at g;refine au g 2 ad rfl rfl ?_;have g:=b7;have U:=fun (_:aB D 4 5=true)=>(rfl:aB D 4 4=true)
   exact ⟨B.set 4 rfl,⟨S2,r,l,J,M,G,N,U,g⟩⟩
  ·obtain rfl:=c4 ‹_›;obtain rfl:=cY ‹_›;have f6:D 6=false:=bS.2 fun h=>by rw [N h] at Z; cases Z
   have f7:D 7=false:=bS.2 fun h=>by rw [G h] at f6; cases f6
   rw [f7] at g;refine l0 (v:=fun b=>.slice (some ⟨b,0,none⟩) 2 2) (o:=.cells #[.int .i64 q.kind,.int .i64 q.n,.string q.name,.slice aa q.kids.length am,.int .i64 p.kind,.int .i64 p.n,.string p.name,.slice da p.kids.length dm] ac) g (by kernel_rfl) fun d2 w_ g=>?_;obtain ⟨S2,g,Y,b6⟩:=Inv.pub1 (A:=[_,_,_]) g;have l:=l.trans Y;have b8:RdT S2 [.int .i64 q.kind,.int .i64 q.n,.string q.name,.slice aa q.kids.length am] q:=by
    have:=RdT.mono l.1 hR
    rwa [a0] at this
   have J:=fun (_:aB D 5 5=true)=>yL b6 b8 (RdT.mono l.1 O);have M:=fun (h:D 6=true)=>(absurd h (by rw [f6]; decide):qB=.agg r.toArray/\RdT S2 r (AO q p))
   have N:=fun (_:aB D 5 6=true)=>(rfl:aB D 5 5=true)
   have U:=fun (_:aB D 5 5=true)=>‹D 4=true›;have g:Inv w [] [B3,.blk b4 (.cells #[.int .i64 0,.int .i64 0,.string ⟨#[]⟩,.slice none 0 0] ac),.blk b5 (.cells (match D 7 with|true=>r.toArray|false=>#[.int .i64 p.kind,.int .i64 p.n,.string p.name,.slice da p.kids.length dm]) ac)] S2 w_:=by
    rw [f7];exact g
   exact ⟨B.set 5 (by first|assumption|trivial),⟨S2,r,l,J,M,G,N,U,g⟩⟩
  ·have FU:=c8 ‹_›;have f7:D 7=false:=bS.2 fun h=>by rw [G h] at Z; cases Z
   rw [f7] at g;refine Run.call0E cJ cI g (db ⟨#[46]⟩ (by decide +kernel) (J ‹D 5=true›) (by simp)) fun v' I' S2 w_=>?_;rintro ⟨rfl,r,rfl,C⟩ Y g;have l:=l.trans Y;have J:=fun (h:D 5=true)=>(J h).monoT Y.1;have M:aB D 6 6=true->Value.agg r.toArray=Value.agg r.toArray/\RdT S2 r (AO q p):=fun _=>⟨rfl,C⟩
   have G:=fun (_:aB D 6 7=true)=>(rfl:aB D 6 6=true)
   have N:=fun (_:aB D 6 6=true)=>‹D 5=true›;have g:Inv w [] [B3,.blk b4 (.cells #[.int .i64 0,.int .i64 0,.string ⟨#[]⟩,.slice none 0 0] ac),.blk b5 (.cells (match D 7 with|true=>r.toArray|false=>#[.int .i64 p.kind,.int .i64 p.n,.string p.name,.slice da p.kids.length dm]) ac)] S2 w_:=by
    rw [f7];exact g
   exact ⟨B.set 6 (by first|assumption|trivial),⟨S2,r,l,J,M,G,N,U,g⟩⟩
  ·have zK:=cB ‹_›;obtain ⟨q6,C⟩:=M ‹D 6=true›;subst q6;rw [Z] at g;have a9:=C.one;have b0:=C.length;refine al g 2 rfl ad (by simpa using b0) rfl (by simpa using a9) fun w_ g=>?_;have G:=fun (_:aB D 7 7=true)=>‹D 6=true›;exact ⟨B.set 7 trivial,⟨S2,r,l,J,M,G,N,U,g⟩⟩
  obtain ⟨rfl,rfl,rfl,rfl,rfl,FU,zK,_,_⟩:=B.all;have JF:D 6=true:=by assumption
  have sW:D 7=true:=by assumption
  clear B c9 cX cZ c4 cY c8 cB df;rw [sW] at g;obtain ⟨_,C⟩:=M JF;refine ld (by omega) ?_;refine ⟨⟨m,S2,r,by omega,rfl,hE.trans l,?_,g⟩,by simp [intOf]⟩;rw [CQ hm,<- a8,<- a4];exact C
end
def l3 (f:Nat):Prop:=∀ (s:Bs) (i d l:Nat) (t:T) (n:Nat) (S:af),gA f s i d l=some (t,n)->s.length<=100000->i<=s.length->d<=100->l<=3->
 Tri Tryz.prog CK [.string (st s),.int .i64 (i:Int),.int .i64 (d:Int),.int .i64 (l:Int)] [] S (G2 t n)
def yo (f:Nat):Prop:=∀ (s:Bs) (i d:Nat) (t:T) (n:Nat) (S:af),nL f s i d=some (t,n)->s.length<=100000->i<=s.length->d<=100->
 Tri Tryz.prog zO [.string (st s),.int .i64 (i:Int),.int .i64 (d:Int)] [] S (G2 t n)
def pp (f:Nat):Prop:=∀ (s:Bs) (i d e o:Nat) (ts:List T) (n:Nat) (S:af),fL f s i d e o []=some (ts,n)->s.length<=100000->i<=s.length->d<=100->
 Tri Tryz.prog Ca [.string (st s),.int .i64 (i:Int),.int .i64 (d:Int),.int .u8 (e:Int),.int .u8 (o:Int)] [] S (Il ts n)
theorem yc:∀ (f:Nat) (s:Bs) (i d e o:Nat) (g j:List T) (n:Nat),fL f s i d e o g=some (j,n)->j.length+i<=g.length+n
 | 0,s,i,d,e,o,g,j,n,h=>by simp [fL] at h
 | f+1,s,i,d,e,o,g,j,n,h=>by
  rw [fL] at h;split at h
  ·cases h
  ·rename_i m p l
   have a:=(fy f).1 _ _ _ _ _ _ l;split at h
   ·simp only [a9,cO] at h;obtain ⟨rfl,rfl⟩:=h;rw [bv];simp only [bg,cd];omega
   ·split at h
    ·have b:=yc f _ _ _ _ _ _ _ _ h;rw [bv] at b;simp only [bg,cd] at b;omega
    ·cases h
section
attribute [local irreducible] Run CondV aw aI
theorem G5 {f:Nat} (ih:∀ g,g<f->l3 g):pp f:=by
 intro s i d e o ts n S h hs hi hd w j;refine om.2 ?_;dsimp only[om,Id];refine ey j bw fun v0 w' j=>?_;refine ⟨fun a b w'=>∃ (M B:Nat) (p:List T) (S1:af) (css:List (List Value)),M<=f/\a=.int .i64 (B:Int)/\i<=B/\B<=s.length/\p.length+i<=B/\fL M s B d e o p=some (ts,n)/\Ext w.heap.size [] S S1/\Rows 4 (RdT S1) css p/\Inv w [] [ax b ac 4 css] S1 w',
  fun a _ _=>s.length+1 - (intOf a).toNat,⟨f,i,[],S,[],a7 _,rfl,a7 _,hi,by simp,h,Ext.refl _ _ _,Rows.nil _ _,j⟩,?_⟩
 intro t1 _ _ _ _ _ _ _ _ _ _ _ _ _ _ _ _ _ _ _ _ a0 _ _ _ _ _ _ _ _ _ _ _ _ _ _ _ _ _ _ w';rintro ⟨M,B,p,S1,css,a1,rfl,a2,N,Z,q,hE,hR,j⟩;have a5:=hR.hc;cases M with
 | zero=>simp [fL] at q
 | succ g=>
 rw [fL] at q;split at q
 ·cases q
 rename_i t l hr
 have a6:=(fy g).1 _ _ _ _ _ _ hr;refine Run.call0E eI eJ j (ih g (by omega) s B d 3 t l S1 hr hs N hd (by omega)) fun v I' S2 w'=>?_;rintro ⟨rfl,cs,rfl,r⟩ C j;have U:=hR.monoR fun _ _ h=>RdT.mono C.1 h;obtain ⟨kv,rfl,_,_,_,a,m,rfl,_⟩:=RdT.iff.1 r;refine aA (v:=.agg _) rfl ?_;refine aA (v:=.int .i64 (l:Int)) rfl ?_;refine aF j aZ fun a4 w' j=>?_;refine al j 1 rfl ad rfl rfl (by simp [Value.oneCell']) fun w' j=>?_;refine dO (by omega) ?_;refine aE (fun u=>by cases u) (fun _=>?_);refine au j 1 ad rfl rfl ?_;refine fj (css:=css) j 0 _ bw (by omega) (by omega) rfl r.length r.one (by omega) (by omega) fun v' w' j=>?_;have j:Inv w [] [ax v' ac 4 (css++[[.int .i64 t.kind,.int .i64 t.n,.string t.name,.slice a t.kids.length m]])] S2 w':=j.pick [true,false];have J:=U.snoc r r.length;refine ⟨fun b w'=>b=.bool (sgn s l e || sgn s l o)/\Inv w [] [ax v' ac 4 (css++[[.int .i64 t.kind,.int .i64 t.n,.string t.name,.slice a t.kids.length m]])] S2 w',?_,?_⟩
 ·refine Run.callPure cu cz j (bY s l e S2) fun w' j=>?_;cases he:sgn s l e
  ·refine rpG ?_;refine Run.callPure cu cz j (bY s l o S2) fun w' j=>?_;refine rpG ?_;exact ⟨by simp,j⟩
  ·refine rpG ?_;exact ⟨by simp,j⟩
 intro a3 _ _ _ _ _ _ _ _ _ w';rintro ⟨rfl,j⟩;refine aE (fun u=>?_) (fun u=>?_)
 ·rw [iV] at u;rw [ai u] at q;simp only [a9,cO] at q;obtain ⟨rfl,rfl⟩:=q;obtain ⟨S3,G,O,j⟩:=Inv.lendExt (A:=[]) j;have V:=RowRd.rows (J.monoR fun _ _ h=>RdT.mono G.1 h) O;exact ⟨_,[],S3,rfl,j,(hE.trans C).trans G,rfl,_,rfl,V⟩
 ·have Y:¬ (sgn s l e=true ∨ sgn s l o=true):=fun h=>by rw [<- iV,u] at h; cases h
  rw [ah Y] at q;split at q
  ·rename_i D
   refine Run.callPure cu cz j (bY s l 44 S2) fun w' j=>?_;refine dD ?_;rw [D];refine aE (fun u=>by cases u) (fun _=>?_);have:=fR D;refine dN (a:=l) (b:=1) rfl rfl (by omega) ?_;refine ⟨⟨g,l+1,p++[t],S2,css++[[.int .i64 t.kind,.int .i64 t.n,.string t.name,.slice a t.kids.length m]],by omega,rfl,by omega,by omega,?_,q,hE.trans C,J,j⟩,?_⟩
   ·rw [bv]; simp only [bg,cd]; omega
   ·simp only [intOf,gS]; omega
  ·cases q
theorem As {g:Nat} (V:pp g) (hR:l3 g) {s:Bs} {i d:Nat} {B:List T} {n:Nat} {t:T} {e:Nat} (C:fL g s i d 93 124 []=some (B,n))
  (Y:(sgn s n 93=true/\t=gk B Jp/\e=n+1) ∨ (sgn s n 93=false/\∃ u m,gA g s (n+1) d 3=some (u,m)/\sgn s m 93=true/\t=gk B u/\e=m+1))
  (J:s.length<=100000) (Z:i<=s.length) (M:d<=100) (S:af):Tri Tryz.prog AR [.string (st s),.int .i64 (i:Int),.int .i64 (d:Int)] [] S (G2 t e):=by
 intro w h;have a1:=(fy g).2.2.2 _ _ _ _ _ _ _ _ C;have D:=yc _ _ _ _ _ _ _ _ _ C;simp only [cd] at D;refine oW.2 ?_;dsimp only[oW,gW];refine aF h aZ fun b6 w' h=>?_;refine Run.call0E pC nT h (V s i d 93 124 B n S C J Z M) fun v I' S1 w'=>?_;rintro ⟨rfl,u,rfl,N⟩ r h;have h:Inv w [] [.blk b6 (.cells #[.int .i64 0,.int .i64 0,.string ⟨#[]⟩,.slice none 0 0] ac)] S1 w':=h;refine aA (v:=u) rfl ?_;refine aA (v:=.int .i64 (n:Int)) rfl ?_;refine dO (by omega) ?_;refine aE (fun p=>by cases p) (fun _=>?_);refine Run.callPure cu cz h (bY s n 93 S1) fun w' h=>?_;rcases Y with ⟨G,rfl,rfl⟩|⟨G,x,m,U,h5,rfl,rfl⟩
 ·rw [G];refine aE (fun _=>?_) (fun p=>by cases p);refine Run.call0E cJ cI h (db ⟨#[91,93]⟩ (by decide +kernel) (kE S1) (by simp)) fun v I' S2 w'=>?_;rintro ⟨rfl,cs,rfl,o⟩ j h;refine Run.call0E n4 po h (mZ (N.monoT j.1) o (by omega)) fun v I' S3 w'=>?_;rintro ⟨rfl,ds,rfl,l⟩ q h;refine dN (a:=n) (b:=1) rfl rfl (by omega) ?_;obtain ⟨kv,rfl,_,_,_,a,k,rfl,_⟩:=RdT.iff.1 l;refine al h 0 rfl ad rfl rfl (by simp [Value.oneCell']) fun w' h=>?_;refine a5 h 0 ad rfl rfl ?_;exact ⟨_,[],S3,rfl,h.nil,(r.trans j).trans q,rfl,_,rfl,l⟩
 ·rw [G];refine aE (fun p=>by cases p) (fun _=>?_);refine dN (a:=n) (b:=1) rfl rfl (by omega) ?_;have O:=(fy g).1 _ _ _ _ _ _ U;refine Run.call0E eI eJ h (hR s (n+1) d 3 x m S1 U J (by omega) M (by omega)) fun v I' S2 w'=>?_;rintro ⟨rfl,cs,rfl,o⟩ j h;obtain ⟨kv,rfl,_,_,_,a,k,rfl,_⟩:=RdT.iff.1 o;refine aA (v:=.agg _) rfl ?_;refine aA (v:=.int .i64 (m:Int)) rfl ?_;refine aF h aZ fun a0 w' h=>?_;refine al h 1 rfl ad rfl rfl (by simp [Value.oneCell']) fun w' h=>?_;refine dO (by omega) ?_;refine aE (fun p=>by cases p) (fun _=>?_);refine Run.callPure cu cz h (bY s m 93 S2) fun w' h=>?_;refine dD ?_;rw [h5];refine aE (fun p=>by cases p) (fun _=>?_);refine au h 1 ad rfl rfl ?_;refine Run.call0E n4 po h (mZ (N.monoT j.1) o (by omega)) fun v I' S3 w'=>?_;rintro ⟨rfl,ds,rfl,l⟩ q h;refine dN (a:=m) (b:=1) rfl rfl (by omega) ?_;obtain ⟨kv,rfl,_,_,_,a,k,rfl,_⟩:=RdT.iff.1 l;refine al h 0 rfl ad rfl rfl (by simp [Value.oneCell']) fun w' h=>?_;refine a5 h 0 ad rfl rfl ?_;exact ⟨_,[],S3,rfl,h.nil,(r.trans j).trans q,rfl,_,rfl,l⟩
theorem yk {n:Bs} (h:n.length<=6):(st n).size<=maxLen:=by rw [jW]; simp only [maxLen]; omega
theorem GT {f:Nat} (a2:∀ g,g<f->l3 g) (a3:∀ g,g<f->pp g):yo f:=by
 intro s i d t n S h hs hi hd w j;cases f with
 | zero=>simp [nL] at h
 | succ g=>
 have hR:=a2 g (by omega);have hT:=a3 g (by omega);have b3:=(fy (g+1)).2.2.1 _ _ _ _ _ h;rw [nL] at h;split at h
 ·cases h
 rename_i h0
 have V:1<=d:=by omega
 have l:i<s.length:=by omega
 refine pB.2 ?_;dsimp only[pB,gW];refine aF j aZ fun O w' j=>?_;have j:Inv w [] [.blk O (.cells #[.int .i64 0,.int .i64 0,.string ⟨#[]⟩,.slice none 0 0] ac)] S w':=j;refine ⟨fun b w'=>b=.bool false/\Inv w [] [.blk O (.cells #[.int .i64 0,.int .i64 0,.string ⟨#[]⟩,.slice none 0 0] ac)] S w',?_,?_⟩
 ·refine dO (by omega) ?_;refine rpG ?_;refine eo aD ?_;refine qR (by omega) ?_;refine rpG ?_;exact ⟨rfl,j⟩
 intro a8 _ _ _ _ _ _ _ w';rintro ⟨rfl,j⟩;refine aE (fun o=>by cases o) (fun _=>?_);refine dw aD l ?_;split at h
 ·rename_i J
  rw [ib l,bQ] at J;refine eB (by omega) ?_;refine aE (fun _=>?_) (fun o=>by cases o);split at h
  ·cases h
  rename_i u m hr
  split at h
  ·rename_i a4
   simp only [a9,cO] at h;obtain ⟨rfl,rfl⟩:=h;have Y:=(fy g).1 _ _ _ _ _ _ hr;refine dN (a:=i) (b:=1) rfl rfl (by omega) ?_;refine Run.call0E eI eJ j (hR s (i+1) d 3 u m S hr hs (by omega) hd (by omega)) fun v I' S2 w'=>?_;rintro ⟨rfl,cs,rfl,p⟩ B j;obtain ⟨kv,rfl,_,_,_,a,k,rfl,_⟩:=RdT.iff.1 p;refine aA (v:=.agg _) rfl ?_;refine aA (v:=.int .i64 (m:Int)) rfl ?_;refine aF j aZ fun b8 w' j=>?_;refine al j 1 rfl ad rfl rfl (by simp [Value.oneCell']) fun w' j=>?_;refine dO (by omega) ?_;refine aE (fun o=>by cases o) (fun _=>?_);refine Run.callPure cu cz j (bY s m 41 S2) fun w' j=>?_;refine dD ?_;rw [a4];refine aE (fun o=>by cases o) (fun _=>?_);refine au j 1 ad rfl rfl ?_;refine dN (a:=m) (b:=1) rfl rfl (by omega) ?_;refine al j 0 rfl ad rfl rfl (by simp [Value.oneCell']) fun w' j=>?_;refine a5 j 0 ad rfl rfl ?_;exact ⟨_,[],S2,rfl,j.nil,B,rfl,_,rfl,p⟩
  ·cases h
 rename_i J
 rw [ib l,bQ] at J;refine dz (by omega) ?_;refine aE (fun o=>by cases o) (fun _=>?_);refine ⟨fun b w'=>b=.bool (sgn s i 91 && !sgn s (i+1) 93)/\Inv w [] [.blk O (.cells #[.int .i64 0,.int .i64 0,.string ⟨#[]⟩,.slice none 0 0] ac)] S w',?_,?_⟩
 ·refine dw aD l ?_;by_cases C:s[i].toNat=91
  ·refine eB (by omega) ?_;refine rpG ?_;refine dN (a:=i) (b:=1) rfl rfl (by omega) ?_;refine Run.callPure cu cz j (bY s (i+1) 93 S) fun w' j=>?_;refine dD ?_;refine rpG ?_;exact ⟨by rw [ib l,bb C,dL],j⟩
  ·refine dz (by omega) ?_;refine rpG ?_;exact ⟨by rw [ib l,bk C,gx],j⟩
 intro b0 _ _ _ _ _ _ _ _ _ _ w';rintro ⟨rfl,j⟩;split at h
 ·rename_i C
  rw [C.1,C.2];refine aE (fun _=>?_) (fun o=>by cases o);split at h
  ·cases h
  rename_i ts m D
  have h2:(sgn s m 93=true/\t=gk ts Jp/\n=m+1) ∨ (sgn s m 93=false/\∃ u k,gA g s (m+1) (d - 1) 3=some (u,k)/\sgn s k 93=true/\t=gk ts u/\n=k+1):=by
   split at h
   ·rename_i h3
    simp only [a9,cO] at h;exact .inl ⟨h3,h.1.symm,h.2.symm⟩
   ·rename_i h3
    split at h
    ·cases h
    rename_i u k hr
    split at h
    ·rename_i h4
     simp only [a9,cO] at h;exact .inr ⟨bS.2 h3,u,k,hr,h4,h.1.symm,h.2.symm⟩
    ·cases h
  refine dN (a:=i) (b:=1) rfl rfl (by omega) ?_;refine ux (a:=d) (b:=1) rfl rfl V (by omega) ?_;refine Run.call0E yR yx j (As hT hR D h2 hs (by omega) (by omega) S) fun v I' S2 w'=>?_;rintro ⟨rfl,cs,rfl,p⟩ B j;obtain ⟨kv,rfl,_,_,_,a,k,rfl,_⟩:=RdT.iff.1 p;refine aA (v:=.agg _) rfl ?_;refine aA (v:=.int .i64 (n:Int)) rfl ?_;refine al j 0 rfl ad rfl rfl (by simp [Value.oneCell']) fun w' j=>?_;refine a5 j 0 ad rfl rfl ?_;exact ⟨_,[],S2,rfl,j.nil,B,rfl,_,rfl,p⟩
 rename_i C
 have a6:(sgn s i 91 && !sgn s (i+1) 93)=false:=by
  cases h5:sgn s i 91
  ·rfl
  ·cases h6:sgn s (i+1) 93
   ·exact absurd ⟨h5,h6⟩ C
   ·rfl
 rw [a6];refine aE (fun o=>by cases o) (fun _=>?_);refine ⟨fun b w'=>b=.bool (upp s i)/\Inv w [] [.blk O (.cells #[.int .i64 0,.int .i64 0,.string ⟨#[]⟩,.slice none 0 0] ac)] S w',?_,?_⟩
 ·refine dw aD l ?_;by_cases a0:65<=s[i].toNat
  ·refine ku (by omega) ?_;refine rpG ?_;refine dw aD l ?_;refine fI ?_;refine rpG ?_;refine ⟨?_,j⟩;rw [upp,j5 l,bb a0,dL]
   congr 1
   rw [gN];omega
  ·refine qR (by omega) ?_;refine rpG ?_;exact ⟨by rw [upp,j5 l,bk a0,gx],j⟩
 intro b1 _ _ _ _ _ _ _ _ _ w';rintro ⟨rfl,j⟩;split at h
 ·rename_i G
  simp only [a9,cO] at h;obtain ⟨rfl,rfl⟩:=h;rw [G];rw [upp,j5 l,bJ,bQ,bQ] at G;refine aE (fun _=>?_) (fun o=>by cases o);refine dw aD l ?_;refine F9 (c:=(s[i].toNat:Int) - 65) (IntWalk.u8_in _ (by omega)) ?_;refine lE eU eY (IntWalk.i64_in _ (by omega)) ?_;refine Run.callPure vy vL j (mz _ S) fun w' j=>?_;refine dN (a:=i) (b:=1) rfl rfl (by omega) ?_;refine al j 0 rfl ad rfl rfl (by simp [Value.oneCell']) fun w' j=>?_;refine a5 j 0 ad rfl rfl ?_;have eg:((s.getD i 0).toNat:Int) - 65=(s[i].toNat:Int) - 65:=by rw [List.getD_eq_getElem?_getD,Br l]; rfl
  rw [eg];exact ⟨_,[],S,rfl,j.nil,Ext.refl _ _ _,rfl,_,rfl,RdT.nil (by simp [inI]) (by unfold inI; omega) (by decide +kernel) (aQ _)⟩
 rename_i G
 rw [bS.2 G];refine aE (fun o=>by cases o) (fun _=>?_);refine ⟨fun b w'=>b=.bool (dig s i || (sgn s i 45 && dig s (i+1)))/\Inv w [] [.blk O (.cells #[.int .i64 0,.int .i64 0,.string ⟨#[]⟩,.slice none 0 0] ac)] S w',?_,?_⟩
 ·refine Run.callPure gY hG j (fA s i S) fun w' j=>?_;cases b4:dig s i
  ·refine rpG ?_;refine dw aD l ?_;by_cases a1:s[i].toNat=45
   ·refine eB (by omega) ?_;refine rpG ?_;refine dN (a:=i) (b:=1) rfl rfl (by omega) ?_;refine Run.callPure gY hG j (fA s (i+1) S) fun w' j=>?_;refine rpG ?_;exact ⟨by rw [ib l,bb a1,dL,fo],j⟩
   ·refine dz (by omega) ?_;refine rpG ?_;exact ⟨by rw [ib l,bk a1,gx,fo],j⟩
  ·refine rpG ?_;exact ⟨by rw [oU],j⟩
 intro a7 _ _ _ _ _ _ _ _ _ _ _ _ _ _ w';rintro ⟨rfl,j⟩;split at h
 ·rename_i M
  have:(dig s i || (sgn s i 45 && dig s (i+1)))=true:=by rw [iV,bJ]; exact M
  rw [this];refine aE (fun _=>?_) (fun o=>by cases o);obtain ⟨k,hk,rfl,_,_,U⟩:=ut h (by omega) S;refine Run.callPure wg vP j U fun w' j=>?_;refine aA (v:=xE 2 k) rfl ?_;refine aA (v:=.int .i64 (n:Int)) rfl ?_;refine aF j aZ fun b2 w' j=>?_;refine al j 1 rfl ad rfl rfl (by simp [Value.oneCell']) fun w' j=>?_;refine dO (by omega) ?_;refine aE (fun o=>by cases o) (fun _=>?_);refine au j 1 ad rfl rfl ?_;refine al j 0 rfl ad rfl rfl (by simp [Value.oneCell']) fun w' j=>?_;refine a5 j 0 ad rfl rfl ?_;exact ⟨_,[],S,rfl,j.nil,Ext.refl _ _ _,rfl,_,rfl,RdT.nil (by simp [inI]) hk (by decide +kernel) (aQ _)⟩
 rename_i M
 have:(dig s i || (sgn s i 45 && dig s (i+1)))=false:=by
  rw [bS,ne_eq,iV,bJ]; exact M
 rw [this];refine aE (fun o=>by cases o) (fun _=>?_);refine Run.callPure rz sv j (oz l hs S) fun w' j=>?_;cases N:pi s i with
 | none=>rw [N] at h; cases h
 | some q=>
 obtain ⟨name,m⟩:=q;rw [N] at h;simp only [] at h;simp only [EL];have Z:=oC l N;refine aA (v:=.string (st name)) rfl ?_;refine aA (v:=.int .i64 (m:Int)) rfl ?_;refine dO (by omega) ?_;refine aE (fun o=>by cases o) (fun _=>?_);refine Run.callPure cu cz j (bY s m 40 S) fun w' j=>?_;refine dD ?_;split at h
 ·rename_i r
  simp only [a9,cO] at h;obtain ⟨rfl,rfl⟩:=h;rw [r];refine aE (fun _=>?_) (fun o=>by cases o);refine Run.call0E cJ cI j (db (st name) (yk Z.2.2.1) (kE S) (by simp)) fun v I' S2 w'=>?_;rintro ⟨rfl,cs,rfl,p⟩ B j;obtain ⟨kv,rfl,_,_,_,a,k,rfl,_⟩:=RdT.iff.1 p;refine al j 0 rfl ad rfl rfl (by simp [Value.oneCell']) fun w' j=>?_;refine a5 j 0 ad rfl rfl ?_;exact ⟨_,[],S2,rfl,j.nil,B,rfl,_,rfl,p⟩
 ·rename_i r
  rw [Bool.not_eq_false] at r;rw [r];refine aE (fun o=>by cases o) (fun _=>?_);split at h
  ·cases h
  rename_i ts k D
  simp only [a9,cO] at h;obtain ⟨rfl,rfl⟩:=h;have hm:=fR r;have Y:=(fy g).2.2.2 _ _ _ _ _ _ _ _ D;refine dN (a:=m) (b:=1) rfl rfl (by omega) ?_;refine ux (a:=d) (b:=1) rfl rfl V (by omega) ?_;refine Run.call0E pC nT j (hT s (m+1) (d - 1) 41 41 ts k S D hs (by omega) (by omega)) fun v I' S2 w'=>?_;rintro ⟨rfl,u,rfl,hu⟩ B j;refine aA (v:=u) rfl ?_;refine aA (v:=.int .i64 (k:Int)) rfl ?_;refine dO (by omega) ?_;refine aE (fun o=>by cases o) (fun _=>?_);obtain ⟨a,c,rfl,_⟩:=id hu;refine mN ⟨_,_,_,rfl⟩ ?_;refine dN (a:=k) (b:=1) rfl rfl (by omega) ?_;refine al j 0 rfl ad rfl rfl (by simp [Value.oneCell']) fun w' j=>?_;refine a5 j 0 ad rfl rfl ?_;exact ⟨_,[],S2,rfl,j.nil,B,rfl,_,rfl,RdT.iff.2 ⟨_,rfl,by simp [inI,T.kind,Ba],by simp [inI,T.n,Ba],yk Z.2.2.1,hu⟩⟩
theorem HI {f:Nat} (a0:∀ g,g<f->l3 g) (a6:∀ g,g<f->yo g):l3 f:=by
 intro s i d l t n S h hs hi hd hl w j;cases f with
 | zero=>simp [gA] at h
 | succ f=>
 refine ro.2 ?_;dsimp only[ro,Ik];refine aF j aZ fun b8 w' j=>?_;have j:Inv w [] [.blk b8 (.cells #[.int .i64 0,.int .i64 0,.string ⟨#[]⟩,.slice none 0 0] ac)] S w':=j;cases l with
 | zero=>
  rw [gA] at h;refine eB rfl ?_;refine aE (fun _=>?_) (fun m=>by cases m);refine Run.call0E yJ yV j (a6 f (by omega) s i d t n S h hs hi hd) fun v I' S2 w'=>?_;rintro ⟨rfl,cs,rfl,B⟩ D j;obtain ⟨kv,rfl,_,_,_,a,k,rfl,_⟩:=RdT.iff.1 B;refine aA (v:=.agg _) rfl ?_;refine aA (v:=.int .i64 (n:Int)) rfl ?_;refine al j 0 rfl ad rfl rfl (by simp [Value.oneCell']) fun w' j=>?_;refine a5 j 0 ad rfl rfl ?_;exact ⟨_,[],S2,rfl,j.nil,D,rfl,_,rfl,B⟩
 | succ l=>
  rw [gA] at h;split at h
  ·cases h
  rename_i t0 n0 Z
  have J:=(fy f).1 _ _ _ _ _ _ Z;refine dz (by omega) ?_;refine aE (fun m=>by cases m) (fun _=>?_);refine ux (a:=l+1) (b:=1) rfl rfl (by omega) (by omega) ?_;rw [Nat.add_sub_cancel];refine Run.call0E eI eJ j (a0 f (by omega) s i d l t0 n0 S Z hs hi hd (by omega)) fun v I' S1 w'=>?_;rintro ⟨rfl,cs,rfl,B⟩ a1 j;obtain ⟨kv,rfl,_,_,_,a,k,rfl,_⟩:=RdT.iff.1 B;refine aA (v:=.agg _) rfl ?_;refine aA (v:=.int .i64 (n0:Int)) rfl ?_;refine aF j aZ fun O w' j=>?_;refine al j 1 rfl ad rfl rfl (by simp [Value.oneCell']) fun w' j=>?_;refine ⟨fun a w'=>∃ (f' Y:Nat) (u:T) (ds:List Value) (S1:af),f'<=f/\a=.int .i64 (Y:Int)/\Y<=s.length/\zL f' s Y d l u=some (t,n)/\Ext w.heap.size [] S S1/\RdT S1 ds u/\Inv w [] [.blk b8 (.cells #[.int .i64 0,.int .i64 0,.string ⟨#[]⟩,.slice none 0 0] ac),.blk O (.cells ds.toArray ac)] S1 w',
   fun a _=>s.length+1 - (intOf a).toNat,⟨f,n0,t0,_,S1,a7 _,rfl,J.2,h,a1,B,j⟩,?_⟩
  clear h a1 B j Z J;intro _ _ _ _ b6 _ _ _ _ _ _ _ _ _ _ _ _ _ _ _ _ _ _ _ _ _ _ _ _ _ _ _ _ _ _ _ _ _ _ _ _ _ _ _ _ _ _ w';rintro ⟨f',Y,u,ds,S1,b7,rfl,a8,p,hE,G,j⟩;obtain ⟨kd,rfl,_,_,b5,da,dm,rfl,_⟩:=RdT.iff.1 G;cases f' with
  | zero=>simp [zL] at p
  | succ g=>
  rw [zL] at p;refine ku (by omega) ?_;refine aE (fun _=>?_) (fun m=>by cases m);refine Run.callPure Fk Fj j (CO hs a8 S1) fun w' j=>?_;cases V:opF s Y with
  | none=>
   rw [V] at p;simp only [a9,cO] at p;obtain ⟨rfl,rfl⟩:=p;simp only [opV];refine aA (v:=.string ⟨#[]⟩) rfl ?_;refine aA (v:=.int .i64 (Y:Int)) rfl ?_;refine ⟨fun b w'=>b=.bool true/\Inv w [] [.blk b8 (.cells #[.int .i64 0,.int .i64 0,.string ⟨#[]⟩,.slice none 0 0] ac),.blk O (.cells #[.int .i64 u.kind,.int .i64 u.n,.string u.name,.slice da u.kids.length dm] ac)] S1 w',?_,?_⟩
   ·refine bU ?_;rw [bb rfl];refine rpG ?_;exact ⟨rfl,j⟩
   intro b0 _ _ _ _ _ _ _ w';rintro ⟨rfl,j⟩;refine aE (fun _=>?_) (fun m=>by cases m);refine au j 1 ad rfl rfl ?_;refine al j 0 rfl ad rfl rfl (by simp [Value.oneCell']) fun w' j=>?_;refine a5 j 0 ad rfl rfl ?_;exact ⟨_,[],S1,rfl,j.nil,hE,rfl,_,rfl,G⟩
  | some q=>
   obtain ⟨name,C⟩:=q;rw [V] at p;simp only [] at p;simp only [opV];have a3:=F7 V;refine aA (v:=.string (st name)) rfl ?_;refine aA (v:=.int .i64 (C:Int)) rfl ?_;refine ⟨fun b w'=>b=.bool (!decide (bX (st name)=((l+1:Nat):Int)))/\Inv w [] [.blk b8 (.cells #[.int .i64 0,.int .i64 0,.string ⟨#[]⟩,.slice none 0 0] ac),.blk O (.cells #[.int .i64 u.kind,.int .i64 u.n,.string u.name,.slice da u.kids.length dm] ac)] S1 w',?_,?_⟩
   ·refine vp (b:=[]) ?_;rw [bk a3.2.2.2];refine rpG ?_;refine Run.callPure eq ek j (dn _ S1) fun w' j=>?_;refine BU ?_;refine rpG ?_;exact ⟨rfl,j⟩
   intro b0 _ _ _ _ _ _ _ w';rintro ⟨rfl,j⟩;split at p
   ·rename_i M
    rw [bb M];refine aE (fun m=>by cases m) (fun _=>?_);split at p
    ·cases p
    rename_i r e Z
    have J:=(fy g).1 _ _ _ _ _ _ Z;refine ux (a:=l+1) (b:=1) rfl rfl (by omega) (by omega) ?_;rw [Nat.add_sub_cancel];refine Run.call0E eI eJ j (a0 g (by omega) s C d l r e S1 Z hs (by omega) hd (by omega)) fun v I' S2 w'=>?_;rintro ⟨rfl,es,rfl,a2⟩ D j;obtain ⟨ke,rfl,_,_,_,ea,em,rfl,_⟩:=RdT.iff.1 a2;refine aA (v:=.agg _) rfl ?_;refine aA (v:=.int .i64 (e:Int)) rfl ?_;refine aF j aZ fun b9 w' j=>?_;refine al j 2 rfl ad rfl rfl (by simp [Value.oneCell']) fun w' j=>?_;refine dO (by omega) ?_;refine aE (fun m=>by cases m) (fun _=>?_);refine au j 1 ad rfl rfl ?_;refine au j 2 ad rfl rfl ?_;refine l0 (v:=fun b=>.slice (some ⟨b,0,none⟩) 2 2) (o:=.cells #[.int .i64 u.kind,.int .i64 u.n,.string u.name,.slice da u.kids.length dm,.int .i64 r.kind,.int .i64 r.n,.string r.name,.slice ea r.kids.length em] ac) j (by kernel_rfl) fun c1 w' j=>?_;obtain ⟨S3,j,U,b3⟩:=Inv.pub1 (A:=[_,_,_]) j;have b4:=yL b3 (RdT.mono (D.1.trans U.1) G) (RdT.mono U.1 a2);refine Run.call0E cJ cI j (db (st name) (yk a3.2.2.1) b4 (by simp)) fun v I' S4 w'=>?_;rintro ⟨rfl,gs,rfl,N⟩ b1 j;obtain ⟨kg,rfl,_,_,_,ga,gm,rfl,_⟩:=RdT.iff.1 N;have a4:=((hE.trans D).trans U).trans b1;refine al j 1 rfl ad rfl rfl (by simp [Value.oneCell']) fun w' j=>?_;split at p
    ·rename_i b2
     subst b2;simp only [a9,cO] at p;obtain ⟨rfl,rfl⟩:=p;refine eB rfl ?_;refine aE (fun _=>?_) (fun m=>by cases m);refine au j 1 ad rfl rfl ?_;refine al j 0 rfl ad rfl rfl (by simp [Value.oneCell']) fun w' j=>?_;refine a5 j 0 ad rfl rfl ?_;exact ⟨_,[],S4,rfl,j.nil,a4,rfl,_,rfl,N⟩
    ·refine dz (by omega) ?_;refine aE (fun m=>by cases m) (fun _=>?_);refine ⟨⟨g,e,_,_,S4,by omega,rfl,J.2,p,a4,N,j.pick [true,true,false]⟩,?_⟩;simp only [intOf,gS];omega
   ·rename_i M
    rw [bk M];simp only [a9,cO] at p;obtain ⟨rfl,rfl⟩:=p;refine aE (fun _=>?_) (fun m=>by cases m);refine au j 1 ad rfl rfl ?_;refine al j 0 rfl ad rfl rfl (by simp [Value.oneCell']) fun w' j=>?_;refine a5 j 0 ad rfl rfl ?_;exact ⟨_,[],S1,rfl,j.nil,hE,rfl,_,rfl,G⟩
theorem GP:∀ F f,f<F->l3 f/\yo f/\pp f
 | 0,f,h=>by omega
 | F+1,f,h=>by
  have a:=GP F;have hR:l3 f:=HI (fun g i=>(a g (by omega)).1) (fun g i=>(a g (by omega)).2.1);have j:pp f:=G5 fun g i=>(a g (by omega)).1;exact ⟨hR,GT (fun g i=>(a g (by omega)).1) (fun g i=>(a g (by omega)).2.2),j⟩
theorem xw (f:Nat):l3 f:=(GP (f+1) f (by omega)).1
end
end
section
open Go Go.RowKit

def jy (cs:List Value) (n:Nat):Prop:=cs=[.int .u8 (n:Int)]/\n<256
abbrev rdI (br:Nat) (sl:Value) (p:Nat):Item:=.blk br (.cells #[sl,.int .i64 (p:Int)] Aj)
abbrev rdP (br:Nat):Value:=.pointer (some ⟨br,0,none⟩)
section
variable {P:Program} {w:World} {K:Value->World->Prop}
theorem DW {T:TypeId} {g h:Bool} {x y:Int} {a b:Nat} (i:x=a) (j:y=b) (l:0<b) (hk:K (.int .i64 ((a % b:Nat):Int)) w):Run P (cw .rem T g h (.int .i64 x) (.int .i64 y)) w K:=by
 subst i j;exact Cy l hk
theorem Dc {T:TypeId} {g h:Bool} {x y:Int} {a b:Nat} (i:x=a) (j:y=b) (l:0<b) (m:a<=9223372036854775807) (hk:K (.int .i64 ((a / b:Nat):Int)) w):Run P (cw .quo T g h (.int .i64 x) (.int .i64 y)) w K:=by
 subst i j;exact Je l m hk
theorem ID {T:TypeId} {g h:Bool} {x y:Int} {a b:Nat} (i:x=a) (j:y=b) (l:a<4611686018427387904) (m:b<4611686018427387904) (hk:K (.int .i64 ((a ^^^ b:Nat):Int)) w):Run P (cw .xor T g h (.int .i64 x) (.int .i64 y)) w K:=by
 subst i j;exact IF l m hk
end
theorem RdSl.u8 {S:af} {sl:Value} {ys:List Nat} (h:RdSl S 1 jy sl ys) (j:0<ys.length):∃ b o cap c E g,sl=.slice (some ⟨b,o,none⟩) ys.length cap/\S b=some (.cells c E g)/\
  ∀ i,i<ys.length->∃ y:Nat,c[o+i * 1]?=some (.int .u8 (y:Int))/\y<256:=by
 obtain ⟨a,cap,rfl,r,hc,h⟩:=h;rcases h with rfl|⟨b,o,c,E,g,rfl,q,hR⟩
 ·simp at j
 ·refine ⟨b,o,cap,c,E,g,rfl,q,fun i l=>?_⟩;obtain ⟨m,p⟩:=hR i l;exact ⟨ys[i],aX m 0 _ rfl,p⟩
section
attribute [local irreducible] Run CondV aw aI
abbrev JX (S:af) (br:Nat) (sl:Value) (p n:Nat):Value->List Item->af->Prop:=fun v I' S'=>S'=S/\I'=[rdI br sl (p+1)]/\∃ k:Nat,k<n/\v=.int .i64 (k:Int)
theorem cV {ys:List Nat} {S:af} {sl:Value} {br p n:Nat} (h:RdSl S 1 jy sl ys) (hp:p<=1000000000000) (hn:0<n):Tri Tryz.prog tw [rdP br,.int .i64 (n:Int)] [rdI br sl p] S (JX S br sl p n):=by
 intro w i;refine kN.2 ?_;dsimp only[kN,a6];obtain ⟨X,hX⟩:∃ X,X=bF [rdI br sl p]:=⟨_,rfl⟩
 rw [<- hX] at i ⊢;have a5:∃ a m cap,sl=.slice a m cap/\m=ys.length:=by
  obtain ⟨a,cap,e,_⟩:=h;exact ⟨a,_,cap,e,rfl⟩
 refine bj ?_;refine ay lD ?_;refine aJ i 0 az rfl rfl ?_;refine bz (by omega) ?_;refine bj ?_;refine ay lD ?_;refine di i 0 (n:=1) rfl (by decide +kernel) rfl (by simp) (by simp [Value.cells,Value.oneCell']) fun w' i=>?_;have i:Inv w X [rdI br sl (p+1)] S w':=i;have hN:∃ N:Nat,N=ys.length:=⟨_,rfl⟩
 refine ⟨fun t w'=>t=.bool (decide (ys.length=0))/\Inv w X [rdI br sl (p+1)] S w',?_,?_⟩
 ·refine dO (by omega) ?_;refine CX (fun _=>?_) (fun hb=>by simp at hb);refine bj ?_;refine ay eh ?_;refine aJ i 0 fJ rfl rfl ?_;refine aL h dv ?_;refine bo ?_;refine nw ?_;refine ⟨?_,i⟩;simp
 intro a2 _ _ _ _ _ _ _ _ _ w';rintro ⟨rfl,i⟩;refine aR (fun _=>⟨_,_,_,rfl,i,Ext.refl _ _ _,rfl,rfl,0,hn,rfl⟩) (fun u=>?_);have u:0<ys.length:=by omega
 obtain ⟨b,o,cap,c,E,fz,rfl,Y,hc⟩:=h.u8 u;refine bj ?_;refine ay lD ?_;refine aJ i 0 az rfl rfl ?_;refine ld (by omega) ?_;have ep:((p+1:Nat):Int) - 1=(p:Int):=by omega
 rw [ep];refine bj ?_;refine ay eh ?_;refine aJ i 0 fJ rfl rfl ?_;refine gg dv ?_;refine cq ?_;refine aR (fun a3=>?_) (fun _=>?_)
 ·have r:p<ys.length:=by omega
  obtain ⟨y,hy,Z⟩:=hc p r;refine bj ?_;refine ay eh ?_;refine aJ i 0 fJ rfl rfl ?_;refine aN dv r ?_;refine dq uJ ((i.cellS Y).trans hy) ?_;refine lE eU eY (IntWalk.i64_in _ (by omega)) ?_;refine Cy hn ?_;exact ⟨_,_,_,rfl,i,Ext.refl _ _ _,rfl,rfl,y % n,qw _ hn,rfl⟩
 ·obtain ⟨B,J⟩:∃ B,B=p % ys.length:=⟨_,rfl⟩
  obtain ⟨C,M⟩:∃ C,C=(p * 7+3) % ys.length:=⟨_,rfl⟩
  obtain ⟨q,O⟩:∃ q,q=p / ys.length:=⟨_,rfl⟩
  have U:B<ys.length:=by rw [J]; exact qw _ u
  have V:C<ys.length:=by rw [M]; exact qw _ u
  have hq:q<=p:=by rw [O]; exact Nat.div_le_self ..
  obtain ⟨j,a0,a4⟩:=hc B U;obtain ⟨l,a1,Z⟩:=hc C V
  skip
  refine ⟨fun D x6 KQ KI KL KK KN KP Ks Jx Jy Kg JZ Kd JG JJ IO Ii H8 Ir Ie Ih Iw Ig Iy IC JO Ix Ck Ac yd xh tK sC sD tp xg xJ xC xT BQ xk Ce Ah Az Cc wV w_=>Fx D 0 [wV=.pointer (some ⟨br,0,none⟩),Cc=.pointer (some ⟨br,0,none⟩),Az=.pointer (some ⟨br,0,none⟩),Ah=.slice (some ⟨b,o,none⟩) ys.length cap,Ce=.int .i64 (p:Int),xk=.pointer (some ⟨br,0,none⟩),BQ=.pointer (some ⟨br,0,none⟩),xT=.pointer (some ⟨br,0,none⟩),xC=.slice (some ⟨b,o,none⟩) ys.length cap,xJ=.int .i64 (ys.length:Int),xg=.int .i64 (((B:Nat):Int)),tp=.pointer (some ⟨b,o+B * 1,none⟩),sD=.int .u8 ((j:Nat):Int),sC=.int .i64 (((j:Nat):Int)),tK=.int .i64 ((((j:Nat):Int) * 131)),xh=.pointer (some ⟨br,0,none⟩),yd=.pointer (some ⟨br,0,none⟩),Ac=.pointer (some ⟨br,0,none⟩),Ck=.slice (some ⟨b,o,none⟩) ys.length cap,Ix=.int .i64 (p:Int),JO=.int .i64 (((p:Int) * 7)),IC=.int .i64 ((((p:Int) * 7)+3)),Iy=.pointer (some ⟨br,0,none⟩),Ig=.pointer (some ⟨br,0,none⟩),Iw=.pointer (some ⟨br,0,none⟩),Ih=.slice (some ⟨b,o,none⟩) ys.length cap,Ie=.int .i64 (ys.length:Int),Ir=.int .i64 (((C:Nat):Int)),H8=.pointer (some ⟨b,o+C * 1,none⟩),Ii=.int .u8 ((l:Nat):Int),IO=.int .i64 (((l:Nat):Int)),JJ=.int .i64 ((((l:Nat):Int) * 1117)),JG=.int .i64 (((((j:Nat):Int) * 131)+(((l:Nat):Int) * 1117))),Kd=.int .i64 (p:Int),JZ=.int .i64 (((p:Int) * 29)),Kg=.int .i64 ((((((j:Nat):Int) * 131)+(((l:Nat):Int) * 1117))+((p:Int) * 29))),Jy=.int .i64 (p:Int),Jx=.pointer (some ⟨br,0,none⟩),Ks=.pointer (some ⟨br,0,none⟩),KP=.pointer (some ⟨br,0,none⟩),KN=.slice (some ⟨b,o,none⟩) ys.length cap,KK=.int .i64 (ys.length:Int),KL=.int .i64 (((q:Nat):Int)),KI=.int .i64 ((((q:Nat):Int) * 53)),KQ=.int .i64 (((((((j:Nat):Int) * 131)+(((l:Nat):Int) * 1117))+((p:Int) * 29))+(((q:Nat):Int) * 53))),x6=.int .i64 (((((((j:Nat):Int) * 131)+(((l:Nat):Int) * 1117))+((p:Int) * 29))+(((q:Nat):Int) * 53)))]/\Inv w X [rdI br (.slice (some ⟨b,o,none⟩) ys.length cap) (p+1)] S w_,⟨Fx.nil _ _,i.draw⟩,⟨?_,?_,?_,?_,?_,?_,?_,?_,?_,?_,?_,?_,?_,?_,?_,?_,?_,?_,?_,?_,?_,?_,?_,?_,?_,?_,?_,?_,?_,?_,?_,?_,?_,?_,?_,?_,?_,?_,?_,?_,?_,?_,?_,?_,?_,?_,trivial⟩,?_⟩;all_goals (intro D bm; intros; rename_i x6 KQ KI KL KK KN KP Ks Jx Jy Kg JZ Kd JG JJ IO Ii H8 Ir Ie Ih Iw Ig Iy IC JO Ix Ck Ac yd xh tK sC sD tp xg xJ xC xT BQ xk Ce Ah Az Cc wV w_ G; have g:=G.1; obtain ⟨⟨c9,cX,cZ,c4,cY,c8,cB,df,dK,eF,cW,dR,gZ,kX,nE,o6,oI,pL,qk,ix,uN,uk,uj,tU,BR,Ko,JW,JL,Kl,JK,Ke,JI,Kf,Kh,JH,JY,Kq,Kj,JD,Kn,Kp,JQ,JC,JM,JV,Ky,_⟩,i⟩:=G)
  ·exact ⟨g.set 0 rfl,i⟩
  ·obtain rfl:=c9 ‹_›;refine bj ?_;exact ⟨g.set 1 rfl,i⟩
  ·obtain rfl:=cX ‹_›;refine ay eh ?_;exact ⟨g.set 2 rfl,i⟩
  ·obtain rfl:=cZ ‹_›;refine aJ i 0 fJ rfl rfl ?_;exact ⟨g.set 3 rfl,i⟩
  ·exact ⟨g.set 4 rfl,i⟩
  ·exact ⟨g.set 5 rfl,i⟩
  ·obtain rfl:=c8 ‹_›;refine bj ?_;exact ⟨g.set 6 rfl,i⟩
  ·obtain rfl:=cB ‹_›;refine ay eh ?_;exact ⟨g.set 7 rfl,i⟩
  ·obtain rfl:=df ‹_›;refine aJ i 0 fJ rfl rfl ?_;exact ⟨g.set 8 rfl,i⟩
  ·obtain rfl:=dK ‹_›;refine gg dv ?_;exact ⟨g.set 9 rfl,i⟩
  ·obtain rfl:=cY ‹_›;obtain rfl:=eF ‹_›;refine DW (a:=p) (b:=ys.length) (by omega) rfl u ?_; rw [<- J];exact ⟨g.set 10 rfl,i⟩
  ·obtain rfl:=c4 ‹_›;obtain rfl:=cW ‹_›;refine aN dv U ?_;exact ⟨g.set 11 rfl,i⟩
  ·obtain rfl:=dR ‹_›;refine dq uJ ((i.cellS Y).trans a0) ?_;exact ⟨g.set 12 rfl,i⟩
  ·obtain rfl:=gZ ‹_›;refine lE eU eY (IntWalk.i64_in _ (by omega)) ?_;exact ⟨g.set 13 rfl,i⟩
  ·obtain rfl:=kX ‹_›;refine xm (by omega) ?_;exact ⟨g.set 14 rfl,i⟩
  ·exact ⟨g.set 15 rfl,i⟩
  ·obtain rfl:=o6 ‹_›;refine bj ?_;exact ⟨g.set 16 rfl,i⟩
  ·obtain rfl:=oI ‹_›;refine ay eh ?_;exact ⟨g.set 17 rfl,i⟩
  ·obtain rfl:=pL ‹_›;refine aJ i 0 fJ rfl rfl ?_;exact ⟨g.set 18 rfl,i⟩
  ·exact ⟨g.set 19 rfl,i⟩
  ·obtain rfl:=ix ‹_›;refine xm (by omega) ?_;exact ⟨g.set 20 rfl,i⟩
  ·obtain rfl:=uN ‹_›;refine bz (by omega) ?_;exact ⟨g.set 21 rfl,i⟩
  ·exact ⟨g.set 22 rfl,i⟩
  ·obtain rfl:=uj ‹_›;refine bj ?_;exact ⟨g.set 23 rfl,i⟩
  ·obtain rfl:=tU ‹_›;refine ay eh ?_;exact ⟨g.set 24 rfl,i⟩
  ·obtain rfl:=BR ‹_›;refine aJ i 0 fJ rfl rfl ?_;exact ⟨g.set 25 rfl,i⟩
  ·obtain rfl:=Ko ‹_›;refine gg dv ?_;exact ⟨g.set 26 rfl,i⟩
  ·obtain rfl:=uk ‹_›;obtain rfl:=JW ‹_›;refine DW (a:=p * 7+3) (b:=ys.length) (by omega) rfl u ?_; rw [<- M];exact ⟨g.set 27 rfl,i⟩
  ·obtain rfl:=qk ‹_›;obtain rfl:=JL ‹_›;refine aN dv V ?_;exact ⟨g.set 28 rfl,i⟩
  ·obtain rfl:=Kl ‹_›;refine dq uJ ((i.cellS Y).trans a1) ?_;exact ⟨g.set 29 rfl,i⟩
  ·obtain rfl:=JK ‹_›;refine lE eU eY (IntWalk.i64_in _ (by omega)) ?_;exact ⟨g.set 30 rfl,i⟩
  ·obtain rfl:=Ke ‹_›;refine xm (by omega) ?_;exact ⟨g.set 31 rfl,i⟩
  ·obtain rfl:=nE ‹_›;obtain rfl:=JI ‹_›;refine bz (by omega) ?_;exact ⟨g.set 32 rfl,i⟩
  ·exact ⟨g.set 33 rfl,i⟩
  ·obtain rfl:=Kh ‹_›;refine xm (by omega) ?_;exact ⟨g.set 34 rfl,i⟩
  ·obtain rfl:=Kf ‹_›;obtain rfl:=JH ‹_›;refine bz (by omega) ?_;exact ⟨g.set 35 rfl,i⟩
  ·exact ⟨g.set 36 rfl,i⟩
  ·exact ⟨g.set 37 rfl,i⟩
  ·obtain rfl:=Kj ‹_›;refine bj ?_;exact ⟨g.set 38 rfl,i⟩
  ·obtain rfl:=JD ‹_›;refine ay eh ?_;exact ⟨g.set 39 rfl,i⟩
  ·obtain rfl:=Kn ‹_›;refine aJ i 0 fJ rfl rfl ?_;exact ⟨g.set 40 rfl,i⟩
  ·obtain rfl:=Kp ‹_›;refine gg dv ?_;exact ⟨g.set 41 rfl,i⟩
  ·obtain rfl:=Kq ‹_›;obtain rfl:=JQ ‹_›;refine Dc (a:=p) (b:=ys.length) rfl rfl u (by omega) ?_; rw [<- O];exact ⟨g.set 42 rfl,i⟩
  ·obtain rfl:=JC ‹_›;refine xm (by omega) ?_;exact ⟨g.set 43 rfl,i⟩
  ·obtain rfl:=JY ‹_›;obtain rfl:=JM ‹_›;refine bz (by omega) ?_;exact ⟨g.set 44 rfl,i⟩
  ·obtain rfl:=JV ‹_›;exact ⟨g.set 45 rfl,i⟩
  obtain ⟨rfl,rfl,rfl,rfl,rfl,rfl,rfl,rfl,rfl,rfl,rfl,rfl,rfl,rfl,rfl,rfl,rfl,rfl,rfl,rfl,rfl,rfl,rfl,rfl,rfl,rfl,rfl,rfl,rfl,rfl,rfl,rfl,rfl,rfl,rfl,rfl,rfl,rfl,rfl,rfl,rfl,rfl,rfl,rfl,rfl,rfl,_⟩:=g.all;clear g c9 cX cZ c4 cY c8 cB df dK eF cW dR gZ kX nE o6 oI pL qk ix uN uk uj tU BR Ko JW JL Kl JK Ke JI Kf Kh JH JY Kq Kj JD Kn Kp JQ JC JM JV Ky;obtain ⟨x,hx⟩:∃ x:Nat,((((((j:Nat):Int) * 131)+(((l:Nat):Int) * 1117))+((p:Int) * 29))+(((q:Nat):Int) * 53))=(x:Int):=⟨(((((((j:Nat):Int) * 131)+(((l:Nat):Int) * 1117))+((p:Int) * 29))+(((q:Nat):Int) * 53))).toNat,by omega⟩
  have a7:x<=10000000000000000:=by omega
  rw [hx];refine Dc (a:=x) (b:=64) rfl rfl (by omega) (by omega) ?_;refine ID (a:=x) (b:=x / 64) rfl rfl (by omega) (by omega) ?_;refine Cy hn ?_;exact ⟨_,_,_,rfl,i,Ext.refl _ _ _,rfl,rfl,_,qw _ hn,rfl⟩
theorem jl {ys:List Nat} {g:List Int} {S:af} {sl v:Value} {br p:Nat} (h:RdSl S 1 jy sl ys) (i:RdSl S 1 gL v g) (j:0<g.length) (l:p<=1000000000000) :
  Tri Tryz.prog wi [rdP br,v] [rdI br sl p] S fun r I' S'=>S'=S/\I'=[rdI br sl (p+1)]/\∃ n∈g,r=.int .i64 n:=by
 intro w a;refine lc.2 ?_;dsimp only[lc,a6];refine aL i el ?_;refine Run.call (A:=[]) bL bK a (cV h l j) fun q I' S' w'=>?_;rintro ⟨rfl,rfl,k,hk,rfl⟩ _ a;obtain ⟨b,o,cap,c,E,t,rfl,m,hR⟩:=i.at_ hk;refine aN el hk ?_;refine dq az ((a.cellS m).trans (aX hR 0 _ rfl)) ?_;exact ⟨_,_,_,rfl,a,Ext.refl _ _ _,rfl,rfl,_,cr hk,rfl⟩
theorem jP {ys:List Nat} {g:List ByteArray} {S:af} {sl v:Value} {br p:Nat} (h:RdSl S 1 jy sl ys) (i:RdSl S 1 ou v g) (j:0<g.length) (l:p<=1000000000000) :
  Tri Tryz.prog zq [rdP br,v] [rdI br sl p] S fun r I' S'=>S'=S/\I'=[rdI br sl (p+1)]/\∃ n∈g,r=.string n:=by
 intro w a;refine mO.2 ?_;dsimp only[mO,a6];refine aL i ci ?_;refine Run.call (A:=[]) bL bK a (cV h l j) fun q I' S' w'=>?_;rintro ⟨rfl,rfl,k,hk,rfl⟩ _ a;obtain ⟨b,o,cap,c,E,t,rfl,m,hR⟩:=i.at_ hk;refine aN ci hk ?_;refine dq aO ((a.cellS m).trans (aX hR 0 _ rfl)) ?_;exact ⟨_,_,_,rfl,a,Ext.refl _ _ _,rfl,rfl,_,cr hk,rfl⟩
theorem Dw {ys:List Nat} {S:af} {v:Value} (h:RdSl S 1 jy v ys) :
  Tri Tryz.prog z5 [v] [] S fun r I' S'=>S'=S/\∃ br sl g,r=rdP br/\I'=[rdI br sl 0]/\RdSl S 1 jy sl g:=by
 intro w i;refine oi.2 ?_;dsimp only[oi,aG];refine ⟨fun t w'=>(∃ g,RdSl S 1 jy t g)/\Inv w [] [] S w',?_,?_⟩
 ·refine aL h dv ?_;refine eD ?_;refine aR (fun l=>?_) (fun _=>⟨⟨_,h⟩,i⟩);obtain ⟨a,cap,rfl,o,hc,p⟩:=id h;refine Jl (h:=2000) dv (by omega) ?_;exact ⟨⟨_,RdSl.to h (by omega)⟩,i⟩
 intro m _ _ _ _ _ w';rintro ⟨⟨g,j⟩,i⟩;obtain ⟨a,cap,rfl,_⟩:=id j;refine Run.of (v:=.agg #[.slice a g.length cap,.int .i64 0]) (w':=w') ?_ ?_
 ·unfold bP;rw [Sem.run_bind,run_build w' Aj _ #[.slice a g.length cap,.int .i64 0] (by kernel_rfl),Result.andThen_ok];rfl
 refine bB i fun br w' i=>?_;exact ⟨_,_,_,rfl,i,Ext.refl _ _ _,rfl,br,_,g,rfl,rfl,j⟩
end
end
end Go.Proofs.YtjbcdmheajljpaaGreat
