/- Texts read: spec.l1Struct, l1Chain, l2Read, l2Prime, l2Terms, l2Items. (printed by gen_read.py) -/
import Derived.Test.YtgllldjiaglkcaaGreatDoorZUf9
namespace Go.Proofs.YtgllldjiaglkcaaGreatDoor
section
open Go Go.RowKit
theorem WV {s:Bs} {i e:Nat} {t:T} (hn:Uq s i=some (t,e)):i<e/\e<=s.length:=by
 unfold Uq at hn;obtain ⟨fr,a⟩:∃ fr,fr=if sgn s i 45=true then i+1 else i:=⟨_,rfl⟩
 simp only [<- a] at hn;have f:=LR s 4 fr;have g:i<=fr/\fr<=i+1:=by rw [a]; split <;> omega
 split at hn
 ·cases hn
 rename_i hc
 simp only [not_or] at hc;simp only [aY,cE] at hn;obtain ⟨_,rfl⟩:=hn;have l:fr<vq s 4 fr:=by
  rcases Lc fr (vq s 4 fr) with h|h
  ·exact h
  ·refine absurd ?_ hc.1;rw [cut,vK];rw [cM];omega
 have:=Ez (zX s 4 fr (vq s 4 fr - 1) (by omega) (by omega));omega
theorem iW:∀ f:Nat,(∀ s i d l t n,ld f s i d l=some (t,n)->i<n/\n<=s.length)/\(∀ s i d l M t n,Nf f s i d l M=some (t,n)->i<=s.length->i<=n/\n<=s.length)/\
  (∀ s i d t n,wQ f s i d=some (t,n)->i<n/\n<=s.length)/\(∀ s i d e o m ts n,jA f s i d e o m=some (ts,n)->i<n/\n<s.length)
 | 0=>⟨fun s i d l t n h=>by simp [ld] at h,fun s i d l M t n h=>by simp [Nf] at h,fun s i d t n h=>by simp [wQ] at h,fun s i d e o m ts n h=>by simp [jA] at h⟩
 | f+1=>by
  obtain ⟨B,U,Y,N⟩:=iW f;refine ⟨fun s i d l t n h=>?_,fun s i d l M t n h hi=>?_,fun s i d t n h=>?_,fun s i d e o m ts n h=>?_⟩
  ·cases l with
   | zero=>rw [ld] at h; exact Y _ _ _ _ _ h
   | succ l=>
    rw [ld] at h;split at h
    ·cases h
    ·rename_i D n' g
     have a:=B _ _ _ _ _ _ g;have b:=U _ _ _ _ _ _ _ h a.2;omega
  ·rw [Nf] at h;split at h
   ·simp only [aY,cE] at h;omega
   ·rename_i name G V
    have a:=V6 V;split at h
    ·split at h
     ·cases h
     ·rename_i r e g
      have b:=B _ _ _ _ _ _ g;split at h
      ·simp only [aY,cE] at h;omega
      ·have c:=U _ _ _ _ _ _ _ h b.2;omega
    ·simp only [aY,cE] at h;omega
  ·rw [wQ] at h;split at h
   ·cases h
   rename_i O
   have O:i<s.length:=by omega
   split at h
   ·split at h
    ·cases h
    ·rename_i D n' g
     have a:=B _ _ _ _ _ _ g;split at h
     ·rename_i q
      have:=jE q;simp only [aY,cE] at h;omega
     ·cases h
   ·split at h
    ·split at h
     ·cases h
     ·rename_i ts n' g
      have a:=N _ _ _ _ _ _ _ _ g;split at h
      ·simp only [aY,cE] at h;omega
      ·split at h
       ·cases h
       ·rename_i D e J
        have b:=B _ _ _ _ _ _ J;split at h
        ·rename_i q
         have:=jE q;simp only [aY,cE] at h;omega
        ·cases h
    ·split at h
     ·simp only [aY,cE] at h;omega
     ·split at h
      ·exact WV h
      ·split at h
       ·cases h
       ·rename_i name n' hn
        have a:=yD O hn;split at h
        ·simp only [aY,cE] at h;omega
        ·split at h
         ·cases h
         ·rename_i ts e g
          have b:=N _ _ _ _ _ _ _ _ g;simp only [aY,cE] at h;omega
  ·rw [jA] at h;split at h
   ·cases h
   ·rename_i D n' g
    have a:=B _ _ _ _ _ _ g;split at h
    ·rename_i q
     have Z:n'<s.length:=q.elim jE jE;simp only [aY,cE] at h;omega
    ·split at h
     ·have b:=N _ _ _ _ _ _ _ _ h;omega
     ·cases h
abbrev aas (t:T):Value->List Item->ae->Prop:=fun v I' S'=>I'=[]/\∃ cs,v=.agg cs.toArray/\RdT S' cs t
abbrev Wz (t:T) (n:Nat):Value->List Item->ae->Prop:=fun v I' S'=>I'=[]/\∃ cs,v=.tuple #[.agg cs.toArray,.int .i64 (n:Int)]/\RdT S' cs t
abbrev X8 (ts:List T) (n:Nat):Value->List Item->ae->Prop:=fun v I' S'=>I'=[]/\∃ u,v=.tuple #[u,.int .i64 (n:Int)]/\RdSl S' 4 (RdT S') u ts
theorem lV (S:ae):RdSl S 4 (RdT S) (.slice none 0 0) []:=⟨none,0,rfl,aS _,bk _,.inl rfl⟩
theorem Qc {S:ae} {b:Nat} {E:TypeId} {a c:T} {f g h l:Int} {m o:ByteArray} {v1 v2:Value} (q:S b=some (.cells #[.int .i64 f,.int .i64 g,.string m,v1,.int .i64 h,.int .i64 l,.string o,v2] E))
  (r:RdT S [.int .i64 f,.int .i64 g,.string m,v1] a) (t:RdT S [.int .i64 h,.int .i64 l,.string o,v2] c):RdSl S 4 (RdT S) (.slice (some ⟨b,0,none⟩) 2 2) [a,c]:=by
 refine ⟨_,2,rfl,aS _,by simp [maxLen],.inr ⟨b,0,_,E,(0,0),rfl,q,fun i B=>?_⟩⟩
 match i,B with
 | 0,_=>exact r
 | 1,_=>exact t
section
variable {w w0:World} {X:List Nat} {L:List Item} {S:ae} {K:Value->World->Prop}
attribute [local irreducible] Run CondV aq aK
theorem fq {P:Program} {T:TypeId} {f g:Bool} {x y:Int} {a b:Nat} (h:x=a) (i:y=b) (l:a+b<=1000000000000000) (hk:K (.int .i64 ((a+b:Nat):Int)) w):Run P (c9 .add T f g (.int .i64 x) (.int .i64 y)) w K:=by
 subst h i;refine bC (by omega) ?_;rw [<- Int.natCast_add];exact hk
theorem Fj {P:Program} {T:TypeId} {g h:Bool} {x y:Int} {a b:Nat} (i:x=a) (l:y=b) (f:b<=a) (m:a<=1000000000000000) (hk:K (.int .i64 ((a - b:Nat):Int)) w):Run P (c9 .sub T g h (.int .i64 x) (.int .i64 y)) w K:=by
 subst i l;refine kT (by omega) ?_;rw [<- Int.ofNat_sub f];exact hk
theorem vY {s:ByteArray} {v:Value} (a:∃ p n m,v=.slice p n m) (hk:K (.agg #[.int .i64 3,.int .i64 0,.string s,v]) w):Run Tryz.prog (cR ab [(0,.int .i64 3),(2,.string s),(3,v)]) w K:=by
 obtain ⟨p,n,m,rfl⟩:=a;refine Run.of (v:=.agg #[.int .i64 3,.int .i64 0,.string s,.slice p n m]) (w':=w) ?_ hk;unfold cR;rw [Sem.run_bind,run_build w ab _ #[.int .i64 3,.int .i64 0,.string s,.slice p n m] (by kernel_rfl),Result.andThen_ok];rfl
theorem z3 (s:ByteArray) {ks:List T} {u:Value} (h:RdSl S 4 (RdT S) u ks) (hk:ks.length<=1000000):Tri Tryz.prog yd [.string s,u] [] S fun v I' S'=>S'=S/\∃ kv css,v=.agg #[.int .i64 3,.int .i64 0,.string s,kv]/\I'=[aA kv ab 4 css]/\Rows 4 (RdT S) css ks:=by
 intro w f;refine v7.2 ?_;dsimp only[v7,bm];refine aQ f bj fun i w' f=>?_;refine ei f bn fun v0 w' f=>?_;have f:Inv w [] [.blk i (.cells #[.int .i64 0,.int .i64 0,.string ⟨#[]⟩,.slice none 0 0] ab),aA v0 ab 4 []] S w':=f;refine i5 f 1 (css:=[]) bn (by omega) rfl h (fun _ _=>RdT.length) (fun _ _=>RdT.one) (by simp; omega) (by omega) fun l w' g hR f=>?_;have f:Inv w [] [.blk i (.cells #[.int .i64 0,.int .i64 0,.string ⟨#[]⟩,.slice none 0 0] ab),aA l ab 4 g] S w':=f;obtain ⟨a,n,c,rfl⟩:=f.rowSlice 1 rfl;refine vY ⟨_,_,_,rfl⟩ ?_;refine au f 0 rfl ad rfl rfl (by simp [Value.oneCell']) fun w' f=>?_;refine bB f 0 ad rfl rfl ?_;exact ⟨_,_,_,rfl,f.sub (fH _ _),Ext.refl _ _ _,rfl,_,g,rfl,rfl,hR⟩
theorem eK (s:ByteArray) (l:s.size<=maxLen) {ks:List T} {u:Value} (h:RdSl S 4 (RdT S) u ks) (hk:ks.length<=1000000):Tri Tryz.prog yd [.string s,u] [] S (aas (.mk 3 0 s ks)):=by
 intro w a;refine (z3 s h hk w a).mono ?_;rintro e w' ⟨v,I',S',rfl,a,m,rfl,kv,css,rfl,rfl,hR⟩;obtain ⟨S1,f,g,a⟩:=Inv.lendExt (A:=[]) a;have i:=RowRd.rows (hR.monoR fun _ _ h=>RdT.mono f.1 h) g;exact ⟨_,[],S1,rfl,a,m.trans f,rfl,[.int .i64 3,.int .i64 0,.string s,kv],rfl,RdT.iff.2 ⟨kv,rfl,by simp [inI,T.kind],by simp [inI,T.n],l,i⟩⟩
theorem O9 {ts:List T} {j:Nat} (h:j<ts.length) (t:T):jV (ts.drop j) t=Ne ts[j] (jV (ts.drop (j+1)) t):=by
 rw [dY h,jV]
theorem wu {ts:List T} {t:T} {u:Value} {cs:List Value} (h:RdSl S 4 (RdT S) u ts) (ht:RdT S cs t) (hl:ts.length<=1000000):Tri Tryz.prog Na [u,.agg cs.toArray] [] S (aas (jV ts t)):=by
 intro w f;obtain ⟨kv,rfl,g1,g2,g3,g4⟩:=RdT.iff.1 ht;obtain ⟨ka,kn,kc,a8⟩:∃ a n m,kv=.slice a n m:=by
  obtain ⟨a,m,e,_⟩:=g4;exact ⟨_,_,_,e⟩
 refine zE.2 ?_;dsimp only[zE,bm];refine bJ f fun b3 w' f=>?_;refine aQ f bj fun b4 w' f=>?_;refine aC f 0 ad rfl rfl ?_;refine aQ f bj fun b5 w' f=>?_;refine au f 2 rfl ad rfl rfl (by simp [Value.oneCell',Value.cells,a8]) fun w' f=>?_;refine aJ h ah ?_;refine kT (by omega) ?_;obtain ⟨B3,a9⟩:∃ B3,B3=Item.blk b3 (.cells #[.int .i64 t.kind,.int .i64 t.n,.string t.name,kv] ab):=⟨_,rfl⟩
 have f:Inv w [] [B3,.blk b4 (.cells #[.int .i64 0,.int .i64 0,.string ⟨#[]⟩,.slice none 0 0] ab),.blk b5 (.cells #[.int .i64 t.kind,.int .i64 t.n,.string t.name,kv] ab)] S w':=by rw [a9]; exact f
 refine ⟨fun i w'=>∃ (j:Nat) (S1:ae) (ds:List Value),j<=ts.length/\i=.int .i64 ((j:Int) - 1)/\Ext w.heap.size [] S S1/\RdT S1 ds (jV (ts.drop j) t)/\Inv w [] [B3,.blk b4 (.cells #[.int .i64 0,.int .i64 0,.string ⟨#[]⟩,.slice none 0 0] ab),.blk b5 (.cells ds.toArray ab)] S1 w',
  fun i _=>(intOf i+1).toNat,⟨ts.length,S,_,aS _,rfl,Ext.refl _ _ _,by rw [eC]; exact ht,f⟩,?_⟩
 intro t6 _ _ b7 b8 b9 c0 c1 c2 c3 _ _ w';rintro ⟨j,S1,ds,hj,rfl,hE,U,f⟩;by_cases b6:j=0
 ·subst b6;refine Ap (by omega) ?_;refine aD (fun hb=>by cases hb) (fun _=>?_);obtain ⟨c5,rfl,_,_,_,a,m,rfl,_⟩:=RdT.iff.1 U;refine aC f 2 ad rfl rfl ?_;refine au f 1 rfl ad rfl rfl (by simp [Value.oneCell']) fun w' f=>?_;refine bB f 1 ad rfl rfl ?_;exact ⟨_,_,_,rfl,f.nil,hE,rfl,_,rfl,U⟩
 ·refine qk (by omega) ?_;refine aD (fun _=>?_) (fun hb=>by cases hb);obtain ⟨m,rfl⟩:∃ m,j=m+1:=⟨j - 1,by omega⟩
  have hm:m<ts.length:=by omega
  have ej:((m+1:Nat):Int) - 1=(m:Int):=by omega
  rw [ej];obtain ⟨b,o,cap,c,E,fz,rfl,hS,hR⟩:=(h.monoT hE.1).at_ hm;obtain ⟨c7,a0,_,_,_,aa,am,a3,_⟩:=RdT.iff.1 hR;subst a3;obtain ⟨kd,rfl,_,_,_,da,dm,rfl,_⟩:=RdT.iff.1 U;obtain ⟨l,a4⟩:∃ l,l=jV (ts.drop (m+1)) t:=⟨_,rfl⟩
  rw [<- a4] at U f;obtain ⟨q,a5⟩:∃ q,q=ts[m]:=⟨_,rfl⟩
  rw [<- a5] at hR a0
  skip
  refine ⟨fun D oK jG kZ rF jX rb wt w_=>Fx D 0 [wt=.slice (some ⟨b,o,none⟩) ts.length cap,rb=.int .i64 (m:Int),jX=.pointer (some ⟨b,o+m * 4,none⟩),rF=.agg #[.int .i64 q.kind,.int .i64 q.n,.string q.name,.slice aa q.kids.length am],kZ=.agg #[.int .i64 l.kind,.int .i64 l.n,.string l.name,.slice da l.kids.length dm],True,True,True]/\∃ S2 r,Ext w.heap.size [] S1 S2/\(D 5=true->RdSl S2 4 (RdT S2) jG [q,l])/\(D 6=true->oK=.agg r.toArray/\RdT S2 r (Ne q l))/\(D 7=true->D 6=true)/\(D 6=true->D 5=true)/\(D 5=true->D 4=true)/\Inv w [] [B3,.blk b4 (.cells #[.int .i64 0,.int .i64 0,.string ⟨#[]⟩,.slice none 0 0] ab),.blk b5 (.cells (match D 7 with|true=>r.toArray|false=>#[.int .i64 l.kind,.int .i64 l.n,.string l.name,.slice da l.kids.length dm]) ab)] S2 w_,⟨Fx.nil _ _,⟨S1,[],Ext.refl _ _ _,aI,aI,aI,aI,aI,f.draw⟩⟩,⟨?_,?_,?_,?_,?_,?_,?_,?_,trivial⟩,?_⟩;all_goals (intro D Z; intros; rename_i oK jG kZ rF jX rb wt w_ a2; have B:=a2.1; obtain ⟨⟨cI,cJ,cH,cD,cL,cN,cq,dg,_⟩,⟨S2,r,g,M,N,J,O,V,f⟩⟩:=a2)
  ·exact ⟨B.set 0 rfl,⟨S2,r,g,M,N,J,O,V,f⟩⟩
  ·exact ⟨B.set 1 rfl,⟨S2,r,g,M,N,J,O,V,f⟩⟩
  ·obtain rfl:=cI ‹_›;obtain rfl:=cJ ‹_›;refine az ah hm ?_;exact ⟨B.set 2 rfl,⟨S2,r,g,M,N,J,O,V,f⟩⟩
  ·obtain rfl:=cH ‹_›;refine ci (cs:=[.int .i64 q.kind,.int .i64 q.n,.string q.name,.slice aa q.kids.length am]) ad rfl (fun j v hj=>by rw [f.cellS (g.1 _ _ hS)]; exact aF a0 j v hj) ?_;exact ⟨B.set 3 rfl,⟨S2,r,g,M,N,J,O,V,f⟩⟩
  ·have f5:D 5=false:=bx.2 fun h=>by rw [V h] at Z; cases Z
   have f6:D 6=false:=bx.2 fun h=>by rw [O h] at f5; cases f5
   have f7:D 7=false:=bx.2 fun h=>by rw [J h] at f6; cases f6
   have b1:=f;rw [f7] at f;refine aC f 2 ad rfl rfl ?_;have f:=b1;have V:=fun (_:ao D 4 5=true)=>(rfl:ao D 4 4=true)
   exact ⟨B.set 4 rfl,⟨S2,r,g,M,N,J,O,V,f⟩⟩
  ·obtain rfl:=cD ‹_›;obtain rfl:=cL ‹_›;have f6:D 6=false:=bx.2 fun h=>by rw [O h] at Z; cases Z
   have f7:D 7=false:=bx.2 fun h=>by rw [J h] at f6; cases f6
   rw [f7] at f;refine wD (v:=fun b=>.slice (some ⟨b,0,none⟩) 2 2) (o:=.cells #[.int .i64 q.kind,.int .i64 q.n,.string q.name,.slice aa q.kids.length am,.int .i64 l.kind,.int .i64 l.n,.string l.name,.slice da l.kids.length dm] ab) f (by kernel_rfl) fun c4 w_ f=>?_;obtain ⟨S2,f,Y,b0⟩:=Inv.pub1 (A:=[_,_,_]) f;have g:=g.trans Y;have b2:RdT S2 [.int .i64 q.kind,.int .i64 q.n,.string q.name,.slice aa q.kids.length am] q:=by
    have:=RdT.mono g.1 hR
    rwa [a0] at this
   have M:=fun (_:ao D 5 5=true)=>Qc b0 b2 (RdT.mono g.1 U);have N:=fun (h:D 6=true)=>(absurd h (by rw [f6]; decide):oK=.agg r.toArray/\RdT S2 r (Ne q l))
   have O:=fun (_:ao D 5 6=true)=>(rfl:ao D 5 5=true)
   have V:=fun (_:ao D 5 5=true)=>‹D 4=true›;have f:Inv w [] [B3,.blk b4 (.cells #[.int .i64 0,.int .i64 0,.string ⟨#[]⟩,.slice none 0 0] ab),.blk b5 (.cells (match D 7 with|true=>r.toArray|false=>#[.int .i64 l.kind,.int .i64 l.n,.string l.name,.slice da l.kids.length dm]) ab)] S2 w_:=by
    rw [f7];exact f
   exact ⟨B.set 5 (by first|assumption|trivial),⟨S2,r,g,M,N,J,O,V,f⟩⟩
  ·have Hj:=cN ‹_›;have f7:D 7=false:=bx.2 fun h=>by rw [J h] at Z; cases Z
   rw [f7] at f;refine Run.call0E dQ dR f (eK ⟨#[46]⟩ (by decide +kernel) (M ‹D 5=true›) (by simp)) fun v' I' S2 w_=>?_;rintro ⟨rfl,r,rfl,G⟩ Y f;have g:=g.trans Y;have M:=fun (h:D 5=true)=>(M h).monoT Y.1;have N:ao D 6 6=true->Value.agg r.toArray=Value.agg r.toArray/\RdT S2 r (Ne q l):=fun _=>⟨rfl,G⟩
   have J:=fun (_:ao D 6 7=true)=>(rfl:ao D 6 6=true)
   have O:=fun (_:ao D 6 6=true)=>‹D 5=true›;have f:Inv w [] [B3,.blk b4 (.cells #[.int .i64 0,.int .i64 0,.string ⟨#[]⟩,.slice none 0 0] ab),.blk b5 (.cells (match D 7 with|true=>r.toArray|false=>#[.int .i64 l.kind,.int .i64 l.n,.string l.name,.slice da l.kids.length dm]) ab)] S2 w_:=by
    rw [f7];exact f
   exact ⟨B.set 6 (by first|assumption|trivial),⟨S2,r,g,M,N,J,O,V,f⟩⟩
  ·have Me:=cq ‹_›;obtain ⟨q6,G⟩:=N ‹D 6=true›;subst q6;rw [Z] at f;have a6:=G.one;have a7:=G.length;refine au f 2 rfl ad (by simpa using a7) rfl (by simpa using a6) fun w_ f=>?_;have J:=fun (_:ao D 7 7=true)=>‹D 6=true›;exact ⟨B.set 7 trivial,⟨S2,r,g,M,N,J,O,V,f⟩⟩
  obtain ⟨rfl,rfl,rfl,rfl,rfl,Hj,Me,_,_⟩:=B.all;have OQ:D 6=true:=by assumption
  have vm:D 7=true:=by assumption
  clear B cI cJ cH cD cL cN cq dg;rw [vm] at f;obtain ⟨_,G⟩:=N OQ;refine kT (by omega) ?_;refine ⟨⟨m,S2,r,by omega,rfl,hE.trans g,?_,f⟩,by simp [intOf]⟩;rw [O9 hm,<- a5,<- a4];exact G
end
def tq (f:Nat):Prop:=∀ (s:Bs) (i d l:Nat) (t:T) (n:Nat) (S:ae),ld f s i d l=some (t,n)->s.length<=100000->i<=s.length->d<=100->l<=3->
 Tri Tryz.prog Qj [.string (st s),.int .i64 (i:Int),.int .i64 (d:Int),.int .i64 (l:Int)] [] S (Wz t n)
def KO (f:Nat):Prop:=∀ (s:Bs) (i d:Nat) (t:T) (n:Nat) (S:ae),wQ f s i d=some (t,n)->s.length<=100000->i<=s.length->d<=100->
 Tri Tryz.prog M0 [.string (st s),.int .i64 (i:Int),.int .i64 (d:Int)] [] S (Wz t n)
def x1 (f:Nat):Prop:=∀ (s:Bs) (i d e o:Nat) (ts:List T) (n:Nat) (S:ae),jA f s i d e o []=some (ts,n)->s.length<=100000->i<=s.length->d<=100->
 Tri Tryz.prog MZ [.string (st s),.int .i64 (i:Int),.int .i64 (d:Int),.int .u8 (e:Int),.int .u8 (o:Int)] [] S (X8 ts n)
theorem IX:∀ (f:Nat) (s:Bs) (i d e o:Nat) (g ts:List T) (n:Nat),jA f s i d e o g=some (ts,n)->ts.length+i<=g.length+n
 | 0,s,i,d,e,o,g,ts,n,h=>by simp [jA] at h
 | f+1,s,i,d,e,o,g,ts,n,h=>by
  rw [jA] at h;split at h
  ·cases h
  ·rename_i m n' l
   have a:=(iW f).1 _ _ _ _ _ _ l;split at h
   ·simp only [aY,cE] at h;obtain ⟨rfl,rfl⟩:=h;rw [bA];simp only [bq,bW];omega
   ·split at h
    ·have b:=IX f _ _ _ _ _ _ _ _ h;rw [bA] at b;simp only [bq,bW] at b;omega
    ·cases h
section
attribute [local irreducible] Run CondV aq aK
theorem Uy {f:Nat} (ih:∀ g,g<f->tq g):x1 f:=by
 intro s i d e o ts n S h hs hi hd w l;refine zQ.2 ?_;dsimp only[zQ,JO];refine ei l bn fun v0 w' l=>?_;refine ⟨fun a b w'=>∃ (U G:Nat) (q:List T) (S1:ae) (css:List (List Value)),U<=f/\a=.int .i64 (G:Int)/\i<=G/\G<=s.length/\q.length+i<=G/\jA U s G d e o q=some (ts,n)/\Ext w.heap.size [] S S1/\Rows 4 (RdT S1) css q/\Inv w [] [aA b ab 4 css] S1 w',
  fun a _ _=>s.length+1 - (intOf a).toNat,⟨f,i,[],S,[],aS _,rfl,aS _,hi,by simp,h,Ext.refl _ _ _,Rows.nil _ _,l⟩,?_⟩
 intro t1 _ _ _ _ _ _ _ _ _ _ _ _ _ _ _ _ _ _ _ _ a3 _ _ _ _ _ _ _ _ _ _ _ _ _ _ _ _ _ _ w';rintro ⟨U,G,q,S1,css,a4,rfl,a5,V,a2,r,hE,hR,l⟩;have a8:=hR.hc;cases U with
 | zero=>simp [jA] at r
 | succ g=>
 rw [jA] at r;split at r
 ·cases r
 rename_i t n' hr
 have a9:=(iW g).1 _ _ _ _ _ _ hr;refine Run.call0E gX gW l (ih g (by omega) s G d 3 t n' S1 hr hs V hd (by omega)) fun v I' S2 w'=>?_;rintro ⟨rfl,cs,rfl,B⟩ J l;have Z:=hR.monoR fun _ _ h=>RdT.mono J.1 h;obtain ⟨kv,rfl,_,_,_,a,m,rfl,_⟩:=RdT.iff.1 B;refine av (v:=.agg _) rfl ?_;refine av (v:=.int .i64 (n':Int)) rfl ?_;refine aQ l bj fun a7 w' l=>?_;refine au l 1 rfl ad rfl rfl (by simp [Value.oneCell']) fun w' l=>?_;refine fw (by omega) ?_;refine aD (fun D=>by cases D) (fun _=>?_);refine aC l 1 ad rfl rfl ?_;refine de (css:=css) l 0 _ bn (by omega) (by omega) rfl B.length B.one (by omega) (by omega) fun v' w' l=>?_;have l:Inv w [] [aA v' ab 4 (css++[[.int .i64 t.kind,.int .i64 t.n,.string t.name,.slice a t.kids.length m]])] S2 w':=l.pick [true,false];have O:=Z.snoc B B.length;refine ⟨fun b w'=>b=.bool (sgn s n' e || sgn s n' o)/\Inv w [] [aA v' ab 4 (css++[[.int .i64 t.kind,.int .i64 t.n,.string t.name,.slice a t.kids.length m]])] S2 w',?_,?_⟩
 ·refine Run.callPure dw dv l (df s n' e S2) fun w' l=>?_;cases he:sgn s n' e
  ·refine rpG ?_;refine Run.callPure dw dv l (df s n' o S2) fun w' l=>?_;refine rpG ?_;exact ⟨by simp,l⟩
  ·refine rpG ?_;exact ⟨by simp,l⟩
 intro a6 _ _ _ _ _ _ _ _ _ w';rintro ⟨rfl,l⟩;refine aD (fun D=>?_) (fun D=>?_)
 ·rw [jc] at D;rw [ai D] at r;simp only [aY,cE] at r;obtain ⟨rfl,rfl⟩:=r;obtain ⟨S3,N,Y,l⟩:=Inv.lendExt (A:=[]) l;have a0:=RowRd.rows (O.monoR fun _ _ h=>RdT.mono N.1 h) Y;exact ⟨_,[],S3,rfl,l,(hE.trans J).trans N,rfl,_,rfl,a0⟩
 ·have a1:¬ (sgn s n' e=true ∨ sgn s n' o=true):=fun h=>by rw [<- jc,D] at h; cases h
  rw [ag a1] at r;split at r
  ·rename_i M
   refine Run.callPure dw dv l (df s n' 44 S2) fun w' l=>?_;refine cw ?_;rw [M];refine aD (fun D=>by cases D) (fun _=>?_);have:=jE M;refine fq (a:=n') (b:=1) rfl rfl (by omega) ?_;refine ⟨⟨g,n'+1,q++[t],S2,css++[[.int .i64 t.kind,.int .i64 t.n,.string t.name,.slice a t.kids.length m]],by omega,rfl,by omega,by omega,?_,r,hE.trans J,O,l⟩,?_⟩
   ·rw [bA]; simp only [bq,bW]; omega
   ·simp only [intOf,cu]; omega
  ·cases r
theorem Mz {g:Nat} (V:x1 g) (hR:tq g) {s:Bs} {i d:Nat} {ts:List T} {n:Nat} {t:T} {e:Nat} (D:jA g s i d 93 124 []=some (ts,n))
  (Y:(sgn s n 93=true/\t=jV ts Yh/\e=n+1) ∨ (sgn s n 93=false/\∃ u m,ld g s (n+1) d 3=some (u,m)/\sgn s m 93=true/\t=jV ts u/\e=m+1))
  (M:s.length<=100000) (Z:i<=s.length) (hd:d<=100) (S:ae):Tri Tryz.prog Mj [.string (st s),.int .i64 (i:Int),.int .i64 (d:Int)] [] S (Wz t e):=by
 intro w f;have a1:=(iW g).2.2.2 _ _ _ _ _ _ _ _ D;have G:=IX _ _ _ _ _ _ _ _ _ D;simp only [bW] at G;refine yg.2 ?_;dsimp only[yg,fQ];refine aQ f bj fun b6 w' f=>?_;refine Run.call0E yq yt f (V s i d 93 124 ts n S D M Z hd) fun v I' S1 w'=>?_;rintro ⟨rfl,u,rfl,N⟩ B f;have f:Inv w [] [.blk b6 (.cells #[.int .i64 0,.int .i64 0,.string ⟨#[]⟩,.slice none 0 0] ab)] S1 w':=f;refine av (v:=u) rfl ?_;refine av (v:=.int .i64 (n:Int)) rfl ?_;refine fw (by omega) ?_;refine aD (fun q=>by cases q) (fun _=>?_);refine Run.callPure dw dv f (df s n 93 S1) fun w' f=>?_;rcases Y with ⟨J,rfl,rfl⟩|⟨J,x,m,U,h5,rfl,rfl⟩
 ·rw [J];refine aD (fun _=>?_) (fun q=>by cases q);refine Run.call0E dQ dR f (eK ⟨#[91,93]⟩ (by decide +kernel) (lV S1) (by simp)) fun v I' S2 w'=>?_;rintro ⟨rfl,cs,rfl,o⟩ h f;refine Run.call0E yF z1 f (wu (N.monoT h.1) o (by omega)) fun v I' S3 w'=>?_;rintro ⟨rfl,ds,rfl,l⟩ r f;refine fq (a:=n) (b:=1) rfl rfl (by omega) ?_;obtain ⟨kv,rfl,_,_,_,a,k,rfl,_⟩:=RdT.iff.1 l;refine au f 0 rfl ad rfl rfl (by simp [Value.oneCell']) fun w' f=>?_;refine bB f 0 ad rfl rfl ?_;exact ⟨_,[],S3,rfl,f.nil,(B.trans h).trans r,rfl,_,rfl,l⟩
 ·rw [J];refine aD (fun q=>by cases q) (fun _=>?_);refine fq (a:=n) (b:=1) rfl rfl (by omega) ?_;have O:=(iW g).1 _ _ _ _ _ _ U;refine Run.call0E gX gW f (hR s (n+1) d 3 x m S1 U M (by omega) hd (by omega)) fun v I' S2 w'=>?_;rintro ⟨rfl,cs,rfl,o⟩ h f;obtain ⟨kv,rfl,_,_,_,a,k,rfl,_⟩:=RdT.iff.1 o;refine av (v:=.agg _) rfl ?_;refine av (v:=.int .i64 (m:Int)) rfl ?_;refine aQ f bj fun a0 w' f=>?_;refine au f 1 rfl ad rfl rfl (by simp [Value.oneCell']) fun w' f=>?_;refine fw (by omega) ?_;refine aD (fun q=>by cases q) (fun _=>?_);refine Run.callPure dw dv f (df s m 93 S2) fun w' f=>?_;refine cw ?_;rw [h5];refine aD (fun q=>by cases q) (fun _=>?_);refine aC f 1 ad rfl rfl ?_;refine Run.call0E yF z1 f (wu (N.monoT h.1) o (by omega)) fun v I' S3 w'=>?_;rintro ⟨rfl,ds,rfl,l⟩ r f;refine fq (a:=m) (b:=1) rfl rfl (by omega) ?_;obtain ⟨kv,rfl,_,_,_,a,k,rfl,_⟩:=RdT.iff.1 l;refine au f 0 rfl ad rfl rfl (by simp [Value.oneCell']) fun w' f=>?_;refine bB f 0 ad rfl rfl ?_;exact ⟨_,[],S3,rfl,f.nil,(B.trans h).trans r,rfl,_,rfl,l⟩
theorem Lr {n:Bs} (h:n.length<=6):(st n).size<=maxLen:=by rw [nt]; simp only [maxLen]; omega
theorem Uo {f:Nat} (a5:∀ g,g<f->tq g) (a6:∀ g,g<f->x1 g):KO f:=by
 intro s i d t n S h hs hi hd w l;cases f with
 | zero=>simp [wQ] at h
 | succ g=>
 have hR:=a5 g (by omega);have hT:=a6 g (by omega);have b4:=(iW (g+1)).2.2.1 _ _ _ _ _ h;rw [wQ] at h;split at h
 ·cases h
 rename_i h0
 have a0:1<=d:=by omega
 have o:i<s.length:=by omega
 refine yI.2 ?_;dsimp only[yI,fQ];refine aQ l bj fun Y w' l=>?_;have l:Inv w [] [.blk Y (.cells #[.int .i64 0,.int .i64 0,.string ⟨#[]⟩,.slice none 0 0] ab)] S w':=l;refine ⟨fun b w'=>b=.bool false/\Inv w [] [.blk Y (.cells #[.int .i64 0,.int .i64 0,.string ⟨#[]⟩,.slice none 0 0] ab)] S w',?_,?_⟩
 ·refine fw (by omega) ?_;refine rpG ?_;refine ge aZ ?_;refine Ap (by omega) ?_;refine rpG ?_;exact ⟨rfl,l⟩
 intro b0 _ _ _ _ _ _ _ w';rintro ⟨rfl,l⟩;refine aD (fun r=>by cases r) (fun _=>?_);refine eW aZ o ?_;split at h
 ·rename_i O
  rw [ml o,bD] at O;refine gf (by omega) ?_;refine aD (fun _=>?_) (fun r=>by cases r);split at h
  ·cases h
  rename_i u m hr
  split at h
  ·rename_i a7
   simp only [aY,cE] at h;obtain ⟨rfl,rfl⟩:=h;have a1:=(iW g).1 _ _ _ _ _ _ hr;refine fq (a:=i) (b:=1) rfl rfl (by omega) ?_;refine Run.call0E gX gW l (hR s (i+1) d 3 u m S hr hs (by omega) hd (by omega)) fun v I' S2 w'=>?_;rintro ⟨rfl,cs,rfl,B⟩ G l;obtain ⟨kv,rfl,_,_,_,a,k,rfl,_⟩:=RdT.iff.1 B;refine av (v:=.agg _) rfl ?_;refine av (v:=.int .i64 (m:Int)) rfl ?_;refine aQ l bj fun b8 w' l=>?_;refine au l 1 rfl ad rfl rfl (by simp [Value.oneCell']) fun w' l=>?_;refine fw (by omega) ?_;refine aD (fun r=>by cases r) (fun _=>?_);refine Run.callPure dw dv l (df s m 41 S2) fun w' l=>?_;refine cw ?_;rw [a7];refine aD (fun r=>by cases r) (fun _=>?_);refine aC l 1 ad rfl rfl ?_;refine fq (a:=m) (b:=1) rfl rfl (by omega) ?_;refine au l 0 rfl ad rfl rfl (by simp [Value.oneCell']) fun w' l=>?_;refine bB l 0 ad rfl rfl ?_;exact ⟨_,[],S2,rfl,l.nil,G,rfl,_,rfl,B⟩
  ·cases h
 rename_i O
 rw [ml o,bD] at O;refine fc (by omega) ?_;refine aD (fun r=>by cases r) (fun _=>?_);refine ⟨fun b w'=>b=.bool (sgn s i 91 && !sgn s (i+1) 93)/\Inv w [] [.blk Y (.cells #[.int .i64 0,.int .i64 0,.string ⟨#[]⟩,.slice none 0 0] ab)] S w',?_,?_⟩
 ·refine eW aZ o ?_;by_cases J:s[i].toNat=91
  ·refine gf (by omega) ?_;refine rpG ?_;refine fq (a:=i) (b:=1) rfl rfl (by omega) ?_;refine Run.callPure dw dv l (df s (i+1) 93 S) fun w' l=>?_;refine cw ?_;refine rpG ?_;exact ⟨by rw [ml o,aN J,eH],l⟩
  ·refine fc (by omega) ?_;refine rpG ?_;exact ⟨by rw [ml o,ba J,iP],l⟩
 intro b1 _ _ _ _ _ _ _ _ _ _ w';rintro ⟨rfl,l⟩;split at h
 ·rename_i J
  rw [J.1,J.2];refine aD (fun _=>?_) (fun r=>by cases r);split at h
  ·cases h
  rename_i ts m M
  have h2:(sgn s m 93=true/\t=jV ts Yh/\n=m+1) ∨ (sgn s m 93=false/\∃ u k,ld g s (m+1) (d - 1) 3=some (u,k)/\sgn s k 93=true/\t=jV ts u/\n=k+1):=by
   split at h
   ·rename_i h3
    simp only [aY,cE] at h;exact .inl ⟨h3,h.1.symm,h.2.symm⟩
   ·rename_i h3
    split at h
    ·cases h
    rename_i u k hr
    split at h
    ·rename_i h4
     simp only [aY,cE] at h;exact .inr ⟨bx.2 h3,u,k,hr,h4,h.1.symm,h.2.symm⟩
    ·cases h
  refine fq (a:=i) (b:=1) rfl rfl (by omega) ?_;refine Fj (a:=d) (b:=1) rfl rfl a0 (by omega) ?_;refine Run.call0E Lt Ly l (Mz hT hR M h2 hs (by omega) (by omega) S) fun v I' S2 w'=>?_;rintro ⟨rfl,cs,rfl,B⟩ G l;obtain ⟨kv,rfl,_,_,_,a,k,rfl,_⟩:=RdT.iff.1 B;refine av (v:=.agg _) rfl ?_;refine av (v:=.int .i64 (n:Int)) rfl ?_;refine au l 0 rfl ad rfl rfl (by simp [Value.oneCell']) fun w' l=>?_;refine bB l 0 ad rfl rfl ?_;exact ⟨_,[],S2,rfl,l.nil,G,rfl,_,rfl,B⟩
 rename_i J
 have a8:(sgn s i 91 && !sgn s (i+1) 93)=false:=by
  cases h5:sgn s i 91
  ·rfl
  ·cases h6:sgn s (i+1) 93
   ·exact absurd ⟨h5,h6⟩ J
   ·rfl
 rw [a8];refine aD (fun r=>by cases r) (fun _=>?_);refine ⟨fun b w'=>b=.bool (upp s i)/\Inv w [] [.blk Y (.cells #[.int .i64 0,.int .i64 0,.string ⟨#[]⟩,.slice none 0 0] ab)] S w',?_,?_⟩
 ·refine eW aZ o ?_;by_cases a3:65<=s[i].toNat
  ·refine qk (by omega) ?_;refine rpG ?_;refine eW aZ o ?_;refine fU ?_;refine rpG ?_;refine ⟨?_,l⟩;rw [upp,qG o,aN a3,eH]
   congr 1
   rw [gB];omega
  ·refine Ap (by omega) ?_;refine rpG ?_;exact ⟨by rw [upp,qG o,ba a3,iP],l⟩
 intro b2 _ _ _ _ _ _ _ _ _ w';rintro ⟨rfl,l⟩;split at h
 ·rename_i N
  simp only [aY,cE] at h;obtain ⟨rfl,rfl⟩:=h;rw [N];rw [upp,qG o,bM,bD,bD] at N;refine aD (fun _=>?_) (fun r=>by cases r);refine eW aZ o ?_;refine VD (c:=(s[i].toNat:Int) - 65) (IntWalk.u8_in _ (by omega)) ?_;refine sZ gV iK (IntWalk.i64_in _ (by omega)) ?_;refine Run.callPure GS Et l (vH _ S) fun w' l=>?_;refine fq (a:=i) (b:=1) rfl rfl (by omega) ?_;refine au l 0 rfl ad rfl rfl (by simp [Value.oneCell']) fun w' l=>?_;refine bB l 0 ad rfl rfl ?_;have eg:((s.getD i 0).toNat:Int) - 65=(s[i].toNat:Int) - 65:=by rw [x0,ew o]; rfl
  rw [eg];exact ⟨_,[],S,rfl,l.nil,Ext.refl _ _ _,rfl,_,rfl,RdT.nil (by simp [inI]) (by unfold inI; omega) (by decide +kernel) (bk _)⟩
 rename_i N
 rw [bx.2 N];refine aD (fun r=>by cases r) (fun _=>?_);refine ⟨fun b w'=>b=.bool (dig s i || (sgn s i 45 && dig s (i+1)))/\Inv w [] [.blk Y (.cells #[.int .i64 0,.int .i64 0,.string ⟨#[]⟩,.slice none 0 0] ab)] S w',?_,?_⟩
 ·refine Run.callPure l0 lW l (iU s i S) fun w' l=>?_;cases b5:dig s i
  ·refine rpG ?_;refine eW aZ o ?_;by_cases a4:s[i].toNat=45
   ·refine gf (by omega) ?_;refine rpG ?_;refine fq (a:=i) (b:=1) rfl rfl (by omega) ?_;refine Run.callPure l0 lW l (iU s (i+1) S) fun w' l=>?_;refine rpG ?_;exact ⟨by rw [ml o,aN a4,eH,iz],l⟩
   ·refine fc (by omega) ?_;refine rpG ?_;exact ⟨by rw [ml o,ba a4,iP,iz],l⟩
  ·refine rpG ?_;exact ⟨by rw [zO],l⟩
 intro a9 _ _ _ _ _ _ _ _ _ _ _ _ _ _ w';rintro ⟨rfl,l⟩;split at h
 ·rename_i U
  have:(dig s i || (sgn s i 45 && dig s (i+1)))=true:=by rw [jc,bM]; exact U
  rw [this];refine aD (fun _=>?_) (fun r=>by cases r);obtain ⟨k,hk,rfl,_,_,Z⟩:=GK h (by omega) S;refine Run.callPure Hx HY l Z fun w' l=>?_;refine av (v:=IG 2 k) rfl ?_;refine av (v:=.int .i64 (n:Int)) rfl ?_;refine aQ l bj fun b3 w' l=>?_;refine au l 1 rfl ad rfl rfl (by simp [Value.oneCell']) fun w' l=>?_;refine fw (by omega) ?_;refine aD (fun r=>by cases r) (fun _=>?_);refine aC l 1 ad rfl rfl ?_;refine au l 0 rfl ad rfl rfl (by simp [Value.oneCell']) fun w' l=>?_;refine bB l 0 ad rfl rfl ?_;exact ⟨_,[],S,rfl,l.nil,Ext.refl _ _ _,rfl,_,rfl,RdT.nil (by simp [inI]) hk (by decide +kernel) (bk _)⟩
 rename_i U
 have:(dig s i || (sgn s i 45 && dig s (i+1)))=false:=by
  rw [bx,ne_eq,jc,bM]; exact U
 rw [this];refine aD (fun r=>by cases r) (fun _=>?_);refine Run.callPure CL CF l (yO o hs S) fun w' l=>?_;cases V:zI s i with
 | none=>rw [V] at h; cases h
 | some q=>
 obtain ⟨name,m⟩:=q;rw [V] at h;simp only [] at h;simp only [Rg];have a2:=yD o V;refine av (v:=.string (st name)) rfl ?_;refine av (v:=.int .i64 (m:Int)) rfl ?_;refine fw (by omega) ?_;refine aD (fun r=>by cases r) (fun _=>?_);refine Run.callPure dw dv l (df s m 40 S) fun w' l=>?_;refine cw ?_;split at h
 ·rename_i D
  simp only [aY,cE] at h;obtain ⟨rfl,rfl⟩:=h;rw [D];refine aD (fun _=>?_) (fun r=>by cases r);refine Run.call0E dQ dR l (eK (st name) (Lr a2.2.2.1) (lV S) (by simp)) fun v I' S2 w'=>?_;rintro ⟨rfl,cs,rfl,B⟩ G l;obtain ⟨kv,rfl,_,_,_,a,k,rfl,_⟩:=RdT.iff.1 B;refine au l 0 rfl ad rfl rfl (by simp [Value.oneCell']) fun w' l=>?_;refine bB l 0 ad rfl rfl ?_;exact ⟨_,[],S2,rfl,l.nil,G,rfl,_,rfl,B⟩
 ·rename_i D
  rw [Bool.not_eq_false] at D;rw [D];refine aD (fun r=>by cases r) (fun _=>?_);split at h
  ·cases h
  rename_i ts k M
  simp only [aY,cE] at h;obtain ⟨rfl,rfl⟩:=h;have hm:=jE D;have a1:=(iW g).2.2.2 _ _ _ _ _ _ _ _ M;refine fq (a:=m) (b:=1) rfl rfl (by omega) ?_;refine Fj (a:=d) (b:=1) rfl rfl a0 (by omega) ?_;refine Run.call0E yq yt l (hT s (m+1) (d - 1) 41 41 ts k S M hs (by omega) (by omega)) fun v I' S2 w'=>?_;rintro ⟨rfl,u,rfl,hu⟩ G l;refine av (v:=u) rfl ?_;refine av (v:=.int .i64 (k:Int)) rfl ?_;refine fw (by omega) ?_;refine aD (fun r=>by cases r) (fun _=>?_);obtain ⟨a,c,rfl,_⟩:=id hu;refine vY ⟨_,_,_,rfl⟩ ?_;refine fq (a:=k) (b:=1) rfl rfl (by omega) ?_;refine au l 0 rfl ad rfl rfl (by simp [Value.oneCell']) fun w' l=>?_;refine bB l 0 ad rfl rfl ?_;exact ⟨_,[],S2,rfl,l.nil,G,rfl,_,rfl,RdT.iff.2 ⟨_,rfl,by simp [inI,T.kind,Mk],by simp [inI,T.n,Mk],Lr a2.2.2.1,hu⟩⟩
theorem XF {f:Nat} (a2:∀ g,g<f->tq g) (a7:∀ g,g<f->KO g):tq f:=by
 intro s i d l t n S h hs hi hd hl w m;cases f with
 | zero=>simp [ld] at h
 | succ f=>
 refine B7.2 ?_;dsimp only[B7,lK];refine aQ m bj fun b8 w' m=>?_;have m:Inv w [] [.blk b8 (.cells #[.int .i64 0,.int .i64 0,.string ⟨#[]⟩,.slice none 0 0] ab)] S w':=m;cases l with
 | zero=>
  rw [ld] at h;refine gf rfl ?_;refine aD (fun _=>?_) (fun B=>by cases B);refine Run.call0E L3 Ki m (a7 f (by omega) s i d t n S h hs hi hd) fun v I' S2 w'=>?_;rintro ⟨rfl,cs,rfl,J⟩ N m;obtain ⟨kv,rfl,_,_,_,a,k,rfl,_⟩:=RdT.iff.1 J;refine av (v:=.agg _) rfl ?_;refine av (v:=.int .i64 (n:Int)) rfl ?_;refine au m 0 rfl ad rfl rfl (by simp [Value.oneCell']) fun w' m=>?_;refine bB m 0 ad rfl rfl ?_;exact ⟨_,[],S2,rfl,m.nil,N,rfl,_,rfl,J⟩
 | succ l=>
  rw [ld] at h;split at h
  ·cases h
  rename_i t0 n0 hr
  have U:=(iW f).1 _ _ _ _ _ _ hr;refine fc (by omega) ?_;refine aD (fun B=>by cases B) (fun _=>?_);refine Fj (a:=l+1) (b:=1) rfl rfl (by omega) (by omega) ?_;rw [Nat.add_sub_cancel];refine Run.call0E gX gW m (a2 f (by omega) s i d l t0 n0 S hr hs hi hd (by omega)) fun v I' S1 w'=>?_;rintro ⟨rfl,cs,rfl,J⟩ a3 m;obtain ⟨kv,rfl,_,_,_,a,k,rfl,_⟩:=RdT.iff.1 J;refine av (v:=.agg _) rfl ?_;refine av (v:=.int .i64 (n0:Int)) rfl ?_;refine aQ m bj fun Z w' m=>?_;refine au m 1 rfl ad rfl rfl (by simp [Value.oneCell']) fun w' m=>?_;refine ⟨fun a w'=>∃ (f' n':Nat) (G:T) (ds:List Value) (S1:ae),f'<=f/\a=.int .i64 (n':Int)/\n'<=s.length/\Nf f' s n' d l G=some (t,n)/\Ext w.heap.size [] S S1/\RdT S1 ds G/\Inv w [] [.blk b8 (.cells #[.int .i64 0,.int .i64 0,.string ⟨#[]⟩,.slice none 0 0] ab),.blk Z (.cells ds.toArray ab)] S1 w',
   fun a _=>s.length+1 - (intOf a).toNat,⟨f,n0,t0,_,S1,aS _,rfl,U.2,h,a3,J,m⟩,?_⟩
  clear h a3 J m hr U;intro _ _ _ _ b5 _ _ _ _ _ _ _ _ _ _ _ _ _ _ _ _ _ _ _ _ _ _ _ _ _ _ _ _ _ _ _ _ _ _ _ _ _ _ _ _ _ _ w';rintro ⟨f',n',G,ds,S1,b6,rfl,a8,D,hE,O,m⟩;obtain ⟨kd,rfl,_,_,b4,da,dm,rfl,_⟩:=RdT.iff.1 O;cases f' with
  | zero=>simp [Nf] at D
  | succ g=>
  rw [Nf] at D;refine qk (by omega) ?_;refine aD (fun _=>?_) (fun B=>by cases B);refine Run.callPure Tx SQ m (O8 hs a8 S1) fun w' m=>?_;cases a1:opF s n' with
  | none=>
   rw [a1] at D;simp only [aY,cE] at D;obtain ⟨rfl,rfl⟩:=D;simp only [opV];refine av (v:=.string ⟨#[]⟩) rfl ?_;refine av (v:=.int .i64 (n':Int)) rfl ?_;refine ⟨fun b w'=>b=.bool true/\Inv w [] [.blk b8 (.cells #[.int .i64 0,.int .i64 0,.string ⟨#[]⟩,.slice none 0 0] ab),.blk Z (.cells #[.int .i64 G.kind,.int .i64 G.n,.string G.name,.slice da G.kids.length dm] ab)] S1 w',?_,?_⟩
   ·refine bQ ?_;rw [aN rfl];refine rpG ?_;exact ⟨rfl,m⟩
   intro a9 _ _ _ _ _ _ _ w';rintro ⟨rfl,m⟩;refine aD (fun _=>?_) (fun B=>by cases B);refine aC m 1 ad rfl rfl ?_;refine au m 0 rfl ad rfl rfl (by simp [Value.oneCell']) fun w' m=>?_;refine bB m 0 ad rfl rfl ?_;exact ⟨_,[],S1,rfl,m.nil,hE,rfl,_,rfl,O⟩
  | some q=>
   obtain ⟨name,M⟩:=q;rw [a1] at D;simp only [] at D;simp only [opV];have a5:=V6 a1;refine av (v:=.string (st name)) rfl ?_;refine av (v:=.int .i64 (M:Int)) rfl ?_;refine ⟨fun b w'=>b=.bool (!decide (cS (st name)=((l+1:Nat):Int)))/\Inv w [] [.blk b8 (.cells #[.int .i64 0,.int .i64 0,.string ⟨#[]⟩,.slice none 0 0] ab),.blk Z (.cells #[.int .i64 G.kind,.int .i64 G.n,.string G.name,.slice da G.kids.length dm] ab)] S1 w',?_,?_⟩
   ·refine GP (b:=[]) ?_;rw [ba a5.2.2.2];refine rpG ?_;refine Run.callPure gi gg m (eG _ S1) fun w' m=>?_;refine fW ?_;refine rpG ?_;exact ⟨rfl,m⟩
   intro a9 _ _ _ _ _ _ _ w';rintro ⟨rfl,m⟩;split at D
   ·rename_i V
    rw [aN V];refine aD (fun B=>by cases B) (fun _=>?_);split at D
    ·cases D
    rename_i r e hr
    have U:=(iW g).1 _ _ _ _ _ _ hr;refine Fj (a:=l+1) (b:=1) rfl rfl (by omega) (by omega) ?_;rw [Nat.add_sub_cancel];refine Run.call0E gX gW m (a2 g (by omega) s M d l r e S1 hr hs (by omega) hd (by omega)) fun v I' S2 w'=>?_;rintro ⟨rfl,es,rfl,a4⟩ N m;obtain ⟨ke,rfl,_,_,_,ea,em,rfl,_⟩:=RdT.iff.1 a4;refine av (v:=.agg _) rfl ?_;refine av (v:=.int .i64 (e:Int)) rfl ?_;refine aQ m bj fun b7 w' m=>?_;refine au m 2 rfl ad rfl rfl (by simp [Value.oneCell']) fun w' m=>?_;refine fw (by omega) ?_;refine aD (fun B=>by cases B) (fun _=>?_);refine aC m 1 ad rfl rfl ?_;refine aC m 2 ad rfl rfl ?_;refine wD (v:=fun b=>.slice (some ⟨b,0,none⟩) 2 2) (o:=.cells #[.int .i64 G.kind,.int .i64 G.n,.string G.name,.slice da G.kids.length dm,.int .i64 r.kind,.int .i64 r.n,.string r.name,.slice ea r.kids.length em] ab) m (by kernel_rfl) fun b9 w' m=>?_;obtain ⟨S3,m,a0,b2⟩:=Inv.pub1 (A:=[_,_,_]) m;have b3:=Qc b2 (RdT.mono (N.1.trans a0.1) O) (RdT.mono a0.1 a4);refine Run.call0E dQ dR m (eK (st name) (Lr a5.2.2.1) b3 (by simp)) fun v I' S4 w'=>?_;rintro ⟨rfl,gs,rfl,Y⟩ b0 m;obtain ⟨kg,rfl,_,_,_,ga,gm,rfl,_⟩:=RdT.iff.1 Y;have a6:=((hE.trans N).trans a0).trans b0;refine au m 1 rfl ad rfl rfl (by simp [Value.oneCell']) fun w' m=>?_;split at D
    ·rename_i b1
     subst b1;simp only [aY,cE] at D;obtain ⟨rfl,rfl⟩:=D;refine gf rfl ?_;refine aD (fun _=>?_) (fun B=>by cases B);refine aC m 1 ad rfl rfl ?_;refine au m 0 rfl ad rfl rfl (by simp [Value.oneCell']) fun w' m=>?_;refine bB m 0 ad rfl rfl ?_;exact ⟨_,[],S4,rfl,m.nil,a6,rfl,_,rfl,Y⟩
    ·refine fc (by omega) ?_;refine aD (fun B=>by cases B) (fun _=>?_);refine ⟨⟨g,e,_,_,S4,by omega,rfl,U.2,D,a6,Y,m.pick [true,true,false]⟩,?_⟩;simp only [intOf,cu];omega
   ·rename_i V
    rw [ba V];simp only [aY,cE] at D;obtain ⟨rfl,rfl⟩:=D;refine aD (fun _=>?_) (fun B=>by cases B);refine aC m 1 ad rfl rfl ?_;refine au m 0 rfl ad rfl rfl (by simp [Value.oneCell']) fun w' m=>?_;refine bB m 0 ad rfl rfl ?_;exact ⟨_,[],S1,rfl,m.nil,hE,rfl,_,rfl,O⟩
theorem TR:∀ F f,f<F->tq f/\KO f/\x1 f
 | 0,f,h=>by omega
 | F+1,f,h=>by
  have a:=TR F;have hR:tq f:=XF (fun g i=>(a g (by omega)).1) (fun g i=>(a g (by omega)).2.1);have l:x1 f:=Uy fun g i=>(a g (by omega)).1;exact ⟨hR,Uo (fun g i=>(a g (by omega)).1) (fun g i=>(a g (by omega)).2.2),l⟩
theorem JB (f:Nat):tq f:=(TR (f+1) f (by omega)).1
end
end
section
open Go Go.RowKit

def oD (cs:List Value) (n:Nat):Prop:=cs=[.int .u8 (n:Int)]/\n<256
abbrev rdI (br:Nat) (sl:Value) (p:Nat):Item:=.blk br (.cells #[sl,.int .i64 (p:Int)] Oo)
abbrev rdP (br:Nat):Value:=.pointer (some ⟨br,0,none⟩)
section
variable {P:Program} {w:World} {K:Value->World->Prop}
theorem Ps {T:TypeId} {f g:Bool} {x y:Int} {a b:Nat} (h:x=a) (i:y=b) (l:0<b) (hk:K (.int .i64 ((a % b:Nat):Int)) w):Run P (c9 .rem T f g (.int .i64 x) (.int .i64 y)) w K:=by
 subst h i;exact Pn l hk
theorem Pk {T:TypeId} {f g:Bool} {x y:Int} {a b:Nat} (h:x=a) (i:y=b) (l:0<b) (m:a<=9223372036854775807) (hk:K (.int .i64 ((a / b:Nat):Int)) w):Run P (c9 .quo T f g (.int .i64 x) (.int .i64 y)) w K:=by
 subst h i;exact YN l m hk
theorem Y7 {T:TypeId} {f g:Bool} {x y:Int} {a b:Nat} (h:x=a) (i:y=b) (l:a<4611686018427387904) (m:b<4611686018427387904) (hk:K (.int .i64 ((a ^^^ b:Nat):Int)) w):Run P (c9 .xor T f g (.int .i64 x) (.int .i64 y)) w K:=by
 subst h i;exact Zc l m hk
end
theorem RdSl.u8 {S:ae} {sl:Value} {ys:List Nat} (h:RdSl S 1 oD sl ys) (g:0<ys.length):∃ b o cap c E f,sl=.slice (some ⟨b,o,none⟩) ys.length cap/\S b=some (.cells c E f)/\
  ∀ i,i<ys.length->∃ y:Nat,c[o+i * 1]?=some (.int .u8 (y:Int))/\y<256:=by
 obtain ⟨a,cap,rfl,hl,hc,h⟩:=h;rcases h with rfl|⟨b,o,c,E,f,rfl,r,hR⟩
 ·simp at g
 ·refine ⟨b,o,cap,c,E,f,rfl,r,fun i l=>?_⟩;obtain ⟨m,q⟩:=hR i l;exact ⟨ys[i],aF m 0 _ rfl,q⟩
section
attribute [local irreducible] Run CondV aq aK
abbrev ZF (S:ae) (br:Nat) (sl:Value) (p n:Nat):Value->List Item->ae->Prop:=fun v I' S'=>S'=S/\I'=[rdI br sl (p+1)]/\∃ k:Nat,k<n/\v=.int .i64 (k:Int)
theorem dJ {ys:List Nat} {S:ae} {sl:Value} {br p n:Nat} (h:RdSl S 1 oD sl ys) (hp:p<=1000000000000) (hn:0<n):Tri Tryz.prog F4 [rdP br,.int .i64 (n:Int)] [rdI br sl p] S (ZF S br sl p n):=by
 intro w g;refine rJ.2 ?_;dsimp only[rJ,bm];obtain ⟨X,hX⟩:∃ X,X=bP [rdI br sl p]:=⟨_,rfl⟩
 rw [<- hX] at g ⊢;have b9:∃ a m cap,sl=.slice a m cap/\m=ys.length:=by
  obtain ⟨a,cap,e,_⟩:=h;exact ⟨a,_,cap,e,rfl⟩
 refine aE ?_;refine aw sz ?_;refine aT g 0 aG rfl rfl ?_;refine bC (by omega) ?_;refine aE ?_;refine aw sz ?_;refine dy g 0 (n:=1) rfl (by decide +kernel) rfl (by simp) (by simp [Value.cells,Value.oneCell']) fun w' g=>?_;have g:Inv w X [rdI br sl (p+1)] S w':=g;have hN:∃ N:Nat,N=ys.length:=⟨_,rfl⟩
 refine ⟨fun t w'=>t=.bool (decide (ys.length=0))/\Inv w X [rdI br sl (p+1)] S w',?_,?_⟩
 ·refine fw (by omega) ?_;refine PJ (fun _=>?_) (fun hb=>by simp at hb);refine aE ?_;refine aw fR ?_;refine aT g 0 jf rfl rfl ?_;refine aJ h eQ ?_;refine bw ?_;refine xf ?_;refine ⟨?_,g⟩;simp
 intro b6 _ _ _ _ _ _ _ _ _ w';rintro ⟨rfl,g⟩;refine aL (fun _=>⟨_,_,_,rfl,g,Ext.refl _ _ _,rfl,rfl,0,hn,rfl⟩) (fun B=>?_);have B:0<ys.length:=by omega
 obtain ⟨b,o,cap,c,E,fz,rfl,hS,hc⟩:=h.u8 B;refine aE ?_;refine aw sz ?_;refine aT g 0 aG rfl rfl ?_;refine kT (by omega) ?_;have ep:((p+1:Nat):Int) - 1=(p:Int):=by omega
 rw [ep];refine aE ?_;refine aw fR ?_;refine aT g 0 jf rfl rfl ?_;refine iA eQ ?_;refine bS ?_;refine aL (fun b7=>?_) (fun _=>?_)
 ·have r:p<ys.length:=by omega
  obtain ⟨y,hy,b2⟩:=hc p r;refine aE ?_;refine aw fR ?_;refine aT g 0 jf rfl rfl ?_;refine az eQ r ?_;refine cQ EJ ((g.cellS hS).trans hy) ?_;refine sZ gV iK (IntWalk.i64_in _ (by omega)) ?_;refine Pn hn ?_;exact ⟨_,_,_,rfl,g,Ext.refl _ _ _,rfl,rfl,y % n,wY _ hn,rfl⟩
 ·obtain ⟨G,Y⟩:∃ G,G=p % ys.length:=⟨_,rfl⟩
  obtain ⟨J,Z⟩:∃ J,J=(p * 7+3) % ys.length:=⟨_,rfl⟩
  obtain ⟨q,a0⟩:∃ q,q=p / ys.length:=⟨_,rfl⟩
  have b0:G<ys.length:=by rw [Y]; exact wY _ B
  have b1:J<ys.length:=by rw [Z]; exact wY _ B
  have hq:q<=p:=by rw [a0]; exact Nat.div_le_self ..
  obtain ⟨i,b3,b8⟩:=hc G b0;obtain ⟨l,b4,b2⟩:=hc J b1
  skip
  refine ⟨fun D x6 T6 U4 Vu VJ Vb T7 Uj UW Vt Uu RZ RG T0 VB UU TO Ud Wu Ws V5 Xs X5 M ZR O U Wj UK IK EQ Gi Eh Fa EG E3 GO JR Jd Gr r8 Cu Cw zl yZ sx w_=>Fx D 0 [sx=.pointer (some ⟨br,0,none⟩),yZ=.pointer (some ⟨br,0,none⟩),zl=.pointer (some ⟨br,0,none⟩),Cw=.slice (some ⟨b,o,none⟩) ys.length cap,Cu=.int .i64 (p:Int),r8=.pointer (some ⟨br,0,none⟩),Gr=.pointer (some ⟨br,0,none⟩),Jd=.pointer (some ⟨br,0,none⟩),JR=.slice (some ⟨b,o,none⟩) ys.length cap,GO=.int .i64 (ys.length:Int),E3=.int .i64 (((G:Nat):Int)),EG=.pointer (some ⟨b,o+G * 1,none⟩),Fa=.int .u8 ((i:Nat):Int),Eh=.int .i64 (((i:Nat):Int)),Gi=.int .i64 ((((i:Nat):Int) * 131)),EQ=.pointer (some ⟨br,0,none⟩),IK=.pointer (some ⟨br,0,none⟩),UK=.pointer (some ⟨br,0,none⟩),Wj=.slice (some ⟨b,o,none⟩) ys.length cap,U=.int .i64 (p:Int),O=.int .i64 (((p:Int) * 7)),ZR=.int .i64 ((((p:Int) * 7)+3)),M=.pointer (some ⟨br,0,none⟩),X5=.pointer (some ⟨br,0,none⟩),Xs=.pointer (some ⟨br,0,none⟩),V5=.slice (some ⟨b,o,none⟩) ys.length cap,Ws=.int .i64 (ys.length:Int),Wu=.int .i64 (((J:Nat):Int)),Ud=.pointer (some ⟨b,o+J * 1,none⟩),TO=.int .u8 ((l:Nat):Int),UU=.int .i64 (((l:Nat):Int)),VB=.int .i64 ((((l:Nat):Int) * 1117)),T0=.int .i64 (((((i:Nat):Int) * 131)+(((l:Nat):Int) * 1117))),RG=.int .i64 (p:Int),RZ=.int .i64 (((p:Int) * 29)),Uu=.int .i64 ((((((i:Nat):Int) * 131)+(((l:Nat):Int) * 1117))+((p:Int) * 29))),Vt=.int .i64 (p:Int),UW=.pointer (some ⟨br,0,none⟩),Uj=.pointer (some ⟨br,0,none⟩),T7=.pointer (some ⟨br,0,none⟩),Vb=.slice (some ⟨b,o,none⟩) ys.length cap,VJ=.int .i64 (ys.length:Int),Vu=.int .i64 (((q:Nat):Int)),U4=.int .i64 ((((q:Nat):Int) * 53)),T6=.int .i64 (((((((i:Nat):Int) * 131)+(((l:Nat):Int) * 1117))+((p:Int) * 29))+(((q:Nat):Int) * 53))),x6=.int .i64 (((((((i:Nat):Int) * 131)+(((l:Nat):Int) * 1117))+((p:Int) * 29))+(((q:Nat):Int) * 53)))]/\Inv w X [rdI br (.slice (some ⟨b,o,none⟩) ys.length cap) (p+1)] S w_,⟨Fx.nil _ _,g.draw⟩,⟨?_,?_,?_,?_,?_,?_,?_,?_,?_,?_,?_,?_,?_,?_,?_,?_,?_,?_,?_,?_,?_,?_,?_,?_,?_,?_,?_,?_,?_,?_,?_,?_,?_,?_,?_,?_,?_,?_,?_,?_,?_,?_,?_,?_,?_,?_,trivial⟩,?_⟩;all_goals (intro D bH; intros; rename_i x6 T6 U4 Vu VJ Vb T7 Uj UW Vt Uu RZ RG T0 VB UU TO Ud Wu Ws V5 Xs X5 M ZR O U Wj UK IK EQ Gi Eh Fa EG E3 GO JR Jd Gr r8 Cu Cw zl yZ sx w_ V; have f:=V.1; obtain ⟨⟨cI,cJ,cH,cD,cL,cN,cq,dg,dG,dL,cT,dn,dN,fE,gy,gP,iH,kw,lQ,ip,oW,sg,z5,AF,NB,ZZ,a1,a2,ZE,a3,ZS,ZM,a4,a5,a6,a7,ZT,a8,Zu,Z0,a9,Zi,Z9,Z3,Zx,b5,_⟩,g⟩:=V)
  ·exact ⟨f.set 0 rfl,g⟩
  ·obtain rfl:=cI ‹_›;refine aE ?_;exact ⟨f.set 1 rfl,g⟩
  ·obtain rfl:=cJ ‹_›;refine aw fR ?_;exact ⟨f.set 2 rfl,g⟩
  ·obtain rfl:=cH ‹_›;refine aT g 0 jf rfl rfl ?_;exact ⟨f.set 3 rfl,g⟩
  ·exact ⟨f.set 4 rfl,g⟩
  ·exact ⟨f.set 5 rfl,g⟩
  ·obtain rfl:=cN ‹_›;refine aE ?_;exact ⟨f.set 6 rfl,g⟩
  ·obtain rfl:=cq ‹_›;refine aw fR ?_;exact ⟨f.set 7 rfl,g⟩
  ·obtain rfl:=dg ‹_›;refine aT g 0 jf rfl rfl ?_;exact ⟨f.set 8 rfl,g⟩
  ·obtain rfl:=dG ‹_›;refine iA eQ ?_;exact ⟨f.set 9 rfl,g⟩
  ·obtain rfl:=cL ‹_›;obtain rfl:=dL ‹_›;refine Ps (a:=p) (b:=ys.length) (by omega) rfl B ?_; rw [<- Y];exact ⟨f.set 10 rfl,g⟩
  ·obtain rfl:=cD ‹_›;obtain rfl:=cT ‹_›;refine az eQ b0 ?_;exact ⟨f.set 11 rfl,g⟩
  ·obtain rfl:=dn ‹_›;refine cQ EJ ((g.cellS hS).trans b3) ?_;exact ⟨f.set 12 rfl,g⟩
  ·obtain rfl:=dN ‹_›;refine sZ gV iK (IntWalk.i64_in _ (by omega)) ?_;exact ⟨f.set 13 rfl,g⟩
  ·obtain rfl:=fE ‹_›;refine FD (by omega) ?_;exact ⟨f.set 14 rfl,g⟩
  ·exact ⟨f.set 15 rfl,g⟩
  ·obtain rfl:=gP ‹_›;refine aE ?_;exact ⟨f.set 16 rfl,g⟩
  ·obtain rfl:=iH ‹_›;refine aw fR ?_;exact ⟨f.set 17 rfl,g⟩
  ·obtain rfl:=kw ‹_›;refine aT g 0 jf rfl rfl ?_;exact ⟨f.set 18 rfl,g⟩
  ·exact ⟨f.set 19 rfl,g⟩
  ·obtain rfl:=ip ‹_›;refine FD (by omega) ?_;exact ⟨f.set 20 rfl,g⟩
  ·obtain rfl:=oW ‹_›;refine bC (by omega) ?_;exact ⟨f.set 21 rfl,g⟩
  ·exact ⟨f.set 22 rfl,g⟩
  ·obtain rfl:=z5 ‹_›;refine aE ?_;exact ⟨f.set 23 rfl,g⟩
  ·obtain rfl:=AF ‹_›;refine aw fR ?_;exact ⟨f.set 24 rfl,g⟩
  ·obtain rfl:=NB ‹_›;refine aT g 0 jf rfl rfl ?_;exact ⟨f.set 25 rfl,g⟩
  ·obtain rfl:=ZZ ‹_›;refine iA eQ ?_;exact ⟨f.set 26 rfl,g⟩
  ·obtain rfl:=sg ‹_›;obtain rfl:=a1 ‹_›;refine Ps (a:=p * 7+3) (b:=ys.length) (by omega) rfl B ?_; rw [<- Z];exact ⟨f.set 27 rfl,g⟩
  ·obtain rfl:=lQ ‹_›;obtain rfl:=a2 ‹_›;refine az eQ b1 ?_;exact ⟨f.set 28 rfl,g⟩
  ·obtain rfl:=ZE ‹_›;refine cQ EJ ((g.cellS hS).trans b4) ?_;exact ⟨f.set 29 rfl,g⟩
  ·obtain rfl:=a3 ‹_›;refine sZ gV iK (IntWalk.i64_in _ (by omega)) ?_;exact ⟨f.set 30 rfl,g⟩
  ·obtain rfl:=ZS ‹_›;refine FD (by omega) ?_;exact ⟨f.set 31 rfl,g⟩
  ·obtain rfl:=gy ‹_›;obtain rfl:=ZM ‹_›;refine bC (by omega) ?_;exact ⟨f.set 32 rfl,g⟩
  ·exact ⟨f.set 33 rfl,g⟩
  ·obtain rfl:=a5 ‹_›;refine FD (by omega) ?_;exact ⟨f.set 34 rfl,g⟩
  ·obtain rfl:=a4 ‹_›;obtain rfl:=a6 ‹_›;refine bC (by omega) ?_;exact ⟨f.set 35 rfl,g⟩
  ·exact ⟨f.set 36 rfl,g⟩
  ·exact ⟨f.set 37 rfl,g⟩
  ·obtain rfl:=a8 ‹_›;refine aE ?_;exact ⟨f.set 38 rfl,g⟩
  ·obtain rfl:=Zu ‹_›;refine aw fR ?_;exact ⟨f.set 39 rfl,g⟩
  ·obtain rfl:=Z0 ‹_›;refine aT g 0 jf rfl rfl ?_;exact ⟨f.set 40 rfl,g⟩
  ·obtain rfl:=a9 ‹_›;refine iA eQ ?_;exact ⟨f.set 41 rfl,g⟩
  ·obtain rfl:=ZT ‹_›;obtain rfl:=Zi ‹_›;refine Pk (a:=p) (b:=ys.length) rfl rfl B (by omega) ?_; rw [<- a0];exact ⟨f.set 42 rfl,g⟩
  ·obtain rfl:=Z9 ‹_›;refine FD (by omega) ?_;exact ⟨f.set 43 rfl,g⟩
  ·obtain rfl:=a7 ‹_›;obtain rfl:=Z3 ‹_›;refine bC (by omega) ?_;exact ⟨f.set 44 rfl,g⟩
  ·obtain rfl:=Zx ‹_›;exact ⟨f.set 45 rfl,g⟩
  obtain ⟨rfl,rfl,rfl,rfl,rfl,rfl,rfl,rfl,rfl,rfl,rfl,rfl,rfl,rfl,rfl,rfl,rfl,rfl,rfl,rfl,rfl,rfl,rfl,rfl,rfl,rfl,rfl,rfl,rfl,rfl,rfl,rfl,rfl,rfl,rfl,rfl,rfl,rfl,rfl,rfl,rfl,rfl,rfl,rfl,rfl,rfl,_⟩:=f.all;clear f cI cJ cH cD cL cN cq dg dG dL cT dn dN fE gy gP iH kw lQ ip oW sg z5 AF NB ZZ a1 a2 ZE a3 ZS ZM a4 a5 a6 a7 ZT a8 Zu Z0 a9 Zi Z9 Z3 Zx b5;obtain ⟨x,hx⟩:∃ x:Nat,((((((i:Nat):Int) * 131)+(((l:Nat):Int) * 1117))+((p:Int) * 29))+(((q:Nat):Int) * 53))=(x:Int):=⟨(((((((i:Nat):Int) * 131)+(((l:Nat):Int) * 1117))+((p:Int) * 29))+(((q:Nat):Int) * 53))).toNat,by omega⟩
  have c0:x<=10000000000000000:=by omega
  rw [hx];refine Pk (a:=x) (b:=64) rfl rfl (by omega) (by omega) ?_;refine Y7 (a:=x) (b:=x / 64) rfl rfl (by omega) (by omega) ?_;refine Pn hn ?_;exact ⟨_,_,_,rfl,g,Ext.refl _ _ _,rfl,rfl,_,wY _ hn,rfl⟩
theorem ma {ys:List Nat} {ns:List Int} {S:ae} {sl v:Value} {br p:Nat} (h:RdSl S 1 oD sl ys) (f:RdSl S 1 jD v ns) (g:0<ns.length) (i:p<=1000000000000) :
  Tri Tryz.prog Hn [rdP br,v] [rdI br sl p] S fun r I' S'=>S'=S/\I'=[rdI br sl (p+1)]/\∃ n∈ns,r=.int .i64 n:=by
 intro w a;refine tK.2 ?_;dsimp only[tK,bm];refine aJ f cA ?_;refine Run.call (A:=[]) ct cr a (dJ h i g) fun m I' S' w'=>?_;rintro ⟨rfl,rfl,k,hk,rfl⟩ _ a;obtain ⟨b,o,cap,c,E,q,rfl,l,hR⟩:=f.at_ hk;refine az cA hk ?_;refine cQ aG ((a.cellS l).trans (aF hR 0 _ rfl)) ?_;exact ⟨_,_,_,rfl,a,Ext.refl _ _ _,rfl,rfl,_,bG hk,rfl⟩
theorem xH {ys:List Nat} {ns:List ByteArray} {S:ae} {sl v:Value} {br p:Nat} (h:RdSl S 1 oD sl ys) (f:RdSl S 1 wv v ns) (g:0<ns.length) (i:p<=1000000000000) :
  Tri Tryz.prog L0 [rdP br,v] [rdI br sl p] S fun r I' S'=>S'=S/\I'=[rdI br sl (p+1)]/\∃ n∈ns,r=.string n:=by
 intro w a;refine vE.2 ?_;dsimp only[vE,bm];refine aJ f cV ?_;refine Run.call (A:=[]) ct cr a (dJ h i g) fun m I' S' w'=>?_;rintro ⟨rfl,rfl,k,hk,rfl⟩ _ a;obtain ⟨b,o,cap,c,E,q,rfl,l,hR⟩:=f.at_ hk;refine az cV hk ?_;refine cQ be ((a.cellS l).trans (aF hR 0 _ rfl)) ?_;exact ⟨_,_,_,rfl,a,Ext.refl _ _ _,rfl,rfl,_,bG hk,rfl⟩
theorem OW {ys:List Nat} {S:ae} {v:Value} (h:RdSl S 1 oD v ys) :
  Tri Tryz.prog NR [v] [] S fun r I' S'=>S'=S/\∃ br sl f,r=rdP br/\I'=[rdI br sl 0]/\RdSl S 1 oD sl f:=by
 intro w g;refine yz.2 ?_;dsimp only[yz,aO];refine ⟨fun t w'=>(∃ f,RdSl S 1 oD t f)/\Inv w [] [] S w',?_,?_⟩
 ·refine aJ h eQ ?_;refine eP ?_;refine aL (fun l=>?_) (fun _=>⟨⟨_,h⟩,g⟩);obtain ⟨a,cap,rfl,hl,hc,o⟩:=id h;refine FP (h:=2000) eQ (by omega) ?_;exact ⟨⟨_,RdSl.to h (by omega)⟩,g⟩
 intro m _ _ _ _ _ w';rintro ⟨⟨f,i⟩,g⟩;obtain ⟨a,cap,rfl,_⟩:=id i;refine Run.of (v:=.agg #[.slice a f.length cap,.int .i64 0]) (w':=w') ?_ ?_
 ·unfold cR;rw [Sem.run_bind,run_build w' Oo _ #[.slice a f.length cap,.int .i64 0] (by kernel_rfl),Result.andThen_ok];rfl
 refine bJ g fun br w' g=>?_;exact ⟨_,_,_,rfl,g,Ext.refl _ _ _,rfl,br,_,f,rfl,rfl,i⟩
end
end
end Go.Proofs.YtgllldjiaglkcaaGreatDoor
