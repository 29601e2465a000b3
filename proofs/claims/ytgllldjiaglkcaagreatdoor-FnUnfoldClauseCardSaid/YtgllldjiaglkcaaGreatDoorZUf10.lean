/- Texts read: spec.l1Struct, l1Chain, l2Read, l2Prime, l2Terms, l2Items. (printed by gen_read.py) -/
import Derived.Test.YtgllldjiaglkcaaGreatDoorZUf9
import Derived.Test.YtgllldjiaglkcaaGreatDoorZUf4
import Derived.Test.YtgllldjiaglkcaaGreatDoorZUf8
namespace Go.Proofs.YtgllldjiaglkcaaGreatDoor
section
open Go Go.RowKit
theorem XG {s:Bs} {i e:Nat} {t:T} (hn:VV s i=some (t,e)):i<e/\e<=s.length:=by
 unfold VV at hn;obtain ⟨fr,a⟩:∃ fr,fr=if sgn s i 45=true then i+1 else i:=⟨_,rfl⟩
 simp only [<- a] at hn;have f:=Le s 4 fr;have g:i<=fr/\fr<=i+1:=by rw [a]; split <;> omega
 split at hn
 ·cases hn
 rename_i hc
 simp only [not_or] at hc;simp only [aY,cG] at hn;obtain ⟨_,rfl⟩:=hn;have l:fr<vx s 4 fr:=by
  rcases Kq fr (vx s 4 fr) with h|h
  ·exact h
  ·refine absurd ?_ hc.1;rw [cut,vY];rw [cL];omega
 have:=G5 (y4 s 4 fr (vx s 4 fr - 1) (by omega) (by omega));omega
theorem iT:∀ f:Nat,(∀ s i d l t n,kW f s i d l=some (t,n)->i<n/\n<=s.length)/\(∀ s i d l M t n,MV f s i d l M=some (t,n)->i<=s.length->i<=n/\n<=s.length)/\
  (∀ s i d t n,xm f s i d=some (t,n)->i<n/\n<=s.length)/\(∀ s i d e o m ts n,jI f s i d e o m=some (ts,n)->i<n/\n<s.length)
 | 0=>⟨fun s i d l t n h=>by simp [kW] at h,fun s i d l M t n h=>by simp [MV] at h,fun s i d t n h=>by simp [xm] at h,fun s i d e o m ts n h=>by simp [jI] at h⟩
 | f+1=>by
  obtain ⟨B,U,Y,N⟩:=iT f;refine ⟨fun s i d l t n h=>?_,fun s i d l M t n h hi=>?_,fun s i d t n h=>?_,fun s i d e o m ts n h=>?_⟩
  ·cases l with
   | zero=>rw [kW] at h; exact Y _ _ _ _ _ h
   | succ l=>
    rw [kW] at h;split at h
    ·cases h
    ·rename_i D n' g
     have a:=B _ _ _ _ _ _ g;have b:=U _ _ _ _ _ _ _ h a.2;omega
  ·rw [MV] at h;split at h
   ·simp only [aY,cG] at h;omega
   ·rename_i name G V
    have a:=VK V;split at h
    ·split at h
     ·cases h
     ·rename_i r e g
      have b:=B _ _ _ _ _ _ g;split at h
      ·simp only [aY,cG] at h;omega
      ·have c:=U _ _ _ _ _ _ _ h b.2;omega
    ·simp only [aY,cG] at h;omega
  ·rw [xm] at h;split at h
   ·cases h
   rename_i O
   have O:i<s.length:=by omega
   split at h
   ·split at h
    ·cases h
    ·rename_i D n' g
     have a:=B _ _ _ _ _ _ g;split at h
     ·rename_i q
      have:=jn q;simp only [aY,cG] at h;omega
     ·cases h
   ·split at h
    ·split at h
     ·cases h
     ·rename_i ts n' g
      have a:=N _ _ _ _ _ _ _ _ g;split at h
      ·simp only [aY,cG] at h;omega
      ·split at h
       ·cases h
       ·rename_i D e J
        have b:=B _ _ _ _ _ _ J;split at h
        ·rename_i q
         have:=jn q;simp only [aY,cG] at h;omega
        ·cases h
    ·split at h
     ·simp only [aY,cG] at h;omega
     ·split at h
      ·exact XG h
      ·split at h
       ·cases h
       ·rename_i name n' hn
        have a:=zM O hn;split at h
        ·simp only [aY,cG] at h;omega
        ·split at h
         ·cases h
         ·rename_i ts e g
          have b:=N _ _ _ _ _ _ _ _ g;simp only [aY,cG] at h;omega
  ·rw [jI] at h;split at h
   ·cases h
   ·rename_i D n' g
    have a:=B _ _ _ _ _ _ g;split at h
    ·rename_i q
     have Z:n'<s.length:=q.elim jn jn;simp only [aY,cG] at h;omega
    ·split at h
     ·have b:=N _ _ _ _ _ _ _ _ h;omega
     ·cases h
abbrev aag (t:T):Value->List Item->ae->Prop:=fun v I' S'=>I'=[]/\∃ cs,v=.agg cs.toArray/\RdT S' cs t
abbrev UH (t:T) (n:Nat):Value->List Item->ae->Prop:=fun v I' S'=>I'=[]/\∃ cs,v=.tuple #[.agg cs.toArray,.int .i64 (n:Int)]/\RdT S' cs t
abbrev Yf (ts:List T) (n:Nat):Value->List Item->ae->Prop:=fun v I' S'=>I'=[]/\∃ u,v=.tuple #[u,.int .i64 (n:Int)]/\RdSl S' 4 (RdT S') u ts
theorem lW (S:ae):RdSl S 4 (RdT S) (.slice none 0 0) []:=⟨none,0,rfl,aS _,bk _,.inl rfl⟩
theorem Pg {S:ae} {b:Nat} {E:TypeId} {a c:T} {f g h l:Int} {m o:ByteArray} {v1 v2:Value} (q:S b=some (.cells #[.int .i64 f,.int .i64 g,.string m,v1,.int .i64 h,.int .i64 l,.string o,v2] E))
  (r:RdT S [.int .i64 f,.int .i64 g,.string m,v1] a) (t:RdT S [.int .i64 h,.int .i64 l,.string o,v2] c):RdSl S 4 (RdT S) (.slice (some ⟨b,0,none⟩) 2 2) [a,c]:=by
 refine ⟨_,2,rfl,aS _,by simp [maxLen],.inr ⟨b,0,_,E,(0,0),rfl,q,fun i B=>?_⟩⟩
 match i,B with
 | 0,_=>exact r
 | 1,_=>exact t
section
variable {w w0:World} {X:List Nat} {L:List Item} {S:ae} {K:Value->World->Prop}
attribute [local irreducible] Run CondV aq aK
theorem fw {P:Program} {T:TypeId} {f g:Bool} {x y:Int} {a b:Nat} (h:x=a) (i:y=b) (l:a+b<=1000000000000000) (hk:K (.int .i64 ((a+b:Nat):Int)) w):Run P (c9 .add T f g (.int .i64 x) (.int .i64 y)) w K:=by
 subst h i;refine bC (by omega) ?_;rw [<- Int.natCast_add];exact hk
theorem Fo {P:Program} {T:TypeId} {g h:Bool} {x y:Int} {a b:Nat} (i:x=a) (l:y=b) (f:b<=a) (m:a<=1000000000000000) (hk:K (.int .i64 ((a - b:Nat):Int)) w):Run P (c9 .sub T g h (.int .i64 x) (.int .i64 y)) w K:=by
 subst i l;refine kS (by omega) ?_;rw [<- Int.ofNat_sub f];exact hk
theorem vJ {s:ByteArray} {v:Value} (a:∃ p n m,v=.slice p n m) (hk:K (.agg #[.int .i64 3,.int .i64 0,.string s,v]) w):Run Tryz.prog (cS ab [(0,.int .i64 3),(2,.string s),(3,v)]) w K:=by
 obtain ⟨p,n,m,rfl⟩:=a;refine Run.of (v:=.agg #[.int .i64 3,.int .i64 0,.string s,.slice p n m]) (w':=w) ?_ hk;unfold cS;rw [Sem.run_bind,run_build w ab _ #[.int .i64 3,.int .i64 0,.string s,.slice p n m] (by kernel_rfl),Result.andThen_ok];rfl
theorem xO (s:ByteArray) {ks:List T} {u:Value} (h:RdSl S 4 (RdT S) u ks) (hk:ks.length<=1000000):Tri Tryz.prog xY [.string s,u] [] S fun v I' S'=>S'=S/\∃ kv css,v=.agg #[.int .i64 3,.int .i64 0,.string s,kv]/\I'=[aA kv ab 4 css]/\Rows 4 (RdT S) css ks:=by
 intro w f;refine vR.2 ?_;dsimp only[vR,bm];refine aQ f bj fun i w' f=>?_;refine ei f bn fun v0 w' f=>?_;have f:Inv w [] [.blk i (.cells #[.int .i64 0,.int .i64 0,.string ⟨#[]⟩,.slice none 0 0] ab),aA v0 ab 4 []] S w':=f;refine i8 f 1 (css:=[]) bn (by omega) rfl h (fun _ _=>RdT.length) (fun _ _=>RdT.one) (by simp; omega) (by omega) fun l w' g hR f=>?_;have f:Inv w [] [.blk i (.cells #[.int .i64 0,.int .i64 0,.string ⟨#[]⟩,.slice none 0 0] ab),aA l ab 4 g] S w':=f;obtain ⟨a,n,c,rfl⟩:=f.rowSlice 1 rfl;refine vJ ⟨_,_,_,rfl⟩ ?_;refine au f 0 rfl ad rfl rfl (by simp [Value.oneCell']) fun w' f=>?_;refine bB f 0 ad rfl rfl ?_;exact ⟨_,_,_,rfl,f.sub (fI _ _),Ext.refl _ _ _,rfl,_,g,rfl,rfl,hR⟩
theorem eM (s:ByteArray) (l:s.size<=maxLen) {ks:List T} {u:Value} (h:RdSl S 4 (RdT S) u ks) (hk:ks.length<=1000000):Tri Tryz.prog xY [.string s,u] [] S (aag (.mk 3 0 s ks)):=by
 intro w a;refine (xO s h hk w a).mono ?_;rintro e w' ⟨v,I',S',rfl,a,m,rfl,kv,css,rfl,rfl,hR⟩;obtain ⟨S1,f,g,a⟩:=Inv.lendExt (A:=[]) a;have i:=RowRd.rows (hR.monoR fun _ _ h=>RdT.mono f.1 h) g;exact ⟨_,[],S1,rfl,a,m.trans f,rfl,[.int .i64 3,.int .i64 0,.string s,kv],rfl,RdT.iff.2 ⟨kv,rfl,by simp [inI,T.kind],by simp [inI,T.n],l,i⟩⟩
theorem PB {ts:List T} {j:Nat} (h:j<ts.length) (t:T):kq (ts.drop j) t=Mn ts[j] (kq (ts.drop (j+1)) t):=by
 rw [dY h,kq]
theorem wx {ts:List T} {t:T} {u:Value} {cs:List Value} (h:RdSl S 4 (RdT S) u ts) (ht:RdT S cs t) (hl:ts.length<=1000000):Tri Tryz.prog MN [u,.agg cs.toArray] [] S (aag (kq ts t)):=by
 intro w f;obtain ⟨kv,rfl,g1,g2,g3,g4⟩:=RdT.iff.1 ht;obtain ⟨ka,kn,kc,a8⟩:∃ a n m,kv=.slice a n m:=by
  obtain ⟨a,m,e,_⟩:=g4;exact ⟨_,_,_,e⟩
 refine yF.2 ?_;dsimp only[yF,bm];refine bJ f fun b3 w' f=>?_;refine aQ f bj fun b4 w' f=>?_;refine aC f 0 ad rfl rfl ?_;refine aQ f bj fun b5 w' f=>?_;refine au f 2 rfl ad rfl rfl (by simp [Value.oneCell',Value.cells,a8]) fun w' f=>?_;refine aJ h ah ?_;refine kS (by omega) ?_;obtain ⟨B3,a9⟩:∃ B3,B3=Item.blk b3 (.cells #[.int .i64 t.kind,.int .i64 t.n,.string t.name,kv] ab):=⟨_,rfl⟩
 have f:Inv w [] [B3,.blk b4 (.cells #[.int .i64 0,.int .i64 0,.string ⟨#[]⟩,.slice none 0 0] ab),.blk b5 (.cells #[.int .i64 t.kind,.int .i64 t.n,.string t.name,kv] ab)] S w':=by rw [a9]; exact f
 refine ⟨fun i w'=>∃ (j:Nat) (S1:ae) (ds:List Value),j<=ts.length/\i=.int .i64 ((j:Int) - 1)/\Ext w.heap.size [] S S1/\RdT S1 ds (kq (ts.drop j) t)/\Inv w [] [B3,.blk b4 (.cells #[.int .i64 0,.int .i64 0,.string ⟨#[]⟩,.slice none 0 0] ab),.blk b5 (.cells ds.toArray ab)] S1 w',
  fun i _=>(intOf i+1).toNat,⟨ts.length,S,_,aS _,rfl,Ext.refl _ _ _,by rw [eD]; exact ht,f⟩,?_⟩
 intro t6 _ _ b7 b8 b9 c0 c1 c2 c3 _ _ w';rintro ⟨j,S1,ds,hj,rfl,hE,U,f⟩;by_cases b6:j=0
 ·subst b6;refine AL (by omega) ?_;refine aD (fun hb=>by cases hb) (fun _=>?_);obtain ⟨c5,rfl,_,_,_,a,m,rfl,_⟩:=RdT.iff.1 U;refine aC f 2 ad rfl rfl ?_;refine au f 1 rfl ad rfl rfl (by simp [Value.oneCell']) fun w' f=>?_;refine bB f 1 ad rfl rfl ?_;exact ⟨_,_,_,rfl,f.nil,hE,rfl,_,rfl,U⟩
 ·refine qf (by omega) ?_;refine aD (fun _=>?_) (fun hb=>by cases hb);obtain ⟨m,rfl⟩:∃ m,j=m+1:=⟨j - 1,by omega⟩
  have hm:m<ts.length:=by omega
  have ej:((m+1:Nat):Int) - 1=(m:Int):=by omega
  rw [ej];obtain ⟨b,o,cap,c,E,fz,rfl,hS,hR⟩:=(h.monoT hE.1).at_ hm;obtain ⟨c7,a0,_,_,_,aa,am,a3,_⟩:=RdT.iff.1 hR;subst a3;obtain ⟨kd,rfl,_,_,_,da,dm,rfl,_⟩:=RdT.iff.1 U;obtain ⟨l,a4⟩:∃ l,l=kq (ts.drop (m+1)) t:=⟨_,rfl⟩
  rw [<- a4] at U f;obtain ⟨q,a5⟩:∃ q,q=ts[m]:=⟨_,rfl⟩
  rw [<- a5] at hR a0
  skip
  refine ⟨fun D oJ ju ld rv j8 ri vA w_=>Fx D 0 [vA=.slice (some ⟨b,o,none⟩) ts.length cap,ri=.int .i64 (m:Int),j8=.pointer (some ⟨b,o+m * 4,none⟩),rv=.agg #[.int .i64 q.kind,.int .i64 q.n,.string q.name,.slice aa q.kids.length am],ld=.agg #[.int .i64 l.kind,.int .i64 l.n,.string l.name,.slice da l.kids.length dm],True,True,True]/\∃ S2 r,Ext w.heap.size [] S1 S2/\(D 5=true->RdSl S2 4 (RdT S2) ju [q,l])/\(D 6=true->oJ=.agg r.toArray/\RdT S2 r (Mn q l))/\(D 7=true->D 6=true)/\(D 6=true->D 5=true)/\(D 5=true->D 4=true)/\Inv w [] [B3,.blk b4 (.cells #[.int .i64 0,.int .i64 0,.string ⟨#[]⟩,.slice none 0 0] ab),.blk b5 (.cells (match D 7 with|true=>r.toArray|false=>#[.int .i64 l.kind,.int .i64 l.n,.string l.name,.slice da l.kids.length dm]) ab)] S2 w_,⟨Fx.nil _ _,⟨S1,[],Ext.refl _ _ _,aI,aI,aI,aI,aI,f.draw⟩⟩,⟨?_,?_,?_,?_,?_,?_,?_,?_,trivial⟩,?_⟩;all_goals (intro D Z; intros; rename_i oJ ju ld rv j8 ri vA w_ a2; have B:=a2.1; obtain ⟨⟨cJ,cH,cI,cD,cM,cO,cq,dg,_⟩,⟨S2,r,g,M,N,J,O,V,f⟩⟩:=a2)
  ·exact ⟨B.set 0 rfl,⟨S2,r,g,M,N,J,O,V,f⟩⟩
  ·exact ⟨B.set 1 rfl,⟨S2,r,g,M,N,J,O,V,f⟩⟩
  ·obtain rfl:=cJ ‹_›;obtain rfl:=cH ‹_›;refine az ah hm ?_;exact ⟨B.set 2 rfl,⟨S2,r,g,M,N,J,O,V,f⟩⟩
  ·obtain rfl:=cI ‹_›;refine ci (cs:=[.int .i64 q.kind,.int .i64 q.n,.string q.name,.slice aa q.kids.length am]) ad rfl (fun j v hj=>by rw [f.cellS (g.1 _ _ hS)]; exact aF a0 j v hj) ?_;exact ⟨B.set 3 rfl,⟨S2,r,g,M,N,J,O,V,f⟩⟩
  ·have f5:D 5=false:=bx.2 fun h=>by rw [V h] at Z; cases Z
   have f6:D 6=false:=bx.2 fun h=>by rw [O h] at f5; cases f5
   have f7:D 7=false:=bx.2 fun h=>by rw [J h] at f6; cases f6
   have b1:=f;rw [f7] at f;refine aC f 2 ad rfl rfl ?_;have f:=b1;have V:=fun (_:ao D 4 5=true)=>(rfl:ao D 4 4=true)
   exact ⟨B.set 4 rfl,⟨S2,r,g,M,N,J,O,V,f⟩⟩
  ·obtain rfl:=cD ‹_›;obtain rfl:=cM ‹_›;have f6:D 6=false:=bx.2 fun h=>by rw [O h] at Z; cases Z
   have f7:D 7=false:=bx.2 fun h=>by rw [J h] at f6; cases f6
   rw [f7] at f;refine xo (v:=fun b=>.slice (some ⟨b,0,none⟩) 2 2) (o:=.cells #[.int .i64 q.kind,.int .i64 q.n,.string q.name,.slice aa q.kids.length am,.int .i64 l.kind,.int .i64 l.n,.string l.name,.slice da l.kids.length dm] ab) f (by kernel_rfl) fun c4 w_ f=>?_;obtain ⟨S2,f,Y,b0⟩:=Inv.pub1 (A:=[_,_,_]) f;have g:=g.trans Y;have b2:RdT S2 [.int .i64 q.kind,.int .i64 q.n,.string q.name,.slice aa q.kids.length am] q:=by
    have:=RdT.mono g.1 hR
    rwa [a0] at this
   have M:=fun (_:ao D 5 5=true)=>Pg b0 b2 (RdT.mono g.1 U);have N:=fun (h:D 6=true)=>(absurd h (by rw [f6]; decide):oJ=.agg r.toArray/\RdT S2 r (Mn q l))
   have O:=fun (_:ao D 5 6=true)=>(rfl:ao D 5 5=true)
   have V:=fun (_:ao D 5 5=true)=>‹D 4=true›;have f:Inv w [] [B3,.blk b4 (.cells #[.int .i64 0,.int .i64 0,.string ⟨#[]⟩,.slice none 0 0] ab),.blk b5 (.cells (match D 7 with|true=>r.toArray|false=>#[.int .i64 l.kind,.int .i64 l.n,.string l.name,.slice da l.kids.length dm]) ab)] S2 w_:=by
    rw [f7];exact f
   exact ⟨B.set 5 (by first|assumption|trivial),⟨S2,r,g,M,N,J,O,V,f⟩⟩
  ·have Hj:=cO ‹_›;have f7:D 7=false:=bx.2 fun h=>by rw [J h] at Z; cases Z
   rw [f7] at f;refine Run.call0E dR dP f (eM ⟨#[46]⟩ (by decide +kernel) (M ‹D 5=true›) (by simp)) fun v' I' S2 w_=>?_;rintro ⟨rfl,r,rfl,G⟩ Y f;have g:=g.trans Y;have M:=fun (h:D 5=true)=>(M h).monoT Y.1;have N:ao D 6 6=true->Value.agg r.toArray=Value.agg r.toArray/\RdT S2 r (Mn q l):=fun _=>⟨rfl,G⟩
   have J:=fun (_:ao D 6 7=true)=>(rfl:ao D 6 6=true)
   have O:=fun (_:ao D 6 6=true)=>‹D 5=true›;have f:Inv w [] [B3,.blk b4 (.cells #[.int .i64 0,.int .i64 0,.string ⟨#[]⟩,.slice none 0 0] ab),.blk b5 (.cells (match D 7 with|true=>r.toArray|false=>#[.int .i64 l.kind,.int .i64 l.n,.string l.name,.slice da l.kids.length dm]) ab)] S2 w_:=by
    rw [f7];exact f
   exact ⟨B.set 6 (by first|assumption|trivial),⟨S2,r,g,M,N,J,O,V,f⟩⟩
  ·have L6:=cq ‹_›;obtain ⟨q6,G⟩:=N ‹D 6=true›;subst q6;rw [Z] at f;have a6:=G.one;have a7:=G.length;refine au f 2 rfl ad (by simpa using a7) rfl (by simpa using a6) fun w_ f=>?_;have J:=fun (_:ao D 7 7=true)=>‹D 6=true›;exact ⟨B.set 7 trivial,⟨S2,r,g,M,N,J,O,V,f⟩⟩
  obtain ⟨rfl,rfl,rfl,rfl,rfl,Hj,L6,_,_⟩:=B.all;have OQ:D 6=true:=by assumption
  have vp:D 7=true:=by assumption
  clear B cJ cH cI cD cM cO cq dg;rw [vp] at f;obtain ⟨_,G⟩:=N OQ;refine kS (by omega) ?_;refine ⟨⟨m,S2,r,by omega,rfl,hE.trans g,?_,f⟩,by simp [intOf]⟩;rw [PB hm,<- a5,<- a4];exact G
end
def s9 (f:Nat):Prop:=∀ (s:Bs) (i d l:Nat) (t:T) (n:Nat) (S:ae),kW f s i d l=some (t,n)->s.length<=100000->i<=s.length->d<=100->l<=3->
 Tri Tryz.prog PU [.string (st s),.int .i64 (i:Int),.int .i64 (d:Int),.int .i64 (l:Int)] [] S (UH t n)
def Lb (f:Nat):Prop:=∀ (s:Bs) (i d:Nat) (t:T) (n:Nat) (S:ae),xm f s i d=some (t,n)->s.length<=100000->i<=s.length->d<=100->
 Tri Tryz.prog MF [.string (st s),.int .i64 (i:Int),.int .i64 (d:Int)] [] S (UH t n)
def xF (f:Nat):Prop:=∀ (s:Bs) (i d e o:Nat) (ts:List T) (n:Nat) (S:ae),jI f s i d e o []=some (ts,n)->s.length<=100000->i<=s.length->d<=100->
 Tri Tryz.prog M6 [.string (st s),.int .i64 (i:Int),.int .i64 (d:Int),.int .u8 (e:Int),.int .u8 (o:Int)] [] S (Yf ts n)
theorem JP:∀ (f:Nat) (s:Bs) (i d e o:Nat) (g ts:List T) (n:Nat),jI f s i d e o g=some (ts,n)->ts.length+i<=g.length+n
 | 0,s,i,d,e,o,g,ts,n,h=>by simp [jI] at h
 | f+1,s,i,d,e,o,g,ts,n,h=>by
  rw [jI] at h;split at h
  ·cases h
  ·rename_i m n' l
   have a:=(iT f).1 _ _ _ _ _ _ l;split at h
   ·simp only [aY,cG] at h;obtain ⟨rfl,rfl⟩:=h;rw [bA];simp only [bq,bW];omega
   ·split at h
    ·have b:=JP f _ _ _ _ _ _ _ _ h;rw [bA] at b;simp only [bq,bW] at b;omega
    ·cases h
section
attribute [local irreducible] Run CondV aq aK
theorem Vx {f:Nat} (ih:∀ g,g<f->s9 g):xF f:=by
 intro s i d e o ts n S h hs hi hd w l;refine zx.2 ?_;dsimp only[zx,Jr];refine ei l bn fun v0 w' l=>?_;refine ⟨fun a b w'=>∃ (U G:Nat) (q:List T) (S1:ae) (css:List (List Value)),U<=f/\a=.int .i64 (G:Int)/\i<=G/\G<=s.length/\q.length+i<=G/\jI U s G d e o q=some (ts,n)/\Ext w.heap.size [] S S1/\Rows 4 (RdT S1) css q/\Inv w [] [aA b ab 4 css] S1 w',
  fun a _ _=>s.length+1 - (intOf a).toNat,⟨f,i,[],S,[],aS _,rfl,aS _,hi,by simp,h,Ext.refl _ _ _,Rows.nil _ _,l⟩,?_⟩
 intro t1 _ _ _ _ _ _ _ _ _ _ _ _ _ _ _ _ _ _ _ _ a3 _ _ _ _ _ _ _ _ _ _ _ _ _ _ _ _ _ _ w';rintro ⟨U,G,q,S1,css,a4,rfl,a5,V,a2,r,hE,hR,l⟩;have a8:=hR.hc;cases U with
 | zero=>simp [jI] at r
 | succ g=>
 rw [jI] at r;split at r
 ·cases r
 rename_i t n' hr
 have a9:=(iT g).1 _ _ _ _ _ _ hr;refine Run.call0E gY gW l (ih g (by omega) s G d 3 t n' S1 hr hs V hd (by omega)) fun v I' S2 w'=>?_;rintro ⟨rfl,cs,rfl,B⟩ J l;have Z:=hR.monoR fun _ _ h=>RdT.mono J.1 h;obtain ⟨kv,rfl,_,_,_,a,m,rfl,_⟩:=RdT.iff.1 B;refine av (v:=.agg _) rfl ?_;refine av (v:=.int .i64 (n':Int)) rfl ?_;refine aQ l bj fun a7 w' l=>?_;refine au l 1 rfl ad rfl rfl (by simp [Value.oneCell']) fun w' l=>?_;refine fp (by omega) ?_;refine aD (fun D=>by cases D) (fun _=>?_);refine aC l 1 ad rfl rfl ?_;refine de (css:=css) l 0 _ bn (by omega) (by omega) rfl B.length B.one (by omega) (by omega) fun v' w' l=>?_;have l:Inv w [] [aA v' ab 4 (css++[[.int .i64 t.kind,.int .i64 t.n,.string t.name,.slice a t.kids.length m]])] S2 w':=l.pick [true,false];have O:=Z.snoc B B.length;refine ⟨fun b w'=>b=.bool (sgn s n' e || sgn s n' o)/\Inv w [] [aA v' ab 4 (css++[[.int .i64 t.kind,.int .i64 t.n,.string t.name,.slice a t.kids.length m]])] S2 w',?_,?_⟩
 ·refine Run.callPure du dr l (df s n' e S2) fun w' l=>?_;cases he:sgn s n' e
  ·refine rpG ?_;refine Run.callPure du dr l (df s n' o S2) fun w' l=>?_;refine rpG ?_;exact ⟨by simp,l⟩
  ·refine rpG ?_;exact ⟨by simp,l⟩
 intro a6 _ _ _ _ _ _ _ _ _ w';rintro ⟨rfl,l⟩;refine aD (fun D=>?_) (fun D=>?_)
 ·rw [jd] at D;rw [ai D] at r;simp only [aY,cG] at r;obtain ⟨rfl,rfl⟩:=r;obtain ⟨S3,N,Y,l⟩:=Inv.lendExt (A:=[]) l;have a0:=RowRd.rows (O.monoR fun _ _ h=>RdT.mono N.1 h) Y;exact ⟨_,[],S3,rfl,l,(hE.trans J).trans N,rfl,_,rfl,a0⟩
 ·have a1:¬ (sgn s n' e=true ∨ sgn s n' o=true):=fun h=>by rw [<- jd,D] at h; cases h
  rw [ag a1] at r;split at r
  ·rename_i M
   refine Run.callPure du dr l (df s n' 44 S2) fun w' l=>?_;refine cw ?_;rw [M];refine aD (fun D=>by cases D) (fun _=>?_);have:=jn M;refine fw (a:=n') (b:=1) rfl rfl (by omega) ?_;refine ⟨⟨g,n'+1,q++[t],S2,css++[[.int .i64 t.kind,.int .i64 t.n,.string t.name,.slice a t.kids.length m]],by omega,rfl,by omega,by omega,?_,r,hE.trans J,O,l⟩,?_⟩
   ·rw [bA]; simp only [bq,bW]; omega
   ·simp only [intOf,cu]; omega
  ·cases r
theorem N8 {g:Nat} (V:xF g) (hR:s9 g) {s:Bs} {i d:Nat} {ts:List T} {n:Nat} {t:T} {e:Nat} (D:jI g s i d 93 124 []=some (ts,n))
  (Y:(sgn s n 93=true/\t=kq ts Yk/\e=n+1) ∨ (sgn s n 93=false/\∃ u m,kW g s (n+1) d 3=some (u,m)/\sgn s m 93=true/\t=kq ts u/\e=m+1))
  (M:s.length<=100000) (Z:i<=s.length) (hd:d<=100) (S:ae):Tri Tryz.prog NJ [.string (st s),.int .i64 (i:Int),.int .i64 (d:Int)] [] S (UH t e):=by
 intro w f;have a1:=(iT g).2.2.2 _ _ _ _ _ _ _ _ D;have G:=JP _ _ _ _ _ _ _ _ _ D;simp only [bW] at G;refine x0.2 ?_;dsimp only[x0,fV];refine aQ f bj fun b6 w' f=>?_;refine Run.call0E zN zo f (V s i d 93 124 ts n S D M Z hd) fun v I' S1 w'=>?_;rintro ⟨rfl,u,rfl,N⟩ B f;have f:Inv w [] [.blk b6 (.cells #[.int .i64 0,.int .i64 0,.string ⟨#[]⟩,.slice none 0 0] ab)] S1 w':=f;refine av (v:=u) rfl ?_;refine av (v:=.int .i64 (n:Int)) rfl ?_;refine fp (by omega) ?_;refine aD (fun q=>by cases q) (fun _=>?_);refine Run.callPure du dr f (df s n 93 S1) fun w' f=>?_;rcases Y with ⟨J,rfl,rfl⟩|⟨J,x,m,U,h5,rfl,rfl⟩
 ·rw [J];refine aD (fun _=>?_) (fun q=>by cases q);refine Run.call0E dR dP f (eM ⟨#[91,93]⟩ (by decide +kernel) (lW S1) (by simp)) fun v I' S2 w'=>?_;rintro ⟨rfl,cs,rfl,o⟩ h f;refine Run.call0E zZ yG f (wx (N.monoT h.1) o (by omega)) fun v I' S3 w'=>?_;rintro ⟨rfl,ds,rfl,l⟩ r f;refine fw (a:=n) (b:=1) rfl rfl (by omega) ?_;obtain ⟨kv,rfl,_,_,_,a,k,rfl,_⟩:=RdT.iff.1 l;refine au f 0 rfl ad rfl rfl (by simp [Value.oneCell']) fun w' f=>?_;refine bB f 0 ad rfl rfl ?_;exact ⟨_,[],S3,rfl,f.nil,(B.trans h).trans r,rfl,_,rfl,l⟩
 ·rw [J];refine aD (fun q=>by cases q) (fun _=>?_);refine fw (a:=n) (b:=1) rfl rfl (by omega) ?_;have O:=(iT g).1 _ _ _ _ _ _ U;refine Run.call0E gY gW f (hR s (n+1) d 3 x m S1 U M (by omega) hd (by omega)) fun v I' S2 w'=>?_;rintro ⟨rfl,cs,rfl,o⟩ h f;obtain ⟨kv,rfl,_,_,_,a,k,rfl,_⟩:=RdT.iff.1 o;refine av (v:=.agg _) rfl ?_;refine av (v:=.int .i64 (m:Int)) rfl ?_;refine aQ f bj fun a0 w' f=>?_;refine au f 1 rfl ad rfl rfl (by simp [Value.oneCell']) fun w' f=>?_;refine fp (by omega) ?_;refine aD (fun q=>by cases q) (fun _=>?_);refine Run.callPure du dr f (df s m 93 S2) fun w' f=>?_;refine cw ?_;rw [h5];refine aD (fun q=>by cases q) (fun _=>?_);refine aC f 1 ad rfl rfl ?_;refine Run.call0E zZ yG f (wx (N.monoT h.1) o (by omega)) fun v I' S3 w'=>?_;rintro ⟨rfl,ds,rfl,l⟩ r f;refine fw (a:=m) (b:=1) rfl rfl (by omega) ?_;obtain ⟨kv,rfl,_,_,_,a,k,rfl,_⟩:=RdT.iff.1 l;refine au f 0 rfl ad rfl rfl (by simp [Value.oneCell']) fun w' f=>?_;refine bB f 0 ad rfl rfl ?_;exact ⟨_,[],S3,rfl,f.nil,(B.trans h).trans r,rfl,_,rfl,l⟩
theorem Ka {n:Bs} (h:n.length<=6):(st n).size<=maxLen:=by rw [nj]; simp only [maxLen]; omega
theorem Vs {f:Nat} (a5:∀ g,g<f->s9 g) (a6:∀ g,g<f->xF g):Lb f:=by
 intro s i d t n S h hs hi hd w l;cases f with
 | zero=>simp [xm] at h
 | succ g=>
 have hR:=a5 g (by omega);have hT:=a6 g (by omega);have b4:=(iT (g+1)).2.2.1 _ _ _ _ _ h;rw [xm] at h;split at h
 ·cases h
 rename_i h0
 have a0:1<=d:=by omega
 have o:i<s.length:=by omega
 refine xV.2 ?_;dsimp only[xV,fV];refine aQ l bj fun Y w' l=>?_;have l:Inv w [] [.blk Y (.cells #[.int .i64 0,.int .i64 0,.string ⟨#[]⟩,.slice none 0 0] ab)] S w':=l;refine ⟨fun b w'=>b=.bool false/\Inv w [] [.blk Y (.cells #[.int .i64 0,.int .i64 0,.string ⟨#[]⟩,.slice none 0 0] ab)] S w',?_,?_⟩
 ·refine fp (by omega) ?_;refine rpG ?_;refine gg ba ?_;refine AL (by omega) ?_;refine rpG ?_;exact ⟨rfl,l⟩
 intro b0 _ _ _ _ _ _ _ w';rintro ⟨rfl,l⟩;refine aD (fun r=>by cases r) (fun _=>?_);refine eV ba o ?_;split at h
 ·rename_i O
  rw [mF o,bD] at O;refine gf (by omega) ?_;refine aD (fun _=>?_) (fun r=>by cases r);split at h
  ·cases h
  rename_i u m hr
  split at h
  ·rename_i a7
   simp only [aY,cG] at h;obtain ⟨rfl,rfl⟩:=h;have a1:=(iT g).1 _ _ _ _ _ _ hr;refine fw (a:=i) (b:=1) rfl rfl (by omega) ?_;refine Run.call0E gY gW l (hR s (i+1) d 3 u m S hr hs (by omega) hd (by omega)) fun v I' S2 w'=>?_;rintro ⟨rfl,cs,rfl,B⟩ G l;obtain ⟨kv,rfl,_,_,_,a,k,rfl,_⟩:=RdT.iff.1 B;refine av (v:=.agg _) rfl ?_;refine av (v:=.int .i64 (m:Int)) rfl ?_;refine aQ l bj fun b8 w' l=>?_;refine au l 1 rfl ad rfl rfl (by simp [Value.oneCell']) fun w' l=>?_;refine fp (by omega) ?_;refine aD (fun r=>by cases r) (fun _=>?_);refine Run.callPure du dr l (df s m 41 S2) fun w' l=>?_;refine cw ?_;rw [a7];refine aD (fun r=>by cases r) (fun _=>?_);refine aC l 1 ad rfl rfl ?_;refine fw (a:=m) (b:=1) rfl rfl (by omega) ?_;refine au l 0 rfl ad rfl rfl (by simp [Value.oneCell']) fun w' l=>?_;refine bB l 0 ad rfl rfl ?_;exact ⟨_,[],S2,rfl,l.nil,G,rfl,_,rfl,B⟩
  ·cases h
 rename_i O
 rw [mF o,bD] at O;refine fe (by omega) ?_;refine aD (fun r=>by cases r) (fun _=>?_);refine ⟨fun b w'=>b=.bool (sgn s i 91 && !sgn s (i+1) 93)/\Inv w [] [.blk Y (.cells #[.int .i64 0,.int .i64 0,.string ⟨#[]⟩,.slice none 0 0] ab)] S w',?_,?_⟩
 ·refine eV ba o ?_;by_cases J:s[i].toNat=91
  ·refine gf (by omega) ?_;refine rpG ?_;refine fw (a:=i) (b:=1) rfl rfl (by omega) ?_;refine Run.callPure du dr l (df s (i+1) 93 S) fun w' l=>?_;refine cw ?_;refine rpG ?_;exact ⟨by rw [mF o,aN J,eH],l⟩
  ·refine fe (by omega) ?_;refine rpG ?_;exact ⟨by rw [mF o,aZ J,iQ],l⟩
 intro b1 _ _ _ _ _ _ _ _ _ _ w';rintro ⟨rfl,l⟩;split at h
 ·rename_i J
  rw [J.1,J.2];refine aD (fun _=>?_) (fun r=>by cases r);split at h
  ·cases h
  rename_i ts m M
  have h2:(sgn s m 93=true/\t=kq ts Yk/\n=m+1) ∨ (sgn s m 93=false/\∃ u k,kW g s (m+1) (d - 1) 3=some (u,k)/\sgn s k 93=true/\t=kq ts u/\n=k+1):=by
   split at h
   ·rename_i h3
    simp only [aY,cG] at h;exact .inl ⟨h3,h.1.symm,h.2.symm⟩
   ·rename_i h3
    split at h
    ·cases h
    rename_i u k hr
    split at h
    ·rename_i h4
     simp only [aY,cG] at h;exact .inr ⟨bx.2 h3,u,k,hr,h4,h.1.symm,h.2.symm⟩
    ·cases h
  refine fw (a:=i) (b:=1) rfl rfl (by omega) ?_;refine Fo (a:=d) (b:=1) rfl rfl a0 (by omega) ?_;refine Run.call0E LS Kc l (N8 hT hR M h2 hs (by omega) (by omega) S) fun v I' S2 w'=>?_;rintro ⟨rfl,cs,rfl,B⟩ G l;obtain ⟨kv,rfl,_,_,_,a,k,rfl,_⟩:=RdT.iff.1 B;refine av (v:=.agg _) rfl ?_;refine av (v:=.int .i64 (n:Int)) rfl ?_;refine au l 0 rfl ad rfl rfl (by simp [Value.oneCell']) fun w' l=>?_;refine bB l 0 ad rfl rfl ?_;exact ⟨_,[],S2,rfl,l.nil,G,rfl,_,rfl,B⟩
 rename_i J
 have a8:(sgn s i 91 && !sgn s (i+1) 93)=false:=by
  cases h5:sgn s i 91
  ·rfl
  ·cases h6:sgn s (i+1) 93
   ·exact absurd ⟨h5,h6⟩ J
   ·rfl
 rw [a8];refine aD (fun r=>by cases r) (fun _=>?_);refine ⟨fun b w'=>b=.bool (upp s i)/\Inv w [] [.blk Y (.cells #[.int .i64 0,.int .i64 0,.string ⟨#[]⟩,.slice none 0 0] ab)] S w',?_,?_⟩
 ·refine eV ba o ?_;by_cases a3:65<=s[i].toNat
  ·refine qf (by omega) ?_;refine rpG ?_;refine eV ba o ?_;refine fP ?_;refine rpG ?_;refine ⟨?_,l⟩;rw [upp,qN o,aN a3,eH]
   congr 1
   rw [fY];omega
  ·refine AL (by omega) ?_;refine rpG ?_;exact ⟨by rw [upp,qN o,aZ a3,iQ],l⟩
 intro b2 _ _ _ _ _ _ _ _ _ w';rintro ⟨rfl,l⟩;split at h
 ·rename_i N
  simp only [aY,cG] at h;obtain ⟨rfl,rfl⟩:=h;rw [N];rw [upp,qN o,bM,bD,bD] at N;refine aD (fun _=>?_) (fun r=>by cases r);refine eV ba o ?_;refine VU (c:=(s[i].toNat:Int) - 65) (IntWalk.u8_in _ (by omega)) ?_;refine uj gX iD (IntWalk.i64_in _ (by omega)) ?_;refine Run.callPure Ep G8 l (vM _ S) fun w' l=>?_;refine fw (a:=i) (b:=1) rfl rfl (by omega) ?_;refine au l 0 rfl ad rfl rfl (by simp [Value.oneCell']) fun w' l=>?_;refine bB l 0 ad rfl rfl ?_;have eg:((s.getD i 0).toNat:Int) - 65=(s[i].toNat:Int) - 65:=by rw [zF,ez o]; rfl
  rw [eg];exact ⟨_,[],S,rfl,l.nil,Ext.refl _ _ _,rfl,_,rfl,RdT.nil (by simp [inI]) (by unfold inI; omega) (by decide +kernel) (bk _)⟩
 rename_i N
 rw [bx.2 N];refine aD (fun r=>by cases r) (fun _=>?_);refine ⟨fun b w'=>b=.bool (dig s i || (sgn s i 45 && dig s (i+1)))/\Inv w [] [.blk Y (.cells #[.int .i64 0,.int .i64 0,.string ⟨#[]⟩,.slice none 0 0] ab)] S w',?_,?_⟩
 ·refine Run.callPure l0 lQ l (iV s i S) fun w' l=>?_;cases b5:dig s i
  ·refine rpG ?_;refine eV ba o ?_;by_cases a4:s[i].toNat=45
   ·refine gf (by omega) ?_;refine rpG ?_;refine fw (a:=i) (b:=1) rfl rfl (by omega) ?_;refine Run.callPure l0 lQ l (iV s (i+1) S) fun w' l=>?_;refine rpG ?_;exact ⟨by rw [mF o,aN a4,eH,iw],l⟩
   ·refine fe (by omega) ?_;refine rpG ?_;exact ⟨by rw [mF o,aZ a4,iQ,iw],l⟩
  ·refine rpG ?_;exact ⟨by rw [y9],l⟩
 intro a9 _ _ _ _ _ _ _ _ _ _ _ _ _ _ w';rintro ⟨rfl,l⟩;split at h
 ·rename_i U
  have:(dig s i || (sgn s i 45 && dig s (i+1)))=true:=by rw [jd,bM]; exact U
  rw [this];refine aD (fun _=>?_) (fun r=>by cases r);obtain ⟨k,hk,rfl,_,_,Z⟩:=Fy h (by omega) S;refine Run.callPure Ht Ip l Z fun w' l=>?_;refine av (v:=Jy 2 k) rfl ?_;refine av (v:=.int .i64 (n:Int)) rfl ?_;refine aQ l bj fun b3 w' l=>?_;refine au l 1 rfl ad rfl rfl (by simp [Value.oneCell']) fun w' l=>?_;refine fp (by omega) ?_;refine aD (fun r=>by cases r) (fun _=>?_);refine aC l 1 ad rfl rfl ?_;refine au l 0 rfl ad rfl rfl (by simp [Value.oneCell']) fun w' l=>?_;refine bB l 0 ad rfl rfl ?_;exact ⟨_,[],S,rfl,l.nil,Ext.refl _ _ _,rfl,_,rfl,RdT.nil (by simp [inI]) hk (by decide +kernel) (bk _)⟩
 rename_i U
 have:(dig s i || (sgn s i 45 && dig s (i+1)))=false:=by
  rw [bx,ne_eq,jd,bM]; exact U
 rw [this];refine aD (fun r=>by cases r) (fun _=>?_);refine Run.callPure CL BS l (yw o hs S) fun w' l=>?_;cases V:yh s i with
 | none=>rw [V] at h; cases h
 | some q=>
 obtain ⟨name,m⟩:=q;rw [V] at h;simp only [] at h;simp only [Ro];have a2:=zM o V;refine av (v:=.string (st name)) rfl ?_;refine av (v:=.int .i64 (m:Int)) rfl ?_;refine fp (by omega) ?_;refine aD (fun r=>by cases r) (fun _=>?_);refine Run.callPure du dr l (df s m 40 S) fun w' l=>?_;refine cw ?_;split at h
 ·rename_i D
  simp only [aY,cG] at h;obtain ⟨rfl,rfl⟩:=h;rw [D];refine aD (fun _=>?_) (fun r=>by cases r);refine Run.call0E dR dP l (eM (st name) (Ka a2.2.2.1) (lW S) (by simp)) fun v I' S2 w'=>?_;rintro ⟨rfl,cs,rfl,B⟩ G l;obtain ⟨kv,rfl,_,_,_,a,k,rfl,_⟩:=RdT.iff.1 B;refine au l 0 rfl ad rfl rfl (by simp [Value.oneCell']) fun w' l=>?_;refine bB l 0 ad rfl rfl ?_;exact ⟨_,[],S2,rfl,l.nil,G,rfl,_,rfl,B⟩
 ·rename_i D
  rw [Bool.not_eq_false] at D;rw [D];refine aD (fun r=>by cases r) (fun _=>?_);split at h
  ·cases h
  rename_i ts k M
  simp only [aY,cG] at h;obtain ⟨rfl,rfl⟩:=h;have hm:=jn D;have a1:=(iT g).2.2.2 _ _ _ _ _ _ _ _ M;refine fw (a:=m) (b:=1) rfl rfl (by omega) ?_;refine Fo (a:=d) (b:=1) rfl rfl a0 (by omega) ?_;refine Run.call0E zN zo l (hT s (m+1) (d - 1) 41 41 ts k S M hs (by omega) (by omega)) fun v I' S2 w'=>?_;rintro ⟨rfl,u,rfl,hu⟩ G l;refine av (v:=u) rfl ?_;refine av (v:=.int .i64 (k:Int)) rfl ?_;refine fp (by omega) ?_;refine aD (fun r=>by cases r) (fun _=>?_);obtain ⟨a,c,rfl,_⟩:=id hu;refine vJ ⟨_,_,_,rfl⟩ ?_;refine fw (a:=k) (b:=1) rfl rfl (by omega) ?_;refine au l 0 rfl ad rfl rfl (by simp [Value.oneCell']) fun w' l=>?_;refine bB l 0 ad rfl rfl ?_;exact ⟨_,[],S2,rfl,l.nil,G,rfl,_,rfl,RdT.iff.2 ⟨_,rfl,by simp [inI,T.kind,Nf],by simp [inI,T.n,Nf],Ka a2.2.2.1,hu⟩⟩
theorem WG {f:Nat} (a2:∀ g,g<f->s9 g) (a7:∀ g,g<f->Lb g):s9 f:=by
 intro s i d l t n S h hs hi hd hl w m;cases f with
 | zero=>simp [kW] at h
 | succ f=>
 refine CQ.2 ?_;dsimp only[CQ,lE];refine aQ m bj fun b8 w' m=>?_;have m:Inv w [] [.blk b8 (.cells #[.int .i64 0,.int .i64 0,.string ⟨#[]⟩,.slice none 0 0] ab)] S w':=m;cases l with
 | zero=>
  rw [kW] at h;refine gf rfl ?_;refine aD (fun _=>?_) (fun B=>by cases B);refine Run.call0E KC L0 m (a7 f (by omega) s i d t n S h hs hi hd) fun v I' S2 w'=>?_;rintro ⟨rfl,cs,rfl,J⟩ N m;obtain ⟨kv,rfl,_,_,_,a,k,rfl,_⟩:=RdT.iff.1 J;refine av (v:=.agg _) rfl ?_;refine av (v:=.int .i64 (n:Int)) rfl ?_;refine au m 0 rfl ad rfl rfl (by simp [Value.oneCell']) fun w' m=>?_;refine bB m 0 ad rfl rfl ?_;exact ⟨_,[],S2,rfl,m.nil,N,rfl,_,rfl,J⟩
 | succ l=>
  rw [kW] at h;split at h
  ·cases h
  rename_i t0 n0 hr
  have U:=(iT f).1 _ _ _ _ _ _ hr;refine fe (by omega) ?_;refine aD (fun B=>by cases B) (fun _=>?_);refine Fo (a:=l+1) (b:=1) rfl rfl (by omega) (by omega) ?_;rw [Nat.add_sub_cancel];refine Run.call0E gY gW m (a2 f (by omega) s i d l t0 n0 S hr hs hi hd (by omega)) fun v I' S1 w'=>?_;rintro ⟨rfl,cs,rfl,J⟩ a3 m;obtain ⟨kv,rfl,_,_,_,a,k,rfl,_⟩:=RdT.iff.1 J;refine av (v:=.agg _) rfl ?_;refine av (v:=.int .i64 (n0:Int)) rfl ?_;refine aQ m bj fun Z w' m=>?_;refine au m 1 rfl ad rfl rfl (by simp [Value.oneCell']) fun w' m=>?_;refine ⟨fun a w'=>∃ (f' n':Nat) (G:T) (ds:List Value) (S1:ae),f'<=f/\a=.int .i64 (n':Int)/\n'<=s.length/\MV f' s n' d l G=some (t,n)/\Ext w.heap.size [] S S1/\RdT S1 ds G/\Inv w [] [.blk b8 (.cells #[.int .i64 0,.int .i64 0,.string ⟨#[]⟩,.slice none 0 0] ab),.blk Z (.cells ds.toArray ab)] S1 w',
   fun a _=>s.length+1 - (intOf a).toNat,⟨f,n0,t0,_,S1,aS _,rfl,U.2,h,a3,J,m⟩,?_⟩
  clear h a3 J m hr U;intro _ _ _ _ b5 _ _ _ _ _ _ _ _ _ _ _ _ _ _ _ _ _ _ _ _ _ _ _ _ _ _ _ _ _ _ _ _ _ _ _ _ _ _ _ _ _ _ w';rintro ⟨f',n',G,ds,S1,b6,rfl,a8,D,hE,O,m⟩;obtain ⟨kd,rfl,_,_,b4,da,dm,rfl,_⟩:=RdT.iff.1 O;cases f' with
  | zero=>simp [MV] at D
  | succ g=>
  rw [MV] at D;refine qf (by omega) ?_;refine aD (fun _=>?_) (fun B=>by cases B);refine Run.callPure Ts Ty m (PJ hs a8 S1) fun w' m=>?_;cases a1:opF s n' with
  | none=>
   rw [a1] at D;simp only [aY,cG] at D;obtain ⟨rfl,rfl⟩:=D;simp only [opV];refine av (v:=.string ⟨#[]⟩) rfl ?_;refine av (v:=.int .i64 (n':Int)) rfl ?_;refine ⟨fun b w'=>b=.bool true/\Inv w [] [.blk b8 (.cells #[.int .i64 0,.int .i64 0,.string ⟨#[]⟩,.slice none 0 0] ab),.blk Z (.cells #[.int .i64 G.kind,.int .i64 G.n,.string G.name,.slice da G.kids.length dm] ab)] S1 w',?_,?_⟩
   ·refine bR ?_;rw [aN rfl];refine rpG ?_;exact ⟨rfl,m⟩
   intro a9 _ _ _ _ _ _ _ w';rintro ⟨rfl,m⟩;refine aD (fun _=>?_) (fun B=>by cases B);refine aC m 1 ad rfl rfl ?_;refine au m 0 rfl ad rfl rfl (by simp [Value.oneCell']) fun w' m=>?_;refine bB m 0 ad rfl rfl ?_;exact ⟨_,[],S1,rfl,m.nil,hE,rfl,_,rfl,O⟩
  | some q=>
   obtain ⟨name,M⟩:=q;rw [a1] at D;simp only [] at D;simp only [opV];have a5:=VK a1;refine av (v:=.string (st name)) rfl ?_;refine av (v:=.int .i64 (M:Int)) rfl ?_;refine ⟨fun b w'=>b=.bool (!decide (cR (st name)=((l+1:Nat):Int)))/\Inv w [] [.blk b8 (.cells #[.int .i64 0,.int .i64 0,.string ⟨#[]⟩,.slice none 0 0] ab),.blk Z (.cells #[.int .i64 G.kind,.int .i64 G.n,.string G.name,.slice da G.kids.length dm] ab)] S1 w',?_,?_⟩
   ·refine FO (b:=[]) ?_;rw [aZ a5.2.2.2];refine rpG ?_;refine Run.callPure gq gw m (eG _ S1) fun w' m=>?_;refine fQ ?_;refine rpG ?_;exact ⟨rfl,m⟩
   intro a9 _ _ _ _ _ _ _ w';rintro ⟨rfl,m⟩;split at D
   ·rename_i V
    rw [aN V];refine aD (fun B=>by cases B) (fun _=>?_);split at D
    ·cases D
    rename_i r e hr
    have U:=(iT g).1 _ _ _ _ _ _ hr;refine Fo (a:=l+1) (b:=1) rfl rfl (by omega) (by omega) ?_;rw [Nat.add_sub_cancel];refine Run.call0E gY gW m (a2 g (by omega) s M d l r e S1 hr hs (by omega) hd (by omega)) fun v I' S2 w'=>?_;rintro ⟨rfl,es,rfl,a4⟩ N m;obtain ⟨ke,rfl,_,_,_,ea,em,rfl,_⟩:=RdT.iff.1 a4;refine av (v:=.agg _) rfl ?_;refine av (v:=.int .i64 (e:Int)) rfl ?_;refine aQ m bj fun b7 w' m=>?_;refine au m 2 rfl ad rfl rfl (by simp [Value.oneCell']) fun w' m=>?_;refine fp (by omega) ?_;refine aD (fun B=>by cases B) (fun _=>?_);refine aC m 1 ad rfl rfl ?_;refine aC m 2 ad rfl rfl ?_;refine xo (v:=fun b=>.slice (some ⟨b,0,none⟩) 2 2) (o:=.cells #[.int .i64 G.kind,.int .i64 G.n,.string G.name,.slice da G.kids.length dm,.int .i64 r.kind,.int .i64 r.n,.string r.name,.slice ea r.kids.length em] ab) m (by kernel_rfl) fun b9 w' m=>?_;obtain ⟨S3,m,a0,b2⟩:=Inv.pub1 (A:=[_,_,_]) m;have b3:=Pg b2 (RdT.mono (N.1.trans a0.1) O) (RdT.mono a0.1 a4);refine Run.call0E dR dP m (eM (st name) (Ka a5.2.2.1) b3 (by simp)) fun v I' S4 w'=>?_;rintro ⟨rfl,gs,rfl,Y⟩ b0 m;obtain ⟨kg,rfl,_,_,_,ga,gm,rfl,_⟩:=RdT.iff.1 Y;have a6:=((hE.trans N).trans a0).trans b0;refine au m 1 rfl ad rfl rfl (by simp [Value.oneCell']) fun w' m=>?_;split at D
    ·rename_i b1
     subst b1;simp only [aY,cG] at D;obtain ⟨rfl,rfl⟩:=D;refine gf rfl ?_;refine aD (fun _=>?_) (fun B=>by cases B);refine aC m 1 ad rfl rfl ?_;refine au m 0 rfl ad rfl rfl (by simp [Value.oneCell']) fun w' m=>?_;refine bB m 0 ad rfl rfl ?_;exact ⟨_,[],S4,rfl,m.nil,a6,rfl,_,rfl,Y⟩
    ·refine fe (by omega) ?_;refine aD (fun B=>by cases B) (fun _=>?_);refine ⟨⟨g,e,_,_,S4,by omega,rfl,U.2,D,a6,Y,m.pick [true,true,false]⟩,?_⟩;simp only [intOf,cu];omega
   ·rename_i V
    rw [aZ V];simp only [aY,cG] at D;obtain ⟨rfl,rfl⟩:=D;refine aD (fun _=>?_) (fun B=>by cases B);refine aC m 1 ad rfl rfl ?_;refine au m 0 rfl ad rfl rfl (by simp [Value.oneCell']) fun w' m=>?_;refine bB m 0 ad rfl rfl ?_;exact ⟨_,[],S1,rfl,m.nil,hE,rfl,_,rfl,O⟩
theorem U5:∀ F f,f<F->s9 f/\Lb f/\xF f
 | 0,f,h=>by omega
 | F+1,f,h=>by
  have a:=U5 F;have hR:s9 f:=WG (fun g i=>(a g (by omega)).1) (fun g i=>(a g (by omega)).2.1);have l:xF f:=Vx fun g i=>(a g (by omega)).1;exact ⟨hR,Vs (fun g i=>(a g (by omega)).1) (fun g i=>(a g (by omega)).2.2),l⟩
theorem JM (f:Nat):s9 f:=(U5 (f+1) f (by omega)).1
end
end
section
open Go Go.RowKit

def ov (cs:List Value) (n:Nat):Prop:=cs=[.int .u8 (n:Int)]/\n<256
abbrev rdI (br:Nat) (sl:Value) (p:Nat):Item:=.blk br (.cells #[sl,.int .i64 (p:Int)] M7)
abbrev rdP (br:Nat):Value:=.pointer (some ⟨br,0,none⟩)
section
variable {P:Program} {w:World} {K:Value->World->Prop}
theorem PI {T:TypeId} {f g:Bool} {x y:Int} {a b:Nat} (h:x=a) (i:y=b) (l:0<b) (hk:K (.int .i64 ((a % b:Nat):Int)) w):Run P (c9 .rem T f g (.int .i64 x) (.int .i64 y)) w K:=by
 subst h i;exact Qj l hk
theorem Pq {T:TypeId} {f g:Bool} {x y:Int} {a b:Nat} (h:x=a) (i:y=b) (l:0<b) (m:a<=9223372036854775807) (hk:K (.int .i64 ((a / b:Nat):Int)) w):Run P (c9 .quo T f g (.int .i64 x) (.int .i64 y)) w K:=by
 subst h i;exact Yx l m hk
theorem Yt {T:TypeId} {f g:Bool} {x y:Int} {a b:Nat} (h:x=a) (i:y=b) (l:a<4611686018427387904) (m:b<4611686018427387904) (hk:K (.int .i64 ((a ^^^ b:Nat):Int)) w):Run P (c9 .xor T f g (.int .i64 x) (.int .i64 y)) w K:=by
 subst h i;exact Y3 l m hk
end
theorem RdSl.u8 {S:ae} {sl:Value} {ys:List Nat} (h:RdSl S 1 ov sl ys) (g:0<ys.length):∃ b o cap c E f,sl=.slice (some ⟨b,o,none⟩) ys.length cap/\S b=some (.cells c E f)/\
  ∀ i,i<ys.length->∃ y:Nat,c[o+i * 1]?=some (.int .u8 (y:Int))/\y<256:=by
 obtain ⟨a,cap,rfl,hl,hc,h⟩:=h;rcases h with rfl|⟨b,o,c,E,f,rfl,r,hR⟩
 ·simp at g
 ·refine ⟨b,o,cap,c,E,f,rfl,r,fun i l=>?_⟩;obtain ⟨m,q⟩:=hR i l;exact ⟨ys[i],aF m 0 _ rfl,q⟩
section
attribute [local irreducible] Run CondV aq aK
abbrev aaA (S:ae) (br:Nat) (sl:Value) (p n:Nat):Value->List Item->ae->Prop:=fun v I' S'=>S'=S/\I'=[rdI br sl (p+1)]/\∃ k:Nat,k<n/\v=.int .i64 (k:Int)
theorem dI {ys:List Nat} {S:ae} {sl:Value} {br p n:Nat} (h:RdSl S 1 ov sl ys) (hp:p<=1000000000000) (hn:0<n):Tri Tryz.prog Gc [rdP br,.int .i64 (n:Int)] [rdI br sl p] S (aaA S br sl p n):=by
 intro w g;refine rE.2 ?_;dsimp only[rE,bm];obtain ⟨X,hX⟩:∃ X,X=bP [rdI br sl p]:=⟨_,rfl⟩
 rw [<- hX] at g ⊢;have b9:∃ a m cap,sl=.slice a m cap/\m=ys.length:=by
  obtain ⟨a,cap,e,_⟩:=h;exact ⟨a,_,cap,e,rfl⟩
 refine aE ?_;refine aw sN ?_;refine aU g 0 aG rfl rfl ?_;refine bC (by omega) ?_;refine aE ?_;refine aw sN ?_;refine dA g 0 (n:=1) rfl (by decide +kernel) rfl (by simp) (by simp [Value.cells,Value.oneCell']) fun w' g=>?_;have g:Inv w X [rdI br sl (p+1)] S w':=g;have hN:∃ N:Nat,N=ys.length:=⟨_,rfl⟩
 refine ⟨fun t w'=>t=.bool (decide (ys.length=0))/\Inv w X [rdI br sl (p+1)] S w',?_,?_⟩
 ·refine fp (by omega) ?_;refine Pk (fun _=>?_) (fun hb=>by simp at hb);refine aE ?_;refine aw fS ?_;refine aU g 0 jf rfl rfl ?_;refine aJ h eQ ?_;refine bw ?_;refine xz ?_;refine ⟨?_,g⟩;simp
 intro b6 _ _ _ _ _ _ _ _ _ w';rintro ⟨rfl,g⟩;refine aL (fun _=>⟨_,_,_,rfl,g,Ext.refl _ _ _,rfl,rfl,0,hn,rfl⟩) (fun B=>?_);have B:0<ys.length:=by omega
 obtain ⟨b,o,cap,c,E,fz,rfl,hS,hc⟩:=h.u8 B;refine aE ?_;refine aw sN ?_;refine aU g 0 aG rfl rfl ?_;refine kS (by omega) ?_;have ep:((p+1:Nat):Int) - 1=(p:Int):=by omega
 rw [ep];refine aE ?_;refine aw fS ?_;refine aU g 0 jf rfl rfl ?_;refine iB eQ ?_;refine bT ?_;refine aL (fun b7=>?_) (fun _=>?_)
 ·have r:p<ys.length:=by omega
  obtain ⟨y,hy,b2⟩:=hc p r;refine aE ?_;refine aw fS ?_;refine aU g 0 jf rfl rfl ?_;refine az eQ r ?_;refine cP Fv ((g.cellS hS).trans hy) ?_;refine uj gX iD (IntWalk.i64_in _ (by omega)) ?_;refine Qj hn ?_;exact ⟨_,_,_,rfl,g,Ext.refl _ _ _,rfl,rfl,y % n,xh _ hn,rfl⟩
 ·obtain ⟨G,Y⟩:∃ G,G=p % ys.length:=⟨_,rfl⟩
  obtain ⟨J,Z⟩:∃ J,J=(p * 7+3) % ys.length:=⟨_,rfl⟩
  obtain ⟨q,a0⟩:∃ q,q=p / ys.length:=⟨_,rfl⟩
  have b0:G<ys.length:=by rw [Y]; exact xh _ B
  have b1:J<ys.length:=by rw [Z]; exact xh _ B
  have hq:q<=p:=by rw [a0]; exact Nat.div_le_self ..
  obtain ⟨i,b3,b8⟩:=hc G b0;obtain ⟨l,b4,b2⟩:=hc J b1
  skip
  refine ⟨fun D x6 T2 V7 Vn T5 UQ Wd V6 VH V5 TQ Sx Rg TY Wb TW TO Ww TU V1 UL XI X9 Z2 M O U VJ TZ Jt F4 EK Ec GQ En EH Gp IV Ix Gx sc Df CG y7 z8 sx w_=>Fx D 0 [sx=.pointer (some ⟨br,0,none⟩),z8=.pointer (some ⟨br,0,none⟩),y7=.pointer (some ⟨br,0,none⟩),CG=.slice (some ⟨b,o,none⟩) ys.length cap,Df=.int .i64 (p:Int),sc=.pointer (some ⟨br,0,none⟩),Gx=.pointer (some ⟨br,0,none⟩),Ix=.pointer (some ⟨br,0,none⟩),IV=.slice (some ⟨b,o,none⟩) ys.length cap,Gp=.int .i64 (ys.length:Int),EH=.int .i64 (((G:Nat):Int)),En=.pointer (some ⟨b,o+G * 1,none⟩),GQ=.int .u8 ((i:Nat):Int),Ec=.int .i64 (((i:Nat):Int)),EK=.int .i64 ((((i:Nat):Int) * 131)),F4=.pointer (some ⟨br,0,none⟩),Jt=.pointer (some ⟨br,0,none⟩),TZ=.pointer (some ⟨br,0,none⟩),VJ=.slice (some ⟨b,o,none⟩) ys.length cap,U=.int .i64 (p:Int),O=.int .i64 (((p:Int) * 7)),M=.int .i64 ((((p:Int) * 7)+3)),Z2=.pointer (some ⟨br,0,none⟩),X9=.pointer (some ⟨br,0,none⟩),XI=.pointer (some ⟨br,0,none⟩),UL=.slice (some ⟨b,o,none⟩) ys.length cap,V1=.int .i64 (ys.length:Int),TU=.int .i64 (((J:Nat):Int)),Ww=.pointer (some ⟨b,o+J * 1,none⟩),TO=.int .u8 ((l:Nat):Int),TW=.int .i64 (((l:Nat):Int)),Wb=.int .i64 ((((l:Nat):Int) * 1117)),TY=.int .i64 (((((i:Nat):Int) * 131)+(((l:Nat):Int) * 1117))),Rg=.int .i64 (p:Int),Sx=.int .i64 (((p:Int) * 29)),TQ=.int .i64 ((((((i:Nat):Int) * 131)+(((l:Nat):Int) * 1117))+((p:Int) * 29))),V5=.int .i64 (p:Int),VH=.pointer (some ⟨br,0,none⟩),V6=.pointer (some ⟨br,0,none⟩),Wd=.pointer (some ⟨br,0,none⟩),UQ=.slice (some ⟨b,o,none⟩) ys.length cap,T5=.int .i64 (ys.length:Int),Vn=.int .i64 (((q:Nat):Int)),V7=.int .i64 ((((q:Nat):Int) * 53)),T2=.int .i64 (((((((i:Nat):Int) * 131)+(((l:Nat):Int) * 1117))+((p:Int) * 29))+(((q:Nat):Int) * 53))),x6=.int .i64 (((((((i:Nat):Int) * 131)+(((l:Nat):Int) * 1117))+((p:Int) * 29))+(((q:Nat):Int) * 53)))]/\Inv w X [rdI br (.slice (some ⟨b,o,none⟩) ys.length cap) (p+1)] S w_,⟨Fx.nil _ _,g.draw⟩,⟨?_,?_,?_,?_,?_,?_,?_,?_,?_,?_,?_,?_,?_,?_,?_,?_,?_,?_,?_,?_,?_,?_,?_,?_,?_,?_,?_,?_,?_,?_,?_,?_,?_,?_,?_,?_,?_,?_,?_,?_,?_,?_,?_,?_,?_,?_,trivial⟩,?_⟩;all_goals (intro D bI; intros; rename_i x6 T2 V7 Vn T5 UQ Wd V6 VH V5 TQ Sx Rg TY Wb TW TO Ww TU V1 UL XI X9 Z2 M O U VJ TZ Jt F4 EK Ec GQ En EH Gp IV Ix Gx sc Df CG y7 z8 sx w_ V; have f:=V.1; obtain ⟨⟨cJ,cH,cI,cD,cM,cO,cq,dg,dF,dL,cT,dl,dN,fE,gr,gQ,iC,ku,lY,ic,py,sv,yt,Bd,Og,a1,a2,a3,a4,Zv,a5,ZO,ZC,Zx,ZA,a6,ZT,a7,ZN,Zw,a8,Zy,a9,ZV,Zn,b5,_⟩,g⟩:=V)
  ·exact ⟨f.set 0 rfl,g⟩
  ·obtain rfl:=cJ ‹_›;refine aE ?_;exact ⟨f.set 1 rfl,g⟩
  ·obtain rfl:=cH ‹_›;refine aw fS ?_;exact ⟨f.set 2 rfl,g⟩
  ·obtain rfl:=cI ‹_›;refine aU g 0 jf rfl rfl ?_;exact ⟨f.set 3 rfl,g⟩
  ·exact ⟨f.set 4 rfl,g⟩
  ·exact ⟨f.set 5 rfl,g⟩
  ·obtain rfl:=cO ‹_›;refine aE ?_;exact ⟨f.set 6 rfl,g⟩
  ·obtain rfl:=cq ‹_›;refine aw fS ?_;exact ⟨f.set 7 rfl,g⟩
  ·obtain rfl:=dg ‹_›;refine aU g 0 jf rfl rfl ?_;exact ⟨f.set 8 rfl,g⟩
  ·obtain rfl:=dF ‹_›;refine iB eQ ?_;exact ⟨f.set 9 rfl,g⟩
  ·obtain rfl:=cM ‹_›;obtain rfl:=dL ‹_›;refine PI (a:=p) (b:=ys.length) (by omega) rfl B ?_; rw [<- Y];exact ⟨f.set 10 rfl,g⟩
  ·obtain rfl:=cD ‹_›;obtain rfl:=cT ‹_›;refine az eQ b0 ?_;exact ⟨f.set 11 rfl,g⟩
  ·obtain rfl:=dl ‹_›;refine cP Fv ((g.cellS hS).trans b3) ?_;exact ⟨f.set 12 rfl,g⟩
  ·obtain rfl:=dN ‹_›;refine uj gX iD (IntWalk.i64_in _ (by omega)) ?_;exact ⟨f.set 13 rfl,g⟩
  ·obtain rfl:=fE ‹_›;refine E9 (by omega) ?_;exact ⟨f.set 14 rfl,g⟩
  ·exact ⟨f.set 15 rfl,g⟩
  ·obtain rfl:=gQ ‹_›;refine aE ?_;exact ⟨f.set 16 rfl,g⟩
  ·obtain rfl:=iC ‹_›;refine aw fS ?_;exact ⟨f.set 17 rfl,g⟩
  ·obtain rfl:=ku ‹_›;refine aU g 0 jf rfl rfl ?_;exact ⟨f.set 18 rfl,g⟩
  ·exact ⟨f.set 19 rfl,g⟩
  ·obtain rfl:=ic ‹_›;refine E9 (by omega) ?_;exact ⟨f.set 20 rfl,g⟩
  ·obtain rfl:=py ‹_›;refine bC (by omega) ?_;exact ⟨f.set 21 rfl,g⟩
  ·exact ⟨f.set 22 rfl,g⟩
  ·obtain rfl:=yt ‹_›;refine aE ?_;exact ⟨f.set 23 rfl,g⟩
  ·obtain rfl:=Bd ‹_›;refine aw fS ?_;exact ⟨f.set 24 rfl,g⟩
  ·obtain rfl:=Og ‹_›;refine aU g 0 jf rfl rfl ?_;exact ⟨f.set 25 rfl,g⟩
  ·obtain rfl:=a1 ‹_›;refine iB eQ ?_;exact ⟨f.set 26 rfl,g⟩
  ·obtain rfl:=sv ‹_›;obtain rfl:=a2 ‹_›;refine PI (a:=p * 7+3) (b:=ys.length) (by omega) rfl B ?_; rw [<- Z];exact ⟨f.set 27 rfl,g⟩
  ·obtain rfl:=lY ‹_›;obtain rfl:=a3 ‹_›;refine az eQ b1 ?_;exact ⟨f.set 28 rfl,g⟩
  ·obtain rfl:=a4 ‹_›;refine cP Fv ((g.cellS hS).trans b4) ?_;exact ⟨f.set 29 rfl,g⟩
  ·obtain rfl:=Zv ‹_›;refine uj gX iD (IntWalk.i64_in _ (by omega)) ?_;exact ⟨f.set 30 rfl,g⟩
  ·obtain rfl:=a5 ‹_›;refine E9 (by omega) ?_;exact ⟨f.set 31 rfl,g⟩
  ·obtain rfl:=gr ‹_›;obtain rfl:=ZO ‹_›;refine bC (by omega) ?_;exact ⟨f.set 32 rfl,g⟩
  ·exact ⟨f.set 33 rfl,g⟩
  ·obtain rfl:=Zx ‹_›;refine E9 (by omega) ?_;exact ⟨f.set 34 rfl,g⟩
  ·obtain rfl:=ZC ‹_›;obtain rfl:=ZA ‹_›;refine bC (by omega) ?_;exact ⟨f.set 35 rfl,g⟩
  ·exact ⟨f.set 36 rfl,g⟩
  ·exact ⟨f.set 37 rfl,g⟩
  ·obtain rfl:=a7 ‹_›;refine aE ?_;exact ⟨f.set 38 rfl,g⟩
  ·obtain rfl:=ZN ‹_›;refine aw fS ?_;exact ⟨f.set 39 rfl,g⟩
  ·obtain rfl:=Zw ‹_›;refine aU g 0 jf rfl rfl ?_;exact ⟨f.set 40 rfl,g⟩
  ·obtain rfl:=a8 ‹_›;refine iB eQ ?_;exact ⟨f.set 41 rfl,g⟩
  ·obtain rfl:=ZT ‹_›;obtain rfl:=Zy ‹_›;refine Pq (a:=p) (b:=ys.length) rfl rfl B (by omega) ?_; rw [<- a0];exact ⟨f.set 42 rfl,g⟩
  ·obtain rfl:=a9 ‹_›;refine E9 (by omega) ?_;exact ⟨f.set 43 rfl,g⟩
  ·obtain rfl:=a6 ‹_›;obtain rfl:=ZV ‹_›;refine bC (by omega) ?_;exact ⟨f.set 44 rfl,g⟩
  ·obtain rfl:=Zn ‹_›;exact ⟨f.set 45 rfl,g⟩
  obtain ⟨rfl,rfl,rfl,rfl,rfl,rfl,rfl,rfl,rfl,rfl,rfl,rfl,rfl,rfl,rfl,rfl,rfl,rfl,rfl,rfl,rfl,rfl,rfl,rfl,rfl,rfl,rfl,rfl,rfl,rfl,rfl,rfl,rfl,rfl,rfl,rfl,rfl,rfl,rfl,rfl,rfl,rfl,rfl,rfl,rfl,rfl,_⟩:=f.all;clear f cJ cH cI cD cM cO cq dg dF dL cT dl dN fE gr gQ iC ku lY ic py sv yt Bd Og a1 a2 a3 a4 Zv a5 ZO ZC Zx ZA a6 ZT a7 ZN Zw a8 Zy a9 ZV Zn b5;obtain ⟨x,hx⟩:∃ x:Nat,((((((i:Nat):Int) * 131)+(((l:Nat):Int) * 1117))+((p:Int) * 29))+(((q:Nat):Int) * 53))=(x:Int):=⟨(((((((i:Nat):Int) * 131)+(((l:Nat):Int) * 1117))+((p:Int) * 29))+(((q:Nat):Int) * 53))).toNat,by omega⟩
  have c0:x<=10000000000000000:=by omega
  rw [hx];refine Pq (a:=x) (b:=64) rfl rfl (by omega) (by omega) ?_;refine Yt (a:=x) (b:=x / 64) rfl rfl (by omega) (by omega) ?_;refine Qj hn ?_;exact ⟨_,_,_,rfl,g,Ext.refl _ _ _,rfl,rfl,_,xh _ hn,rfl⟩
theorem mg {ys:List Nat} {ns:List Int} {S:ae} {sl v:Value} {br p:Nat} (h:RdSl S 1 ov sl ys) (f:RdSl S 1 jz v ns) (g:0<ns.length) (i:p<=1000000000000) :
  Tri Tryz.prog Hp [rdP br,v] [rdI br sl p] S fun r I' S'=>S'=S/\I'=[rdI br sl (p+1)]/\∃ n∈ns,r=.int .i64 n:=by
 intro w a;refine sO.2 ?_;dsimp only[sO,bm];refine aJ f cz ?_;refine Run.call (A:=[]) ct cr a (dI h i g) fun m I' S' w'=>?_;rintro ⟨rfl,rfl,k,hk,rfl⟩ _ a;obtain ⟨b,o,cap,c,E,q,rfl,l,hR⟩:=f.at_ hk;refine az cz hk ?_;refine cP aG ((a.cellS l).trans (aF hR 0 _ rfl)) ?_;exact ⟨_,_,_,rfl,a,Ext.refl _ _ _,rfl,rfl,_,bG hk,rfl⟩
theorem xK {ys:List Nat} {ns:List ByteArray} {S:ae} {sl v:Value} {br p:Nat} (h:RdSl S 1 ov sl ys) (f:RdSl S 1 vZ v ns) (g:0<ns.length) (i:p<=1000000000000) :
  Tri Tryz.prog KJ [rdP br,v] [rdI br sl p] S fun r I' S'=>S'=S/\I'=[rdI br sl (p+1)]/\∃ n∈ns,r=.string n:=by
 intro w a;refine wg.2 ?_;dsimp only[wg,bm];refine aJ f cX ?_;refine Run.call (A:=[]) ct cr a (dI h i g) fun m I' S' w'=>?_;rintro ⟨rfl,rfl,k,hk,rfl⟩ _ a;obtain ⟨b,o,cap,c,E,q,rfl,l,hR⟩:=f.at_ hk;refine az cX hk ?_;refine cP be ((a.cellS l).trans (aF hR 0 _ rfl)) ?_;exact ⟨_,_,_,rfl,a,Ext.refl _ _ _,rfl,rfl,_,bG hk,rfl⟩
theorem O2 {ys:List Nat} {S:ae} {v:Value} (h:RdSl S 1 ov v ys) :
  Tri Tryz.prog NU [v] [] S fun r I' S'=>S'=S/\∃ br sl f,r=rdP br/\I'=[rdI br sl 0]/\RdSl S 1 ov sl f:=by
 intro w g;refine zI.2 ?_;dsimp only[zI,aO];refine ⟨fun t w'=>(∃ f,RdSl S 1 ov t f)/\Inv w [] [] S w',?_,?_⟩
 ·refine aJ h eQ ?_;refine eP ?_;refine aL (fun l=>?_) (fun _=>⟨⟨_,h⟩,g⟩);obtain ⟨a,cap,rfl,hl,hc,o⟩:=id h;refine FW (h:=2000) eQ (by omega) ?_;exact ⟨⟨_,RdSl.to h (by omega)⟩,g⟩
 intro m _ _ _ _ _ w';rintro ⟨⟨f,i⟩,g⟩;obtain ⟨a,cap,rfl,_⟩:=id i;refine Run.of (v:=.agg #[.slice a f.length cap,.int .i64 0]) (w':=w') ?_ ?_
 ·unfold cS;rw [Sem.run_bind,run_build w' M7 _ #[.slice a f.length cap,.int .i64 0] (by kernel_rfl),Result.andThen_ok];rfl
 refine bJ g fun br w' g=>?_;exact ⟨_,_,_,rfl,g,Ext.refl _ _ _,rfl,br,_,f,rfl,rfl,i⟩
end
end
end Go.Proofs.YtgllldjiaglkcaaGreatDoor
