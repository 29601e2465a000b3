/- spec.l13Rename. -/
import Derived.Test.YtellfcpffcipcaaGreatDoorZCkA
import Derived.Test.YtellfcpffcipcaaGreatDoorZCk31
namespace Go.Proofs.YtellfcpffcipcaaGreatDoor
attribute [local irreducible] Run CondV aF aT
section
open Go Go.RowKit
mutual
def prF (vs:List Int):PF->PF
 | .mk g c ks=>.mk (jJ vs g) c (prL vs ks)
def prL (vs:List Int):List PF->List PF
 | []=>[]
 | p::ps=>prF vs p::prL vs ps
end
theorem Oh (vs:List Int):∀ a:List PF,prL vs a=a.map (prF vs)
 | []=>rfl
 | p::a=>by rw [prL,Oh vs a];rfl
mutual
theorem WW (vs:List Int):∀ p:PF,wF (prF vs p)=wF p
 | .mk g c ks=>by rw [prF,wF,wF,Oa,Yj vs ks,Oh,nN]
theorem Yj (vs:List Int):∀ a:List PF,wFL (prL vs a)=wFL a
 | []=>rfl
 | p::a=>by rw [prL,wFL,wFL,WW vs p,Yj vs a]
end
theorem BldR.wsize {N:Nat} {st:au} (G:Good N st) {j:BKd} {l:List Sp} {o:Option (List PF × List Sp)} (h:BldR st j l o):okLp N l->∀ f g,o=some (f,g)->wFL f+f.length+842 * g.length<=842 * l.length:=by
 induction h with
 | big=>intro _ f g h;cases h
 | bad=>intro _ f g h;cases h
 | stop=>intro _ f g h;cases h
 | next=>intro _ f g h;cases h
 | nil=>
  intro _ f g h;simp only [aY,cV] at h;obtain ⟨rfl,rfl⟩:=h;simp [wFL]
 | @node x l _ u _ M r _ O=>
  intro i f g h;simp only [aY,cV] at h;obtain ⟨rfl,rfl⟩:=h;have D:=O (fun y m=>i y (bk _ m)) _ _ rfl;have q:okU N u:=kz G M (i x (bi ..)).1.1;have Y:=gG r q;simp only [wFL,wF,bI,cB];omega
 | @cons _ l l1 g k U D _ t B=>
  intro i f V h;simp only [aY,cV] at h;obtain ⟨rfl,rfl⟩:=h;obtain ⟨a,e⟩:=D.suf _ _ rfl;have J:=t i _ _ rfl;have Z:=B (fun y m=>i y (by rw [e];exact im _ m)) _ _ rfl;simp only [wFL,bI,cB] at J ⊢;omega
theorem Inv.rowSl {w0 w:World} {X:List Nat} {L:List Item} {S:ae} {v:Value} {e:TypeId} {k n i:Nat} {xs:hZ} (h:Inv w0 X L S w) (j:L[i]?=some (.row v e k n xs)):∃ a n m,v=.slice a n m:=by
 have f:w.ownsRow 0 e k v n xs:=h.its _ (cJ j);obtain ⟨_,f⟩:=f;rcases f with ⟨rfl,_⟩|⟨g,cap,l,rfl,_⟩ <;> exact ⟨_,_,_,rfl⟩
def rnC (w0:World) (X:List Nat) (b5:Nat) (F:Value->Array Value) (B:List Item) (kv:Value) (css:List (List Value)) (y:PF) (S:ae) (lO gQ kY:Value) (w:World):Nat->Prop
 | 0=>Inv w0 X (B++[.blk b5 (.cells (F kv) ar),aK kv ar 6 css]) S w
 | 1=>∃ S1 cs,lO=.agg cs.toArray/\Ext w0.heap.size X S S1/\RdF S1 cs y/\Inv w0 X (B++[.blk b5 (.cells (F kv) ar),aK kv ar 6 css]) S1 w
 | 2=>∃ S1,Ext w0.heap.size X S S1/\RdSl S1 6 (RdF S1) gQ [y]/\Inv w0 X (B++[.blk b5 (.cells (F kv) ar),aK kv ar 6 css]) S1 w
 | 3=>∃ S1 cs,Ext w0.heap.size X S S1/\RdF S1 cs y/\Inv w0 X (B++[.blk b5 (.cells (F kv) ar),aK kY ar 6 (css++[cs])]) S1 w
 | _=>∃ S1 kv' cs,Ext w0.heap.size X S S1/\RdF S1 cs y/\Inv w0 X (B++[.blk b5 (.cells (F kv') ar),aK kv' ar 6 (css++[cs])]) S1 w
theorem rnC.inv {w0 w:World} {X:List Nat} {a:Nat} {F:Value->Array Value} {B:List Item} {kv:Value} {css:List (hZ)} {y:PF} {S:ae} {f g i:Value}:∀ {n:Nat},rnC w0 X a F B kv css y S f g i w n->∃ R S1,Ext w0.heap.size X S S1/\Inv w0 X (B++R) S1 w
 | 0,h=>⟨_,_,Ext.refl _ _ _,h⟩
 | 1,⟨S1,_,_,hE,_,h⟩=>⟨_,S1,hE,h⟩
 | 2,⟨S1,hE,_,h⟩=>⟨_,S1,hE,h⟩
 | 3,⟨S1,_,hE,_,h⟩=>⟨_,S1,hE,h⟩
 | _+4,⟨S1,_,_,hE,_,h⟩=>⟨_,S1,hE,h⟩
theorem rnC.low {w0 w:World} {X:List Nat} {a:Nat} {F:Value->Array Value} {B:List Item} {kv:Value} {css:List (hZ)} {y:PF} {S:ae} {f g i:Value}:∀ {n:Nat},rnC w0 X a F B kv css y S f g i w n->n<4->∃ R S1,Inv w0 X (B++.blk a (.cells (F kv) ar)::R) S1 w
 | 0,h,_=>⟨_,_,h⟩
 | 1,⟨S1,_,_,_,_,h⟩,_=>⟨_,S1,h⟩
 | 2,⟨S1,_,_,h⟩,_=>⟨_,S1,h⟩
 | 3,⟨S1,_,_,_,h⟩,_=>⟨_,S1,h⟩
 | n+4,_,h=>by omega
abbrev Zn (x:PF):Value->List Item->ae->Prop:=fun q I' S'=>I'=[]/\∃ cs:List Value,q=.agg cs.toArray/\RdF S' cs x
section
set_option maxHeartbeats 2000000 in
theorem GA {vs:List Int} (e3:vs.length<=1000000000):∀ (x:PF) (S:ae) (cs:hZ) (v:Value),RdF S cs x->RdSl S 1 gW v vs->pwT x->wF x<=1048576->kt zb [.agg cs.toArray,v] [] S (Zn (prF vs x)):=by
 refine PF.ind fun g c ks ih S cs v h hv c4 e5=>?_;intro w a;obtain ⟨b8,kp,rfl,hg,c7,b6⟩:=RdF.iff.1 h;simp only [PF.goal,PF.clause,PF.kids] at hg c7 b6 ⊢;rw [pwT] at c4;rw [wF] at e5;have d7:=b6.le;simp only [maxLen] at d7;obtain ⟨ka,kc,rfl,_⟩:=id b6;obtain ⟨va,vc,rfl,_⟩:=id hv;apply vi.2;dsimp only[vi,bl];refine bq a fun b2 w' a=>?_;refine aG a fG fun b4 w' a=>?_;obtain ⟨B2,c8⟩:∃ B:Item,B=ay b2 #[ax g.kind,ax g.n,.string g.name,b8,ax c,.slice ka ks.length kc] ar:=⟨_,rfl⟩
 obtain ⟨B4,c9⟩:∃ B:Item,B=ay b4 zP6 ar:=⟨_,rfl⟩
 have e2:=congrArg some c8;have e4:=congrArg some c9;have a:Inv w [] [B2,B4] S w':=by rw [c8,c9];exact a
 refine ⟨fun D x5 Ld M0 zY P4 x9 x8 x7 w_=>Fx D 0 [x7=ee b2,x8=.agg (gn g b8),x9=.slice va vs.length vc,True,zY=eu b2 4,M0=ax c,True,True,True]/\∃ S1,Ext w.heap.size [] S S1/\(D 3=true->∃ J M N O,P4=.agg #[J,M,N,O]/\RdT S1 [J,M,N,O] (jJ vs g))/\(D 6=true->∃ J M N O,Ld=.agg #[J,M,N,O,ax c,hV]/\RdT S1 [J,M,N,O] (jJ vs g))/\nwP w [] [B2,B4] ar zP6 (fun S q=>∃ J M N O,q=#[J,M,N,O,ax c,hV]/\RdT S [J,M,N,O] (jJ vs g)) (D 7) (D 8) x5 S1 w_,⟨Fx.nil _ _,⟨S,Ext.refl _ _ _,aU,aU,nwP.mk a.draw _⟩⟩,⟨?_,?_,?_,?_,?_,?_,?_,?_,?_,trivial⟩,?_⟩;all_goals (intro D bw;intros;rename_i x5 Ld M0 zY P4 x9 x8 x7 w_ a9;have f:=a9.1;obtain ⟨⟨co,cn,bP,cj,cA,bQ,bO,cM,de,_⟩,⟨S1,U,f3,f6,hN⟩⟩:=a9)
 apply ah dE;rotate_left
 obtain rfl:=co ‹_›;obtain ⟨R,a⟩:=hN.inv;refine cP a 0 (hJ g b8) ac e2 rfl wg ?_;rotate_left;rotate_left
 obtain rfl:=cn ‹_›;obtain rfl:=bP ‹_›;obtain ⟨R,a,b9⟩:=nwP.ex (Q:=fun S q=>∃ J M N O,q=#[J,M,N,O,ax c,hV]/\RdT S [J,M,N,O] (jJ vs g)) (fun _ _ _ hs ⟨J,M,N,O,e,h⟩=>⟨J,M,N,O,e,h.mono hs⟩) hN;refine Run.call0E yh yZ a (Il vs e3 g S1 _ _ (hg.mono U.1) (hv.mono U.1 fun _ _ h=>h) (by omega)) fun v I' S2 w_=>?_;rintro ⟨eS,f8,L,rfl,rfl,hT⟩ _ a;rw [eS] at a;obtain ⟨S2,a,a6,d0⟩:=a.pubExt;have a5:=hT.rd d0;obtain ⟨J,M,N,O,rfl⟩:=uR a5.length;have hN:=b9 S2 _ a6.1 a;have f3:aC D 3 3=true->∃ b1 b2 b3 b4,Value.agg [J,M,N,O].toArray=.agg #[b1,b2,b3,b4]/\RdT S2 [b1,b2,b3,b4] (jJ vs g):=fun _=>⟨J,M,N,O,rfl,a5⟩
 have f6:aC D 3 6=true->∃ J M N O,Ld=.agg #[J,M,N,O,ax c,hV]/\RdT S2 [J,M,N,O] (jJ vs g):=fun h=>by
  obtain ⟨b1,b2,b3,b4,e,h⟩:=f6 h;exact ⟨b1,b2,b3,b4,e,h.mono a6.1⟩
 obtain ⟨S1,rfl,U⟩:∃ S1,S1=S2/\Ext w.heap.size [] S S1:=⟨S2,rfl,U.trans a6⟩
 rotate_left;apply ah dF;rotate_left
 obtain rfl:=cA ‹_›;obtain ⟨R,a⟩:=hN.inv;refine aD a 0 aw e2 rfl ?_;rotate_left
 have SV:=cj ‹_›;obtain rfl:=bQ ‹_›;obtain ⟨J,M,N,O,rfl,a5⟩:=f3 ‹D 3=true›;apply xe;have f6:aC D 6 6=true->∃ b1 b2 b3 b4,Value.agg #[J,M,N,O,ax c,hV]=.agg #[b1,b2,b3,b4,ax c,hV]/\RdT S1 [b1,b2,b3,b4] (jJ vs g):=fun _=>⟨J,M,N,O,rfl,a5⟩
 rotate_left;refine nwP.alloc hN bw fG rfl fun v w_ hN=>?_;rotate_left
 have Fi:=cM ‹_›;have Ky:=bO ‹_›;obtain ⟨J,M,N,O,rfl,a5⟩:=f6 ‹D 6=true›;refine nwP.store hN ‹D 7=true› bw bp rfl rfl (MF a5.one rfl) ⟨J,M,N,O,rfl,a5⟩ fun w_ hN=>?_;rotate_left
 all_goals try exact ⟨f.set _ (by first|rfl|assumption|trivial),S1,U,f3,f6,hN⟩
 obtain ⟨rfl,rfl,rfl,SV,rfl,rfl,Ky,Fi,_,_⟩:=f.all;have CQ:D 7=true:=by assumption
 have Dc:D 8=true:=by assumption
 clear f;rw [CQ,Dc] at hN;obtain ⟨b5,q5,rfl,⟨J,M,N,O,rfl,a5⟩,a⟩:=hN.fin;obtain ⟨F,hF⟩:∃ F:Value->Array Value,F=fun kv=>#[J,M,N,O,ax c,kv]:=⟨_,rfl⟩
 have b0:∀ kv,F kv=#[J,M,N,O,ax c,kv]:=fun kv=>by rw [hF]
 have a:=a.rowNil ar 6;have a:Inv w [] ([B2,B4]++[ay b5 (F (hV)) ar,aK (hV) ar 6 []]) S1 w_:=by rw [b0];exact a
 refine ⟨fun i w'=>∃ (j:Nat) (S2:ae) (kv:Value) (css:List (hZ)),i=ax (j:Int)/\j<=ks.length/\Ext w.heap.size [] S1 S2/\Rows 6 (RdF S2) css ((ks.take j).map (prF vs))/\
   Inv w [] ([B2,B4]++[ay b5 (F kv) ar,aK kv ar 6 css]) S2 w',fun i _=>ks.length - (intOf i).toNat,⟨0,S1,_,[],rfl,bf _,Ext.refl _ _ _,Rows.nil _ _,a⟩,?_⟩
 intro t6 _ _ f9 g0 g1 g2 g3 g4 g5 g6 g7 g8 g9 h0 _ _ _ _ _ w';rintro ⟨j,S2,kv,css,rfl,hj,a6,hR,a⟩;have f2:=hR.hc;rw [nN,ey,kJ hj] at f2;have a8:=U.trans a6;refine ad a 0 e2 bH bT rfl (fJ cK (bM (aJ (fun e6=>?_) (fun e6=>?_))))
 ·have a7:j<ks.length:=by omega
  obtain ⟨kb,ko,h1,d1,kE,h2,d2,e7,d3⟩:=b6.at_ a7;have f4:ka=some ⟨kb,ko,none⟩:=by
   simp only [Value.slice.injEq] at d2;exact d2.1
  have f5:∀ {ty:TypeId} {K:Value->World->Prop} {w':World},K (eu kb (ko+j * 6)) w'->Run Tryz.prog (sOp (.indexAddr MH (.const (.slice ka ks.length kc)) (.const (ax (j:Int)))) ty) w' K:=
   fun hk=>by rw [f4];exact az cK a7 hk
  have f7:=d3.length;have d9:=a8.1 _ _ e7;obtain ⟨qa,qn,qc,rfl⟩:=a.rowSl (i:=3) rfl;have h5:=hv.mono a8.1 fun _ _ h=>h;have c3:∀ S3,Sle S S3->kt zb [.agg (aO d1 (ko+j * 6) 6).toArray,.slice va vs.length vc] [] S3 (Zn (prF vs ks[j])):=fun S3 h3=>
   ih _ (bJ a7) S3 _ _ (d3.mono h3) (hv.mono h3 fun _ _ h=>h) (VZ c4.2 _ (bJ a7)) (by have:=Hh (bJ a7);omega)
  refine ⟨fun D rr kY gQ lO jW pp oR iU pj vz tU qX w_=>Fx D 0 [qX=eu b5 5,tU=.slice qa qn qc,vz=eu b2 5,pj=.slice ka ks.length kc,iU=ax (j:Int),oR=eu kb (ko+j * 6),pp=.agg (aO d1 (ko+j * 6) 6).toArray,jW=.slice va vs.length vc,True,True,True,rr=eu b5 5,True]/\∃ n_:Nat,n_<=4/\D 8=decide (1<=n_)/\D 9=decide (2<=n_)/\D 10=decide (3<=n_)/\D 12=decide (4<=n_)/\(D 12=true->D 1=true)/\(rnC w [] b5 F [B2,B4] (.slice qa qn qc) css (prF vs ks[j]) S2 lO gQ kY w_ n_),⟨Fx.nil _ _,⟨0,bf _,rfl,rfl,rfl,rfl,(aU),a.draw⟩⟩,⟨?_,?_,?_,?_,?_,?_,?_,?_,?_,?_,?_,?_,?_,trivial⟩,?_⟩;all_goals (intro D bw;intros;rename_i rr kY gQ lO jW pp oR iU pj vz tU qX w_ a9;have f:=a9.1;obtain ⟨⟨co,cn,bP,cj,cA,bQ,bO,cM,de,dv,bU,cC,cY,_⟩,⟨n_,a0,r,t,G,m,V,Y⟩⟩:=a9)
  apply ah bH;rotate_left
  ·obtain rfl:=co ‹_›;have e0:=X1 m V bw;obtain ⟨R,S3,a⟩:=Y.low e0;rw [b0] at a;apply aD a 2 bT rfl rfl;exact ⟨f.set 1 rfl,n_,a0,r,t,G,m,(fun _=>rfl),Y⟩
  apply ah bH;rotate_left
  obtain rfl:=bP ‹_›;obtain ⟨R,S3,_,a⟩:=Y.inv;refine aD a 0 bT e2 rfl ?_;rotate_left;rotate_left
  obtain rfl:=cj ‹_›;obtain rfl:=cA ‹_›;apply f5;rotate_left
  obtain rfl:=bQ ‹_›;obtain ⟨R,S3,l,a⟩:=Y.inv;refine bV bp f7 (fun j v hj=>by rw [a.cellS (l.1 _ _ d9)];exact aA rfl j v hj) ?_;rotate_left;rotate_left
  ·obtain rfl:=bO ‹_›;obtain rfl:=cM ‹_›;obtain rfl:n_=0:=Af r bw;refine Run.call0E wh vW Y (c3 S2 a8.1) fun v I' S3 w_=>?_;rintro ⟨rfl,cs,rfl,Z⟩ l a;rw [dc] at a;have Y:rnC w [] b5 F [B2,B4] (.slice qa qn qc) css (prF vs ks[j]) S2 (.agg cs.toArray) gQ kY w_ 1:=⟨S3,cs,rfl,l,Z,a⟩
   exact ⟨f.set 8 (by first|assumption|trivial),1,by decide,rfl,(by first|exact t|rfl),(by first|exact G|rfl),(by first|exact m|rfl),V,Y⟩
  ·have Db:=de ‹_›;obtain rfl:n_=1:=iY r ‹D 8=true› t bw;obtain ⟨S3,cs,rfl,l,Z,a⟩:=Y;refine dQ a kC (by simpa [Value.cells] using Z.length) (by omega) (by omega) fun b w_ a=>?_;obtain ⟨S4,a,d4,hb⟩:=Inv.pub1 a;have Y:rnC w [] b5 F [B2,B4] (.slice qa qn qc) css (prF vs ks[j]) S2 (.agg cs.toArray) (eF b 0 1 1) kY w_ 2:=⟨S4,l.trans d4,RdSl.single hb Z.length (Z.mono d4.1),a⟩
   exact ⟨f.set 9 (by first|assumption|trivial),2,by decide,(by first|exact r|rfl),rfl,(by first|exact G|rfl),(by first|exact m|rfl),V,Y⟩
  ·obtain rfl:=cn ‹_›;have K2:=dv ‹_›;obtain rfl:n_=2:=iY t ‹D 9=true› G bw;obtain ⟨S3,l,e8,a⟩:=Y;refine fZ (css:=css) a 3 kC (by omega) rfl e8 (fun _ _=>RdF.length) (fun _ _=>RdF.one) (by simp;omega) (by omega) fun v w_ c5 c6 a=>?_;obtain ⟨c0,c1⟩:∃ c0,c5=[c0]:=List.length_eq_one_iff.1 c6.hc;subst c1;have c1:RdF S3 c0 (prF vs ks[j]):=c6.hR 0 (by simp) (by simp);have Y:rnC w [] b5 F [B2,B4] (.slice qa qn qc) css (prF vs ks[j]) S2 lO gQ v w_ 3:=⟨S3,c0,l,c1,a⟩
   exact ⟨f.set 10 (by first|assumption|trivial),3,by decide,(by first|exact r|rfl),(by first|exact t|rfl),rfl,(by first|exact m|rfl),V,Y⟩
  apply ah bH;rotate_left
  ·obtain rfl:=cC ‹_›;have xE:=bU ‹_›;obtain rfl:n_=3:=iY G ‹D 10=true› m bw;obtain ⟨S3,cs,l,Z,a⟩:=Y;obtain ⟨c2,e9⟩:=a.rowOne (i:=3) rfl;rw [b0] at a;refine dD a 2 (b:=b5) (o:=5) (n:=1) (by rw [c2];rfl) (by rw [bT];rfl) rfl (by simp) (by rw [c2];simpa using e9) fun w_ a=>?_;have Y:rnC w [] b5 F [B2,B4] (.slice qa qn qc) css (prF vs ks[j]) S2 lO gQ kY w_ 4:=⟨S3,kY,cs,l,Z,by rw [b0];rw [c2] at a;exact a⟩
   exact ⟨f.set 12 trivial,4,by decide,(by first|exact r|rfl),(by first|exact t|rfl),(by first|exact G|rfl),rfl,(fun _=>‹D 1=true›),Y⟩
  all_goals try exact ⟨f.set _ (by first|rfl|assumption|trivial),n_,a0,r,t,G,m,V,Y⟩
  obtain rfl:n_=4:=pH a0 m ‹D 12=true›;clear r t G m;obtain ⟨S3,f0,cs,l,Z,a⟩:=Y;refine bA (by omega) ?_;refine ⟨⟨j+1,S3,f0,_,rfl,a7,a6.trans l,?_,a⟩,by simp only [intOf,dq];omega⟩;rw [gh a7,IY];exact (hR.monoR fun _ _ h=>h.mono l.1).snoc Z Z.length
 ·have:j=ks.length:=by omega
  subst this;rw [fM] at hR;obtain ⟨S3,l,f1,a⟩:=Inv.lendExt (A:=[B2,B4,ay b5 (F kv) ar]) a;rw [b0] at a;have b7:RdF S3 [J,M,N,O,ax c,kv] (prF vs (.mk g c ks)):=by
   rw [prF,Oh];apply RdF.iff.2;have e1:=a5.mono (a6.trans l).1;obtain ⟨h4,d6,_⟩:=RdT.iff.1 e1;simp only [gV,i0] at d6;obtain ⟨rfl,rfl,rfl,rfl⟩:=d6;exact ⟨_,_,rfl,e1,c7,RowRd.rows (hR.monoR fun _ _ h=>h.mono l.1) f1⟩
  refine av a 2 bp rfl rfl (aq (cs:=#[J,M,N,O,ax c,kv]) a 1 e4 bp rfl rfl (by simpa using b7.one) fun w' a=>?_);apply bm a 1 bp rfl rfl;exact ⟨_,[],S3,rfl,a.nil,a8.trans l,rfl,_,rfl,b7⟩
end
end
section
open Go Go.RowKit
theorem Srch.inv {p:List C} {n:Nat} {s:Se} {o:Option Se} (h:Srch p n s o):(s.st.goals=[]/\o=some s) ∨ (s.st.goals≠[]/\n=0/\o=none) ∨
  (s.st.goals≠[]/\∃ m g e,n=m+1/\OneR p s g e/\((e=0/\o=none) ∨ (e=-1/\Srch p m g o) ∨ (e=-2/\∃ i,BackR p g.st.chs g.saved i/\((i=none/\o=none) ∨ ∃ t,i=some t/\Srch p m t o)))):=by
 cases h with
 | done h=>exact .inl ⟨h,rfl⟩
 | out h=>exact .inr (.inl ⟨h,rfl,rfl⟩)
 | halt h a=>exact .inr (.inr ⟨h,_,_,_,rfl,a,.inl ⟨rfl,rfl⟩⟩)
 | step h a f=>exact .inr (.inr ⟨h,_,_,_,rfl,a,.inr (.inl ⟨rfl,f⟩)⟩)
 | stop h a f=>exact .inr (.inr ⟨h,_,_,_,rfl,a,.inr (.inr ⟨rfl,_,f,.inl ⟨rfl,rfl⟩⟩)⟩)
 | back h a f j=>exact .inr (.inr ⟨h,_,_,_,rfl,a,.inr (.inr ⟨rfl,_,f,.inr ⟨_,rfl,j⟩⟩)⟩)
def FinO (s:Se) (o:Option PF):Prop:=∃ ob,BldR s.st.binds .one s.steps ob/\((ob=none/\o=none) ∨ ∃ x l2,ob=some ([x],l2)/\o=some (prF (pvT x []) x))
def FindO (p:List C) (n:Nat) (s:Se) (o:Option PF):Prop:=∃ oS,Srch p n s oS/\((oS=none/\o=none) ∨ ∃ t,oS=some t/\FinO t o)
theorem FindO.ex {p:List C} (f:∀ cl∈p,BF cl) (g:p.length<=1000000) {k n:Nat} {s:Se} (h:qC p.length s) (l:okP s) (i:okXk k s):∃ o,FindO p n s o:=by
 obtain ⟨m,a,_⟩:=Srch.ex (fun cl hc=>(f cl hc).cf) n s h;cases m with
 | none=>exact ⟨none,none,a,.inl ⟨rfl,rfl⟩⟩
 | some t=>
  obtain ⟨r,B,D⟩:=a.ok (fun cl hc=>(f cl hc).cf) h l t rfl;obtain ⟨G,j,J⟩:=acy r B D (a.okXk f g k h i t rfl);cases G with
  | none=>exact ⟨none,_,a,.inr ⟨t,rfl,none,j,.inl ⟨rfl,rfl⟩⟩⟩
  | some q=>
   obtain ⟨x,i⟩:=J q.1 q.2 rfl;exact ⟨_,_,a,.inr ⟨t,rfl,some q,j,.inr ⟨x,q.2,by rw [<- i],rfl⟩⟩⟩
theorem FinO.w {n k:Nat} {s:Se} (g:qC n s) (f:okXk k s) {o:Option PF} (h:FinO s o):∀ y,o=some y->wF y<=842 * k:=by
 intro y a;obtain ⟨l,i,⟨_,rfl⟩|⟨x,m,rfl,rfl⟩⟩:=h
 ·cases a
 ·rw [aY] at a;subst a;have j:=i.wsize g.st.good f.steps _ _ rfl;have q:=f.ns;simp only [wFL,bI,cB] at j;rw [WW];omega
def Z3 (o:Option PF):Value->List Item->ae->Prop:=fun q I' S'=>I'=[]/\∃ cs:List Value,q=.tuple #[.agg cs.toArray,.bool (o.elim false kG)]/\cs.length=6/\(∀ u∈cs,u.oneCell'=true)/\∀ y,o=some y->RdF S' cs y
section
set_option maxHeartbeats 4000000 in
theorem La {p:List C} (hp:∀ cl∈p,BF cl) (c2:p.length<=1000000) {t:T} (ht:okU 26 t/\wT t<=1048576) (f9:okM t) {n:Nat} (hn:n<=400) {o:Option PF} (h:FindO p n (jh t) o)
  {S:ae} {u:Value} {cs:hZ} (hP:RdSl S 5 (RdC S) u p) (hg:RdT S cs t):kt Qu [u,.agg cs.toArray,ax (n:Int)] [] S (Z3 o):=by
 intro w a;have f5:∀ cl∈p,zm cl:=fun cl hc=>(hp cl hc).cf;have d1:=hg.length;apply BW.2;dsimp only[BW,dR];refine bq a fun b4 w' a=>?_;refine aG a fG fun b6 w' a=>?_;obtain ⟨B4,e0⟩:∃ B:Item,B=ay b4 cs.toArray ab:=⟨_,rfl⟩
 obtain ⟨B6,c9⟩:∃ B:Item,B=ay b6 zP6 ar:=⟨_,rfl⟩
 have e4:=congrArg some e0;have e6:=congrArg some c9;have a:Inv w [] [B4,B6] S w':=by rw [e0,c9];exact a
 refine av a 0 ac e4 (by simpa using d1) (dQ a bx (by simpa [Value.cells] using d1) (by omega) (by omega) fun b w' a=>?_);obtain ⟨S1,a,e1,U⟩:=Inv.pub1 a;refine Run.call0E Nm Oq a (KR (ts:=[t]) (RdSl.single U d1 (hg.mono e1.1)) (fun u hu=>by rw [cE] at hu;subst hu;exact ht) (by simp)) fun v' I' S2 w'=>?_;rintro ⟨rfl,c6,rfl,gs,sb,sc,rfl,b1,c3,d4⟩ g0 a;have f6:=e1.trans g0;refine Ve (aG a eP fun b8 w' a=>?_);have a:Inv w [] [B4,B6,ay b8 zSe aX] S2 w':=a;have f7:RdSe S2 [gs,sb,sc,hV,hV] (jh t):=⟨_,_,_,_,_,rfl,b1,c3,d4,RdSl.nil0 ..,RdSl.nil0 ..⟩
 refine aq (cs:=#[gs,sb,sc,hV,hV]) a 2 rfl bh rfl rfl (by simpa using f7.one) fun w' a=>?_;have a:Inv w [] [B4,B6,ay b8 #[gs,sb,sc,hV,hV] aX] S2 w':=a;obtain ⟨oS,a4,a2⟩:=h;have V:∀ {S3:ae} {B:List Item} {w':World},Ext w.heap.size [] S S3->o=none->Inv w [] ([B4,B6]++B) S3 w'->
   Run Tryz.prog (bZ ar []) w' fun v w'=>Run Tryz.prog (sOp (.store ar (.const (ee b6)) (.const v)) 0) w' fun _u w'=>aT Tryz.prog ar (ee b6) w' fun r0=>
    ∃ v I' S',Ending.returned (Value.tuple #[r0,(Value.bool false)])=.returned v/\Inv w (bS []) I' S' w'/\Ext w.heap.size (bS []) S S'/\Z3 o v I' S':=by
  intro S3 B w' hE ho a;refine UF (aq (cs:=zP6) a 1 e6 bp rfl rfl (by simp [Value.oneCell']) fun w' a=>?_);apply bm a 1 bp rfl rfl;refine ⟨_,[],S3,rfl,a.nil,hE,rfl,[ax 0,ax 0,.string ⟨#[]⟩,hV,ax 0,hV],by rw [ho];rfl,rfl,by simp [Value.oneCell'],fun y e=>by rw [ho] at e;cases e⟩
 refine ⟨fun i w'=>∃ (m k:Nat) (S3:ae) (c5:hZ) (s:Se),i=ax (m:Int)/\m+k<=n/\Ext w.heap.size [] S S3/\Srch p m s oS/\qC p.length s/\okP s/\okXk k s/\RdSe S3 c5 s/\Inv w [] [B4,B6,ay b8 c5.toArray aX] S3 w',
  fun i _=>(intOf i).toNat,⟨n,0,S2,_,jh t,rfl,be _,f6,a4,MV ht.1 ht.2 _,zM t,I6 f9,f7,a⟩,?_⟩
 intro _ _ _ _ _ _ _ _ _ _ _ _ _ _ _ t7 _ _ _ _ _ _ _ _ _ _ _ t2 _ _ _ _ _ _ _ _ _ _ _ w';rintro ⟨m,k,S3,c5,s,rfl,i1,b2,a4,Z,g1,Y,d6,a⟩;obtain ⟨gs,sb,sc,st,sv,rfl,b1,c3,d4,g5,i2⟩:=id d6;refine ⟨fun q w'=>q=.bool (decide ((m:Int) > 0) && decide ((s.st.goals.length:Int) > 0))/\Inv w [] [B4,B6,ay b8 #[gs,sb,sc,st,sv] aX] S3 w',?_,?_⟩
 ·apply ew;cases hd:decide ((m:Int) > 0) with
  | true=>
   refine rpG ?_;refine ah cD (ah iW (aD a 2 iu rfl rfl (aI b1 mO (ew ?_))));refine rpG ?_;exact ⟨rfl,a⟩
  | false=>
   refine rpG ?_;exact ⟨rfl,a⟩
 intro q _ _ _ _ _ _ _ _ w';rintro ⟨rfl,a⟩;obtain ⟨B8,d0⟩:∃ B:Item,B=ay b8 #[gs,sb,sc,st,sv] aX:=⟨_,rfl⟩
 have e8:=congrArg some d0;have a:Inv w [] [B4,B6,B8] S3 w':=by rw [d0];exact a
 refine aE (fun U=>?_) (fun U=>?_)
 ·rw [aZ,bt,bt] at U;obtain ⟨g6,a1⟩:=U;have d2:s.st.goals≠[]:=fun e=>by rw [e] at a1;simp at a1
  rcases a4.inv with ⟨O,_⟩|⟨_,O,_⟩|⟨_,m',s',e,rfl,hO,N⟩
  ·exact absurd O d2
  ·omega
  refine je (by omega) ?_;rw [show (((m'+1:Nat):Int) - 1)=(m':Int) by omega];refine av a 2 bh e8 rfl (Run.call0E Rr QU a (Oe hp c2 (k:=k) (by omega) hO Z Y (hP.monoC b2.1) d6) fun v' I' S4 w'=>?_);rintro ⟨rfl,ns,rfl,b3⟩ c4 a;have J:=b2.trans c4;have d3:=b3.length;have r:=hO.ok f5 Z;have b7:=hO.okP Z.len g1;obtain ⟨e2,e3⟩:=hO.okXk hp c2 Z Y;refine al (v:=.agg ns.toArray) rfl (al (v:=ax e) rfl (aG a eP fun b9 w' a=>?_));refine aq a 3 rfl bh (by simpa using d3) rfl (by simpa using b3.one) fun w' a=>?_;have a:Inv w [] [B4,B6,B8,ay b9 ns.toArray aX] S4 w':=a;refine bn (aJ (fun h0=>?_) (fun h0=>?_))
  ·rcases N with ⟨_,ho⟩|⟨O,_⟩|⟨O,_⟩
   ·refine V (B:=[B8,_]) J ?_ a;rcases a2 with ⟨_,h⟩|⟨_,h,_⟩
    ·exact h
    ·rw [ho] at h;cases h
   ·omega
   ·omega
  refine ⟨fun w'=>∃ (S5:ae) (n5:hZ) (s5:Se),Ext w.heap.size [] S4 S5/\Srch p m' s5 oS/\qC p.length s5/\okP s5/\okXk (k+1) s5/\RdSe S5 n5 s5/\Inv w [] [B4,B6,B8,ay b9 n5.toArray aX] S5 w',?_,?_⟩
  ·refine bn (aJ (fun h2=>?_) (fun h2=>?_))
   ·rcases N with ⟨O,_⟩|⟨O,_⟩|⟨_,ob,hB,N⟩
    ·omega
    ·omega
    have es:=e3 h2;have M:okXk k s':=by rw [es];exact Y
    refine av a 3 bh rfl (by simpa using d3) ?_;refine Run.call0E Od OI a (Lx hp (k:=k) (by omega) hB (fun c hc=>⟨r.st.chs c hc,M.chs c hc⟩) (by have:=M.nc;omega) r.len (fun l hl=>by have:=M.nv l hl;omega) (hP.monoC J.1) b3) fun v' I' S5 w'=>?_;rintro ⟨rfl,n5,rfl,a3,d7,g2⟩ g a;refine al (v:=.agg n5.toArray) rfl (al (v:=.bool ob.isSome) rfl (aG a eP fun d9 w' a=>?_));refine aq a 4 rfl bh (by simpa using a3) rfl (by simpa using d7) fun w' a=>?_;have a:Inv w [] [B4,B6,B8,ay b9 ns.toArray aX,ay d9 n5.toArray aX] S5 w':=a;apply cq;rcases N with ⟨rfl,ho⟩|⟨s5,rfl,a5⟩
    ·refine aE (fun _=>?_) (fun U=>by cases U);refine V (B:=[B8,_,_]) (J.trans g) ?_ a;rcases a2 with ⟨_,h⟩|⟨_,h,_⟩
     ·exact h
     ·rw [ho] at h;cases h
    ·refine aE (fun U=>by cases U) (fun _=>?_);refine av a 4 bh rfl (by simpa using a3) ?_;refine aq a 3 rfl bh (by simpa using a3) (by simpa using d3) (by simpa using d7) fun w' a=>?_;exact ⟨S5,n5,s5,g,a5,hB.ok f5 r.len.symm r.st.chs r.left _ rfl,hB.okP r.len.symm b7.saved _ rfl,
      hB.okXk hp c2 r.len.symm (fun c hc=>⟨r.st.chs c hc,M.chs c hc⟩) M.nc M.saved M.nv _ rfl,g2 _ rfl,a.pick [true,true,true,true]⟩
   ·rcases N with ⟨O,_⟩|⟨_,a5⟩|⟨O,_⟩
    ·exact absurd O h0
    ·exact ⟨S4,ns,s',Ext.refl _ _ _,a5,r,b7,e2,b3,a⟩
    ·exact absurd O h2
  intro _ _ _ _ _ _ _ _ _ _ _ _ _ _ _ w';rintro ⟨S5,n5,s5,g,a5,q1,q2,q3,c7,a⟩;have a3:=c7.length;rw [d0] at a;refine av a 3 bh rfl (by simpa using a3) (aq a 2 rfl bh (by simpa using a3) rfl (by simpa using c7.one) fun w' a=>?_);exact ⟨⟨m',k+1,S5,n5,s5,rfl,by omega,J.trans g,a5,q1,q2,q3,c7,a.pick [true,true,true]⟩,by simp only [intOf,dq];omega⟩
 ·refine ah cD (ah iW (aD a 2 iu e8 rfl (aI b1 mO (ew (aJ (fun a1=>?_) (fun a1=>?_))))))
  ·have d2:s.st.goals≠[]:=fun e=>by rw [e] at a1;simp at a1
   have g6:m=0:=by
    rw [acq] at U;rcases U with U|U
    ·have:=of_decide_eq_false U;omega
    ·exact absurd a1 (of_decide_eq_false U)
   refine V (B:=[B8]) b2 ?_ a;rcases a4.inv with ⟨O,_⟩|⟨_,_,O⟩|⟨_,m',s',e,O,_⟩
   ·exact absurd O d2
   ·rcases a2 with ⟨_,h⟩|⟨_,h,_⟩
    ·exact h
    ·rw [O] at h;cases h
   ·omega
  have c0:s.st.goals=[]:=iy (by omega);have f8:oS=some s:=by
   rcases a4.inv with ⟨_,O⟩|⟨O,_⟩|⟨O,_⟩
   ·exact O
   ·exact absurd c0 O
   ·exact absurd c0 O
  have hF:FinO s o:=by
   rcases a2 with ⟨h,_⟩|⟨s1,h,hF⟩
   ·rw [f8] at h;cases h
   ·rw [f8,aY] at h;rw [h];exact hF
  have h3:=hF.w Z Y;obtain ⟨ob,e5,hF⟩:=hF;have i3:=Y.ns;refine ad a 2 e8 iQ jG rfl (ah cD (ah mz (aD a 2 aj e8 rfl (Run.call0E yR xW a (Ir Y.pos Z.st.good Y.steps (by omega) _ 0 (be _) ob e5 S3 st sb g5 c3) fun v' I' S4 w'=>?_))));rintro ⟨rfl,c6,a',rfl,b5,g3,g4⟩ c4 a;have J:=b2.trans c4;refine al (v:=.agg c6.toArray) rfl (al (v:=ax (a':Int)) rfl (al (v:=.bool ob.isSome) rfl (aG a fG fun a7 w' a=>?_)));refine aq a 3 rfl bp (by simpa using b5) rfl (by simpa using g3) fun w' a=>?_;have a:Inv w [] [B4,B6,B8,ay a7 c6.toArray ar] S4 w':=a;apply cq;rcases hF with ⟨rfl,rfl⟩|⟨x,l2,rfl,rfl⟩
  ·refine aE (fun _=>?_) (fun U=>by cases U);exact V (B:=[B8,_]) J rfl a
  refine aE (fun U=>by cases U) (fun _=>?_);obtain ⟨_,_,x',e7,e9⟩:=g4 _ _ rfl;simp only [gV,i0] at e7;subst e7;obtain ⟨g7,f0⟩:=e5.size Z.st.good Y.steps _ _ rfl;rw [pcL,pcL] at g7;rw [pwL] at f0;have i4:pcT x<=1000000:=by omega
  have h4:=h3 _ rfl;rw [WW] at h4;have c1:wF x<=1048576:=by omega
  have h5:=TF x [];have h9:=V7 x;simp only [cB] at h5;obtain ⟨y,hy⟩:∃ y,y=prF (pvT x []) x:=⟨_,rfl⟩
  rw [<- hy];refine ⟨fun D Eg D5 Fw EV w_=>Fx D 0 [EV=.agg c6.toArray,Fw=.agg c6.toArray,True,True,True]/\∃ S5 f,Ext w.heap.size [] S4 S5/\(D 4=true->D 0=true/\D 1=true)/\(D 2=true->RdSl S5 1 gW D5 (pvT x []))/\(D 3=true->∃ cs,Eg=.agg (List.toArray cs)/\RdF S5 cs y)/\(D 4=false->f=c6)/\(D 4=true->RdF S5 f y)/\Inv w [] [B4,B6,B8,ay a7 f.toArray ar] S5 w_,⟨Fx.nil _ _,⟨S4,c6,Ext.refl _ _ _,aU,aU,aU,fun _=>rfl,aU,a.draw⟩⟩,⟨?_,?_,?_,?_,?_,trivial⟩,?_⟩;all_goals (intro D bw;intros;rename_i Eg D5 Fw EV w_ a6;have j:=a6.1;obtain ⟨⟨co,cn,bP,cj,cA,_⟩,⟨S5,f,g,k4,f2,f3,z4,f4,a⟩⟩:=a6)
  have n4:D 4=false:=bN.2 fun h=>by rw [(k4 h).1] at bw;cases bw
  have a8:=a;rw [z4 n4] at a8;refine av a8 3 bp rfl (by simpa using b5) ?_;have k4:aC D 0 4=true->aC D 0 0=true/\aC D 0 1=true:=fun h=>⟨rfl,(k4 h).2⟩
  rotate_left;have n4:D 4=false:=bN.2 fun h=>by rw [(k4 h).2] at bw;cases bw
  have a8:=a;rw [z4 n4] at a8;refine av a8 3 bp rfl (by simpa using b5) ?_;have k4:aC D 1 4=true->aC D 1 0=true/\aC D 1 1=true:=fun h=>⟨(k4 h).1,rfl⟩
  rotate_left;obtain rfl:=cn ‹_›;have a:=a.rowNil cR 1;have a:Inv w [] ([B4,B6,B8,ay a7 f.toArray ar]++[dI (hV) []]) S5 w_:=a;refine Run.callE Bx BT a (Lv x S5 c6 _ [] (e9.mono g.1) (by simp only [cB];omega)) fun v I' S6 w_=>?_;rintro ⟨rfl,eS⟩ _ a;rw [eS] at a;obtain ⟨S6,a0,g8,a⟩:=Inv.lendRowE a;have f2:aC D 2 2=true->RdSl S6 1 gW v (pvT x []):=fun _=>g8.ints;have f3:aC D 2 3=true->∃ cs,Eg=.agg (List.toArray cs)/\RdF S6 cs y:=fun h=>(f3 h).imp fun _ h=>⟨h.1,h.2.mono a0.1⟩
  have f4:aC D 2 4=true->RdF S6 f y:=fun h=>(f4 h).mono a0.1;obtain ⟨S5,rfl,g⟩:∃ S5,S5=S6/\Ext w.heap.size [] S4 S5:=⟨S6,rfl,g.trans a0⟩
  rotate_left;obtain rfl:=co ‹_›;have g9:=bP ‹_›;refine Run.call0E wh vW a (GA (vs:=pvT x []) (by omega) x S5 c6 _ (e9.mono g.1) (f2 ‹D 2=true›) f0.1 c1) fun v I' S6 w_=>?_;rintro ⟨rfl,c8,rfl,G⟩ a0 a;rw [<- hy] at G;rw [dc] at a;have f2:aC D 3 2=true->RdSl S6 1 gW D5 (pvT x []):=fun h=>(f2 h).mono a0.1 fun _ _ h=>h;have f3:aC D 3 3=true->∃ cs,Value.agg c8.toArray=.agg (List.toArray cs)/\RdF S6 cs y:=fun h=>⟨_,rfl,G⟩
  have f4:aC D 3 4=true->RdF S6 f y:=fun h=>(f4 h).mono a0.1;obtain ⟨S5,rfl,g⟩:∃ S5,S5=S6/\Ext w.heap.size [] S4 S5:=⟨S6,rfl,g.trans a0⟩
  rotate_left;have SV:=cj ‹_›;obtain ⟨c8,rfl,G⟩:=f3 ‹D 3=true›;rw [z4 bw] at a;refine aq a 3 rfl bp (by simpa using G.length) (by simpa using b5) (by simpa using G.one) fun w_ a=>?_;have k4:aC D 4 4=true->aC D 4 0=true/\aC D 4 1=true:=fun _=>⟨by assumption,by assumption⟩
  obtain ⟨f,f1⟩:∃ q:hZ,q=c8:=⟨_,rfl⟩
  rw [<- f1] at a G;have z4:aC D 4 4=false->f=c6:=fun h=>Bool.noConfusion h;have f4:aC D 4 4=true->RdF S5 f y:=fun _=>G
  rotate_left
  all_goals try exact ⟨j.set _ (by first|rfl|assumption|trivial),S5,f,g,k4,f2,f3,z4,f4,a⟩
  obtain ⟨rfl,rfl,g9,SV,_,_⟩:=j.all;have h6:D 4=true:=by assumption
  clear j;have a9:=f4 h6;have b0:=a9.length;have h7:wF y<=1048576:=by rw [hy,WW];exact c1
  rw [c9] at a;have i5:=a;refine ⟨fun D x7 ze ud Bw w_=>Fx D 0 [Bw=.agg f.toArray,ud=.agg f.toArray,ze=.bool (kG y),True,x7=.bool (kG y)]/\Inv w [] [B4,ay b6 (cond (D 3) f.toArray zP6) ar,B8,ay a7 f.toArray ar] S5 w_,⟨Fx.nil _ _,a.draw⟩,⟨?_,?_,?_,?_,?_,trivial⟩,?_⟩;all_goals (intro D bw;intros;rename_i x7 ze ud Bw w_ a6;have j:=a6.1;obtain ⟨⟨co,cn,bP,cj,cA,_⟩,a⟩:=a6)
  refine av a 3 bp rfl (by simpa using b0) ?_;rotate_left
  refine av a 3 bp rfl (by simpa using b0) ?_;rotate_left
  obtain rfl:=cn ‹_›;refine Run.callPure uj tA a (pX a9 h7) fun w_ a=>?_;rotate_left
  obtain rfl:=co ‹_›;rw [bw] at a;refine aq a 1 rfl bp (by simpa using b0) rfl (by simpa using a9.one) fun w_ a=>?_;rotate_left
  obtain rfl:=bP ‹_›;rotate_left
  all_goals try exact ⟨j.set _ (by first|rfl|assumption|trivial),a⟩
  obtain ⟨rfl,rfl,rfl,_,rfl,_⟩:=j.all;have h8:D 3=true:=by assumption
  clear j;rw [h8] at a;refine bm a 1 bp rfl (by simpa using b0) ?_;exact ⟨_,[],S5,rfl,a.nil,J.trans g,rfl,f,rfl,b0,a9.one,fun z e=>by rw [aY] at e;subst e;exact a9⟩
end
end
section
open Go Go.RowKit
def aay (s:ByteArray):Bool:=match ld 60 (bs s) 0 30 3 with
 | some (t,n)=>decide (n=s.size) && (dP t && decide (s.size<=1000))
 | none=>false
theorem Xu {s:ByteArray} (h:aay s=true):∃ t,ld 60 (bs s) 0 30 3=some (t,s.size)/\dP t=true/\s.size<=1000:=by
 unfold aay at h;split at h
 ·rename_i t n a
  simp only [aZ,bt] at h;obtain ⟨rfl,f,g⟩:=h;exact ⟨t,a,f,g⟩
 ·cases h
theorem FindO.w {p:List C} (f:∀ cl∈p,BF cl) (a:p.length<=1000000) {k n:Nat} {s:Se} (g:qC p.length s) (j:okP s) (l:okXk k s) {o:Option PF} (h:FindO p n s o):∀ y,o=some y->wF y<=842 * (k+n):=by
 obtain ⟨r,i,⟨rfl,rfl⟩|⟨t,rfl,m⟩⟩:=h
 ·intro y e;cases e
 ·obtain ⟨q,_,_⟩:=i.ok (fun cl hc=>(f cl hc).cf) g j t rfl;exact m.w q (i.okXk f a k g l t rfl)
theorem Tt {q:List T} (h:Vq q):∃ g:0<q.length,dP q[0]=true:=by
 obtain ⟨a,f⟩:=h;rw [eJ] at a;simp only [aZ,eX] at a;exact ⟨f,eL (a.2 _ (bJ f))⟩
section
variable {br:Nat} {sl:Value} {ys:List Nat} {S:ae}
theorem JM {s:ByteArray} (h:aay s=true):kt PB [.string s] [] S fun v I' S'=>I'=[]/\∃ cs t,v=.tuple #[.agg cs.toArray,.bool true]/\RdT S' cs t/\dP t=true:=by
 intro w a;obtain ⟨t,V,G,hs⟩:=Xu h;have Y:=lr G;have M:(bs s).length=s.size:=(n3 (bs s)).symm;apply za.2;dsimp only[za,aR];refine aG a aV fun U w' a=>?_;obtain ⟨B2,j⟩:∃ B:Item,B=ay U zT4 ab:=⟨_,rfl⟩
 have e2:=congrArg some j;have a:Inv w [] [B2] S w':=by rw [j];exact a
 refine jy bg (nD (by omega) (aE (fun r=>by cases r) (fun _=>?_)));refine Run.call0E iC iz a (DC 60 (bs s) 0 30 3 t s.size S V (gM (Dh M) (by omega)) (bf _) (by omega) (by omega)) fun v I' S1 w'=>?_;rintro ⟨rfl,cs,rfl,f⟩ o a;have g:=f.length;refine al (v:=.agg cs.toArray) rfl (al (v:=ax (s.size:Int)) rfl (aG a aV fun D w' a=>?_));refine aq a 1 rfl ac (by simpa using g) rfl (by simpa using f.one) fun w' a=>?_;have a:Inv w [] [B2,ay D cs.toArray ab] S1 w':=a;refine ⟨fun q w'=>q=.bool false/\Inv w [] [B2,ay D cs.toArray ab] S1 w',?_,?_⟩
 ·refine jy bg (dw ?_);rw [aL rfl];refine rpG ?_;refine av a 1 ac rfl (by simpa using g) (Run.callPure i9 ja a (iq f (Hr (by omega))) fun w' a=>?_);rw [G];apply cq;refine rpG ?_;exact ⟨rfl,a⟩
 intro q _ _ _ _ _ _ _ _ w';rintro ⟨rfl,a⟩;refine aE (fun r=>by cases r) (fun _=>?_);refine av a 1 ac rfl (by simpa using g) (Run.call0E fR fQ a (gL t S1 cs f (by omega)) fun Z I' S' w'=>?_);rintro ⟨N,ds,L,rfl,rfl,O⟩ _ a;rw [N] at a;obtain ⟨S2,a,J,l⟩:=a.pubExt;have i:=O.rd l;have m:=i.length;refine aq a 0 e2 ac (by simpa using m) rfl (by simpa using i.one) fun w' a=>?_;refine bm a 0 ac rfl (by simpa using m) ?_;exact ⟨_,[],S2,rfl,a.nil,o.trans J,rfl,ds,t,rfl,i,G⟩
abbrev acI (br:Nat) (sl:Value) (p k:Nat):Value->List Item->ae->Prop:=fun v I' S'=>∃ p',p'<=p+k/\I'=[rdI br sl p']/\∃ u cs ps t,v=.tuple #[u,.agg cs.toArray]/\RdSl S' 5 (RdC S') u ps/\Light 8 200 ps/\0<ps.length/\(∀ c∈ps,cz c=true)/\RdT S' cs t/\dP t=true
theorem KH {p:Nat} (V:RdSl S 1 nZ sl ys) (hp:p<=9000000):kt Rj [rdP br] [rdI br sl p] S (acI br sl p 7):=by
 intro w a;apply Aw.2;dsimp only[Aw,aR];refine aG a aV fun b3 w' a=>?_;obtain ⟨B3,M⟩:∃ B:Item,B=ay b3 zT4 ab:=⟨_,rfl⟩
 have e3:=congrArg some M;have a:Inv w [br] [B3,rdI br sl p] S w':=by rw [M];exact a.last 0 rfl
 refine Run.callL cG cH a (dU (n:=4) V (by omega) (by omega)) rfl fun v' I' S0 w'=>?_;rintro ⟨rfl,rfl,k,hk,rfl⟩ _ a;have a:Inv w [br] [B3,rdI br sl (p+1)] S0 w':=a;refine ew (aJ (fun _=>?_) (fun _=>?_))
 ·refine zS a (by kernel_rfl) rfl (by omega) fun v1 S1 w' J b5 a=>?_;have a:Inv w [br] [B3,rdI br sl (p+1)] S1 w':=a;refine Run.callL gf gg a (mv (p:=p+1) (V.monoU J.1) b5 (by decide) (by omega)) rfl fun v' I' S2 w'=>?_;rintro ⟨rfl,rfl,n,hn,rfl⟩ _ a;have a:Inv w [br] [B3,rdI br sl (p+2)] S2 w':=a;refine gT a (by kernel_rfl) rfl (by omega) fun v3 S3 w' b6 b7 a=>?_;have a7:=J.trans b6;obtain ⟨L,hL,k,rfl,c7,b9,a4⟩:∃ L:List ByteArray,RdSl S3 1 rp v3 L/\∃ k:Nat,n=(k:Int)/\k<11/\∃ h:k<L.length,aay L[k]=true:=by
   refine ⟨_,b7,?_⟩;have hn:n∈([0,1,2,3,5,9,0]:List Int):=hn;simp only [cw,ic,g9] at hn;rcases hn with rfl|rfl|rfl|rfl|rfl|rfl|rfl
   ·exact ⟨0,rfl,by decide,by decide,by decide +kernel⟩
   ·exact ⟨1,rfl,by decide,by decide,by decide +kernel⟩
   ·exact ⟨2,rfl,by decide,by decide,by decide +kernel⟩
   ·exact ⟨3,rfl,by decide,by decide,by decide +kernel⟩
   ·exact ⟨5,rfl,by decide,by decide,by decide +kernel⟩
   ·exact ⟨9,rfl,by decide,by decide,by decide +kernel⟩
   ·exact ⟨0,rfl,by decide,by decide,by decide +kernel⟩
  have a:Inv w [br] [B3,rdI br sl (p+2)] S3 w':=a;refine Run.call0E BL Bz a (y7 S3) fun v' I' S4 w'=>?_;rintro ⟨rfl,l,hl,c6,a0⟩ a1 a;have a:Inv w [br] [B3,rdI br sl (p+2)] S4 w':=a;have a8:k<l.length:=by omega
  refine gj a hl cZ aP a8 (fun cs m=>m) ?_;rw [eX] at a0;refine Run.call0E qu pZ a (Nb (a0 _ (bJ a8))) fun v I' S5 w'=>?_;rintro ⟨u,css,O,rfl,rfl,hR,h0,G,Y⟩ a2 a;have a:Inv w [br] [aK u aB 5 css,B3,rdI br sl (p+2)] S5 w':=a.perm (by
   refine List.Perm.trans (List.Perm.swap _ _ _) ?_;exact (List.Perm.swap _ _ _).cons _)
  obtain ⟨S6,a5,a,hr⟩:=vJ a hR;have a9:=((a7.trans a1).trans a2).trans a5;have b0:=(a1.trans a2).trans a5;refine al (v:=u) rfl (al (v:=.bool true) rfl (gj a (hL.monoS b0.1) cZ aP b9 (fun cs m=>m) (Run.call0E Lo KG a (JM a4) fun v' I' S7 w'=>?_)));rintro ⟨rfl,cs,t,rfl,m,b1⟩ a3 a;have o:=m.length;refine al (v:=.agg cs.toArray) rfl (al (v:=.bool true) rfl (aG a aV fun b8 w' a=>?_));refine aq a 2 rfl ac (by simpa using o) rfl (by simpa using m.one) fun w' a=>?_;have a:Inv w [br] [ay b3 zT4 ab,rdI br sl (p+2),ay b8 cs.toArray ab] S7 w':=by rw [<- M];exact a
  have c2:=a;obtain ⟨ua,uc,rfl,_⟩:=id hr;have a:=c2;have c3:=a;refine ⟨fun D x2 lK mC Z=>Fx D 0 [mC=.slice ua O.length uc,lK=.agg cs.toArray,x2=.slice ua O.length uc,True]/\Inv w [br] [ay b3 (cond (D 3) cs.toArray zT4) ab,rdI br sl (p+2),ay b8 cs.toArray ab] S7 Z,⟨Fx.nil _ _,a.draw⟩,⟨?_,?_,?_,?_,trivial⟩,?_⟩;all_goals (intro D bw;intros;rename_i x2 lK mC Z r;have f:=r.1;obtain ⟨⟨co,cn,bP,cj,_⟩,a⟩:=r)
  ·exact ⟨f.set 0 rfl,a⟩
  ·refine av a 2 ac rfl (by simpa using o) ?_;exact ⟨f.set 1 rfl,a⟩
  ·obtain rfl:=co ‹_›;exact ⟨f.set 2 rfl,a⟩
  ·obtain rfl:=cn ‹_›;rw [bw] at a;refine aq a 0 rfl ac (by simpa using o) rfl (by simpa using m.one) fun Z a=>?_;exact ⟨f.set 3 trivial,a⟩
  obtain ⟨rfl,rfl,rfl,_,_⟩:=f.all;have c4:D 3=true:=by assumption
  clear f;rw [c4] at a;refine bm a 0 ac rfl (by simpa using o) ?_;exact ⟨_,[rdI br sl (p+2)],S7,rfl,a.pick [false,true],a9.trans a3,p+2,by omega,rfl,_,cs,O,t,rfl,hr.monoC a3.1,G,h0,Y,m,b1⟩
 ·refine Run.callL Qf RU a (KP (p:=p+1) V (by omega)) rfl fun v' I' S1 w'=>?_;rintro ⟨p1,c8,rfl,u,g,O,q,rfl,G,b2,h0,Y,hq,c9,b4⟩ J a;have a:Inv w [br] [B3,rdI br sl p1] S1 w':=a;obtain ⟨a6,c0⟩:=Tt b4;obtain ⟨ua,uc,rfl,_⟩:=id G;obtain ⟨qb,qo,U,qc,qE,d0,rfl,c1,N⟩:=hq.at_ a6;rw [sz] at N;have o:=N.length;refine al (v:=.slice ua O.length uc) rfl ?_;refine al (v:=eF qb qo q.length U) rfl ?_;rw [M] at a;have c3:=a;refine ⟨fun D x2 nz pD mn nj Z=>Fx D 0 [nj=.slice ua O.length uc,mn=eF qb qo q.length U,pD=eu qb (qo+0 * 4),nz=.agg (aO qc (qo+0) 4).toArray,x2=.slice ua O.length uc,True]/\Inv w [br] [ay b3 (cond (D 5) (aO qc (qo+0) 4).toArray zT4) ab,rdI br sl p1] S1 Z,⟨Fx.nil _ _,a.draw⟩,⟨?_,?_,?_,?_,?_,?_,trivial⟩,?_⟩;all_goals (intro D bw;intros;rename_i x2 nz pD mn nj Z r;have f:=r.1;obtain ⟨⟨co,cn,bP,cj,cA,bQ,_⟩,a⟩:=r)
  rotate_left;rotate_left;obtain rfl:=cn ‹_›;refine az (i:=0) ag a6 ?_;rotate_left
  obtain rfl:=bP ‹_›;refine bV ac o (fun j v hj=>by rw [a.cellS c1];exact aA rfl j v hj) ?_;rotate_left
  obtain rfl:=co ‹_›;rotate_left
  obtain rfl:=cj ‹_›;rw [bw] at a;refine aq a 0 rfl ac (by simpa using o) rfl (by simpa using N.one) fun Z a=>?_;rotate_left
  all_goals try exact ⟨f.set _ (by first|rfl|assumption|trivial),a⟩
  obtain ⟨rfl,rfl,rfl,rfl,rfl,_,_⟩:=f.all;have c5:D 5=true:=by assumption
  clear f;rw [c5] at a;refine bm a 0 ac rfl (by simpa using o) ?_;exact ⟨_,[rdI br sl p1],S1,rfl,a.pick [false,true],J,p1,by omega,rfl,_,_,O,q[0],rfl,G,b2,h0,Y,N,c0⟩
abbrev acf (br:Nat) (sl:Value) (p k:Nat):Value->List Item->ae->Prop:=fun v I' S'=>∃ p',p'<=p+k/\I'=[rdI br sl p']/\∃ u cs ps x,v=.tuple #[u,.agg cs.toArray]/\RdSl S' 5 (RdC S') u ps/\Light 8 200 ps/\0<ps.length/\(∀ c∈ps,cz c=true)/\RdF S' cs x/\wF x<=100000
theorem LF {p:Nat} (a5:RdSl S 1 nZ sl ys) (hp:p<=9000000):kt Qq [rdP br] [rdI br sl p] S (acf br sl p 8):=by
 intro w a;apply At.2;dsimp only[At,aR];refine aG a fG fun m w' a=>?_;have a:Inv w [br] [ay m zP6 ar,rdI br sl p] S w':=a.last 0 rfl;refine Run.callL OM OL a (KH (p:=p) a5 (by omega)) rfl fun v' I' S1 w'=>?_;rintro ⟨l,d1,rfl,u,cs,ps,t,rfl,a0,a6,h0,a7,g,M⟩ c0 a;have b1:=g;obtain ⟨kv,rfl,_⟩:=RdT.iff.1 g;have g:=b1;have a3:∀ cl∈ps,BF cl:=fun cl hc=>Fa (a7 cl hc);have d2:=a6.1;have d3:=lr M;have b2:=ie M;have b4:=MV (n:=ps.length) b2 (by omega);have b7:=I6 (r9 M);obtain ⟨o,ho⟩:=FindO.ex a3 (by omega) (n:=100) b4 (zM t) b7;have c7:=ho.w a3 (by omega) b4 (zM t) b7;obtain ⟨ua,uc,rfl,_⟩:=id a0;refine al (v:=.slice ua ps.length uc) rfl (al (v:=.agg (gn t kv)) rfl (aG a aV fun b5 w' a=>?_));refine aq (cs:=(gn t kv)) a 2 rfl ac rfl rfl (by simpa using g.one) fun w' a=>?_;have a:Inv w [br] [ay m zP6 ar,ay b5 (gn t kv) ab,rdI br sl l] S1 w':=a.last 1 rfl;obtain ⟨B5,a9⟩:∃ B:Item,B=ay b5 (gn t kv) ab:=⟨_,rfl⟩
 have e5:=congrArg some a9;have a:Inv w [br] [ay m zP6 ar,B5,rdI br sl l] S1 w':=by rw [a9];exact a
 apply av a 1 ac e5 rfl;refine Run.call0E O2 OA a (La a3 (by omega) ⟨b2,by omega⟩ (r9 M) (n:=100) (by omega) ho a0 g) fun v' I' S2 w'=>?_;rintro ⟨rfl,c6,rfl,a8,c1,c2⟩ a1 a;have Z:=c0.trans a1;refine al (v:=.agg c6.toArray) rfl (al (v:=.bool (o.elim false kG)) rfl (aG a fG fun U w' a=>?_));refine aq a 3 rfl bp (by simpa using a8) rfl (by simpa using c1) fun w' a=>?_;have a:Inv w [br] [ay m zP6 ar,B5,ay U c6.toArray ar,rdI br sl l] S2 w':=a.last 2 rfl;refine ⟨fun w'=>∃ (p2:Nat) (d6:hZ) (x:PF),p2<=l+1/\RdF S2 d6 x/\wF x<=100000/\Inv w [br] [ay m zP6 ar,B5,ay U d6.toArray ar,rdI br sl p2] S2 w',?_,?_⟩
 ·refine cq (aE (fun hb=>?_) (fun hb=>?_))
  ·have b8:=g.mono a1.1;have b9:=a5.monoU Z.1;refine ⟨fun D pj vz tU qX J=>Fx D 0 [qX=.agg (gn t kv),tU=rdP br,True,True,True]/\∃ p2,(D 2=false->p2=l)/\(D 2=true->p2=l+1)/\(D 4=true->D 3=true)/\(D 2=true->∃ i:Int,vz=ax i/\0<=i/\i<=1)/\(D 3=true->∃ i:Int,pj=.agg #[ax t.kind,ax t.n,.string t.name,kv,ax i,hV]/\0<=i/\i<=1)/\∃ j:hZ,(D 4=false->j=c6)/\(D 4=true->∃ i:Int,j=[ax t.kind,ax t.n,.string t.name,kv,ax i,hV]/\0<=i/\i<=1)/\Inv w [br] [ay m zP6 ar,B5,ay U j.toArray ar,rdI br sl p2] S2 J,⟨Fx.nil _ _,⟨l,fun _=>rfl,aU,aU,aU,aU,c6,fun _=>rfl,aU,a.draw⟩⟩,⟨?_,?_,?_,?_,?_,trivial⟩,?_⟩;all_goals (intro D bw;intros;rename_i pj vz tU qX J r;have f:=r.1;obtain ⟨⟨co,cn,bP,cj,cA,_⟩,⟨p2,V,Y,k4,f2,f3,j,z4,f4,a⟩⟩:=r)
   apply av a 1 ac e5 rfl;rotate_left;rotate_left
   obtain rfl:=cn ‹_›;have a2:=V bw;refine Run.callL (L:=[.blk m _,B5,.blk U _,rdI br sl p2]) cG cH a (dU (n:=2) (p:=p2) b9 (by omega) (by omega)) rfl fun v' I' S' J=>?_;rintro ⟨eS,rfl,i,hi,rfl⟩ _ a;rw [eS] at a;have a:Inv w [br] [ay m zP6 ar,B5,ay U j.toArray ar,rdI br sl (p2+1)] S2 J:=a;have f2:aC D 2 2=true->∃ G:Int,Value.int .i64 (i:Int)=ax G/\0<=G/\G<=1:=fun _=>⟨i,rfl,by omega,by omega⟩
   have V:aC D 2 2=false->p2+1=l:=fun h=>Bool.noConfusion h;have Y:aC D 2 2=true->p2+1=l+1:=fun _=>by rw [a2]
   obtain ⟨p2,c4⟩:∃ p3,p3=p2+1:=⟨_,rfl⟩
   rw [<- c4] at a V Y
   rotate_left;obtain rfl:=co ‹_›;have c5:=bP ‹_›;obtain ⟨i,rfl,N,O⟩:=f2 ‹D 2=true›;apply xe;have f3:aC D 3 3=true->∃ G:Int,Value.agg #[ax t.kind,ax t.n,.string t.name,kv,ax i,hV]=.agg #[ax t.kind,ax t.n,.string t.name,kv,ax G,hV]/\0<=G/\G<=1:=fun _=>⟨i,rfl,N,O⟩
   have k4:aC D 3 4=true->aC D 3 3=true:=fun _=>rfl
   rotate_left;have SV:=cj ‹_›;obtain ⟨i,rfl,N,O⟩:=f3 ‹D 3=true›;rw [z4 bw] at a;refine aq (cs:=#[ax t.kind,ax t.n,.string t.name,kv,ax i,hV]) a 2 rfl bp rfl (by simpa using a8) (MF g.one rfl) fun J a=>?_;have k4:aC D 4 4=true->aC D 4 3=true:=fun _=>‹D 3=true›;obtain ⟨j,b0⟩:∃ q:hZ,q=[ax t.kind,ax t.n,.string t.name,kv,ax i,hV]:=⟨_,rfl⟩
   have a:Inv w [br] [ay m zP6 ar,B5,ay U j.toArray ar,rdI br sl p2] S2 J:=by rw [b0];exact a
   have z4:aC D 4 4=false->j=c6:=fun h=>Bool.noConfusion h;have f4:aC D 4 4=true->∃ G:Int,j=[ax t.kind,ax t.n,.string t.name,kv,ax G,hV]/\0<=G/\G<=1:=fun _=>⟨i,b0,N,O⟩
   rotate_left
   all_goals try exact ⟨f.set _ (by first|rfl|assumption|trivial),p2,V,Y,k4,f2,f3,j,z4,f4,a⟩
   obtain ⟨rfl,rfl,c5,SV,_,_⟩:=f.all;have c8:D 2=true:=by assumption
   have c9:D 4=true:=by assumption
   clear f;obtain ⟨i,rfl,N,O⟩:=f4 c9;have a2:=Y c8;refine ⟨p2,_,.mk t i [],by omega,RdF.iff.2 ⟨kv,_,rfl,b8,⟨by simp only [PF.clause];omega,by simp only [PF.clause];omega⟩,RdSl.nil0 ..⟩,?_,a⟩;simp only [wF,wFL,cB];omega
  ·have hb:o.elim false kG=true:=by simpa using hb
   cases o with
   | none=>cases hb
   | some y=>
    have:=c7 y rfl;exact ⟨l,c6,y,by omega,c2 y rfl,by omega,a⟩
 intro _ _ _ _ _ _ w';rintro ⟨p2,d6,x,a2,hx,c3,a⟩;have a4:=hx.length;have d4:=a;refine ⟨fun D x2 oR iU J=>Fx D 0 [iU=.slice ua ps.length uc,oR=.agg d6.toArray,x2=.slice ua ps.length uc,True]/\Inv w [br] [ay m (cond (D 3) d6.toArray zP6) ar,B5,ay U d6.toArray ar,rdI br sl p2] S2 J,⟨Fx.nil _ _,a.draw⟩,⟨?_,?_,?_,?_,trivial⟩,?_⟩;all_goals (intro D bw;intros;rename_i x2 oR iU J r;have f:=r.1;obtain ⟨⟨co,cn,bP,cj,_⟩,a⟩:=r)
 ·exact ⟨f.set 0 rfl,a⟩
 ·refine av a 2 bp rfl (by simpa using a4) ?_;exact ⟨f.set 1 rfl,a⟩
 ·obtain rfl:=co ‹_›;exact ⟨f.set 2 rfl,a⟩
 ·obtain rfl:=cn ‹_›;rw [bw] at a;refine aq a 0 rfl bp (by simpa using a4) rfl (by simpa using hx.one) fun J a=>?_;exact ⟨f.set 3 trivial,a⟩
 obtain ⟨rfl,rfl,rfl,_,_⟩:=f.all;have d0:D 3=true:=by assumption
 clear f;rw [d0] at a;refine bm a 0 bp rfl (by simpa using a4) ?_;exact ⟨_,[rdI br sl p2],S2,rfl,a.pick [false,false,false,true],Z,p2,by omega,rfl,_,d6,ps,x,rfl,a0.monoC a1.1,a6,h0,a7,hx,c3⟩
end
end
end Go.Proofs.YtellfcpffcipcaaGreatDoor
