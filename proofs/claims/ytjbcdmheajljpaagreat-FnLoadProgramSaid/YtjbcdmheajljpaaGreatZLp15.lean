/- impl.ReadClause. -/
import Derived.Test.YtjbcdmheajljpaaGreatZLp14
namespace Go.Proofs.YtjbcdmheajljpaaGreat
section
open Go Go.RowKit
def kdS (w:World) (X:List Nat) (S:ag) (H:List Item) (b9:Nat) (nm:ByteArray) (kv:Value) (kcss:List (List Value)) (cs:List Value) (x y:Value) (w':World):Nat->Prop
 | 0=>Inv w X (H++[.blk b9 (.cells #[.int .i64 3,.int .i64 0,.string nm,kv] ac),aB kv ac 4 kcss]) S w'
 | 1=>∃ g,x=.slice (some ⟨g,0,none⟩) 1 1/\Inv w X (H++[.blk b9 (.cells #[.int .i64 3,.int .i64 0,.string nm,kv] ac),aB kv ac 4 kcss,.blk g (.cells cs.toArray ac)]) S w'
 | 2=>Inv w X (H++[.blk b9 (.cells #[.int .i64 3,.int .i64 0,.string nm,kv] ac),aB y ac 4 (kcss++[cs])]) S w'
 | _=>Inv w X (H++[.blk b9 (.cells #[.int .i64 3,.int .i64 0,.string nm,y] ac),aB y ac 4 (kcss++[cs])]) S w'
theorem kdS.any {w:World} {X:List Nat} {S:ag} {H:List Item} {g:Nat} {nm:ByteArray} {kv:Value} {a:List (List Value)} {cs:List Value} {x y:Value} {w':World}:∀ {n:Nat},kdS w X S H g nm kv a cs x y w' n->∃ R,Inv w X (H++R) S w'
 | 0,h=>⟨_,h⟩
 | 1,⟨_,_,h⟩=>⟨_,h⟩
 | 2,h=>⟨_,h⟩
 | _+3,h=>⟨_,h⟩
theorem kdS.kv {w:World} {X:List Nat} {S:ag} {H:List Item} {g:Nat} {nm:ByteArray} {kv:Value} {a:List (List Value)} {cs:List Value} {x y:Value} {w':World}:∀ {n:Nat},n<3->kdS w X S H g nm kv a cs x y w' n->∃ R,Inv w X (H++.blk g (.cells #[.int .i64 3,.int .i64 0,.string nm,kv] ac)::R) S w'
 | 0,_,h=>⟨_,h⟩
 | 1,_,⟨_,_,h⟩=>⟨_,h⟩
 | 2,_,h=>⟨_,h⟩
 | _+3,hn,_=>absurd hn (by omega)
theorem MR {N:Nat} {u:T} (h:ez u=true) (a:okU N u):wT u<=840:=by
 rw [ez,bJ,bE] at h;have:=Ko u a;omega
theorem D6 {N:Nat}:∀ {a:List T},a.all ez=true->cz N a->wL a<=a.length * 840
 | [],_,_=>by simp [wL]
 | u::a,h,ho=>by
  rw [LZ,bJ] at h;rw [cz] at ho;have g:=MR h.1 ho.1;have i:=D6 h.2 ho.2;rw [wL,aO,jc];omega
theorem DR {t:T} (h:cA t=true):wT t<=840:=by
 have a:=Ko t (v8 h);rw [cA,bJ,bE] at h;omega
theorem D5:∀ {ts:List T},(∀ t∈ts,cA t=true)->wL ts<=ts.length * 840
 | [],_=>by simp [wL]
 | t::ts,h=>by
  have g:=DR (h t (bL ..));have i:=D5 (ts:=ts) fun x a=>h x (bV _ a);rw [wL,aO,jc];omega
theorem MF {c:C} (h:a9 c=true):wC c<=6000:=by
 rw [a9] at h;simp only [bJ,fS,bE] at h;have i:=DR h.2.2.1;have j:=D5 (ts:=c.body) fun t a=>by
  have:=h.2.1 t a;rw [eI,bJ] at this;exact this.1
 have g:=h.1;have l:c.body.length * 840<=6 * 840:=fH _ g;unfold wC;omega
section
variable {S:ag}
attribute [local irreducible] Run CondV aC aU
set_option maxHeartbeats 4000000 in
theorem tT {code:List Ist} {nm:ByteArray} {n:Int} {v:Value} (h:RdSl S 4 (dZ S) v code) (i8:∀ y∈code,inI y.a/\y.name.size<=6) (l1:nm.size<=6) :
  Tri Tryz.prog Am [v,.string nm,.int .i64 n] [] S fun r I' S'=>I'=[]/\∃ cs,r=.tuple #[.agg cs.toArray,.bool (rdCI code nm n).isSome]/\RdC S' cs ((rdCI code nm n).getD QY):=by
 intro w p;have j8:=h.le;simp only [maxLen] at j8;refine ov.2 ?_;dsimp only[ov,fB];refine aH p dn fun b6 w' p=>?_;have p:Inv w [] [.blk b6 (.cells #[.int .i64 0,.int .i64 0,.string ⟨#[]⟩,.slice none 0 0,.slice none 0 0] ai)] S w':=p;have b3:∀ (L:List Item) (S2:ag) (w2:World),rdCI code nm n=none->Ext w.heap.size [] S S2->Inv w [] (.blk b6 (.cells #[.int .i64 0,.int .i64 0,.string ⟨#[]⟩,.slice none 0 0,.slice none 0 0] ai)::L) S2 w2->
   Run Tryz.prog (bR ai []) w2 fun t w'=>Run Tryz.prog (sOp (.store ai (.const (.pointer (some ⟨b6,0,none⟩))) (.const t)) 0) w' fun _ w'=>aU Tryz.prog ai (.pointer (some ⟨b6,0,none⟩)) w' fun r0=>∃ v I' S',Ending.returned (.tuple #[r0,.bool false])=Ending.returned v/\Inv w [] I' S' w'/\Ext w.heap.size [] S S'/\(I'=[]/\∃ cs,v=.tuple #[.agg cs.toArray,.bool (rdCI code nm n).isSome]/\RdC S' cs ((rdCI code nm n).getD QY)):=fun L S2 w2 e hE p=>by
  refine M4 ?_;refine al p 0 rfl aN rfl rfl (by simp [Value.oneCell']) fun w' p=>?_;refine bp p 0 aN rfl rfl ?_;rw [e];exact ⟨_,_,S2,rfl,p.nil,hE,rfl,[.int .i64 0,.int .i64 0,.string ⟨#[]⟩,.slice none 0 0,.slice none 0 0],rfl,RdC.zero S2⟩
 refine ⟨fun z w'=>z=.bool (decide (¬ (0<=n/\n<=4) ∨ 2000<code.length))/\Inv w [] [.blk b6 (.cells #[.int .i64 0,.int .i64 0,.string ⟨#[]⟩,.slice none 0 0,.slice none 0 0] ai)] S w',?_,?_⟩
 ·refine Run.callPure gf gr p (fL _ _ _ S) fun w' p=>?_;refine cU ?_;by_cases h4:0<=n/\n<=4
  ·rw [aP h4.1,aP h4.2];refine rpG ?_;refine aG h cX ?_;refine fC ?_;refine rpG ?_;refine ⟨?_,p⟩;simp [h4];omega
  ·rw [<- Bool.decide_and,bf h4];refine rpG ?_;exact ⟨by simp [h4],p⟩
 intro z _ _ _ _ _ _ _ w';rintro ⟨rfl,p⟩;refine aS (fun o0=>?_) (fun b2=>?_)
 ·exact b3 [] S _ (by rw [rdCI,ae (by omega)]) (Ext.refl _ _ _) p
 have h4:0<=n/\n<=4:=by omega
 obtain ⟨m,rfl⟩:∃ m:Nat,n=(m:Int):=⟨n.toNat,by omega⟩
 refine Run.call0 Do Cz p FH fun v' I' S' w'=>?_;rintro ⟨eS,G,mb,rfl,rfl⟩ _ p;rw [eS] at p;refine mu p fun U w' p=>?_;refine mu p fun V w' p=>?_;refine JT ?_;refine bH p fun rb w' p=>?_;refine wG ?_;refine aH p aM fun b9 w' p=>?_;refine al p 7 rfl ad rfl rfl (by simp [Value.oneCell']) fun w' p=>?_;have p:=p.rowNil ac 4;have p:=p.perm (M:=[_]++([_,_,_]++[_,_,_])++[_,_]) (((bK (l₁:=[_,_,_]) (l₂:=[_,_,_])).append_left [_]).append_right [_,_]);have p:=p.perm (M:=[_]++([_]++[_,_])++[_,_,_,_,_]) (((bK (l₁:=[_]) (l₂:=[_,_])).append_left [_]).append_right [_,_,_,_,_]);have p:=p.perm (M:=[_,_,_,_,_,_]++[_]++[_,_]) ((bK (l₁:=[_,_,_,_,_,_]) (l₂:=[_])).append_right [_,_]);have p:Inv w [] ([.blk rb (.cells #[.pointer (some ⟨G,0,none⟩),.map (some U),.map (some V),.int .i64 ((0:Nat):Int)] aj),.blk U (.map #[] 0),.blk V (.map #[] 0),.blk G (.cells #[.map (some mb),.slice none 0 0] aJ),.blk mb (.map #[] 0),cg (.slice none 0 0) [],.blk b6 (.cells #[.int .i64 0,.int .i64 0,.string ⟨#[]⟩,.slice none 0 0,.slice none 0 0] ai)]++[.blk b9 (.cells #[.int .i64 3,.int .i64 0,.string nm,.slice none 0 0] ac),aB (.slice none 0 0) ac 4 []]) S _:=p;refine ⟨fun i w'=>∃ (k:Nat) (C:List (List Value)) (kv:Value) (b1:Array MapEntry) (b4:Nat),k<=m/\i=.int .i64 k/\SlT S b1 (fu k)/\Rows 4 (RdT S) C ((List.range k).map fk)/\Inv w [] ([.blk rb (.cells #[.pointer (some ⟨G,0,none⟩),.map (some U),.map (some V),.int .i64 (k:Int)] aj),.blk U (.map b1 b4),.blk V (.map #[] 0),.blk G (.cells #[.map (some mb),.slice none 0 0] aJ),.blk mb (.map #[] 0),cg (.slice none 0 0) [],.blk b6 (.cells #[.int .i64 0,.int .i64 0,.string ⟨#[]⟩,.slice none 0 0,.slice none 0 0] ai)]++[.blk b9 (.cells #[.int .i64 3,.int .i64 0,.string nm,kv] ac),aB kv ac 4 C]) S w',fun i _=>m - (intOf i).toNat,
  ⟨0,[],_,#[],0,aK _,rfl,by rw [KG]; exact SlT.empty S,Rows.nil _ _,p⟩,?_⟩
 intro i _ o4 o5 o6 o7 o8 o9 p0 p1 p2 p3 p4 p5 p6 p7 p8 p9 q0 q1 _ _ _ w';rintro ⟨k,C,kv,b1,b4,q2,rfl,g7,g8,p⟩;have m7:=g8.hc;rw [ut,List.length_range] at m7;refine cu ?_;refine aS (fun h5=>?_) (fun h5=>?_)
 ·skip
  refine ⟨fun D oE oe oa pd py Aq xZ w_=>Fx D 0 [xZ=.pointer (some ⟨rb,0,none⟩),Aq=.pointer (some ⟨rb,0,none⟩),py=.pointer (some ⟨rb,1,none⟩),pd=.map (some U),oa=.int .i64 (k:Int),oe=.pointer (some ⟨rb,0,none⟩),True,True]/\∃ n_:Nat,n_<=2/\D 6=decide (1<=n_)/\D 7=decide (2<=n_)/\(nvS w [] S rb U (.pointer (some ⟨G,0,none⟩)) (.map (some V)) k b4 b1 (fu k) (k:Int) [.blk V (.map #[] 0),.blk G (.cells #[.map (some mb),.slice none 0 0] aJ),.blk mb (.map #[] 0),cg (.slice none 0 0) [],.blk b6 (.cells #[.int .i64 0,.int .i64 0,.string ⟨#[]⟩,.slice none 0 0,.slice none 0 0] ai),.blk b9 (.cells #[.int .i64 3,.int .i64 0,.string nm,kv] ac),aB kv ac 4 C] w_ n_/\(D 6=true->oE=.agg #[.int .i64 1,.int .i64 (k:Int),.string ⟨#[]⟩,.slice none 0 0])),⟨Fx.nil _ _,⟨0,aK _,rfl,rfl,⟨p.draw,aY⟩⟩⟩,⟨?_,?_,?_,?_,?_,?_,?_,?_,trivial⟩,?_⟩;all_goals (intro D bw; intros; rename_i oE oe oa pd py Aq xZ w_ a8; have B:=a8.1; obtain ⟨⟨cG,cf,cD,cF,bQ,cE,bZ,cL,_⟩,⟨n_,a1,J,O,hS⟩⟩:=a8)
  ·exact ⟨B.set 0 rfl,⟨n_,a1,J,O,hS⟩⟩
  ·obtain rfl:=cG ‹_›;refine aL ?_;exact ⟨B.set 1 rfl,⟨n_,a1,J,O,hS⟩⟩
  ·obtain rfl:=cf ‹_›;refine au dD ?_;exact ⟨B.set 2 rfl,⟨n_,a1,J,O,hS⟩⟩
  ·obtain rfl:=cD ‹_›;obtain ⟨f5,r7,r8,p⟩:=hS.1.any;refine aD p 0 cK rfl rfl ?_;exact ⟨B.set 3 rfl,⟨n_,a1,J,O,hS⟩⟩
  ·exact ⟨B.set 4 rfl,⟨n_,a1,J,O,hS⟩⟩
  ·exact ⟨B.set 5 rfl,⟨n_,a1,J,O,hS⟩⟩
  ·obtain rfl:=cE ‹_›;obtain rfl:n_=0:=iI J bw;refine zP hS.1 (by omega) fun w_ p=>?_;have i4:nvS w [] S rb U (.pointer (some ⟨G,0,none⟩)) (.map (some V)) k b4 b1 (fu k) (k:Int) [.blk V (.map #[] 0),.blk G (.cells #[.map (some mb),.slice none 0 0] aJ),.blk mb (.map #[] 0),cg (.slice none 0 0) [],.blk b6 (.cells #[.int .i64 0,.int .i64 0,.string ⟨#[]⟩,.slice none 0 0,.slice none 0 0] ai),.blk b9 (.cells #[.int .i64 3,.int .i64 0,.string nm,kv] ac),aB kv ac 4 C] w_ 1:=p;exact ⟨B.set 6 (by first|assumption|trivial),⟨1,by decide,rfl,(by first|exact O|rfl),⟨i4,fun _=>rfl⟩⟩⟩
  ·obtain rfl:=cF ‹_›;obtain rfl:=bQ ‹_›;have BB:=bZ ‹_›;obtain rfl:n_=1:=gF J ‹D 6=true› O bw;obtain rfl:=hS.2 ‹D 6=true›;have p:Inv w [] (.blk rb (.cells #[.pointer (some ⟨G,0,none⟩),.map (some U),.map (some V),.int .i64 ((k+1:Nat):Int)] aj)::.blk U (.map b1 b4)::[.blk V (.map #[] 0),.blk G (.cells #[.map (some mb),.slice none 0 0] aJ),.blk mb (.map #[] 0),cg (.slice none 0 0) [],.blk b6 (.cells #[.int .i64 0,.int .i64 0,.string ⟨#[]⟩,.slice none 0 0,.slice none 0 0] ai),.blk b9 (.cells #[.int .i64 3,.int .i64 0,.string nm,kv] ac),aB kv ac 4 C]) S w_:=hS.1;refine kY (cs:=[.int .i64 1,.int .i64 (k:Int),.string ⟨#[]⟩,.slice none 0 0]) p 1 cj c7 rfl g7 (GC S k (by omega)) fun w_ l3 l4 l5 p=>?_;have i4:nvS w [] S rb U (.pointer (some ⟨G,0,none⟩)) (.map (some V)) k b4 b1 (fu k) (k:Int) [.blk V (.map #[] 0),.blk G (.cells #[.map (some mb),.slice none 0 0] aJ),.blk mb (.map #[] 0),cg (.slice none 0 0) [],.blk b6 (.cells #[.int .i64 0,.int .i64 0,.string ⟨#[]⟩,.slice none 0 0,.slice none 0 0] ai),.blk b9 (.cells #[.int .i64 3,.int .i64 0,.string nm,kv] ac),aB kv ac 4 C] w_ 2:=⟨l3,l4,l5,p⟩
   exact ⟨B.set 7 trivial,⟨2,by decide,(by first|exact J|rfl),rfl,⟨i4,hS.2⟩⟩⟩
  obtain rfl:n_=2:=iH a1 O ‹D 7=true›;clear J O;obtain ⟨a5,a6,c5,p⟩:=hS.1;rw [Et] at c5;obtain ⟨vv,ok,h7,h8,l7,r9,h9⟩:=c5.look (k:Int);have m8:=h9 _ (show fu (k+1) (k:Int)=some (fk k) by rw [<- Et]; exact dY ..);have p:Inv w [] ([.blk rb (.cells #[.pointer (some ⟨G,0,none⟩),.map (some U),.map (some V),.int .i64 ((k+1:Nat):Int)] aj),.blk U (.map a5 a6),.blk V (.map #[] 0),.blk G (.cells #[.map (some mb),.slice none 0 0] aJ),.blk mb (.map #[] 0),cg (.slice none 0 0) [],.blk b6 (.cells #[.int .i64 0,.int .i64 0,.string ⟨#[]⟩,.slice none 0 0,.slice none 0 0] ai)]++[.blk b9 (.cells #[.int .i64 3,.int .i64 0,.string nm,kv] ac),aB kv ac 4 C]) S w_:=p;refine ⟨fun D oG oR s3 pD ot pf n6 n9 ox mG oH w_=>Fx D 0 [oH=.pointer (some ⟨b9,3,none⟩),mG=kv,ox=.pointer (some ⟨rb,0,none⟩),n9=.pointer (some ⟨rb,0,none⟩),n6=.pointer (some ⟨rb,1,none⟩),pf=.map (some U),ot=.int .i64 (k:Int),pD=.agg vv.toArray,True,True,oG=.pointer (some ⟨b9,3,none⟩),True]/\∃ n_:Nat,n_<=3/\D 8=decide (1<=n_)/\D 9=decide (2<=n_)/\D 11=decide (3<=n_)/\(D 11=true->D 1=true)/\(kdS w [] S [.blk rb (.cells #[.pointer (some ⟨G,0,none⟩),.map (some U),.map (some V),.int .i64 ((k+1:Nat):Int)] aj),.blk U (.map a5 a6),.blk V (.map #[] 0),.blk G (.cells #[.map (some mb),.slice none 0 0] aJ),.blk mb (.map #[] 0),cg (.slice none 0 0) [],.blk b6 (.cells #[.int .i64 0,.int .i64 0,.string ⟨#[]⟩,.slice none 0 0,.slice none 0 0] ai)] b9 nm kv C vv s3 oR w_ n_),⟨Fx.nil _ _,⟨0,aK _,rfl,rfl,rfl,(aY),p.draw⟩⟩,⟨?_,?_,?_,?_,?_,?_,?_,?_,?_,?_,?_,?_,trivial⟩,?_⟩;all_goals (intro D bw; intros; rename_i oG oR s3 pD ot pf n6 n9 ox mG oH w_ a8; have B:=a8.1; obtain ⟨⟨cG,cf,cD,cF,bQ,cE,bZ,cL,dw,dl,ci,c8,_⟩,⟨n_,a1,J,O,a4,b0,hS⟩⟩:=a8)
  ·refine au ay ?_;exact ⟨B.set 0 rfl,⟨n_,a1,J,O,a4,b0,hS⟩⟩
  ·obtain rfl:=cG ‹_›;have j9:=Nx a4 b0 bw;obtain ⟨R,p⟩:=hS.kv j9; refine aD p 7 ax rfl rfl ?_;exact ⟨B.set 1 (by first|assumption|trivial),⟨n_,a1,J,O,a4,(fun _=>rfl),hS⟩⟩
  ·exact ⟨B.set 2 rfl,⟨n_,a1,J,O,a4,b0,hS⟩⟩
  ·obtain rfl:=cD ‹_›;refine aL ?_;exact ⟨B.set 3 rfl,⟨n_,a1,J,O,a4,b0,hS⟩⟩
  ·obtain rfl:=cF ‹_›;refine au dD ?_;exact ⟨B.set 4 rfl,⟨n_,a1,J,O,a4,b0,hS⟩⟩
  ·obtain rfl:=bQ ‹_›;obtain ⟨R,p⟩:=hS.any; refine aD p 0 cK rfl rfl ?_;exact ⟨B.set 5 rfl,⟨n_,a1,J,O,a4,b0,hS⟩⟩
  ·exact ⟨B.set 6 rfl,⟨n_,a1,J,O,a4,b0,hS⟩⟩
  ·obtain rfl:=cE ‹_›;obtain rfl:=bZ ‹_›;obtain ⟨R,p⟩:=hS.any;refine d4 (c:=false) (ok:=ok) (v:=.agg vv.toArray) (p.its (.blk U (.map a5 a6)) (by simp)) cj c7 aM h7 ?_;exact ⟨B.set 7 rfl,⟨n_,a1,J,O,a4,b0,hS⟩⟩
  ·obtain rfl:=cL ‹_›;obtain rfl:n_=0:=iI J bw;refine eQ hS bA (by simpa [Value.cells] using h8) (by omega) (by omega) fun g w_ p=>?_;have hS:kdS w [] S [.blk rb (.cells #[.pointer (some ⟨G,0,none⟩),.map (some U),.map (some V),.int .i64 ((k+1:Nat):Int)] aj),.blk U (.map a5 a6),.blk V (.map #[] 0),.blk G (.cells #[.map (some mb),.slice none 0 0] aJ),.blk mb (.map #[] 0),cg (.slice none 0 0) [],.blk b6 (.cells #[.int .i64 0,.int .i64 0,.string ⟨#[]⟩,.slice none 0 0,.slice none 0 0] ai)] b9 nm kv C vv (.slice (some ⟨g,0,none⟩) 1 1) oR w_ 1:=⟨g,rfl,p⟩
   exact ⟨B.set 8 (by first|assumption|trivial),⟨1,by decide,rfl,(by first|exact O|rfl),(by first|exact a4|rfl),b0,hS⟩⟩
  ·have Uu:=cf ‹_›;have GD:=dw ‹_›;obtain rfl:n_=1:=gF J ‹D 8=true› O bw;obtain ⟨g,rfl,p⟩:=hS;refine eU p 8 (k:=4) (o:=0) (m:=1) (n:=C.length) (xs:=C.flatten) vv bA (by omega) (by rw [Uu]; rfl) (by rw [h8]) (fun j u hj=>by rw [p.cellL (i:=9) rfl,df]; simpa using hj) l7 (by omega) (by omega) fun v' w_ p=>?_;have e:Item.row v' ac 4 (C.length+1) (C.flatten++vv)=aB v' ac 4 (C++[vv]):=fq ..;have p:Inv w [] ([.blk rb (.cells #[.pointer (some ⟨G,0,none⟩),.map (some U),.map (some V),.int .i64 ((k+1:Nat):Int)] aj),.blk U (.map a5 a6),.blk V (.map #[] 0),.blk G (.cells #[.map (some mb),.slice none 0 0] aJ),.blk mb (.map #[] 0),cg (.slice none 0 0) [],.blk b6 (.cells #[.int .i64 0,.int .i64 0,.string ⟨#[]⟩,.slice none 0 0,.slice none 0 0] ai)]++[.blk b9 (.cells #[.int .i64 3,.int .i64 0,.string nm,kv] ac),Item.row v' ac 4 (C.length+1) (C.flatten++vv)]) S w_:=p.pick [true,true,true,true,true,true,true,true,true,false];rw [e] at p;have hS:kdS w [] S [.blk rb (.cells #[.pointer (some ⟨G,0,none⟩),.map (some U),.map (some V),.int .i64 ((k+1:Nat):Int)] aj),.blk U (.map a5 a6),.blk V (.map #[] 0),.blk G (.cells #[.map (some mb),.slice none 0 0] aJ),.blk mb (.map #[] 0),cg (.slice none 0 0) [],.blk b6 (.cells #[.int .i64 0,.int .i64 0,.string ⟨#[]⟩,.slice none 0 0,.slice none 0 0] ai)] b9 nm kv C vv (.slice (some ⟨g,0,none⟩) 1 1) v' w_ 2:=p;exact ⟨B.set 9 (by first|assumption|trivial),⟨2,by decide,(by first|exact J|rfl),rfl,(by first|exact a4|rfl),b0,hS⟩⟩
  ·refine au ay ?_;exact ⟨B.set 10 rfl,⟨n_,a1,J,O,a4,b0,hS⟩⟩
  ·obtain rfl:=ci ‹_›;have DC:=dl ‹_›;obtain rfl:n_=2:=gF O ‹D 9=true› a4 bw;have p:Inv w [] ([.blk rb (.cells #[.pointer (some ⟨G,0,none⟩),.map (some U),.map (some V),.int .i64 ((k+1:Nat):Int)] aj),.blk U (.map a5 a6),.blk V (.map #[] 0),.blk G (.cells #[.map (some mb),.slice none 0 0] aJ),.blk mb (.map #[] 0),cg (.slice none 0 0) [],.blk b6 (.cells #[.int .i64 0,.int .i64 0,.string ⟨#[]⟩,.slice none 0 0,.slice none 0 0] ai)]++[.blk b9 (.cells #[.int .i64 3,.int .i64 0,.string nm,kv] ac),aB oR ac 4 (C++[vv])]) S w_:=hS;have a7:=gc (p.its (aB oR ac 4 (C++[vv])) (by simp));refine ef p 7 (n:=1) (by rw [a7.1]; rfl) (by decide +kernel) rfl (by simp) (by rw [a7.1]; simpa using a7.2) fun w_ p=>?_;rw [a7.1] at p;have hS:kdS w [] S [.blk rb (.cells #[.pointer (some ⟨G,0,none⟩),.map (some U),.map (some V),.int .i64 ((k+1:Nat):Int)] aj),.blk U (.map a5 a6),.blk V (.map #[] 0),.blk G (.cells #[.map (some mb),.slice none 0 0] aJ),.blk mb (.map #[] 0),cg (.slice none 0 0) [],.blk b6 (.cells #[.int .i64 0,.int .i64 0,.string ⟨#[]⟩,.slice none 0 0,.slice none 0 0] ai)] b9 nm kv C vv s3 oR w_ 3:=p;exact ⟨B.set 11 trivial,⟨3,by decide,(by first|exact J|rfl),(by first|exact O|rfl),rfl,(fun _=>‹D 1=true›),hS⟩⟩
  obtain rfl:n_=3:=iH a1 a4 ‹D 11=true›;clear J O a4;have p:Inv w [] ([.blk rb (.cells #[.pointer (some ⟨G,0,none⟩),.map (some U),.map (some V),.int .i64 ((k+1:Nat):Int)] aj),.blk U (.map a5 a6),.blk V (.map #[] 0),.blk G (.cells #[.map (some mb),.slice none 0 0] aJ),.blk mb (.map #[] 0),cg (.slice none 0 0) [],.blk b6 (.cells #[.int .i64 0,.int .i64 0,.string ⟨#[]⟩,.slice none 0 0,.slice none 0 0] ai)]++[.blk b9 (.cells #[.int .i64 3,.int .i64 0,.string nm,oR] ac),aB oR ac 4 (C++[vv])]) S w_:=hS;refine bF (by omega) ?_;exact ⟨⟨k+1,_,oR,a5,a6,by omega,rfl,c5,by rw [KX]; exact g8.snoc m8 h8,p⟩,by simp [intOf]; omega⟩
 have m9:k=m:=by omega
 subst m9;have p:Inv w [] (([.blk rb (.cells #[.pointer (some ⟨G,0,none⟩),.map (some U),.map (some V),.int .i64 (k:Int)] aj),.blk U (.map b1 b4),.blk V (.map #[] 0),.blk G (.cells #[.map (some mb),.slice none 0 0] aJ),.blk mb (.map #[] 0),cg (.slice none 0 0) []]++[.blk b6 (.cells #[.int .i64 0,.int .i64 0,.string ⟨#[]⟩,.slice none 0 0,.slice none 0 0] ai),.blk b9 (.cells #[.int .i64 3,.int .i64 0,.string nm,kv] ac)])++[aB kv ac 4 C]) S _:=p;obtain ⟨S1,e4,j1,p⟩:=p.lendExt;have c6:=RowRd.rows (g8.monoR fun _ _ h=>h.mono e4.1) j1;have p:=p.perm (M:=[_,_]++[_,_,_,_,_,_]) (bK (l₁:=[_,_]) (l₂:=[_,_,_,_,_,_]));have k0:RdM S1 (su 4096 k) b1 #[] #[] []:=⟨g7.up e4.1,SlT.empty S1,KE S1 4096,by have:=Kg (List.replicate 4096 (none:Option T)); rw [List.length_replicate] at this; show 0+unb (List.replicate 4096 none)<=1000000; omega⟩
 refine Run.callE tw tQ p (JS (N:=4096) (by omega) (wx (N:=4096) (n:=k) (by omega)) (h.monoK e4.1) (by show k+code.length<=4096; omega) i8 k0) fun q I2 S2 w'=>?_;rintro hP i9 p;have a7:rdCI code nm (k:Int)=(readI code.length (su 4096 k) code []).bind fun r=>finI code nm k r.1 r.2:=by rw [rdCI,af ⟨by omega,by omega,by omega⟩,eB]
 have d9:=e4.trans i9;cases hr:readI code.length (su 4096 k) code [] with
 | none=>
  rw [hr] at hP;obtain ⟨u,rfl⟩:=hP;refine aA rfl ?_;refine aA rfl ?_;refine ⟨fun z w'=>z=.bool true/\Inv w [] ([.blk b6 (.cells #[.int .i64 0,.int .i64 0,.string ⟨#[]⟩,.slice none 0 0,.slice none 0 0] ai),.blk b9 (.cells #[.int .i64 3,.int .i64 0,.string nm,kv] ac)]++I2) S2 w',?_,?_⟩
  ·refine cU ?_;refine rpG ?_;exact ⟨rfl,p⟩
  intro z _ _ _ _ _ _ w';rintro ⟨rfl,p⟩;refine aI (fun _=>?_) (fun hb=>by cases hb);exact b3 _ S2 _ (by rw [a7,hr]; rfl) d9 p
 | some d=>
  obtain ⟨s2,us⟩:=d;rw [hr] at hP a7;have a7:rdCI code nm (k:Int)=finI code nm k s2 us:=a7;obtain ⟨u,rfl,hu,l8⟩:=hP;refine aA rfl ?_;refine aA rfl ?_;refine ⟨fun z w'=>z=.bool (decide (6<us.length))/\Inv w [] ([.blk b6 (.cells #[.int .i64 0,.int .i64 0,.string ⟨#[]⟩,.slice none 0 0,.slice none 0 0] ai),.blk b9 (.cells #[.int .i64 3,.int .i64 0,.string nm,kv] ac)]++I2) S2 w',?_,?_⟩
  ·refine cU ?_;refine rpG ?_;refine aG hu ao ?_;refine fC ?_;refine rpG ?_;exact ⟨by congr 1; exact iq.2 (by omega),p⟩
  intro z _ _ _ _ _ _ w';rintro ⟨rfl,p⟩;refine aS (fun h6=>?_) (fun h6=>?_)
  ·exact b3 _ S2 _ (by rw [a7,finI,ae (fun h=>by omega)]) d9 p
  obtain ⟨f6,f8,f9,g0,a5,a6,d6,j2,rfl,c5⟩:=l8;have p:=p.perm (M:=[_,_,_,_,_]++([_]++[_,_])) ((bK (l₁:=[_]) (l₂:=[_,_])).append_left [_,_,_,_,_]);have p:Inv w [] ([.blk b6 (.cells #[.int .i64 0,.int .i64 0,.string ⟨#[]⟩,.slice none 0 0,.slice none 0 0] ai),.blk b9 (.cells #[.int .i64 3,.int .i64 0,.string nm,kv] ac),.blk rb (.cells #[.pointer (some ⟨G,0,none⟩),.map (some U),.map (some V),.int .i64 (s2.fr:Int)] aj),.blk U (.map f6 f8),.blk V (.map f9 g0),cg d6 j2,.blk G (.cells #[.map (some mb),d6] aJ)]++[.blk mb (.map a5 a6)]) S2 _:=p;obtain ⟨S3,p,j3,l9⟩:=p.pub1;have p:Inv w [] ([.blk b6 (.cells #[.int .i64 0,.int .i64 0,.string ⟨#[]⟩,.slice none 0 0,.slice none 0 0] ai),.blk b9 (.cells #[.int .i64 3,.int .i64 0,.string nm,kv] ac),.blk rb (.cells #[.pointer (some ⟨G,0,none⟩),.map (some U),.map (some V),.int .i64 (s2.fr:Int)] aj),.blk U (.map f6 f8),.blk V (.map f9 g0),cg d6 j2]++[.blk G (.cells #[.map (some mb),d6] aJ)]) S3 _:=p;obtain ⟨S4,p,i0,m0⟩:=p.pub1;have e0:Sle S2 S4:=j3.1.trans i0.1;have k1:StS S4 S4 G s2.st:=⟨mb,d6,a5,a6,_,m0,i0.1 _ _ l9,c5.st.up e0⟩
  have p:Inv w [] [.blk b6 (.cells #[.int .i64 0,.int .i64 0,.string ⟨#[]⟩,.slice none 0 0,.slice none 0 0] ai),.blk b9 (.cells #[.int .i64 3,.int .i64 0,.string nm,kv] ac),.blk rb (.cells #[.pointer (some ⟨G,0,none⟩),.map (some U),.map (some V),.int .i64 (s2.fr:Int)] aj)] S4 _:=p.pick [true,true,true,false,false,false];have k2:RdT S4 [.int .i64 3,.int .i64 0,.string nm,kv] (lB nm k):=by
   obtain ⟨ka,kc,m1,_⟩:=id c6;have c6:=c6;rw [m1] at c6 ⊢;exact (Gd c6 (by simp only [maxLen]; omega)).mono (i9.1.trans e0)
  have n0:=hu.le;simp only [maxLen] at n0;refine aq p 1 ad rfl rfl ?_;refine eQ p bA (by simp [Value.cells]) (by omega) (by omega) fun b7 w' p=>?_;have p:=Inv.closeRow (A:=[_,_,_]) (cap:=1) (k:=4) (n:=1) p (by omega) (by simp [maxLen]) (by simp [Value.cells]);refine hK p 3 (css:=[[.int .i64 3,.int .i64 0,.string nm,kv]]) bA (by omega) rfl (hu.monoT e0) (fun _ _=>RdT.length) (fun _ _=>RdT.one) (by simp; omega) (by omega) fun tv w' o1 hR p=>?_;have hR:=(Rows.one k2 rfl).append hR;obtain ⟨S5,i1,j4,p⟩:=Inv.lendExt (A:=[_,_,_]) p;have i5:RdSl S5 4 (RdT S5) tv (lB nm k::us):=RowRd.rows (hR.monoR fun _ _ h=>h.mono i1.1) j4;have k3:=k1.up i1.1;obtain ⟨j5,i2⟩:=vL (N:=4096) code.length (wx (N:=4096) (n:=k) (by omega)) (by show k+code.length<=4096; omega) (fun y hy=>(i8 y hy).2) (fun t ht=>(by cases ht)) hr;have b2:=j5.good;obtain ⟨ts,eT⟩:∃ ts,ts=lB nm k::us:=⟨_,rfl⟩
  have g3:∀ t∈ts,okU 4096 t/\wB t:=fun t ht=>by
   rw [eT] at ht;rcases ek.1 ht with rfl|ht
   ·exact IG (by omega) l1 (by omega)
   ·exact i2 t ht
  have s1:ts.length=us.length+1:=by rw [eT]; rfl
  have k4:cz 4096 ts:=lq fun t ht=>(g3 t ht).1;have e1:=Is b2 k4;obtain ⟨rs,eR⟩:∃ rs,rs=resV s2.st ts:=⟨_,rfl⟩
  have c3:finI code nm k s2 us=if us.length<=6/\rs.all ez=true/\a9 (ofL (sN rs))=true/\dK (ofL (sN rs))=code then some (ofL (sN rs)) else none:=by rw [eR,eT]; rfl
  rw [<- eT] at i5;rw [<- eR] at e1;have n1:cz 4096 ts->cz 4096 rs/\rs.length=ts.length:=Ml b2 e1;obtain ⟨m2,s0⟩:=n1 k4;have k8:=((d9.trans j3).trans i0).trans i1;clear c6 g7 k2 k0 c5;refine aG i5 ao ?_;refine ⟨fun i a w'=>∃ (j:Nat) (css:List (List Value)) (S6:ag),j<=ts.length/\i=.int .i64 j/\Ext w.heap.size [] S S6/\Sle S5 S6/\Rows 4 (RdT S6) css (rs.take j)/\(rs.take j).all ez=true/\Inv w [] ([.blk b6 (.cells #[.int .i64 0,.int .i64 0,.string ⟨#[]⟩,.slice none 0 0,.slice none 0 0] ai),.blk b9 (.cells #[.int .i64 3,.int .i64 0,.string nm,kv] ac),.blk rb (.cells #[.pointer (some ⟨G,0,none⟩),.map (some U),.map (some V),.int .i64 (s2.fr:Int)] aj)]++[aB a ac 4 css]) S6 w',fun i _ _=>ts.length - (intOf i).toNat,⟨0,[],S5,aK _,rfl,k8,Sle.refl _,Rows.nil _ _,rfl,p.rowNil ac 4⟩,?_⟩;clear p;intro i _ lv _ _ _ _ _ _ _ _ q3 q4 q6 q7 q8 q9 r1 r2 r3 r4 r5 _ _ _ _ w';rintro ⟨j,css,S6,hj,rfl,g9,d0,hR,c2,p⟩;have n2:=hR.hc;rw [iJ] at n2;refine cu ?_;refine aS (fun h5=>?_) (fun h5=>?_)
  ·have e8:j<ts.length:=by omega
   have f0:j<rs.length:=by omega
   have n3:=N1 e1 j e8 f0;have l0:=g3 _ (cH e8);refine dy p (i5.monoT d0) ao ad e8 (fun _ _=>RdT.length) fun b8 d3=>?_;have g4:=d3.length;refine aH p aM fun c4 w' p=>?_;refine al p 4 rfl ad (by simpa using g4) rfl (by simpa using d3.one) fun w' p=>?_;have p:Inv w [] [.blk b6 (.cells #[.int .i64 0,.int .i64 0,.string ⟨#[]⟩,.slice none 0 0,.slice none 0 0] ai),.blk b9 (.cells #[.int .i64 3,.int .i64 0,.string nm,kv] ac),.blk rb (.cells #[.pointer (some ⟨G,0,none⟩),.map (some U),.map (some V),.int .i64 (s2.fr:Int)] aj),aB lv ac 4 css,.blk c4 (.cells b8.toArray ac)] S6 w':=p;refine ⟨fun D nr sY Dr CP CB Cw Ej Cr zm zH Em w_=>Fx D 0 [Em=.pointer (some ⟨rb,0,none⟩),zH=.pointer (some ⟨rb,0,none⟩),zm=.pointer (some ⟨rb,0,none⟩),Cr=.pointer (some ⟨G,0,none⟩),Ej=.agg b8.toArray,True,True,True,Dr=.bool (ez rs[j]),True,True,nr=.bool (ez rs[j])]/\∃ SN cm Z,Ext w.heap.size [] S6 SN/\(D 5=true->Cw=.tuple #[.agg cm.toArray,.bool (ez rs[j])]/\cm.length=4/\(∀ x∈cm,x.oneCell'=true)/\(ez rs[j]=true->RdT SN cm rs[j]))/\(D 6=true->D 5=true/\CB=.tuple #[.agg cm.toArray,.bool (ez rs[j])])/\(D 7=true->D 5=true/\CP=.agg cm.toArray)/\(D 9=true->sY=.pointer (some ⟨Z,0,none⟩))/\(D 10=true->D 9=true/\D 7=true)/\Inv w [] ([.blk b6 (.cells #[.int .i64 0,.int .i64 0,.string ⟨#[]⟩,.slice none 0 0,.slice none 0 0] ai),.blk b9 (.cells #[.int .i64 3,.int .i64 0,.string nm,kv] ac),.blk rb (.cells #[.pointer (some ⟨G,0,none⟩),.map (some U),.map (some V),.int .i64 (s2.fr:Int)] aj),aB lv ac 4 css,.blk c4 (.cells b8.toArray ac)]++cond (D 9) [.blk Z (.cells (cond (D 10) cm.toArray #[.int .i64 0,.int .i64 0,.string ⟨#[]⟩,.slice none 0 0]) ac)] []) SN w_,⟨Fx.nil _ _,⟨S6,[],0,Ext.refl _ _ _,aY,aY,aY,aY,aY,p.draw⟩⟩,⟨?_,?_,?_,?_,?_,?_,?_,?_,?_,?_,?_,?_,trivial⟩,?_⟩;all_goals (intro D bw; intros; rename_i nr sY Dr CP CB Cw Ej Cr zm zH Em w_ a8; have B:=a8.1; obtain ⟨⟨cG,cf,cD,cF,bQ,cE,bZ,cL,dw,dl,ci,c8,_⟩,⟨SN,cm,Z,hN,k5,k6,k7,k9,a2,p⟩⟩:=a8)
   ·exact ⟨B.set 0 rfl,⟨SN,cm,Z,hN,k5,k6,k7,k9,a2,p⟩⟩
   ·obtain rfl:=cG ‹_›;refine aL ?_;exact ⟨B.set 1 rfl,⟨SN,cm,Z,hN,k5,k6,k7,k9,a2,p⟩⟩
   ·obtain rfl:=cf ‹_›;refine au jk ?_;exact ⟨B.set 2 rfl,⟨SN,cm,Z,hN,k5,k6,k7,k9,a2,p⟩⟩
   ·obtain rfl:=cD ‹_›;refine aD p 2 hZ rfl rfl ?_;exact ⟨B.set 3 rfl,⟨SN,cm,Z,hN,k5,k6,k7,k9,a2,p⟩⟩
   ·refine aq p 4 ad rfl (by simpa using g4) ?_;exact ⟨B.set 4 rfl,⟨SN,cm,Z,hN,k5,k6,k7,k9,a2,p⟩⟩
   ·obtain rfl:=cF ‹_›;obtain rfl:=bQ ‹_›;have c9:D 10=false:=cS.2 fun h=>by rw [(k7 (a2 h).2).1] at bw; cases bw
    refine Run.call0E sw sQ p (CZ b2 n3 l0 (d3.mono hN.1) (k3.up (d0.trans hN.1))) fun v' I' SM w_=>?_;rintro ⟨rfl,cn,b5,d1,rfl,h3⟩ hM p;have hN:=hN.trans hM;have k5:=fun (_:aE D 5 5=true)=>(⟨rfl,b5,d1,h3⟩:Value.tuple #[.agg cn.toArray,.bool (ez rs[j])]=.tuple #[.agg cn.toArray,.bool (ez rs[j])]/\cn.length=4/\(∀ x∈cn,x.oneCell'=true)/\(ez rs[j]=true->RdT SM cn rs[j]))
    have k6:aE D 5 6=true->aE D 5 5=true/\CB=.tuple #[.agg cn.toArray,.bool (ez rs[j])]:=fun h=>by rw [(k6 h).1] at bw; cases bw
    have k7:aE D 5 7=true->aE D 5 5=true/\CP=.agg cn.toArray:=fun h=>by rw [(k7 h).1] at bw; cases bw
    rw [c9,dc] at p;have p:Inv w [] ([.blk b6 (.cells #[.int .i64 0,.int .i64 0,.string ⟨#[]⟩,.slice none 0 0,.slice none 0 0] ai),.blk b9 (.cells #[.int .i64 3,.int .i64 0,.string nm,kv] ac),.blk rb (.cells #[.pointer (some ⟨G,0,none⟩),.map (some U),.map (some V),.int .i64 (s2.fr:Int)] aj),aB lv ac 4 css,.blk c4 (.cells b8.toArray ac)]++cond (D 9) [.blk Z (.cells (cond (D 10) cn.toArray #[.int .i64 0,.int .i64 0,.string ⟨#[]⟩,.slice none 0 0]) ac)] []) SM w_:=by rw [c9]; exact p
    obtain ⟨SN,m3⟩:∃ SN,SN=SM:=⟨_,rfl⟩
    subst m3;obtain ⟨cm,m4⟩:∃ cm,cm=cn:=⟨_,rfl⟩
    subst m4;exact ⟨B.set 5 (by first|assumption|trivial),⟨SN,cm,Z,hN,k5,k6,k7,k9,a2,p⟩⟩
   ·have Gv:=cE ‹_›;have k6:=fun (_:aE D 6 6=true)=>(⟨‹D 5=true›,(k5 ‹D 5=true›).1⟩:D 5=true/\Cw=.tuple #[.agg cm.toArray,.bool (ez rs[j])])
    exact ⟨B.set 6 (by first|assumption|trivial),⟨SN,cm,Z,hN,k5,k6,k7,k9,a2,p⟩⟩
   ·have BB:=bZ ‹_›;have e6:=(k6 ‹D 6=true›).2;have q5:=(k6 ‹D 6=true›).1;rw [e6];refine aA (v:=.agg cm.toArray) rfl ?_;rw [<- e6];have k7:=fun (_:aE D 7 7=true)=>(⟨q5,rfl⟩:D 5=true/\Value.agg cm.toArray=.agg cm.toArray)
    have a2:aE D 7 10=true->aE D 7 9=true/\aE D 7 7=true:=fun h=>⟨(a2 h).1,rfl⟩
    exact ⟨B.set 7 (by first|assumption|trivial),⟨SN,cm,Z,hN,k5,k6,k7,k9,a2,p⟩⟩
   ·have BB:=bZ ‹_›;have e6:=(k6 ‹D 6=true›).2;rw [e6];refine aA (v:=.bool (ez rs[j])) rfl ?_;rw [<- e6];exact ⟨B.set 8 rfl,⟨SN,cm,Z,hN,k5,k6,k7,k9,a2,p⟩⟩
   ·have c9:D 10=false:=cS.2 fun h=>by rw [(a2 h).1] at bw; cases bw
    rw [bw] at p;refine aH p aM fun Z w_ p=>?_;have k9:=fun (_:aE D 9 9=true)=>(rfl:Value.pointer (some ⟨Z,0,none⟩)=_)
    have a2:aE D 9 10=true->aE D 9 9=true/\aE D 9 7=true:=fun h=>by rw [show D 10=true from h] at c9; cases c9
    have p:Inv w [] ([.blk b6 (.cells #[.int .i64 0,.int .i64 0,.string ⟨#[]⟩,.slice none 0 0,.slice none 0 0] ai),.blk b9 (.cells #[.int .i64 3,.int .i64 0,.string nm,kv] ac),.blk rb (.cells #[.pointer (some ⟨G,0,none⟩),.map (some U),.map (some V),.int .i64 (s2.fr:Int)] aj),aB lv ac 4 css,.blk c4 (.cells b8.toArray ac)]++[.blk Z (.cells (cond (D 10) cm.toArray #[.int .i64 0,.int .i64 0,.string ⟨#[]⟩,.slice none 0 0]) ac)]) SN w_:=by rw [c9]; exact p
    exact ⟨B.set 9 (by first|assumption|trivial),⟨SN,cm,Z,hN,k5,k6,k7,k9,a2,p⟩⟩
   ·have DC:=dl ‹_›;have Cs:=cL ‹_›;have e9:=k9 ‹D 9=true›;have e7:=(k7 ‹D 7=true›).2;obtain ⟨_,b5,d1,_⟩:=k5 (k7 ‹D 7=true›).1;rw [e9,e7];rw [‹D 9=true›,bw] at p;refine al p 5 rfl ad (by simpa using b5) rfl (by simpa using d1) fun w_ p=>?_;rw [<- e9,<- e7];have a2:=fun (_:aE D 10 10=true)=>(⟨‹D 9=true›,‹D 7=true›⟩:D 9=true/\D 7=true)
    have p:Inv w [] ([.blk b6 (.cells #[.int .i64 0,.int .i64 0,.string ⟨#[]⟩,.slice none 0 0,.slice none 0 0] ai),.blk b9 (.cells #[.int .i64 3,.int .i64 0,.string nm,kv] ac),.blk rb (.cells #[.pointer (some ⟨G,0,none⟩),.map (some U),.map (some V),.int .i64 (s2.fr:Int)] aj),aB lv ac 4 css,.blk c4 (.cells b8.toArray ac)]++cond (D 9) [.blk Z (.cells cm.toArray ac)] []) SN w_:=by rw [‹D 9=true›]; exact p
    exact ⟨B.set 10 trivial,⟨SN,cm,Z,hN,k5,k6,k7,k9,a2,p⟩⟩
   ·obtain rfl:=dw ‹_›;exact ⟨B.set 11 rfl,⟨SN,cm,Z,hN,k5,k6,k7,k9,a2,p⟩⟩
   obtain ⟨rfl,rfl,rfl,rfl,rfl,Gv,BB,Cs,rfl,DC,_,rfl,_⟩:=B.all;have Q7:D 5=true:=by assumption
   have NF:D 9=true:=by assumption
   have CK:D 10=true:=by assumption
   clear B cG cf cD cF bQ cE bZ cL dw dl ci c8;obtain ⟨_,b5,d1,h3⟩:=k5 Q7;have e9:=k9 NF;subst e9;rw [NF,CK] at p;have p:Inv w [] ([.blk b6 (.cells #[.int .i64 0,.int .i64 0,.string ⟨#[]⟩,.slice none 0 0,.slice none 0 0] ai),.blk b9 (.cells #[.int .i64 3,.int .i64 0,.string nm,kv] ac),.blk rb (.cells #[.pointer (some ⟨G,0,none⟩),.map (some U),.map (some V),.int .i64 (s2.fr:Int)] aj),aB lv ac 4 css,.blk c4 (.cells b8.toArray ac)]++[.blk Z (.cells cm.toArray ac)]) SN w_:=p;refine cU ?_;cases i7:ez rs[j] with
   | false=>
    refine aI (fun _=>?_) (fun h=>by cases h);refine b3 _ SN _ ?_ (g9.trans hN) p;rw [a7,c3,ae];rintro ⟨_,h,_⟩;have:=fS.1 h _ (cH f0);rw [i7] at this;cases this
   | true=>
    refine aI (fun h=>by cases h) (fun _=>?_);refine aq p 5 ad rfl (by simpa using b5) ?_;refine dC p 3 cm bA (by omega) (by omega) rfl b5 d1 (by omega) (by omega) fun v' w' p=>?_;refine bF (by omega) ?_;have p:Inv w [] ([.blk b6 (.cells #[.int .i64 0,.int .i64 0,.string ⟨#[]⟩,.slice none 0 0,.slice none 0 0] ai),.blk b9 (.cells #[.int .i64 3,.int .i64 0,.string nm,kv] ac),.blk rb (.cells #[.pointer (some ⟨G,0,none⟩),.map (some U),.map (some V),.int .i64 (s2.fr:Int)] aj)]++[aB v' ac 4 (css++[cm])]) SN w':=p.pick [true,true,true,true,false,false];refine ⟨⟨j+1,css++[cm],SN,e8,rfl,g9.trans hN,d0.trans hN.1,?_,?_,p⟩,by simp only [intOf,eB]; omega⟩
    ·rw [ia f0];exact (hR.monoR fun _ _=>RdT.mono hN.1).snoc (h3 i7) b5
    ·rw [ia f0,List.all_append,c2];simp [i7]
  have n4:j=rs.length:=by omega
  rw [n4,iz] at hR c2;have s4:=D6 c2 m2;have s5:rs.length * 840<=7 * 840:=fH _ (by omega);obtain ⟨S7,j6,g1,p⟩:=Inv.lendExt (A:=[_,_,_]) p;have g5:RdSl S7 4 (RdT S7) lv rs:=RowRd.rows (hR.monoR fun _ _ h=>h.mono j6.1) g1;refine Run.call0 om n8 p (mN g5 (by omega)) fun l6 I' S' w'=>?_;rintro ⟨rfl,M,rfl,hT⟩ _ p;obtain ⟨S8,p,m5,d7⟩:=p.pubExt;have g6:=(g9.trans j6).trans m5;have hq:RdSl S8 4 (RdT S8) l6 (sN rs):=hT.rd d7 fun _ _ _ hi h=>h.rd hi;obtain ⟨Y,tl,i3⟩:∃ Y tl,sN rs=Y::tl:=by
   have hl:(sN rs).length=rs.length:=qA _ rs;cases h:sN rs with
   | nil=>rw [h] at hl; simp at hl; omega
   | cons a b=>exact ⟨a,b,rfl⟩
  rw [i3] at hq;obtain ⟨c,eC⟩:∃ c,c=ofL (sN rs):=⟨_,rfl⟩
  have n7:c=⟨Y,tl⟩:=by rw [eC,i3]; rfl
  rw [<- eC] at c3;clear eC i3 hT hR g1 g5;obtain ⟨b,o,cap,cc,E,fz,rfl,hS,e5⟩:=hq.at_ (i:=0) (by simp);rw [oC] at e5;obtain ⟨a3,ec,f1,f2,f3,f4⟩:=RdT.iff.1 e5;rw [ec] at e5;obtain ⟨ka,kn,kc,m6⟩:∃ a n m,a3=.slice a n m:=by
   obtain ⟨a,m,e,_⟩:=f4;exact ⟨_,_,_,e⟩
  refine ⟨fun D xy PE Nj Oa O2 NN GU w_=>Fx D 0 [GU=.slice (some ⟨b,o,none⟩) (tl.length+1) cap,NN=.pointer (some ⟨b,o+0 * 4,none⟩),O2=.agg #[.int .i64 Y.kind,.int .i64 Y.n,.string Y.name,a3],Oa=.slice (some ⟨b,o,none⟩) (tl.length+1) cap,RdSl S8 4 (RdT S8) Nj tl,∃ kb,PE=.agg #[.int .i64 Y.kind,.int .i64 Y.n,.string Y.name,a3,kb]/\RdSl S8 4 (RdT S8) kb tl,True,True]/\∃ a0 kb,(D 6=true->xy=.pointer (some ⟨a0,0,none⟩))/\(D 7=true->D 6=true/\RdSl S8 4 (RdT S8) kb tl)/\Inv w [] ([.blk b6 (.cells #[.int .i64 0,.int .i64 0,.string ⟨#[]⟩,.slice none 0 0,.slice none 0 0] ai),.blk b9 (.cells #[.int .i64 3,.int .i64 0,.string nm,kv] ac),.blk rb (.cells #[.pointer (some ⟨G,0,none⟩),.map (some U),.map (some V),.int .i64 (s2.fr:Int)] aj)]++cond (D 6) [.blk a0 (.cells (cond (D 7) #[.int .i64 Y.kind,.int .i64 Y.n,.string Y.name,a3,kb] #[.int .i64 0,.int .i64 0,.string ⟨#[]⟩,.slice none 0 0,.slice none 0 0]) ai)] []) S8 w_,⟨Fx.nil _ _,⟨0,.slice none 0 0,aY,aY,p.draw⟩⟩,⟨?_,?_,?_,?_,?_,?_,?_,?_,trivial⟩,?_⟩;all_goals (intro D bw; intros; rename_i xy PE Nj Oa O2 NN GU w_ a8; have B:=a8.1; obtain ⟨⟨cG,cf,cD,cF,bQ,cE,bZ,cL,_⟩,⟨a0,kb,k6,k7,p⟩⟩:=a8)
  ·exact ⟨B.set 0 rfl,⟨a0,kb,k6,k7,p⟩⟩
  ·obtain rfl:=cG ‹_›;refine aT (i:=0) ao (by simp) ?_;exact ⟨B.set 1 rfl,⟨a0,kb,k6,k7,p⟩⟩
  ·obtain rfl:=cf ‹_›;refine dX (cs:=[.int .i64 Y.kind,.int .i64 Y.n,.string Y.name,a3]) ad rfl (fun j v hj=>by rw [p.cellS hS]; exact bd ec j v hj) ?_;exact ⟨B.set 2 rfl,⟨a0,kb,k6,k7,p⟩⟩
  ·exact ⟨B.set 3 rfl,⟨a0,kb,k6,k7,p⟩⟩
  ·obtain rfl:=cF ‹_›;refine ql (l:=1) ao hq (by simp) fun r6 c1=>?_;rw [List.drop_succ_cons,dT] at c1;exact ⟨B.set 4 (by first|assumption|trivial),⟨a0,kb,k6,k7,p⟩⟩
  ·obtain rfl:=cD ‹_›;have GE:=bQ ‹_›;refine md ?_ ?_
   ·obtain ⟨a,m,e,_⟩:=GE;exact ⟨_,_,_,e⟩
   have o3:∃ kb,Value.agg #[.int .i64 Y.kind,.int .i64 Y.n,.string Y.name,a3,Nj]=.agg #[.int .i64 Y.kind,.int .i64 Y.n,.string Y.name,a3,kb]/\RdSl S8 4 (RdT S8) kb tl:=⟨_,rfl,GE⟩
   exact ⟨B.set 5 (by first|assumption|trivial),⟨a0,kb,k6,k7,p⟩⟩
  ·have f7:D 7=false:=cS.2 fun h=>by rw [(k7 h).1] at bw; cases bw
   rw [bw] at p;refine aH p dn fun a0 w_ p=>?_;have k6:=fun (_:aE D 6 6=true)=>(rfl:Value.pointer (some ⟨a0,0,none⟩)=_)
   have k7:aE D 6 7=true->aE D 6 6=true/\RdSl S8 4 (RdT S8) kb tl:=fun h=>by rw [show D 7=true from h] at f7; cases f7
   have p:Inv w [] ([.blk b6 (.cells #[.int .i64 0,.int .i64 0,.string ⟨#[]⟩,.slice none 0 0,.slice none 0 0] ai),.blk b9 (.cells #[.int .i64 3,.int .i64 0,.string nm,kv] ac),.blk rb (.cells #[.pointer (some ⟨G,0,none⟩),.map (some U),.map (some V),.int .i64 (s2.fr:Int)] aj)]++[.blk a0 (.cells (cond (D 7) #[.int .i64 Y.kind,.int .i64 Y.n,.string Y.name,a3,kb] #[.int .i64 0,.int .i64 0,.string ⟨#[]⟩,.slice none 0 0,.slice none 0 0]) ai)]) S8 w_:=by rw [f7]; exact p
   exact ⟨B.set 6 (by first|assumption|trivial),⟨a0,kb,k6,k7,p⟩⟩
  ·have BB:=bZ ‹_›;have Gv:=cE ‹_›;obtain ⟨kb,rfl,c1⟩:=Gv;obtain ⟨a,m,e,_⟩:=id c1;subst e;have e6:=k6 ‹D 6=true›;rw [e6];rw [‹D 6=true›,bw] at p;refine al p 3 rfl aN rfl rfl (by simp [Value.oneCell',m6]) fun w_ p=>?_;rw [<- e6];obtain ⟨kb,g2⟩:∃ kb,kb=Value.slice a tl.length m:=⟨_,rfl⟩
   rw [<- g2] at c1;have k7:=fun (_:aE D 7 7=true)=>(⟨‹D 6=true›,c1⟩:D 6=true/\RdSl S8 4 (RdT S8) kb tl)
   have p:Inv w [] ([.blk b6 (.cells #[.int .i64 0,.int .i64 0,.string ⟨#[]⟩,.slice none 0 0,.slice none 0 0] ai),.blk b9 (.cells #[.int .i64 3,.int .i64 0,.string nm,kv] ac),.blk rb (.cells #[.pointer (some ⟨G,0,none⟩),.map (some U),.map (some V),.int .i64 (s2.fr:Int)] aj)]++cond (D 6) [.blk a0 (.cells #[.int .i64 Y.kind,.int .i64 Y.n,.string Y.name,a3,kb] ai)] []) S8 w_:=by rw [‹D 6=true›,g2]; exact p
   exact ⟨B.set 7 trivial,⟨a0,kb,k6,k7,p⟩⟩
  obtain ⟨rfl,rfl,rfl,rfl,GE,Gv,BB,_,_⟩:=B.all;have NE:D 6=true:=by assumption
  have sZ:D 7=true:=by assumption
  clear B cG cf cD cF bQ cE bZ cL;obtain ⟨_,c1⟩:=k7 sZ;have e6:=k6 NE;subst e6;rw [NE,sZ] at p;have p:Inv w [] ([.blk b6 (.cells #[.int .i64 0,.int .i64 0,.string ⟨#[]⟩,.slice none 0 0,.slice none 0 0] ai),.blk b9 (.cells #[.int .i64 3,.int .i64 0,.string nm,kv] ac),.blk rb (.cells #[.pointer (some ⟨G,0,none⟩),.map (some U),.map (some V),.int .i64 (s2.fr:Int)] aj)]++[.blk a0 (.cells #[.int .i64 Y.kind,.int .i64 Y.n,.string Y.name,a3,kb] ai)]) S8 w_:=p;have i6:RdC S8 [.int .i64 Y.kind,.int .i64 Y.n,.string Y.name,a3,kb] c:=by rw [n7]; exact ⟨_,_,rfl,e5,c1⟩
  refine ⟨fun z w'=>z=.bool (!(a9 c && decide (dK c=code)))/\∃ S9,Ext w.heap.size [] S8 S9/\Inv w [] ([.blk b6 (.cells #[.int .i64 0,.int .i64 0,.string ⟨#[]⟩,.slice none 0 0,.slice none 0 0] ai),.blk b9 (.cells #[.int .i64 3,.int .i64 0,.string nm,kv] ac),.blk rb (.cells #[.pointer (some ⟨G,0,none⟩),.map (some U),.map (some V),.int .i64 (s2.fr:Int)] aj)]++[.blk a0 (.cells #[.int .i64 Y.kind,.int .i64 Y.n,.string Y.name,a3,kb] ai)]) S9 w',?_,?_⟩
  ·refine aq (c:=[.int .i64 Y.kind,.int .i64 Y.n,.string Y.name,a3,kb].toArray) p 3 aN rfl rfl ?_;refine Run.callPure gE gx p (fO i6) fun w' p=>?_;refine cU ?_;cases hv:a9 c
   ·refine rpG ?_;exact ⟨rfl,S8,Ext.refl _ _ _,p⟩
   ·refine rpG ?_;refine aq (c:=[.int .i64 Y.kind,.int .i64 Y.n,.string Y.name,a3,kb].toArray) p 3 aN rfl rfl ?_;refine Run.call0E hG hO p (gP i6 hv) fun o2 I' S9 w'=>?_;rintro ⟨rfl,l2⟩ d2 p;refine Run.callPure wQ wM p (FU l2 (h.monoK (g6.trans d2).1)) fun w' p=>?_;refine cU ?_;refine rpG ?_;exact ⟨rfl,S9,d2,p⟩
  clear p;intro z _ _ _ _ _ _ _ _ _ w';rintro ⟨rfl,S9,d2,p⟩;have hE:=g6.trans d2;by_cases hg:a9 c=true/\dK c=code
  ·have e2:rdCI code nm k=some c:=by rw [a7,c3,af ⟨by omega,c2,hg.1,hg.2⟩]
   have e:(!(a9 c && decide (dK c=code)))=false:=by rw [hg.1,aP hg.2]; rfl
   rw [e,e2];refine aI (fun h=>by cases h) fun _=>?_;refine aq (c:=[.int .i64 Y.kind,.int .i64 Y.n,.string Y.name,a3,kb].toArray) p 3 aN rfl rfl ?_;refine Run.call0 pq oW p (n5 (i6.mono d2.1) (by have:=MF hg.1; omega)) fun v I' S10 w'=>?_;rintro ⟨rfl,j0,L,rfl,rfl,e3⟩ _ p;refine al p 0 rfl aN (by simpa using e3.length) rfl (by simpa using e3.one) fun w' p=>?_;refine bp p 0 aN rfl (by simpa using e3.length) ?_;have p:Inv w [] ([.blk b6 (.cells j0.toArray ai),.blk b9 (.cells #[.int .i64 3,.int .i64 0,.string nm,kv] ac),.blk rb (.cells #[.pointer (some ⟨G,0,none⟩),.map (some U),.map (some V),.int .i64 (s2.fr:Int)] aj),.blk a0 (.cells #[.int .i64 Y.kind,.int .i64 Y.n,.string Y.name,a3,kb] ai)]++bG L) _ w':=p;obtain ⟨S11,p,j7,d7⟩:=p.pubExt;exact ⟨_,_,S11,rfl,p.nil,hE.trans j7,rfl,j0,rfl,e3.rd d7⟩
  ·have e2:rdCI code nm k=none:=by rw [a7,c3,ae fun h=>hg ⟨h.2.2.1,h.2.2.2⟩]
   have e:(!(a9 c && decide (dK c=code)))=true:=by
    rw [rn,RW,ml];by_cases h1:a9 c=true
    ·exact .inr fun h2=>hg ⟨h1,h2⟩
    ·exact .inl (by simpa using h1)
   rw [e];refine aI (fun _=>?_) fun h=>by cases h
   exact b3 _ S9 _ e2 hE p
end
end
section
open Go Go.RowKit
section
variable {ys:List Nat}
attribute [local irreducible] Run CondV aC aU
theorem nz {S:ag} {v:Value} (h:RdSl S 1 mc v ys):Tri Tryz.prog pW [v] [] S fun v' I' S'=>I'=[]/\∃ q,RdSl S' 5 (RdC S') v' q/\Light 30 900 q:=by
 intro w a;refine iR.2 ?_;dsimp only[iR,aQ];refine Run.call0E EU ET a (Kn h) fun v1 I' S1 w'=>?_;rintro ⟨rfl,br,sl,u,rfl,rfl,g⟩ _ a;have a:Inv w [] [rdI br sl 0] S1 w':=a;refine Run.callL Ar A4 a (zp (p:=0) g (by omega)) rfl fun v2 I' S2 w'=>?_;rintro ⟨B,css,q,C,rfl,hR,t,D,_⟩ i a;obtain ⟨S3,j,a,M⟩:=uj (A:=[rdI br sl B]) a hR;refine Run.callL xd xh a (tL (m:=200) (g.monoU (i.trans j).1) M ⟨by have:=t.1; omega,t.2⟩ D (by omega) (by omega)) rfl fun O I' S4 w'=>?_;rintro ⟨N,G,rfl,J,l,o⟩ r a;exact ⟨_,[],S4,rfl,a.nil,(i.trans j).trans r,rfl,J,l,o⟩
theorem oN {S:ag} {v:Value} (h:RdSl S 1 mc v ys):Tri Tryz.prog qT [v] [] S fun v' I' S'=>I'=[]/\∃ q,RdSl S' 5 (RdC S') v' q/\Light 30 900 q:=by
 intro w a;refine ju.2 ?_;dsimp only[ju,aQ];refine Run.call0E oK oI a (nz h) fun v1 I' S1 w'=>?_;rintro ⟨rfl,q,g,i⟩ j a;exact ⟨_,[],S1,rfl,a.nil,j,rfl,q,g,i⟩
end
end
section
open Go Go.RowKit
theorem MY {c:C} (h:a9 c=true):∀ y∈dK c,inI y.a/\y.name.size<=6:=fun y i=>by
 have g:=(Mq h).1 y i;refine ⟨?_,(O4 g).1⟩;have:=g.1;unfold inI;omega
theorem Ny {N:Nat}:∀ {t:T},okU N t->t.name.size<=6
 | .mk ..,h=>by
  rw [okU] at h;exact h.2.2.2
section
variable {S:ag} {ys:List Nat} {v:Value}
attribute [local irreducible] Run CondV aC aU
set_option maxHeartbeats 4000000 in
theorem Fi (h:RdSl S 1 mc v ys):Pure Tryz.prog dg [v] S (.bool true):=by
 intro w a;refine kW.2 ?_;dsimp only[kW,aQ];refine aG h eM ?_;refine fC ?_;refine aS (fun _=>done a rfl) (fun _=>?_);refine Run.call0E pN pl a (oN h) fun pv I' S1 w'=>?_;rintro ⟨rfl,p,Z,hq⟩ b9 a;have a:Inv w [] [] S1 w':=a;have i6:=hq.le;refine Run.call0E wa xe a (sd Z) fun v2 I' S2 w'=>?_;rintro ⟨rfl,u1,rfl,U⟩ b0 a;have a:Inv w [] [] S2 w':=a;have Z:=Z.monoC b0.1;refine aA (v:=u1) rfl ?_;refine aA (v:=.bool (gK p)) rfl ?_;refine Run.call0E xl xo a (sS Z (by omega)) fun v3 I' S3 w'=>?_;rintro ⟨rfl,u2,rfl,a4⟩ a5 a;have a:Inv w [] [] S3 w':=a;have Z:=Z.monoC a5.1;have U:=U.mono a5.1 fun _ _=>RdCode.mono a5.1;have a6:Sle S S3:=b9.1.trans (b0.1.trans a5.1);refine aA (v:=u2) rfl ?_;refine aA (v:=.bool (gK p)) rfl ?_;obtain ⟨len,a1⟩:∃ len,len=(if gK p=true then p.map dK else []).length:=⟨_,rfl⟩
 refine ⟨fun t w'=>t=.bool (!gK p)/\Inv w [] [] S3 w',?_,?_⟩
 ·refine KI qE ?_;rw [Gp];refine rpG ?_;refine aG U fD ?_;refine aG a4 fD ?_;refine pu ?_;rw [<- a1];rw [aP (rfl:((len:Nat):Int)=((len:Nat):Int))];refine rpG ?_;refine Run.callPure iw iG a (gN Z) fun w' a=>?_;refine KI qE ?_;rw [Gp];refine rpG ?_;refine cU ?_;refine rpG ?_;exact ⟨rfl,a⟩
 intro z _ _ _ _ _ _ _ _ _ _ _ _ _ _ _ _ _ _ _ w';rintro ⟨rfl,a⟩;refine aI (fun _=>?_) (fun hb=>?_)
 ·refine OI qE ?_;rw [Gp];refine rpG ?_;refine aG U fD ?_;refine aG a4 fD ?_;refine bn ?_;rw [<- a1];rw [aP (rfl:((len:Nat):Int)=((len:Nat):Int))];refine rpG ?_;refine Run.callPure iw iG a (gN Z) fun w' a=>?_;refine OI qE ?_;rw [Gp];refine rpG ?_;exact yp a a6 rfl
 rw [Po] at hb;clear a1 len;rw [af hb] at U a4;have i7:=AO hb;refine ⟨fun i w'=>∃ (j:Nat) (S4:ag),j<=p.length/\i=.int .i64 j/\Sle S3 S4/\Inv w [] [] S4 w',fun i _=>p.length - (intOf i).toNat,⟨0,S3,aK _,rfl,Sle.refl _,a⟩,?_⟩;clear a;intro i _ _ _ _ _ _ _ _ _ _ _ _ _ _ _ _ _ _ _ _ _ _ _ _ _ _ _ _ _ _ _ _ _ _ _ _ _ _ _ _ _ _ _ _ _ _ _ f6 f7 e8 f8 f9 g0 g3 g4 g5 g6 g7 g9 h0 h1 h2 h3 h4 h5 h7 h8 h9 i0 i1 _ _ _ _ _ _ _ _ _ _ _ _ _ _ w';rintro ⟨j,S4,hj,rfl,J,a⟩;refine aG (Z.monoC J) ct ?_;refine cu ?_;refine aS (fun c4=>?_) (fun c4=>?_)
 ·have M:j<p.length:=by omega
  have a2:j<(p.map dK).length:=by simpa using M
  have hv:=Ae hb (cH M);have hw:=hq.2 _ (cH M);have a9:(p.map dK)[j]=dK p[j]:=Bq ..;obtain ⟨b,o,cap,cc,E,fz,c6,hS,hR⟩:=Z.at_ M;obtain ⟨b1,o1,b4,c1,E1,i2,c7,b5,c9⟩:=U.at_ a2;obtain ⟨b2,o2,f0,c2,E2,i3,d0,d1,d2⟩:=a4.at_ a2;obtain ⟨d3,e1,a8⟩:=c9;obtain ⟨i4,e2,b6⟩:=d2;rw [a9] at a8 b6;obtain ⟨hd,ks,ec,g1,g2⟩:=hR;obtain ⟨kv,rfl,f1,f2,f3,f4⟩:=RdT.iff.1 g1;have ec:bB cc (o+j * 5) 5=[.int .i64 p[j].head.kind,.int .i64 p[j].head.n,.string p[j].head.name,kv,ks]:=ec;have b7:RdC S3 [.int .i64 p[j].head.kind,.int .i64 p[j].head.n,.string p[j].head.name,kv,ks] p[j]:=⟨_,_,rfl,g1,g2⟩
  rw [c6,c7,d0];refine aT ct M ?_;refine dX aN rfl (fun i v hi=>by rw [a.cellS (J _ _ hS)]; exact bd ec i v hi) ?_;refine Run.call0E sK sT a (pp (b7.mono J)) fun v3 I' S5 w'=>?_;rintro ⟨rfl,ux,rfl,a0⟩ c3 a;have a:Inv w [] [] S5 w':=a;rw [af hv] at a0;rw [hv];have N:=J.trans c3.1;refine aA (v:=ux) rfl ?_;refine aA (v:=.bool true) rfl ?_;have e3:=MU hv;have h6:=Ny (kX hv).1;refine ⟨fun D Cq np GU Ua GF Ud Up T9 SF TU TH SB H1 Ht Dr CP Cw Ej Cr zm zH Em CB w_=>Fx D 0 [CB=.slice (some ⟨b1,o1,none⟩) (p.map dK).length b4,Em=.int .i64 (j:Int),zH=.pointer (some ⟨b1,o1+j * 1,none⟩),zm=d3,Cr=.slice (some ⟨b,o,none⟩) p.length cap,Ej=.int .i64 (j:Int),Cw=.pointer (some ⟨b,o+j * 5,none⟩),CP=.pointer (some ⟨b,o+j * 5+0,none⟩),Dr=.pointer (some ⟨b,o+j * 5+0+2,none⟩),Ht=.string p[j].head.name,H1=.slice (some ⟨b,o,none⟩) p.length cap,SB=.int .i64 (j:Int),TH=.pointer (some ⟨b,o+j * 5,none⟩),TU=.pointer (some ⟨b,o+j * 5+0,none⟩),SF=.pointer (some ⟨b,o+j * 5+0+3,none⟩),T9=kv,Up=.int .i64 (p[j].head.kids.length:Int),True,True,True,GU=.bool true,True,True,Cq=.bool true]/\∃ S6 g l,Ext w.heap.size [] S5 S6/\(D 17=true->Ud=.tuple #[.agg g.toArray,.bool true]/\g.length=5/\(∀ x∈g,x.oneCell'=true)/\RdC S6 g (sr (bP p[j]) p[j]))/\(D 18=true->D 17=true/\GF=.tuple #[.agg g.toArray,.bool true])/\(D 19=true->D 17=true/\Ua=.agg g.toArray)/\(D 21=true->np=.pointer (some ⟨l,0,none⟩))/\(D 22=true->D 21=true/\D 19=true)/\Inv w [] (cond (D 21) [.blk l (.cells (cond (D 22) g.toArray #[.int .i64 0,.int .i64 0,.string ⟨#[]⟩,.slice none 0 0,.slice none 0 0]) ai)] []) S6 w_,⟨Fx.nil _ _,⟨S5,[],0,Ext.refl _ _ _,aY,aY,aY,aY,aY,a.draw⟩⟩,⟨?_,?_,?_,?_,?_,?_,?_,?_,?_,?_,?_,?_,?_,?_,?_,?_,?_,?_,?_,?_,?_,?_,?_,?_,trivial⟩,?_⟩;all_goals (intro D bw; intros; rename_i Cq np GU Ua GF Ud Up T9 SF TU TH SB H1 Ht Dr CP Cw Ej Cr zm zH Em CB w_ b3; have C:=b3.1; obtain ⟨⟨cG,cf,cD,cF,bQ,cE,bZ,cL,dw,dl,ci,c8,dN,fJ,il,im,iQ,ln,ll,hY,nT,nL,pn,v6,_⟩,⟨S6,g,l,G,u,m,q,B,r,a⟩⟩:=b3)
  ·exact ⟨C.set 0 rfl,⟨S6,g,l,G,u,m,q,B,r,a⟩⟩
  ·exact ⟨C.set 1 rfl,⟨S6,g,l,G,u,m,q,B,r,a⟩⟩
  ·obtain rfl:=cG ‹_›;obtain rfl:=cf ‹_›;refine aT fD a2 ?_;exact ⟨C.set 2 rfl,⟨S6,g,l,G,u,m,q,B,r,a⟩⟩
  ·obtain rfl:=cD ‹_›;refine dE g8 (by rw [a.cellS ((N.trans G.1) _ _ b5)]; exact bd e1 0 _ rfl) ?_;exact ⟨C.set 3 (by first|assumption|trivial),⟨S6,g,l,G,u,m,q,B,r,a⟩⟩
  ·exact ⟨C.set 4 rfl,⟨S6,g,l,G,u,m,q,B,r,a⟩⟩
  ·exact ⟨C.set 5 rfl,⟨S6,g,l,G,u,m,q,B,r,a⟩⟩
  ·obtain rfl:=bQ ‹_›;obtain rfl:=cE ‹_›;refine aT ct M ?_;exact ⟨C.set 6 rfl,⟨S6,g,l,G,u,m,q,B,r,a⟩⟩
  ·obtain rfl:=bZ ‹_›;refine au cC ?_;exact ⟨C.set 7 rfl,⟨S6,g,l,G,u,m,q,B,r,a⟩⟩
  ·obtain rfl:=cL ‹_›;refine au bk ?_;exact ⟨C.set 8 rfl,⟨S6,g,l,G,u,m,q,B,r,a⟩⟩
  ·obtain rfl:=dw ‹_›;refine dE aZ (by rw [a.cellS ((N.trans G.1) _ _ hS)]; exact bd ec 2 _ rfl) ?_;exact ⟨C.set 9 rfl,⟨S6,g,l,G,u,m,q,B,r,a⟩⟩
  ·exact ⟨C.set 10 rfl,⟨S6,g,l,G,u,m,q,B,r,a⟩⟩
  ·exact ⟨C.set 11 rfl,⟨S6,g,l,G,u,m,q,B,r,a⟩⟩
  ·obtain rfl:=ci ‹_›;obtain rfl:=c8 ‹_›;refine aT ct M ?_;exact ⟨C.set 12 rfl,⟨S6,g,l,G,u,m,q,B,r,a⟩⟩
  ·obtain rfl:=dN ‹_›;refine au cC ?_;exact ⟨C.set 13 rfl,⟨S6,g,l,G,u,m,q,B,r,a⟩⟩
  ·obtain rfl:=fJ ‹_›;refine au ay ?_;exact ⟨C.set 14 rfl,⟨S6,g,l,G,u,m,q,B,r,a⟩⟩
  ·obtain rfl:=il ‹_›;refine dE ax (by rw [a.cellS ((N.trans G.1) _ _ hS)]; exact bd ec 3 _ rfl) ?_;exact ⟨C.set 15 (by first|assumption|trivial),⟨S6,g,l,G,u,m,q,B,r,a⟩⟩
  ·have Sc:=im ‹_›;have f5:RdSl S3 4 (RdT S3) T9 p[j].head.kids:=by rw [Sc]; exact f4
   refine aG f5 ao ?_;exact ⟨C.set 16 rfl,⟨S6,g,l,G,u,m,q,B,r,a⟩⟩
  ·have Sx:=cF ‹_›;obtain rfl:=dl ‹_›;obtain rfl:=iQ ‹_›;have Y:D 22=false:=cS.2 fun h=>by rw [(q (r h).2).1] at bw; cases bw
   have e4:RdSl S3 4 (dZ S3) zm (dK p[j]):=by rw [Sx]; exact a8
   refine Run.call0E y9 zg a (tT (e4.monoK (N.trans G.1)) (MY hv) h6) fun v' I' SM w_=>?_;rw [e3];rintro ⟨rfl,cn,rfl,a7⟩ hM a;have G:=G.trans hM;have u:=fun (_:aE D 17 17=true)=>(⟨rfl,a7.length,a7.one,a7⟩:Value.tuple #[.agg cn.toArray,.bool true]=.tuple #[.agg cn.toArray,.bool true]/\cn.length=5/\(∀ x∈cn,x.oneCell'=true)/\RdC SM cn (sr (bP p[j]) p[j]))
   have m:aE D 17 18=true->aE D 17 17=true/\GF=.tuple #[.agg cn.toArray,.bool true]:=fun h=>by rw [(m h).1] at bw; cases bw
   have q:aE D 17 19=true->aE D 17 17=true/\Ua=.agg cn.toArray:=fun h=>by rw [(q h).1] at bw; cases bw
   rw [Y,dc] at a;have a:Inv w [] (cond (D 21) [.blk l (.cells (cond (D 22) cn.toArray #[.int .i64 0,.int .i64 0,.string ⟨#[]⟩,.slice none 0 0,.slice none 0 0]) ai)] []) SM w_:=by rw [Y]; exact a
   obtain ⟨S6,d4⟩:∃ SN,SN=SM:=⟨_,rfl⟩
   subst d4;obtain ⟨g,a9⟩:∃ cm,cm=cn:=⟨_,rfl⟩
   subst a9;exact ⟨C.set 17 (by first|assumption|trivial),⟨S6,g,l,G,u,m,q,B,r,a⟩⟩
  ·have Uf:=ln ‹_›;have m:=fun (_:aE D 18 18=true)=>(⟨‹D 17=true›,(u ‹D 17=true›).1⟩:D 17=true/\Ud=.tuple #[.agg g.toArray,.bool true])
   exact ⟨C.set 18 (by first|assumption|trivial),⟨S6,g,l,G,u,m,q,B,r,a⟩⟩
  ·have Ss:=ll ‹_›;have e6:=(m ‹D 18=true›).2;have q5:=(m ‹D 18=true›).1;rw [e6];refine aA (v:=.agg g.toArray) rfl ?_;rw [<- e6];have q:=fun (_:aE D 19 19=true)=>(⟨q5,rfl⟩:D 17=true/\Value.agg g.toArray=.agg g.toArray)
   have r:aE D 19 22=true->aE D 19 21=true/\aE D 19 19=true:=fun h=>⟨(r h).1,rfl⟩
   exact ⟨C.set 19 (by first|assumption|trivial),⟨S6,g,l,G,u,m,q,B,r,a⟩⟩
  ·have Ss:=ll ‹_›;have e6:=(m ‹D 18=true›).2;rw [e6];refine aA (v:=.bool true) rfl ?_;rw [<- e6];exact ⟨C.set 20 rfl,⟨S6,g,l,G,u,m,q,B,r,a⟩⟩
  ·have Y:D 22=false:=cS.2 fun h=>by rw [(r h).1] at bw; cases bw
   rw [bw] at a;refine aH a dn fun l w_ a=>?_;have B:=fun (_:aE D 21 21=true)=>(rfl:Value.pointer (some ⟨l,0,none⟩)=_)
   have r:aE D 21 22=true->aE D 21 21=true/\aE D 21 19=true:=fun h=>by rw [show D 22=true from h] at Y; cases Y
   have a:Inv w [] [.blk l (.cells (cond (D 22) g.toArray #[.int .i64 0,.int .i64 0,.string ⟨#[]⟩,.slice none 0 0,.slice none 0 0]) ai)] S6 w_:=by rw [Y]; exact a
   exact ⟨C.set 21 (by first|assumption|trivial),⟨S6,g,l,G,u,m,q,B,r,a⟩⟩
  ·have Ue:=nL ‹_›;have RK:=hY ‹_›;have e9:=B ‹D 21=true›;have e7:=(q ‹D 19=true›).2;obtain ⟨_,d6,d7,_⟩:=u (q ‹D 19=true›).1;rw [e9,e7];rw [‹D 21=true›,bw] at a;refine al a 0 rfl aN (by simpa using d6) rfl (by simpa using d7) fun w_ a=>?_;rw [<- e9,<- e7];have r:=fun (_:aE D 22 22=true)=>(⟨‹D 21=true›,‹D 19=true›⟩:D 21=true/\D 19=true)
   have a:Inv w [] (cond (D 21) [.blk l (.cells g.toArray ai)] []) S6 w_:=by rw [‹D 21=true›]; exact a
   exact ⟨C.set 22 trivial,⟨S6,g,l,G,u,m,q,B,r,a⟩⟩
  ·obtain rfl:=nT ‹_›;exact ⟨C.set 23 rfl,⟨S6,g,l,G,u,m,q,B,r,a⟩⟩
  obtain ⟨rfl,rfl,rfl,Sx,rfl,rfl,rfl,rfl,rfl,rfl,rfl,rfl,rfl,rfl,rfl,Sc,rfl,Uf,Ss,RK,rfl,Ue,_,rfl,_⟩:=C.all;have Ui:D 17=true:=by assumption
  have Ta:D 21=true:=by assumption
  have Rl:D 22=true:=by assumption
  clear C cG cf cD cF bQ cE bZ cL dw dl ci c8 dN fJ il im iQ ln ll hY nT nL pn v6;obtain ⟨_,d9,i5,e0⟩:=u Ui;have e9:=B Ta;subst e9;rw [Ta,Rl] at a;have a:Inv w [] [.blk l (.cells g.toArray ai)] S6 w_:=a;have a3:=N.trans G.1;refine aT ct M ?_;refine dX aN rfl (fun i v hi=>by rw [a.cellS (a3 _ _ hS)]; exact bd ec i v hi) ?_;refine Run.pubOC qX qY a (nG (b7.mono a3) (by omega)) fun xs S7 w' V hx a=>?_;rw [hv];have O:=a3.trans V;have b8:=hx.length;have e5:QF p[j]=sr (bP p[j]) p[j]:=by rw [QF,af hv]
  rw [e5] at hx;refine aA (v:=.agg xs.toArray) rfl ?_;refine aA (v:=.bool true) rfl ?_;refine aH a dn fun c5 w' a=>?_;refine al a 1 rfl aN (by simpa using b8) rfl (by simpa using hx.one) fun w' a=>?_;have a:Inv w [] [.blk l (.cells g.toArray ai),.blk c5 (.cells xs.toArray ai)] S7 w':=a;have a0:=a0.monoK (G.1.trans V);refine ⟨fun z w'=>z=.bool false/\Inv w [] [] S7 w',?_,?_⟩
  ·refine cU ?_;refine rpG ?_;refine aT fD a2 ?_;refine dE g8 (by rw [a.cellS (O _ _ b5)]; exact bd e1 0 _ rfl) ?_;refine Run.callPure yT xz a (uJ a0 (a8.monoK O)) fun w' a=>?_;refine cU ?_;refine rpG ?_;refine aT fD a2 ?_;refine dE g8 (by rw [a.cellS (O _ _ d1)]; exact bd e2 0 _ rfl) ?_;refine Run.callPure yT xz a (uJ a0 (b6.monoK O)) fun w' a=>?_;refine cU ?_;refine rpG ?_;refine cU ?_;refine rpG ?_;refine cU ?_;refine rpG ?_;refine aq a 0 aN rfl (by simpa using d9) ?_;refine aq a 1 aN rfl (by simpa using b8) ?_;refine Run.callPure zb zn a (zc (e0.mono V) hx) fun w' a=>?_;refine cU ?_;refine rpG ?_;exact ⟨rfl,a.nil⟩
  clear a;intro z _ _ _ _ _ _ _ _ _ _ _ _ _ _ _ _ _ _ _ _ _ _ _ _ _ _ _ _ _ _ _ _ _ w';rintro ⟨rfl,a⟩;refine aI (fun hb=>by cases hb) (fun _=>?_);refine bF (by omega) ?_;exact ⟨⟨j+1,S7,M,rfl,O,a⟩,by simp [intOf]; omega⟩
 ·refine aG (U.mono J fun _ _=>RdCode.mono J) fD ?_;refine aG (Z.monoC J) ct ?_;refine bn ?_;exact yp a (a6.trans J) (by rw [ut,aP rfl])
end
end
section
open Go Go.ChangeShapes Go.WideShapes Go.ChangeAt Go.RowKit

theorem Tryz.own:ownKnob Tryz.prog.godebug=none:=by kernel_rfl
theorem Tryz.kids:Kids Tryz.prog (·<Tryz.prog.types.size):=kids_rows (by kernel_rfl) (by kernel_rfl)
theorem Tryz.full:∀ t e,t<Tryz.prog.types.size->Tryz.prog.underlying t=some (.slice e)->0<Tryz.prog.cellsOf e:=slices_full_of Tryz.prog (by kernel_rfl)
section
variable {H:Type} {enc:TypeId × Value->H} {W W':World}
theorem I7 {P:Program}:∀ {ts:List TypeId} {vs:List Value} {ds:List (DataW H)} {a:List MemPlace},DataW.TrodAll enc P W 0 (fun _=>true) true ts vs ds a->(∀ p∈a,W.sameAt W' p)->
  DataW.TrodAll enc P W' 0 (fun _=>true) true ts vs ds a
 | [],[],[],_,h,_=>h
 | _::_,_::_,_::_,_,⟨p,q,⟨n,h1⟩,h2,e⟩,hs=>
  ⟨p,q,⟨n,DataW.trod_carry n _ _ _ h1 fun x g=>hs x (by rw [e]; exact ic _ g)⟩,I7 h2 fun x g=>hs x (by rw [e]; exact iW _ g),e⟩
theorem Qt {p:MemPlace} (h:∀ b,b<W.heap.size->W'.heap[b]?=W.heap[b]?) (a:p.block<W.heap.size):W.sameAt W' p:=by
 cases p with
 | cell b g=>simp only [World.sameAt,World.cell?]; rw [h b a]
 | map b=>exact h b a
theorem MM {f:Func} {s:ChangeSpec} {args:Array Value} {ds i:List (DataW H)} {a p q:List MemPlace}
  (C:DataW.Whole enc Tryz.prog f.params.toList s.vars false W args.toList ds i a) (J:DataW.TrodAll enc Tryz.prog W 0 (fun _=>true) true f.params.toList args.toList ds p)
  (D:DataW.TrodVars enc Tryz.prog W (fun _=>true) s.vars i q) (l:a=p++q) (G:s.vars=[]) (m:∀ t∈f.params.toList,t<Tryz.prog.types.size) (M:f.resultTypes=#[JC])
  (N:(s.fn H (ds++i)).results=[.lit (.bool true)]) (O:(s.fn H (ds++i)).args=ds) (o:(s.fn H (ds++i)).vars=[]) (r:Inv W [] [] (LB W) W') :
  s.post enc Tryz.prog f false true false false W args (.bool true) W':=by
 have g:∀ b,b<W.heap.size->W'.heap[b]?=W.heap[b]?:=fun b l=>r.same b l;have j:=C.lt;rw [G] at D;obtain ⟨V,U⟩:=trodVars_none D;subst U;rw [dc] at l;subst l;have B:=I7 (W':=W') J fun x u=>Qt g (j x u);refine ⟨ds,i,a,[],a,[],C,?_,?_,?_,NB r.os r.output g,fun h=>by cases h⟩
 ·rw [N,M];exact trodAll_mk1 (shut_bool qE true)
 ·rw [O];exact DataW.TrodAll.respare Tryz.kids Tryz.full m B fun x u=>by simpa using j x u
 ·rw [G,o];rfl
end
end
end Go.Proofs.YtjbcdmheajljpaaGreat
