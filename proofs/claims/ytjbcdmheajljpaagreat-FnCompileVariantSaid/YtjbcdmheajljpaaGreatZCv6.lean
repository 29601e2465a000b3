/- Terms drawn: literal lists, appends in any order, spec.l1Draw, l1Some, l1Mutate: what is drawn is readable and light. -/
import Derived.Test.YtjbcdmheajljpaaGreatZCv5
namespace Go.Proofs.YtjbcdmheajljpaaGreat
section
open Go Go.RowKit
theorem s9 {b:Bool} {n:Nat} (h:b=decide (1<=n)) (a:b=false):n=0:=by
 rw [a,eq_comm,j1] at h; omega
theorem fK {a b:Bool} {k n:Nat} (h:a=decide (k<=n)) (g:a=true) (i:b=decide (k+1<=n)) (j:b=false):n=k:=by
 rw [g,eq_comm,decide_eq_true_iff] at h;rw [j,eq_comm,j1] at i;omega
theorem qF {b:Bool} {n m:Nat} (g:n<=m) (h:b=decide (m<=n)) (a:b=true):n=m:=by
 rw [a,eq_comm,decide_eq_true_iff] at h; omega
theorem Ft {b l:Bool} {n m:Nat} (h:b=decide (m<=n)) (k:b=true->l=true) (a:l=false):n<m:=by
 cases b
 ·rw [eq_comm,j1] at h; omega
 ·rw [k rfl] at a; cases a
def GK:List (Nat × Value)->List ByteArray
 | (_,.string s)::l=>s::GK l
 | _=>[]
def Gc:List (Nat × Value)->List Int
 | (_,.int _ n)::l=>n::Gc l
 | _=>[]
theorem GQ {α:Type} {f:α->Value} (l:List α) {i:Nat} (a:i<l.length):bd (l.map f).toArray i 1=[f l[i]]:=by
 rw [bd,dr (by simpa using a)];simp
theorem RdSl.monoU {S S':af} {v:Value} {ys:List Nat} (a:Sle S S') (h:RdSl S 1 jy v ys):RdSl S' 1 jy v ys:=h.mono a fun _ _ h=>h
theorem Ha {S:af} {b:Nat} {E:TypeId} {cs:List Value} {t:T} (a:S b=some (.cells cs.toArray E)) (h:RdT S cs t):RdSl S 4 (RdT S) (.slice (some ⟨b,0,none⟩) 1 1) [t]:=by
 refine ⟨_,1,rfl,a7 _,by simp [maxLen],.inr ⟨b,0,_,E,(0,0),rfl,a,fun i g=>?_⟩⟩
 match i,g with
 | 0,_=>
  have e:bd cs.toArray (0+0 * 4) 4=cs:=by
   rw [bd];simpa using Ei (Nat.le_of_eq h.length)
  rw [e];exact h
section
variable {w0 w:World} {X:List Nat} {L A:List Item} {S:af} {K:Value->World->Prop}
attribute [local irreducible] Run CondV aw aI
theorem Inv.last (h:Inv w0 X L S w) (i:Nat) {it:Item} (a:L[i]?=some it):Inv w0 X (L.eraseIdx i++[it]) S w:=by
 refine h.perm ?_;obtain ⟨g,_⟩:=qc a it;rw [Io]
 conv=>rhs; rw [g]
 rw [d4];exact rB _ dy
theorem ne {n:Nat} {a:List (Nat × Value)} (h:Inv w0 X L S w)
  (j:(be xM n a).run Tryz.prog w=.ok (.value (.slice (some ⟨w.heap.size,0,none⟩) n n)) { w with heap:=w.heap.push (.cells ((GK a).map Value.string).toArray eO) })
  (hn:(GK a).length=n) (q:n<=1000) (hk:∀ v S1 w',Ext w0.heap.size X S S1->RdSl S1 1 ou v (GK a)->Inv w0 X L S1 w'->K v w'):Run Tryz.prog (be xM n a) w K:=by
 refine l0 (v:=fun b=>.slice (some ⟨b,0,none⟩) n n) (o:=.cells ((GK a).map Value.string).toArray eO) h j fun b w' g=>?_;obtain ⟨S1,g,m,p⟩:=g.pub1;refine hk _ S1 w' m ?_ g;exact RdSl.ofCells p hn (by simp only [maxLen]; omega) fun i l=>GQ _ l
theorem ur {n:Nat} {a:List (Nat × Value)} (h:Inv w0 X L S w)
  (j:(be la n a).run Tryz.prog w=.ok (.value (.slice (some ⟨w.heap.size,0,none⟩) n n)) { w with heap:=w.heap.push (.cells ((Gc a).map (Value.int .i64)).toArray ce) })
  (hn:(Gc a).length=n) (q:n<=1000) (hk:∀ v S1 w',Ext w0.heap.size X S S1->RdSl S1 1 gL v (Gc a)->Inv w0 X L S1 w'->K v w'):Run Tryz.prog (be la n a) w K:=by
 refine l0 (v:=fun b=>.slice (some ⟨b,0,none⟩) n n) (o:=.cells ((Gc a).map (Value.int .i64)).toArray ce) h j fun b w' g=>?_;obtain ⟨S1,g,m,p⟩:=g.pub1;refine hk _ S1 w' m ?_ g;exact RdSl.ofCells p hn (by simp only [maxLen]; omega) fun i l=>GQ _ l
def g9 (Q:Prop) (R:Nat->Prop):Nat->Prop
 | 0=>Q
 | n+1=>R n
def qP (w0:World) (X:List Nat) (b:Nat) (c:Array Value) (d:Nat) (E:TypeId) (kv:Value) (css:List (List Value)) (A:Nat->List Item) (Q:List Value->Nat->af->Prop) (xv xs xa:Value) (w':World):Nat->Prop
 | 0=>∃ p1 S1 cs,Q cs p1 S1/\(cs.length=4/\∀ u∈cs,u.oneCell'=true)/\xv=.agg cs.toArray/\Inv w0 X (.blk b (.cells c E)::ax kv ac 4 css::A p1) S1 w'
 | 1=>∃ p1 S1 cs b8,Q cs p1 S1/\(cs.length=4/\∀ u∈cs,u.oneCell'=true)/\xs=.slice (some ⟨b8,0,none⟩) 1 1/\Inv w0 X (.blk b (.cells c E)::ax kv ac 4 css::(A p1++[.blk b8 (.cells cs.toArray ac)])) S1 w'
 | 2=>∃ p1 S1 cs,Q cs p1 S1/\(cs.length=4/\∀ u∈cs,u.oneCell'=true)/\Inv w0 X (.blk b (.cells c E)::ax xa ac 4 (css++[cs])::A p1) S1 w'
 | 3=>∃ p1 S1 cs,Q cs p1 S1/\(cs.length=4/\∀ u∈cs,u.oneCell'=true)/\Inv w0 X (.blk b (.cells (c.setIfInBounds d xa) E)::ax xa ac 4 (css++[cs])::A p1) S1 w'
 | _=>False
variable {b d:Nat} {c:Array Value} {E:TypeId} {kv:Value} {css:List (List Value)} {F:Nat->List Item} {Q:List Value->Nat->af->Prop} {xv xs xa:Value}
theorem vI {n:Nat} (h:qP w0 X b c d E kv css F Q xv xs xa w n) (hn:n<3):w.cell? ⟨b,d,none⟩=c[d]?:=by
 rcases n with _|_|_|n
 ·obtain ⟨g,S1,cs,_,_,_,a⟩:=h;exact a.cellL (i:=0) rfl
 ·obtain ⟨g,S1,cs,j,_,_,_,a⟩:=h;exact a.cellL (i:=0) rfl
 ·obtain ⟨g,S1,cs,_,_,a⟩:=h;exact a.cellL (i:=0) rfl
 ·omega
theorem ap1 {B:Prop} (h:g9 B (qP w0 X b c d E kv css F Q xv xs xa w) 1) (hk:∀ u w',g9 B (qP w0 X b c d E kv css F Q xv u xa w') 2->K u w'):Run Tryz.prog (be pq 1 [(0,xv)]) w K:=by
 obtain ⟨j,S1,cs,l,g,rfl,a⟩:=h;refine dI a bw (by simp [Value.cells,g.1]) (by omega) (by omega) fun i w' a=>?_;exact hk _ _ ⟨j,S1,cs,i,l,g,rfl,a⟩
theorem ap2 {B:Prop} {ty:TypeId} {bs:List Bool} (h:g9 B (qP w0 X b c d E kv css F Q xv xs xa w) 2) (p:css.length<=1000000) (hk:∀ u w',g9 B (qP w0 X b c d E kv css F Q xv xs u w') 3->K u w'):Run Tryz.prog (bn .append #[pq,pq] ty bs [kv,xs]) w K:=by
 obtain ⟨j,S1,cs,q,t,l,rfl,a⟩:=h;have g:(Item.blk b (.cells c E)::ax kv ac 4 css::(F j++[.blk q (.cells cs.toArray ac)]))[(F j).length+1+1]?=some (.blk q (.cells cs.toArray ac)):=by
  rw [iq,iq,fP (a7 _),dY]; rfl
 refine dH a 1 cs bw (by omega) rfl (by rw [l.1]) (m:=1) (o:=0) ?_ l.2 (by omega) (by omega) fun C D a=>?_
 ·intro i u r;rw [a.cellL g,ct];simpa using r
 rw [dZ] at a;refine hk _ _ ⟨j,S1,cs,t,l,?_⟩;exact a.sub (((ii _ _).cons_cons _).cons_cons _)
theorem ap3 {B:Prop} {ty:TypeId} (h:g9 B (qP w0 X b c d E kv css F Q xv xs xa w) 3) (l:d<c.size) {K:Value->World->Prop} (hk:∀ w',g9 B (qP w0 X b c d E kv css F Q xv xs xa w') 4->K undef w'):Run Tryz.prog (sOp (.store pq (.const (.pointer (some ⟨b,d,none⟩))) (.const xa)) ty) w K:=by
 obtain ⟨m,S1,cs,o,j,g⟩:=h;obtain ⟨q,r,vc,a⟩:=Inv.rowSlice g 1 rfl;refine di g 0 (n:=1) (by rw [a]; rfl) (by decide +kernel) rfl (by omega) (by rw [a]; simp [Value.cells,Value.oneCell']) fun p g=>?_;have i:Value.cells xa=#[xa]:=by rw [a]; rfl
 have e:bx c d (Value.cells xa).toList=c.setIfInBounds d xa:=by
  rw [i];apply s6.1;simp only [bx,Hz];have j:d<c.toList.length:=by simpa using l
  rw [xb,ai j];simp
 rw [e] at g;exact hk _ ⟨m,S1,cs,o,j,g⟩
end
abbrev dW (d:Nat):Nat:=6 * 3 ^ d
theorem GG (d:Nat):6<=dW d:=by
 have:0<3 ^ d:=Nat.pow_pos (by omega);simp only [dW]; omega
theorem Ib (d:Nat):dW (d+1)=3 * dW d:=by simp only [dW,Nat.pow_succ]; omega
abbrev I7 (br:Nat) (sl:Value) (p d:Nat):Value->List Item->af->Prop:=fun v I' S'=>∃ p',p'+2<=p+dW d/\I'=[rdI br sl p']/\∃ cs t,v=.agg cs.toArray/\RdT S' cs t/\wT t+3<=dW d/\okU 26 t
end
section
open Go Go.RowKit
section
attribute [local irreducible] Run CondV aw aI
def SlM (es:Array MapEntry) (s:CS):Prop:=(∀ e∈es.toList,∃ n:Int,e.key=.int .i64 n/\e.val=.int .i64 (s.at_ n)/\0<=n/\n<26/\0<=s.at_ n)/\∀ n,0<=n->n<26->0<=s.at_ n->∃ e∈es.toList,e.key=.int .i64 n
theorem SlM.find {l:Array MapEntry} {s:CS} (h:SlM l s) {n:Int} (p:0<=n) (q:n<26):(0<=s.at_ n/\∃ j,Instr.findNow (.int .i64) (.int .i64 n) l.toList 0=some (some (j,.int .i64 (s.at_ n)))) ∨ (¬ 0<=s.at_ n/\Instr.findNow (.int .i64) (.int .i64 n) l.toList 0=some none):=by
 rcases iN (n:=n) l.toList 0 (fun e i=>by obtain ⟨m,o,_⟩:=h.1 e i; exact ⟨m,o⟩) with ⟨j,e,i,g,hf⟩|⟨hk,hf⟩
 ·obtain ⟨m,a,r,_,_,t⟩:=h.1 e i;rw [g,Value.int.injEq] at a;rw [r,<- a.2] at hf;exact .inl ⟨by rw [a.2]; exact t,j,hf⟩
 ·refine .inr ⟨fun o=>?_,hf⟩;obtain ⟨e,i,g⟩:=h.2 n p q o;exact hk e i g
theorem SlM.push {q:Array MapEntry} {s:CS} (h:SlM q s) (l:s.sl.length=26) {n v:Int} (a:0<=n/\n<26) (hn:¬ 0<=s.at_ n) (r:0<=v) (t:Nat):SlM (q.push { key:=.int .i64 n,val:=.int .i64 v,born:=t }) (s.put n v):=by
 refine ⟨fun e o=>?_,fun m g i j=>?_⟩
 ·rw [DN,dh,fl] at o;rcases o with o|rfl
  ·obtain ⟨m,hk,p,g,i,j⟩:=h.1 e o;have:m≠n:=fun e=>by subst e; exact hn j
   exact ⟨m,hk,by rw [gQ l a ⟨g,i⟩,ah this]; exact p,g,i,by rw [gQ l a ⟨g,i⟩,ah this]; exact j⟩
  ·exact ⟨n,rfl,by rw [gQ l a a,ai rfl],a.1,a.2,by rw [gQ l a a,ai rfl]; exact r⟩
 ·rw [gQ l a ⟨g,i⟩] at j;rw [DN];by_cases e:m=n
  ·exact ⟨_,kG _ (fl.2 rfl),by rw [e]⟩
  ·rw [ah e] at j;obtain ⟨x,u,hk⟩:=h.2 m g i j;exact ⟨x,iF _ u,hk⟩
def i9 (s:CS):List (List Value):=s.code.map Ist.cells
abbrev cj (cb mb:Nat) (es:Array MapEntry) (ck:Nat) (s:CS) (cv:Value):List Item:=[.blk cb (.cells #[.map (some mb),.int .i64 s.next,cv] fh),.blk mb (.map es ck),ax cv aK 4 (i9 s)]
def uf (cb mb:Nat) (S:af) (s:CS) (I':List Item) (S':af):Prop:=S'=S/\∃ es ck cv,I'=cj cb mb es ck s cv/\SlM es s
theorem Fr (s:CS) (x:Ist):i9 (s.emit x)=i9 s++[x.cells]:=by unfold i9 CS.emit; rw [ya]; rfl
theorem od (s:CS):(i9 s).length=s.code.length:=by unfold i9; rw [A6]
def adS (w:World) (X:List Nat) (S:af) (b3 cb mb:Nat) (es:Array MapEntry) (ck:Nat) (s:CS) (cv:Value) (x:Ist) (zI np:Value) (w':World):Nat->Prop
 | 0=>Inv w X (cj cb mb es ck s cv++[.blk b3 (.cells x.cells.toArray aK)]) S w'
 | 1=>∃ g,zI=.slice (some ⟨g,0,none⟩) 1 1/\Inv w X (cj cb mb es ck s cv++[.blk b3 (.cells x.cells.toArray aK),.blk g (.cells x.cells.toArray aK)]) S w'
 | 2=>Inv w X [.blk cb (.cells #[.map (some mb),.int .i64 s.next,cv] fh),.blk mb (.map es ck),ax np aK 4 (i9 (s.emit x)),.blk b3 (.cells x.cells.toArray aK)] S w'
 | _=>Inv w X (cj cb mb es ck (s.emit x) np++[.blk b3 (.cells x.cells.toArray aK)]) S w'
theorem adS.cv {w:World} {X:List Nat} {S:af} {b3 a g:Nat} {i:Array MapEntry} {j:Nat} {s:CS} {cv:Value} {x:Ist} {l m:Value} {w':World}:∀ {n:Nat},n<3->adS w X S b3 a g i j s cv x l m w' n->∃ R,Inv w X (.blk a (.cells #[.map (some g),.int .i64 s.next,cv] fh)::R) S w'
 | 0,_,h=>⟨_,h⟩
 | 1,_,⟨_,_,h⟩=>⟨_,h⟩
 | 2,_,h=>⟨_,h⟩
 | _+3,hn,_=>absurd hn (by omega)
theorem adS.b3 {w:World} {X:List Nat} {S:af} {b3 a g:Nat} {i:Array MapEntry} {j:Nat} {s:CS} {cv:Value} {x:Ist} {l m:Value} {w':World}:∀ {n:Nat},adS w X S b3 a g i j s cv x l m w' n->∃ A1 A2 A3 R,Inv w X (A1::A2::A3::.blk b3 (.cells x.cells.toArray aK)::R) S w'
 | 0,h=>⟨_,_,_,_,h⟩
 | 1,⟨_,_,h⟩=>⟨_,_,_,_,h⟩
 | 2,h=>⟨_,_,_,_,h⟩
 | _+3,h=>⟨_,_,_,_,h⟩
theorem Ist.one (x:Ist):∀ u∈x.cells,u.oneCell'=true:=by
 intro u a;simp only [Ist.cells,fm,ED,or_false] at a;rcases a with rfl|rfl|rfl|rfl <;> rfl
theorem cR {G M U:Nat} {N:Array MapEntry} {s:CS} {cv:Value} (x:Ist) {S:af} (hm:SlM N s) (hl:s.code.length<=1000000000) :
  Tri Tryz.prog tn [.pointer (some ⟨G,0,none⟩),.agg x.cells.toArray] (cj G M N U s cv) S fun _ I' S'=>uf G M S (s.emit x) I' S':=by
 intro w p;obtain ⟨X,hX⟩:∃ X,X=bF (cj G M N U s cv):=⟨_,rfl⟩
 rw [<- hX] at p ⊢;refine kI.2 ?_;dsimp only[kI,a6];refine bB p fun b3 w' p=>?_;refine ⟨fun D JS Hm V zI x9 x8 x7 x6 x5 x4 J=>Fx D 0 [x4=.pointer (some ⟨G,0,none⟩),x5=.pointer (some ⟨G,0,none⟩),x6=.pointer (some ⟨G,0,none⟩),x7=.pointer (some ⟨G,2,none⟩),x8=cv,x9=.agg x.cells.toArray,True,True,Hm=.pointer (some ⟨G,0,none⟩),JS=.pointer (some ⟨G,2,none⟩),True]/\∃ C:Nat,C<=3/\D 6=decide (1<=C)/\D 7=decide (2<=C)/\D 10=decide (3<=C)/\(D 10=true->D 4=true)/\(adS w X S b3 G M N U s cv x zI V J C),⟨Fx.nil _ _,⟨0,aQ _,rfl,rfl,rfl,(aP),p.draw⟩⟩,⟨?_,?_,?_,?_,?_,?_,?_,?_,?_,?_,?_,trivial⟩,?_⟩;all_goals (intro D bm; intros; rename_i JS Hm V zI x9 x8 x7 x6 x5 x4 J Y; have q:=Y.1; obtain ⟨⟨c9,cX,cZ,c4,cY,c8,cB,df,dK,eF,cW,_⟩,⟨C,B,h,l,a,r,t⟩⟩:=Y)
 ·exact ⟨q.set 0 rfl,⟨C,B,h,l,a,r,t⟩⟩
 ·exact ⟨q.set 1 rfl,⟨C,B,h,l,a,r,t⟩⟩
 ·obtain rfl:=cX ‹_›;refine bj ?_;exact ⟨q.set 2 rfl,⟨C,B,h,l,a,r,t⟩⟩
 ·obtain rfl:=cZ ‹_›;refine ay j3 ?_;exact ⟨q.set 3 rfl,⟨C,B,h,l,a,r,t⟩⟩
 ·obtain rfl:=c4 ‹_›;have Z:=Ft a r bm;obtain ⟨R,p⟩:=t.cv Z; refine aJ p 0 kA rfl rfl ?_;exact ⟨q.set 4 (by first|assumption|trivial),⟨C,B,h,l,a,(fun _=>rfl),t⟩⟩
 ·obtain ⟨_,_,_,R,p⟩:=t.b3; refine au p 3 ml rfl rfl ?_;exact ⟨q.set 5 rfl,⟨C,B,h,l,a,r,t⟩⟩
 ·obtain rfl:=c8 ‹_›;obtain rfl:C=0:=s9 h bm;refine dI t fC rfl (by omega) (by omega) fun g J p=>?_;have t:adS w X S b3 G M N U s cv x (.slice (some ⟨g,0,none⟩) 1 1) V J 1:=⟨g,rfl,p⟩
  exact ⟨q.set 6 (by first|assumption|trivial),⟨1,by decide,rfl,(by first|exact l|rfl),(by first|exact a|rfl),r,t⟩⟩
 ·have CU:=cY ‹_›;have zK:=cB ‹_›;obtain rfl:C=1:=fK h ‹D 6=true› l bm;obtain ⟨g,rfl,p⟩:=t;refine dH p 2 (k:=4) (o:=0) (m:=1) (n:=(i9 s).length) (xs:=(i9 s).flatten) x.cells fC (by omega) (by rw [CU]; rfl) rfl (fun j u hj=>by rw [p.cellL (i:=4) rfl,ct]; simpa using hj) x.one (by rw [od]; omega) (by omega) fun v' J p=>?_;have e:Item.row v' aK 4 ((i9 s).length+1) ((i9 s).flatten++x.cells)=ax v' aK 4 (i9 (s.emit x)):=by rw [Fr]; exact dZ ..
  have p:Inv w X [.blk G (.cells #[.map (some M),.int .i64 s.next,cv] fh),.blk M (.map N U),Item.row v' aK 4 ((i9 s).length+1) ((i9 s).flatten++x.cells),.blk b3 (.cells x.cells.toArray aK)] S J:=p.pick [true,true,true,true,false];rw [e] at p;have t:adS w X S b3 G M N U s cv x (.slice (some ⟨g,0,none⟩) 1 1) v' J 2:=p;exact ⟨q.set 7 (by first|assumption|trivial),⟨2,by decide,(by first|exact h|rfl),rfl,(by first|exact a|rfl),r,t⟩⟩
 ·obtain rfl:=c9 ‹_›;refine bj ?_;exact ⟨q.set 8 rfl,⟨C,B,h,l,a,r,t⟩⟩
 ·obtain rfl:=dK ‹_›;refine ay j3 ?_;exact ⟨q.set 9 rfl,⟨C,B,h,l,a,r,t⟩⟩
 ·obtain rfl:=eF ‹_›;have zJ:=df ‹_›;obtain rfl:C=2:=fK l ‹D 7=true› a bm;have p:Inv w X _ S J:=t;have O:=ki (p.its (ax V aK 4 (i9 (s.emit x))) (by simp));refine di p 0 (n:=1) (by rw [O.1]; rfl) (by decide +kernel) rfl (by simp) (by rw [O.1]; simpa using O.2) fun J p=>?_;rw [O.1] at p;have t:adS w X S b3 G M N U s cv x zI V J 3:=p;exact ⟨q.set 10 trivial,⟨3,by decide,(by first|exact h|rfl),(by first|exact l|rfl),rfl,(fun _=>‹D 4=true›),t⟩⟩
 obtain rfl:C=3:=qF B a ‹D 10=true›;clear h l a;exact ⟨_,_,_,rfl,t.pick [true,true,true,false],Ext.refl _ _ _,rfl,N,U,V,rfl,hm⟩
end
end
section
open Go Go.RowKit
section
variable {P:Program} {w w0:World} {X:List Nat} {L:List Item} {S:af} {K:Value->World->Prop}
attribute [local irreducible] Run CondV aw aI
theorem tV {T r m ty:TypeId} {b a:Nat} {q:Array MapEntry} {n:Int} {z v:Value} {ok c:Bool} (G:w.heap[b]?=some (.map q a)) (C:P.underlying T=some (.map r m)) (i:P.underlying r=some (.int .i64))
  (o:fB P m=some z) (hf:(∃ j,Instr.findNow (.int .i64) (.int .i64 n) q.toList 0=some (some (j,v))/\ok=true) ∨ (Instr.findNow (.int .i64) (.int .i64 n) q.toList 0=some none/\v=z/\ok=false))
  (hk:K (cond c (.tuple #[v,.bool ok]) v) w):Run P (sOp (.lookup T (.const (.map (some b))) (.const (.int .i64 n)) c) ty) w K:=by
 have p:∀ e,(Instr.checkKey e 10000 r (.int .i64 n)).run P w=.ok () w:=fun e=>by
  rw [show (10000:Nat)=9999+1 from rfl,Instr.checkKey];simp [run_underlying i]
 obtain ⟨g,t,u⟩:∃ g,P.info? m=some g/\g.zero=some z:=by
  unfold fB at o;cases h:P.info? m with
  | none=>rw [h] at o; simp at o
  | some g=>rw [h] at o; exact ⟨g,rfl,by simpa using o⟩
 have B:(zeroValue m).run P w=.ok z w:=by simp [zeroValue,typeInfo,t,u]
 refine Run.of ?_ hk;have D:(getObj b).run P w=.ok (.map q a) w:=by simp [getObj,Sem.run,G]
 rcases hf with ⟨j,hf,rfl⟩|⟨hf,rfl,rfl⟩
 ·have l:=fX (P:=P) (w:=w) i hf;cases c <;> simp [sOp,execOp,ev0,evE,Instr.lookup,run_underlying C,D,p,l]
 ·have l:=fX (P:=P) (w:=w) i hf;cases c <;> simp [sOp,execOp,ev0,evE,Instr.lookup,run_underlying C,D,p,l,B]
end
section
attribute [local irreducible] Run CondV aw aI
def StS (S0 S:af) (sb:Nat) (st:bN):Prop:=∃ mb tv es ck E,S sb=some (.cells #[.map (some mb),tv] E)/\S mb=some (.map es ck)/\KnownM S0 es st
theorem StS.mono {S0 S S':af} {a:Nat} {st:bN} (h:StS S0 S a st) (g:Sle S S'):StS S0 S' a st:=by
 obtain ⟨i,j,l,m,E,o,p,q⟩:=h;exact ⟨i,j,l,m,E,g _ _ o,g _ _ p,q⟩
theorem StS.find {S0 S:af} {C:Nat} {N:Nat} {st:bN} (h:StS S0 S C st) {t:T} (hk:t.kind=1) (M:okU N t):∃ g l a m E i ok,S C=some (.cells #[.map (some g),l] E)/\S g=some (.map a m)/\
  ((∃ j,Instr.findNow (.int .i64) (.int .i64 t.n) a.toList 0=some (some (j,.agg (List.toArray i)))/\ok=true) ∨ (Instr.findNow (.int .i64) (.int .i64 t.n) a.toList 0=some none/\(Value.agg (List.toArray i))=.agg #[.int .i64 0,.int .i64 0,.string ⟨#[]⟩,.slice none 0 0]/\ok=false))/\
  i.length=4/\(∀ x∈i,x.oneCell'=true)/\(ok=true->∃ u,look st t=some u/\RdT S0 i u)/\(ok=false->look st t=none):=by
 obtain ⟨g,l,a,m,E,D,G,O⟩:=h;obtain ⟨U,_⟩:=M.var hk;obtain ⟨j,J⟩:∃ j:Nat,t.n=j:=⟨t.n.toNat,by omega⟩
 have p:look st t=(st[j]?).join:=by rw [look,ai hk,J,gS]
 rw [J,p];rcases O.find j with ⟨q,v,u,cs,hf,rfl,hR,r⟩|⟨B,hf⟩
 ·exact ⟨g,l,a,m,E,cs,true,D,G,.inl ⟨q,hf,rfl⟩,hR.length,hR.one,fun _=>⟨u,by rw [r]; rfl,hR⟩,fun h=>by cases h⟩
 ·refine ⟨g,l,a,m,E,[.int .i64 0,.int .i64 0,.string ⟨#[]⟩,.slice none 0 0],false,D,G,.inr ⟨hf,rfl,rfl⟩,rfl,by simp [Value.oneCell'],fun h=>(by cases h),fun _=>?_⟩;cases r:st[j]? with
  | none=>rfl
  | some o=>
   cases o with
   | none=>rfl
   | some u=>exact absurd r (B u)
def MetM (es:Array MapEntry) (met:Nat->Prop):Prop:=(∀ e∈es.toList,∃ n:Nat,e.key=.int .i64 n/\e.val=.bool true/\met n)/\∀ n,met n->∃ e∈es.toList,e.key=.int .i64 (n:Nat)
theorem MetM.find {l:Array MapEntry} {g:Nat->Prop} (h:MetM l g) (n:Nat):(g n/\∃ j,Instr.findNow (.int .i64) (.int .i64 n) l.toList 0=some (some (j,.bool true))) ∨ (¬ g n/\Instr.findNow (.int .i64) (.int .i64 n) l.toList 0=some none):=by
 rcases iN (n:=n) l.toList 0 (fun e i=>by obtain ⟨m,hk,_⟩:=h.1 e i; exact ⟨m,hk⟩) with ⟨j,e,i,hk,hf⟩|⟨hk,hf⟩
 ·obtain ⟨m,a,p,o⟩:=h.1 e i;rw [hk] at a;simp only [Value.int.injEq,qt] at a;have:n=m:=by omega
  subst this;rw [p] at hf;exact .inl ⟨o,j,hf⟩
 ·refine .inr ⟨fun o=>?_,hf⟩;obtain ⟨e,i,a⟩:=h.2 n o;exact hk e i a
theorem MetM.push {j:Array MapEntry} {g:Nat->Prop} (h:MetM j g) (n:Nat) (l:Nat):MetM (j.push { key:=.int .i64 n,val:=.bool true,born:=l }) (fun m=>g m ∨ m=n):=by
 refine ⟨fun e a=>?_,fun m i=>?_⟩
 ·rw [DN] at a;rcases dh.1 a with a|a
  ·obtain ⟨m,hk,o,i⟩:=h.1 e a;exact ⟨m,hk,o,.inl i⟩
  ·simp at a;subst a;exact ⟨n,rfl,rfl,.inr rfl⟩
 ·rw [DN];rcases i with i|rfl
  ·obtain ⟨x,p,hk⟩:=h.2 m i;exact ⟨x,iF _ p,hk⟩
  ·exact ⟨_,kG _ (fl.2 rfl),rfl⟩
end
end
section
open Go Go.RowKit
section
attribute [local irreducible] Run CondV aw aI
theorem zp {w:World} {K:Value->World->Prop} {o:Int} (hk:K (.agg (Ist.cells ⟨o,0,0,emptyB⟩).toArray) w):Run Tryz.prog (bP aK [(0,.int .i64 o)]) w K:=by
 refine Run.of (v:=.agg (Ist.cells ⟨o,0,0,emptyB⟩).toArray) (w':=w) ?_ hk;unfold bP;rw [Sem.run_bind,run_build w aK _ #[.int .i64 o,.int .i64 0,.int .i64 0,.string ⟨#[]⟩] (by kernel_rfl),Result.andThen_ok];rfl
theorem jg {w:World} {K:Value->World->Prop} {o a:Int} (hk:K (.agg (Ist.cells ⟨o,a,0,emptyB⟩).toArray) w):Run Tryz.prog (bP aK [(0,.int .i64 o),(1,.int .i64 a)]) w K:=by
 refine Run.of (v:=.agg (Ist.cells ⟨o,a,0,emptyB⟩).toArray) (w':=w) ?_ hk;unfold bP;rw [Sem.run_bind,run_build w aK _ #[.int .i64 o,.int .i64 a,.int .i64 0,.string ⟨#[]⟩] (by kernel_rfl),Result.andThen_ok];rfl
theorem gM {w:World} {K:Value->World->Prop} {o a b:Int} (hk:K (.agg (Ist.cells ⟨o,a,b,emptyB⟩).toArray) w):Run Tryz.prog (bP aK [(0,.int .i64 o),(1,.int .i64 a),(2,.int .i64 b)]) w K:=by
 refine Run.of (v:=.agg (Ist.cells ⟨o,a,b,emptyB⟩).toArray) (w':=w) ?_ hk;unfold bP;rw [Sem.run_bind,run_build w aK _ #[.int .i64 o,.int .i64 a,.int .i64 b,.string ⟨#[]⟩] (by kernel_rfl),Result.andThen_ok];rfl
theorem zw {w:World} {K:Value->World->Prop} {o a b:Int} {g:ByteArray} (hk:K (.agg (Ist.cells ⟨o,a,b,g⟩).toArray) w):Run Tryz.prog (bP aK [(0,.int .i64 o),(1,.int .i64 a),(2,.int .i64 b),(3,.string g)]) w K:=by
 refine Run.of (v:=.agg (Ist.cells ⟨o,a,b,g⟩).toArray) (w':=w) ?_ hk;unfold bP;rw [Sem.run_bind,run_build w aK _ #[.int .i64 o,.int .i64 a,.int .i64 b,.string g] (by kernel_rfl),Result.andThen_ok];rfl
theorem FV {w:World} {K:Value->World->Prop} {o a:Int} {g:ByteArray} (hk:K (.agg (Ist.cells ⟨o,a,0,g⟩).toArray) w):Run Tryz.prog (bP aK [(0,.int .i64 o),(1,.int .i64 a),(3,.string g)]) w K:=by
 refine Run.of (v:=.agg (Ist.cells ⟨o,a,0,g⟩).toArray) (w':=w) ?_ hk;unfold bP;rw [Sem.run_bind,run_build w aK _ #[.int .i64 o,.int .i64 a,.int .i64 0,.string g] (by kernel_rfl),Result.andThen_ok];rfl
theorem kw {g h i:Nat} {j:Array MapEntry} {s:CS} {cv:Value} {S:af} (m:0<=s.next/\s.next<=1000000000) :
  Tri Tryz.prog sX [.pointer (some ⟨g,0,none⟩)] (cj g h j i s cv) S fun r I' S'=>S'=S/\r=.int .i64 s.next/\I'=cj g h j i s.inc cv:=by
 intro w a;obtain ⟨X,l⟩:∃ X,X=bF (cj g h j i s cv):=⟨_,rfl⟩
 rw [<- l] at a ⊢;refine jv.2 ?_;dsimp only[jv,aG];refine bj ?_;refine ag a 0 rfl kq az rfl ?_;refine bz (by omega) ?_;refine bj ?_;refine dl a 0 rfl kq az rfl rfl rfl fun w' a=>?_;have a:Inv w X (cj g h j i s.inc cv) S w':=a;refine bj ?_;refine ag a 0 rfl kq az rfl ?_;refine ld (by show -9223372036854775808<=s.next+1 - 1/\_; show _/\s.next+1 - 1<=_; omega) ?_;have e:s.inc.next - 1=s.next:=by show s.next+1 - 1=s.next; omega
 rw [e];exact ⟨_,_,_,rfl,a,Ext.refl _ _ _,rfl,rfl,rfl⟩
def atV (s:CS) (n:Int):Int:=if 0<=s.at_ n then s.at_ n else 0
theorem SlM.look {g:Array MapEntry} {s:CS} (h:SlM g s) {n:Int} (i:0<=n) (l:n<26):(∃ j,Instr.findNow (.int .i64) (.int .i64 n) g.toList 0=some (some (j,.int .i64 (atV s n)))/\decide (0<=s.at_ n)=true) ∨ (Instr.findNow (.int .i64) (.int .i64 n) g.toList 0=some none/\Value.int .i64 (atV s n)=.int .i64 0/\decide (0<=s.at_ n)=false):=by
 rcases h.find i l with ⟨a,j,hf⟩|⟨a,hf⟩
 ·exact .inl ⟨j,by rw [atV,ai a]; exact hf,bb a⟩
 ·exact .inr ⟨hf,by rw [atV,ah a],bk a⟩
theorem kR {B G J:Nat} {O:Array MapEntry} {s:CS} {cv:Value} {t:T} {S:af} {cs:List Value} (h:RdT S cs t) (hw:Wf s) (hm:SlM O s) (ht:okG t) (h3:t.kind≠3) (hl:s.sz<=900000000) :
  Tri Tryz.prog lB [.pointer (some ⟨B,0,none⟩),.agg cs.toArray] (cj B G O J s cv) S fun _ I' S'=>uf B G S (dJ s t) I' S':=by
 intro w a;obtain ⟨X,hX⟩:∃ X,X=bF (cj B G O J s cv):=⟨_,rfl⟩
 rw [<- hX] at a ⊢;have b4:=hw.four;have b7:s.code.length<=900000000/\s.next<=900000000:=by unfold CS.sz at hl; omega
 obtain ⟨kv,rfl,_,_,_,b6⟩:=RdT.iff.1 h;refine gf.2 ?_;dsimp only[gf,a6];refine bB a fun b3 w' a=>?_;have a:Inv w X ([.blk b3 (.cells #[.int .i64 t.kind,.int .i64 t.n,.string t.name,kv] ac)]++cj B G O J s cv) S w':=a.perm (dy (l₁:=[_]));refine ag a 0 rfl aV az rfl ?_;refine bo ?_;refine aR (fun h2=>?_) (fun h2=>?_)
 ·refine ag a 0 rfl aM az rfl ?_;refine jg ?_;refine Run.call bt bp a (cR ⟨6,t.n,0,emptyB⟩ hm (by omega)) fun v' I' S' w'=>?_;rintro ⟨eS,i,j,l,rfl,a1⟩ _ a;rw [eS] at a;exact ⟨_,_,_,rfl,a.sub (fF _ _),Ext.refl _ _ _,rfl,i,j,l,by rw [dJ,ai h2],by rw [dJ,ai h2]; exact a1⟩
 have r:t.kind=1/\0<=t.n/\t.n<26:=by
  rcases ht.kind with e|e|e
  ·exact e
  ·exact absurd e.1 h2
  ·exact absurd e.1 h3
 have b5:=hm.look r.2.1 r.2.2;refine ⟨fun D x5 x4 uC vg Jz qB mc sG D7 te Ds Is M=>Fx D 0 [Is=.pointer (some ⟨B,0,none⟩),Ds=.pointer (some ⟨B,0,none⟩),te=.pointer (some ⟨B,0,none⟩),D7=.map (some G),sG=.pointer (some ⟨b3,1,none⟩),mc=.int .i64 t.n,qB=.tuple #[.int .i64 (atV s t.n),.bool (decide (0<=s.at_ t.n))],Jz=.tuple #[.int .i64 (atV s t.n),.bool (decide (0<=s.at_ t.n))],vg=.int .i64 (atV s t.n),uC=.bool (decide (0<=s.at_ t.n)),x4=.int .i64 (atV s t.n),x5=.bool (decide (0<=s.at_ t.n))]/\Inv w X ([.blk b3 (.cells #[.int .i64 t.kind,.int .i64 t.n,.string t.name,kv] ac)]++cj B G O J s cv) S M,⟨Fx.nil _ _,a.draw⟩,⟨?_,?_,?_,?_,?_,?_,?_,?_,?_,?_,?_,?_,trivial⟩,?_⟩;all_goals (intro D bm; intros; rename_i x5 x4 uC vg Jz qB mc sG D7 te Ds Is M C; have g:=C.1; obtain ⟨⟨U,V,Y,Z,cY,c8,cB,N,dK,eF,cW,dR,_⟩,a⟩:=C)
 ·exact ⟨g.set 0 rfl,a⟩
 ·obtain rfl:=U ‹_›;refine bj ?_;exact ⟨g.set 1 rfl,a⟩
 ·obtain rfl:=V ‹_›;refine ay dG ?_;exact ⟨g.set 2 rfl,a⟩
 ·obtain rfl:=Y ‹_›;refine aJ a 1 ef rfl rfl ?_;exact ⟨g.set 3 rfl,a⟩
 ·refine ay aM ?_;exact ⟨g.set 4 rfl,a⟩
 ·obtain rfl:=cY ‹_›;refine aJ a 0 az rfl rfl ?_;exact ⟨g.set 5 rfl,a⟩
 ·obtain rfl:=Z ‹_›;obtain rfl:=c8 ‹_›;refine tZ a 2 ed eY qr rfl b5 ?_;exact ⟨g.set 6 rfl,a⟩
 ·obtain rfl:=cB ‹_›;exact ⟨g.set 7 rfl,a⟩
 ·obtain rfl:=N ‹_›;refine aA rfl ?_;exact ⟨g.set 8 rfl,a⟩
 ·obtain rfl:=N ‹_›;refine aA rfl ?_;exact ⟨g.set 9 rfl,a⟩
 ·obtain rfl:=dK ‹_›;exact ⟨g.set 10 rfl,a⟩
 ·obtain rfl:=eF ‹_›;exact ⟨g.set 11 rfl,a⟩
 obtain ⟨rfl,rfl,rfl,rfl,rfl,rfl,rfl,rfl,rfl,rfl,rfl,rfl,_⟩:=g.all;clear g U V Y Z cY c8 cB N dK eF cW dR;refine aR (fun h0=>?_) (fun h0=>?_)
 ·have e:dJ s t=s.emit ⟨5,s.at_ t.n,0,emptyB⟩:=by rw [dJ,ah h2,ai h0]
  rw [show atV s t.n=s.at_ t.n from ai h0];refine jg ?_;refine Run.call bt bp a (cR ⟨5,s.at_ t.n,0,emptyB⟩ hm (by omega)) fun v' I' S' w'=>?_;rintro ⟨eS,i,j,l,rfl,a1⟩ _ a;rw [eS] at a;exact ⟨_,_,_,rfl,a.sub (fF _ _),Ext.refl _ _ _,rfl,i,j,l,by rw [e],by rw [e]; exact a1⟩
 have e:dJ s t=((s.put t.n s.next).emit ⟨4,s.next,0,emptyB⟩).inc:=by rw [dJ,ah h2,ah h0]
 have hf:Instr.findNow (.int .i64) (.int .i64 t.n) O.toList 0=some none:=by
  rcases hm.find r.2.1 r.2.2 with ⟨q,_⟩|⟨_,q⟩
  ·exact absurd q h0
  ·exact q
 have a4:=hm.push hw.len r.2 h0 (v:=s.next) (by omega) J;generalize b0:O.push { key:=.int .i64 t.n,val:=.int .i64 s.next,born:=J }=es2 at a4;refine ⟨fun D iJ nM ri uy uu sK kZ sJ M=>Fx D 0 [sJ=.pointer (some ⟨B,0,none⟩),kZ=.pointer (some ⟨B,0,none⟩),sK=.pointer (some ⟨B,0,none⟩),uu=.map (some G),uy=.pointer (some ⟨b3,1,none⟩),ri=.int .i64 t.n,nM=.pointer (some ⟨B,0,none⟩),iJ=.int .i64 s.next,True]/\Inv w X ([.blk b3 (.cells #[.int .i64 t.kind,.int .i64 t.n,.string t.name,kv] ac)]++cj B G (cond (D 8) es2 O) (cond (D 8) (J+1) J) (cond (D 7) s.inc s) cv) S M,⟨Fx.nil _ _,a.draw⟩,⟨?_,?_,?_,?_,?_,?_,?_,?_,?_,trivial⟩,?_⟩;all_goals (intro D bm; intros; rename_i iJ nM ri uy uu sK kZ sJ M C; have g:=C.1; obtain ⟨⟨U,V,Y,Z,cY,c8,cB,N,dK,_⟩,a⟩:=C)
 ·exact ⟨g.set 0 rfl,a⟩
 ·obtain rfl:=U ‹_›;refine bj ?_;exact ⟨g.set 1 rfl,a⟩
 ·obtain rfl:=V ‹_›;refine ay dG ?_;exact ⟨g.set 2 rfl,a⟩
 ·obtain rfl:=Y ‹_›;refine aJ a 1 ef rfl rfl ?_;exact ⟨g.set 3 rfl,a⟩
 ·refine ay aM ?_;exact ⟨g.set 4 rfl,a⟩
 ·obtain rfl:=cY ‹_›;refine aJ a 0 az rfl rfl ?_;exact ⟨g.set 5 rfl,a⟩
 ·exact ⟨g.set 6 rfl,a⟩
 ·obtain rfl:=cB ‹_›;rw [bm] at a;refine Run.call fk fg a (kw (s:=s) (by omega)) fun v' I' S' M=>?_;rintro ⟨eS,rfl,rfl⟩ _ a;rw [eS] at a;exact ⟨g.set 7 rfl,a⟩
 ·obtain rfl:=Z ‹_›;obtain rfl:=c8 ‹_›;obtain rfl:=N ‹_›;rw [bm] at a;refine uV a 2 ed eY rfl hf fun M a=>?_;dsimp only [cond_false] at a;rw [b0] at a;exact ⟨g.set 8 trivial,a⟩
 obtain ⟨rfl,rfl,rfl,rfl,rfl,rfl,rfl,rfl,_,_⟩:=g.all;have sW:D 7=true:=by assumption
 have wl:D 8=true:=by assumption
 clear g U V Y Z cY c8 cB N dK;rw [sW,wl] at a;have a:Inv w X ([.blk b3 (.cells #[.int .i64 t.kind,.int .i64 t.n,.string t.name,kv] ac)]++cj B G es2 (J+1) (s.put t.n s.next).inc cv) S M:=a;have a5:SlM es2 (s.put t.n s.next).inc:=a4;have a7:=a5.look r.2.1 r.2.2;have a8:(s.put t.n s.next).inc.at_ t.n=s.next:=by show (s.put t.n s.next).at_ t.n=_; rw [gQ hw.len r.2 r.2,ai rfl]
 rw [atV,a8,ai (by omega),bb (show 0<=s.next by omega)] at a7;refine ⟨fun D Cr wX xd wU Cm BW z4 mU th qS M=>Fx D 0 [qS=.pointer (some ⟨B,0,none⟩),th=.pointer (some ⟨B,0,none⟩),mU=.pointer (some ⟨B,0,none⟩),z4=.pointer (some ⟨B,0,none⟩),BW=.map (some G),Cm=.pointer (some ⟨b3,1,none⟩),wU=.int .i64 t.n,xd=.int .i64 s.next,wX=.agg (Ist.cells ⟨4,s.next,0,emptyB⟩).toArray,True]/\∃ u i j l,u=(cond (D 9) ((s.put t.n s.next).inc.emit ⟨4,s.next,0,emptyB⟩) (s.put t.n s.next).inc)/\SlM i u/\(D 9=false->i=es2/\j=J+1/\l=cv)/\Inv w X ([.blk b3 (.cells #[.int .i64 t.kind,.int .i64 t.n,.string t.name,kv] ac)]++cj B G i j u l) S M,⟨Fx.nil _ _,⟨_,es2,J+1,cv,rfl,a5,fun _=>⟨rfl,rfl,rfl⟩,a.draw⟩⟩,⟨?_,?_,?_,?_,?_,?_,?_,?_,?_,?_,trivial⟩,?_⟩;all_goals (intro D bm; intros; rename_i Cr wX xd wU Cm BW z4 mU th qS M C; have g:=C.1; obtain ⟨⟨U,V,Y,Z,cY,c8,cB,N,dK,eF,_⟩,⟨u,i,j,l,m,o,p,a⟩⟩:=C)
 ·exact ⟨g.set 0 rfl,⟨u,i,j,l,m,o,p,a⟩⟩
 ·exact ⟨g.set 1 rfl,⟨u,i,j,l,m,o,p,a⟩⟩
 ·obtain rfl:=V ‹_›;refine bj ?_;exact ⟨g.set 2 rfl,⟨u,i,j,l,m,o,p,a⟩⟩
 ·obtain rfl:=Y ‹_›;refine ay dG ?_;exact ⟨g.set 3 rfl,⟨u,i,j,l,m,o,p,a⟩⟩
 ·obtain rfl:=Z ‹_›;refine aJ a 1 ef rfl rfl ?_;exact ⟨g.set 4 rfl,⟨u,i,j,l,m,o,p,a⟩⟩
 ·refine ay aM ?_;exact ⟨g.set 5 rfl,⟨u,i,j,l,m,o,p,a⟩⟩
 ·obtain rfl:=c8 ‹_›;refine aJ a 0 az rfl rfl ?_;exact ⟨g.set 6 rfl,⟨u,i,j,l,m,o,p,a⟩⟩
 ·obtain rfl:=cY ‹_›;obtain rfl:=cB ‹_›;have a0:=o.look r.2.1 r.2.2;have a9:u.at_ t.n=s.next:=by rw [m]; cases D 9 <;> exact a8
  rw [atV,a9,ai (by omega),bb (show 0<=s.next by omega)] at a0;refine tV (c:=false) (ok:=true) (v:=.int .i64 s.next) (a.its (.blk G (.map i j)) (by simp)) ed eY qr a0 ?_;exact ⟨g.set 7 rfl,⟨u,i,j,l,m,o,p,a⟩⟩
 ·obtain rfl:=N ‹_›;refine jg ?_;exact ⟨g.set 8 rfl,⟨u,i,j,l,m,o,p,a⟩⟩
 ·obtain rfl:=U ‹_›;obtain rfl:=dK ‹_›;obtain ⟨a2,b1,b2⟩:=p bm;rw [a2,b1,b2] at a;rw [a2] at o;rw [bm] at m;have m:u=(s.put t.n s.next).inc:=m;rw [m] at a o;refine Run.call bt bp a (cR ⟨4,s.next,0,emptyB⟩ o (by show s.code.length<=_; omega)) fun v' I' S' M=>?_;rintro ⟨eS,i,j,l,rfl,o⟩ _ a;rw [eS] at a;obtain ⟨u,a3⟩:∃ u,u=(s.put t.n s.next).inc.emit ⟨4,s.next,0,emptyB⟩:=⟨_,rfl⟩
  rw [<- a3] at a o;have m:u=cond (aB D 9 9) ((s.put t.n s.next).inc.emit ⟨4,s.next,0,emptyB⟩) (s.put t.n s.next).inc:=a3;have p:aB D 9 9=false->i=es2/\j=J+1/\l=cv:=fun h=>by cases h
  exact ⟨g.set 9 (by first|assumption|trivial),⟨u,i,j,l,m,o,p,a⟩⟩
 obtain ⟨rfl,rfl,rfl,rfl,rfl,rfl,rfl,rfl,rfl,xN,_⟩:=g.all;have FO:D 9=true:=by assumption
 clear g U V Y Z cY c8 cB N dK eF;rw [FO] at m;have m:u=dJ s t:=by rw [m,e]; rfl
 subst m;exact ⟨_,_,_,rfl,a.sub (fF _ _),Ext.refl _ _ _,rfl,i,j,l,rfl,o⟩
end
end
section
open Go Go.RowKit
theorem vD (a:List T) (s:CS) (j:Nat) (h:j<a.length):bE (a.drop j) s=((bE (a.drop (j+1)) (if a[j].kind=3 then aY a[j] s else (s,-1)).1).1,(if a[j].kind=3 then aY a[j] s else (s,-1)).2::(bE (a.drop (j+1)) (if a[j].kind=3 then aY a[j] s else (s,-1)).1).2):=by
 rw [dr h,bE]
theorem hK (a:List T) (j:Nat) (h:j<a.length):bi (a.drop j)=bT a[j]+bi (a.drop (j+1)):=by
 rw [dr h,bi]
theorem uq (a:List T) (vs:List Int) (s:CS) (j:Nat) (h:j<a.length) (g:j<vs.length):cM s (a.drop j) (vs.drop j)=cM (if a[j].kind=3 then s.emit ⟨5,vs[j],0,emptyB⟩ else dJ s a[j]) (a.drop (j+1)) (vs.drop (j+1)):=by
 rw [dr h,dr g,cM]
section
attribute [local irreducible] Run CondV aw aI
def Ja (t:T):Prop:=∀ (S:af) (cs:List Value) (cb mb ck:Nat) (es:Array MapEntry) (s:CS) (cv:Value),RdT S cs t->Wf s->SlM es s->okG t->t.kind=3->s.sz+8 * bT t<=900000000->
 Tri Tryz.prog rb [.pointer (some ⟨cb,0,none⟩),.agg cs.toArray] (cj cb mb es ck s cv) S fun r I' S'=>r=.int .i64 (aY t s).2/\uf cb mb S (aY t s).1 I' S'
theorem Au:∀ t:T,Ja t:=by
 refine T.ind fun k n V l ih S cs cb mb ck es s cv h hw hm ht h3 hl=>?_;intro w a;obtain ⟨X,hX⟩:∃ X,X=bF (cj cb mb es ck s cv):=⟨_,rfl⟩
 rw [<- hX] at a ⊢;obtain ⟨kv,rfl,_,_,_,N⟩:=RdT.iff.1 h;have c9:g8 l:=ht.kids;simp only [T.name,T.kids,T.kind,T.n] at N ⊢;have d0:=N.le;simp only [maxLen] at d0;have d3:bT (.mk k n V l)=1+bi l:=by rw [bT]
 rw [d3] at hl;have d4:=hw.four;have e5:(l.length:Int)<=bi l:=by
  have:∀ ts:List T,(ts.length:Int)<=bi ts:=fun ts=>by
   induction ts with
   | nil=>simp [bi]
   | cons t ts ih=>rw [bi,bg]; have:=de t; omega
  exact this l
 have e6:0<=s.sz:=by unfold CS.sz; omega
 refine i6.2 ?_;dsimp only[i6,a6];refine bB a fun b3 w' a=>?_;have a:Inv w X ([.blk b3 (.cells #[.int .i64 k,.int .i64 n,.string V,kv] ac)]++cj cb mb es ck s cv) S w':=a.perm (dy (l₁:=[_]));refine ag a 0 rfl av ar rfl ?_;refine aL N ao ?_;refine AK a iX (n:=l.length) (by omega) (by omega) fun g c w' hc a=>?_;have a:Inv w X ([.blk b3 (.cells #[.int .i64 k,.int .i64 n,.string V,kv] ac),.blk g (.cells c ce)]++cj cb mb es ck s cv) S w':=a.perm ((dy (l₁:=[_])).cons _);refine ag a 0 rfl av ar rfl ?_;refine aL N ao ?_;obtain ⟨vs,c1⟩:∃ vs,vs=(bE l s).2:=⟨_,rfl⟩
 have e7:vs.length=l.length:=by rw [c1]; exact qn ..
 refine ⟨fun i w'=>∃ (j:Nat) (u:CS) (m:Array MapEntry) (q:Nat) (r:Value) (G:Array Value),j<=l.length/\i=.int .i64 j/\Wf u/\SlM m u/\u.sz+8 * bi (l.drop j)<=s.sz+8 * bi l/\bE l s=((bE (l.drop j) u).1,vs)/\vs.drop j=(bE (l.drop j) u).2/\G.size=l.length/\
   (∀ i (h:i<l.length) (h':i<vs.length),i<j->l[i].kind=3->bd G i 1=[.int .i64 vs[i]])/\
   Inv w X ([.blk b3 (.cells #[.int .i64 k,.int .i64 n,.string V,kv] ac),.blk g (.cells G ce)]++cj cb mb m q u r) S w',fun i _=>l.length - (intOf i).toNat,
   ⟨0,s,es,ck,cv,c,aQ _,rfl,hw,hm,by rw [dk]; omega,by rw [dk,c1],by rw [dk,dk,c1],by omega,fun i _ _ h=>absurd h (Nat.not_lt_zero _),a⟩,?_⟩
 intro i _ _ _ _ _ _ _ _ _ _ _ _ _ _ _ _ w';rintro ⟨j,u,m,q,r,G,hj,rfl,a0,b1,c7,O,U,c8,b2,a⟩;refine cq ?_;refine aR (fun b9=>?_) (fun b9=>?_)
 ·have C:j<l.length:=by omega
  have b0:j<vs.length:=by omega
  have a5:=ij c9 _ (cr C);have e8:=de l[j];have e9:=bW (l.drop (j+1));rw [hK l j C] at c7;rw [vD l u j C] at O U;simp only [dr b0,wY] at U;refine ⟨fun w'=>∃ (Z:CS) (m:Array MapEntry) (q:Nat) (r:Value) (G:Array Value),Wf Z/\SlM m Z/\Z.sz+8 * bi (l.drop (j+1))<=s.sz+8 * bi l/\bE l s=((bE (l.drop (j+1)) Z).1,vs)/\vs.drop (j+1)=(bE (l.drop (j+1)) Z).2/\G.size=l.length/\
   (∀ i (h:i<l.length) (h':i<vs.length),i<j+1->l[i].kind=3->bd G i 1=[.int .i64 vs[i]])/\
   Inv w X ([.blk b3 (.cells #[.int .i64 k,.int .i64 n,.string V,kv] ac),.blk g (.cells G ce)]++cj cb mb m q Z r) S w',?_,?_⟩
  ·refine dx a N ao ad C (fun _ _=>RdT.length) fun ds J=>?_;have c3:=J.length;refine aF a aZ fun b7 w' a=>?_;have a:=a.perm (M:=.blk b7 _::([.blk b3 (.cells #[.int .i64 k,.int .i64 n,.string V,kv] ac),.blk g (.cells G ce)]++cj cb mb m q u r)) (dy (l₁:=[_]));refine al a 0 rfl ad (by simpa using c3) rfl (by simpa using J.one) fun w' a=>?_;obtain ⟨c2,rfl,_,_,_,_⟩:=RdT.iff.1 J;have a:Inv w X ([.blk b7 (.cells #[.int .i64 l[j].kind,.int .i64 l[j].n,.string l[j].name,c2] ac),.blk b3 (.cells #[.int .i64 k,.int .i64 n,.string V,kv] ac),.blk g (.cells G ce)]++cj cb mb m q u r) S w':=a;refine ag a 0 rfl aV az rfl ?_;refine bo ?_;refine aR (fun D=>?_) (fun D=>?_)
   ·rw [ai D] at O U;have f1:=hH l[j] u;refine au a 0 ad rfl rfl ?_;refine Run.call iY iT a (ih _ (cr C) S _ cb mb q m u r J a0 b1 a5 D (by omega)) fun v' I' S' w'=>?_;rintro ⟨rfl,eS,a1,a7,a8,rfl,a2⟩ _ a;rw [eS] at a;refine aN el C ?_;refine di a 2 (n:=1) rfl (by decide +kernel) rfl (by omega) (by simp [Value.cells,Value.oneCell']) fun w' a=>?_;refine ⟨_,a1,a7,a8,_,(pn l[j] a0 a5).1.wf,a2,by omega,O,U.2,?_,fun i h1 h2 h3 h4=>?_,a.sub (jz _ _)⟩
    ·rw [ft _ _ _ (by simp [Value.cells]; omega)]; exact c8
    ·by_cases e:i=j
     ·subst e;have:=dQ (c:=G) (o:=0+i * 1) (vs:=[Value.int .i64 (aY l[i] u).2]) (by simp; omega);rw [ct,Nat.mul_one] at this;rw [U.1];simpa [Value.cells] using this
     ·have:=fc (c:=G) (o:=0+j * 1) (vs:=[Value.int .i64 (aY l[j] u).2]) (p:=i) (k:=1) (by simp; omega) (by simp; omega);rw [<- b2 i h1 h2 (by omega) h4];exact this
   ·rw [ah D] at O U;exact ⟨u,m,q,r,G,a0,b1,by omega,O,U.2,c8,fun i h1 h2 h3 h4=>b2 i h1 h2 (by
     have:i≠j:=fun e=>by subst e; exact D h4
     omega) h4,a.sub (jz _ _)⟩
  intro _ _ _ _ _ _ _ _ _ _ _ _ _ _ w';rintro ⟨Z,m,q,r,G,q1,q2,q3,q4,q5,q6,q7,a⟩;refine bz (by omega) ?_;exact ⟨⟨j+1,Z,m,q,r,G,C,rfl,q1,q2,q3,q4,q5,q6,q7,a⟩,by simp [intOf]; omega⟩
 have c4:j=l.length:=by omega
 subst c4;have c5:l.drop l.length=[]:=dV;rw [c5,bE] at O;rw [c5,bi] at c7;have d1:bE l s=(u,vs):=O;have f2:=a0.four;have e3:u.next<=900000000/\u.code.length<=900000000:=by
  have hb:u.sz<=900000000:=by omega
  unfold CS.sz at hb;omega
 have c6:=(oZ l s).2;rw [d1] at c6;have c6:u.sz+2 * l.length<=s.sz+8 * bi l:=c6;refine Run.call fk fg a (kw (s:=u) (by omega)) fun v' I' S' w'=>?_;rintro ⟨eS,rfl,rfl⟩ _ a;rw [eS] at a;refine ag a 0 rfl av ar rfl ?_;refine aL N ao ?_;refine ag a 0 rfl aW aO rfl ?_;refine zw ?_;refine Run.call bt bp a (cR (s:=u.inc) ⟨7,l.length,u.next,V⟩ b1 (by show u.code.length<=_; omega)) fun v' I' S' w'=>?_;rintro ⟨eS,a1,a7,a8,rfl,a2⟩ _ a;rw [eS] at a;refine ag a 0 rfl av ar rfl ?_;refine aL N ao ?_;obtain ⟨sf,a4⟩:∃ sf,sf=(u.emit ⟨7,l.length,u.next,V⟩).inc:=⟨_,rfl⟩
 have d6:Wf sf:=by rw [a4]; exact (a0.emit _).inc
 have f3:sf.sz=u.sz+2:=by rw [a4,qK,dc]; omega
 have d7:aY (.mk k n V l) s=(cM sf l vs,u.next):=by rw [aY,d1,a4]
 have a:Inv w X ([.blk b3 (.cells #[.int .i64 k,.int .i64 n,.string V,kv] ac),.blk g (.cells G ce)]++cj cb mb a1 a7 sf a8) S w':=by rw [a4]; exact a
 have a2:SlM a1 sf:=by rw [a4]; exact a2
 rw [d7];refine ⟨fun i w'=>∃ (j:Nat) (u:CS) (m:Array MapEntry) (q:Nat) (r:Value),j<=l.length/\i=.int .i64 j/\Wf u/\SlM m u/\u.sz<=sf.sz+2 * j/\cM sf l vs=cM u (l.drop j) (vs.drop j)/\
   Inv w X ([.blk b3 (.cells #[.int .i64 k,.int .i64 n,.string V,kv] ac),.blk g (.cells G ce)]++cj cb mb m q u r) S w',fun i _=>l.length - (intOf i).toNat,
   ⟨0,sf,a1,a7,a8,aQ _,rfl,d6,a2,by omega,by rw [dk,dk],a⟩,?_⟩
 intro i _ _ _ _ _ _ _ _ _ _ _ _ _ _ _ _ _ _ _ _ w';rintro ⟨j,B,m,q,r,hj,rfl,Y,a3,e2,a9,a⟩;refine cq ?_;refine aR (fun b9=>?_) (fun b9=>?_)
 ·have C:j<l.length:=by omega
  have b0:j<vs.length:=by omega
  have a5:=ij c9 _ (cr C);rw [uq l vs B j C b0] at a9;have f4:=Y.four;have d9:B.sz<=900000000:=by omega
  have e4:B.next<=900000000/\B.code.length<=900000000:=by
   have hb:=d9;unfold CS.sz at hb;omega
  refine ⟨fun w'=>∃ (Z:CS) (m:Array MapEntry) (q:Nat) (r:Value),Z=(if l[j].kind=3 then B.emit ⟨5,vs[j],0,emptyB⟩ else dJ B l[j])/\SlM m Z/\
   Inv w X ([.blk b3 (.cells #[.int .i64 k,.int .i64 n,.string V,kv] ac),.blk g (.cells G ce)]++cj cb mb m q Z r) S w',?_,?_⟩
  ·refine dx a N ao ad C (fun _ _=>RdT.length) fun ds J=>?_;have c3:=J.length;refine aF a aZ fun b7 w' a=>?_;have a:=a.perm (M:=.blk b7 _::([.blk b3 (.cells #[.int .i64 k,.int .i64 n,.string V,kv] ac),.blk g (.cells G ce)]++cj cb mb m q B r)) (dy (l₁:=[_]));refine al a 0 rfl ad (by simpa using c3) rfl (by simpa using J.one) fun w' a=>?_;obtain ⟨c2,rfl,_,_,_,_⟩:=RdT.iff.1 J;have a:Inv w X ([.blk b7 (.cells #[.int .i64 l[j].kind,.int .i64 l[j].n,.string l[j].name,c2] ac),.blk b3 (.cells #[.int .i64 k,.int .i64 n,.string V,kv] ac),.blk g (.cells G ce)]++cj cb mb m q B r) S w':=a;refine ag a 0 rfl aV az rfl ?_;refine bo ?_;refine aR (fun D=>?_) (fun D=>?_)
   ·refine aN el C ?_;have e1:=b2 j C b0 C D;refine aJ a 2 az rfl (by have:=aX e1 0 _ rfl; rw [ct,Nat.mul_one]; exact this) ?_;refine jg ?_;refine Run.call bt bp a (cR ⟨5,vs[j],0,emptyB⟩ a3 (by omega)) fun v' I' S' w'=>?_;rintro ⟨eS,b4,b5,b6,rfl,b8⟩ _ a;rw [eS] at a;exact ⟨_,b4,b5,b6,by rw [ai D],b8,a.sub (jz _ _)⟩
   ·refine au a 0 ad rfl rfl ?_;refine Run.call f0 ge a (kR J Y a3 a5 D (by omega)) fun v' I' S' w'=>?_;rintro ⟨eS,b4,b5,b6,rfl,b8⟩ _ a;rw [eS] at a;exact ⟨_,b4,b5,b6,by rw [ah D],b8,a.sub (jz _ _)⟩
  intro _ _ _ _ _ _ _ _ _ _ _ _ _ _ _ _ _ _ w';rintro ⟨Z,m,q,r,rfl,q2,a⟩;refine bz (by omega) ?_;have hx:Wf (if l[j].kind=3 then B.emit ⟨5,vs[j],0,emptyB⟩ else dJ B l[j])/\(if l[j].kind=3 then B.emit ⟨5,vs[j],0,emptyB⟩ else dJ B l[j]).sz<=B.sz+2:=by
   split
   ·exact ⟨Y.emit _,by rw [dc]; omega⟩
   ·rename_i d2
    exact ⟨(y9 Y a5 d2).wf,(ti B l[j]).2⟩
  exact ⟨⟨j+1,_,m,q,r,C,rfl,hx.1,q2,by have:=hx.2; omega,a9,a⟩,by simp [intOf]; omega⟩
 have c4:j=l.length:=by omega
 subst c4;have e0:cM B [] (vs.drop l.length)=B:=by rw [cM]; all_goals simp
 rw [c5,e0] at a9;rw [a9];exact ⟨_,_,_,rfl,a.sub (fF _ _),Ext.refl _ _ _,rfl,rfl,m,q,r,rfl,a3⟩
end
end
section
open Go Go.RowKit
theorem uG (a:List T) (s:CS) (j:Nat) (i:Int) (h:j<a.length):dT s i (a.drop j)=dT (eN s i a[j]) (i+1) (a.drop (j+1)):=by
 rw [dr h,dT]
theorem rp (a:List T) (s:CS) (j:Nat) (h:j<a.length):dP s (a.drop j)=dP (fE s a[j]) (a.drop (j+1)):=by
 rw [dr h,dP]
theorem fW:∀ a:List T,(a.length:Int)<=bi a
 | []=>by simp [bi]
 | t::a=>by rw [bi,bg]; have:=de t; have:=fW a; omega
section
attribute [local irreducible] Run CondV aw aI
set_option maxHeartbeats 1000000 in
theorem yQ {G O V:Nat} {es:Array MapEntry} {s:CS} {cv:Value} {t:T} {S:af} {cs:List Value} (h:RdT S cs t) (hw:Wf s) (hm:SlM es s) (ht:okG t) (hl:s.sz+8 * bT t<=900000000) :
  Tri Tryz.prog td [.pointer (some ⟨G,0,none⟩),.agg cs.toArray] (cj G O es V s cv) S fun _ I' S'=>uf G O S (fE s t) I' S':=by
 intro w a;obtain ⟨X,hX⟩:∃ X,X=bF (cj G O es V s cv):=⟨_,rfl⟩
 rw [<- hX] at a ⊢;have hR:=h;obtain ⟨kv,rfl,_,_,_,b0⟩:=RdT.iff.1 h;have d3:g8 t.kids:=ht.kids;have c2:=b0.le;simp only [maxLen] at c2;have d4:bT t=1+bi t.kids:=by cases t; rw [bT]; rfl
 rw [d4] at hl;have d6:=hw.four;have c3:=fW t.kids;have i0:0<=s.sz:=by unfold CS.sz; omega
 have e3:s.code.length<=900000000:=by
  have hb:s.sz<=900000000:=by omega
  unfold CS.sz at hb; omega
 refine jL.2 ?_;dsimp only[jL,a6];refine bB a fun b3 w' a=>?_;have a:Inv w X ([.blk b3 (.cells #[.int .i64 t.kind,.int .i64 t.n,.string t.name,kv] ac)]++cj G O es V s cv) S w':=a.perm (dy (l₁:=[_]));refine au a 0 ad rfl rfl ?_;refine Run.callPure un vi a (rl hR) fun w' a=>?_;refine aE (fun hc=>?_) (fun hc=>?_)
 ·refine zp ?_;refine Run.call bt bp a (cR ⟨13,0,0,emptyB⟩ hm (by omega)) fun v' I' S' w'=>?_;rintro ⟨Z,m,p,r,rfl,b2⟩ _ a;rw [Z] at a;have e:fE s t=s.emit ⟨13,0,0,emptyB⟩:=by rw [fE,ai hc]
  exact ⟨_,_,_,rfl,a.sub (fF _ _),Ext.refl _ _ _,rfl,m,p,r,by rw [e],by rw [e]; exact b2⟩
 have d7:fE s t=(dT s 0 t.kids).emit ⟨if dM t=true then 12 else 11,t.kids.length,0,t.name⟩:=by rw [fE,ah (by rw [hc]; decide)]
 rw [d7];refine ag a 0 rfl av ar rfl ?_;refine aL b0 ao ?_;refine ⟨fun i w'=>∃ (j:Nat) (l:CS) (m:Array MapEntry) (p:Nat) (r:Value),j<=t.kids.length/\i=.int .i64 j/\Wf l/\SlM m l/\l.sz+8 * bi (t.kids.drop j)<=s.sz+8 * bi t.kids/\dT s 0 t.kids=dT l j (t.kids.drop j)/\
   Inv w X ([.blk b3 (.cells #[.int .i64 t.kind,.int .i64 t.n,.string t.name,kv] ac)]++cj G O m p l r) S w',fun i _=>t.kids.length - (intOf i).toNat,
   ⟨0,s,es,V,cv,aQ _,rfl,hw,hm,by rw [dk]; omega,by rw [dk]; rfl,a⟩,?_⟩
 intro i _ _ _ _ _ _ _ _ _ _ e4 e5 e6 e7 e8 e9 f0 f1 f2 f3 f4 f5 f6 f7 f8 f9 g0 g1 g2 _ _ _ _ _ _ t7 t6 g3 g4 g5 g6 g7 g9 h4 h5 h6 h7 _ _ _ _ _ _ _ _ _ _ _ _ _ _ _ _ _ _ w';rintro ⟨j,l,es,V,cv,hj,rfl,a0,hm,b4,a8,a⟩;refine cq ?_;refine aR (fun d0=>?_) (fun d0=>?_)
 ·have a5:j<t.kids.length:=by omega
  obtain ⟨u,hu⟩:∃ u,u=t.kids[j]:=⟨_,rfl⟩
  have a7:okG u:=by rw [hu]; exact ij d3 _ (cr a5)
  have i1:=de u;have i2:=bW (t.kids.drop (j+1));rw [hK t.kids j a5,<- hu] at b4;rw [uG t.kids l j j a5,<- hu] at a8;have i3:=a0.four;have c5:l.next<=900000000/\l.code.length<=900000000:=by
   have hb:l.sz<=900000000:=by omega
   unfold CS.sz at hb;omega
  refine ⟨fun w'=>∃ (m:Array MapEntry) (p:Nat) (r:Value),SlM m (eN l j u)/\
   Inv w X ([.blk b3 (.cells #[.int .i64 t.kind,.int .i64 t.n,.string t.name,kv] ac)]++cj G O m p (eN l j u) r) S w',?_,?_⟩
  ·refine dx a b0 ao ad a5 (fun _ _=>RdT.length) fun ds a4=>?_;rw [<- hu] at a4;have d9:=a4.length;refine aF a aZ fun b5 w' a=>?_;have a:=a.perm (M:=.blk b5 _::([.blk b3 (.cells #[.int .i64 t.kind,.int .i64 t.n,.string t.name,kv] ac)]++cj G O es V l cv)) (dy (l₁:=[_]));refine al a 0 rfl ad (by simpa using d9) rfl (by simpa using a4.one) fun w' a=>?_;have e0:=a4;obtain ⟨a3,rfl,_,_,_,_⟩:=RdT.iff.1 a4;have a:Inv w X ([.blk b5 (.cells #[.int .i64 u.kind,.int .i64 u.n,.string u.name,a3] ac),.blk b3 (.cells #[.int .i64 t.kind,.int .i64 t.n,.string t.name,kv] ac)]++cj G O es V l cv) S w':=a;have fin:∀ (m:Array MapEntry) (p:Nat) (r:Value) (sn:CS) (w':World),sn=eN l j u->SlM m sn->Inv w X ([.blk b5 (.cells #[.int .i64 u.kind,.int .i64 u.n,.string u.name,a3] ac),.blk b3 (.cells #[.int .i64 t.kind,.int .i64 t.n,.string t.name,kv] ac)]++cj G O m p sn r) S w'->∃ (m:Array MapEntry) (p:Nat) (r:Value),SlM m (eN l j u)/\
     Inv w X ([.blk b3 (.cells #[.int .i64 t.kind,.int .i64 t.n,.string t.name,kv] ac)]++cj G O m p (eN l j u) r) S w':=fun m p r sn w' e h1 h2=>by
    subst e;exact ⟨m,p,r,h1,h2.sub (jz _ _)⟩
   refine ag a 0 rfl aV az rfl ?_;refine bo ?_;refine aR (fun h2=>?_) (fun h2=>?_)
   ·refine ag a 0 rfl aM az rfl ?_;refine gM ?_;refine Run.call bt bp a (cR ⟨10,u.n,j,emptyB⟩ hm (by omega)) fun v' I' S' w'=>?_;rintro ⟨Z,b6,b7,b8,rfl,a1⟩ _ a;rw [Z] at a;exact fin _ _ _ _ _ (by rw [eN,ai h2]) a1 a
   refine bo ?_;refine aR (fun h1=>?_) (fun h1=>?_)
   ·have U:0<=u.n/\u.n<26:=by
     rcases a7.kind with e|e|e
     ·exact e.2
     ·exact absurd e.1 h2
     ·have:=e.1; omega
    have c3:=hm.look U.1 U.2;refine ⟨fun D x7 x6 xk Ce wU Ah Az Cc wV Cr wX xd w_=>Fx D 0 [xd=.pointer (some ⟨G,0,none⟩),wX=.pointer (some ⟨G,0,none⟩),Cr=.pointer (some ⟨G,0,none⟩),wV=.map (some O),Cc=.pointer (some ⟨b5,1,none⟩),Az=.int .i64 u.n,Ah=.tuple #[.int .i64 (atV l u.n),.bool (decide (0<=l.at_ u.n))],wU=.tuple #[.int .i64 (atV l u.n),.bool (decide (0<=l.at_ u.n))],Ce=.int .i64 (atV l u.n),xk=.bool (decide (0<=l.at_ u.n)),x6=.int .i64 (atV l u.n),x7=.bool (decide (0<=l.at_ u.n))]/\Inv w X ([.blk b5 (.cells #[.int .i64 u.kind,.int .i64 u.n,.string u.name,a3] ac),.blk b3 (.cells #[.int .i64 t.kind,.int .i64 t.n,.string t.name,kv] ac)]++cj G O es V l cv) S w_,⟨Fx.nil _ _,a.draw⟩,⟨?_,?_,?_,?_,?_,?_,?_,?_,?_,?_,?_,?_,trivial⟩,?_⟩;all_goals (intro D bm; intros; rename_i x7 x6 xk Ce wU Ah Az Cc wV Cr wX xd w_ Y; have g:=Y.1; obtain ⟨⟨c9,cX,cZ,c4,cY,c8,cB,df,dK,eF,cW,dR,_⟩,a⟩:=Y)
    ·exact ⟨g.set 0 rfl,a⟩
    ·obtain rfl:=c9 ‹_›;refine bj ?_;exact ⟨g.set 1 rfl,a⟩
    ·obtain rfl:=cX ‹_›;refine ay dG ?_;exact ⟨g.set 2 rfl,a⟩
    ·obtain rfl:=cZ ‹_›;refine aJ a 2 ef rfl rfl ?_;exact ⟨g.set 3 rfl,a⟩
    ·refine ay aM ?_;exact ⟨g.set 4 rfl,a⟩
    ·obtain rfl:=cY ‹_›;refine aJ a 0 az rfl rfl ?_;exact ⟨g.set 5 rfl,a⟩
    ·obtain rfl:=c4 ‹_›;obtain rfl:=c8 ‹_›;refine tZ a 3 ed eY qr rfl c3 ?_;exact ⟨g.set 6 rfl,a⟩
    ·obtain rfl:=cB ‹_›;exact ⟨g.set 7 rfl,a⟩
    ·obtain rfl:=df ‹_›;refine aA rfl ?_;exact ⟨g.set 8 rfl,a⟩
    ·obtain rfl:=df ‹_›;refine aA rfl ?_;exact ⟨g.set 9 rfl,a⟩
    ·obtain rfl:=dK ‹_›;exact ⟨g.set 10 rfl,a⟩
    ·obtain rfl:=eF ‹_›;exact ⟨g.set 11 rfl,a⟩
    obtain ⟨rfl,rfl,rfl,rfl,rfl,rfl,rfl,rfl,rfl,rfl,rfl,rfl,_⟩:=g.all;clear g c9 cX cZ c4 cY c8 cB df dK eF cW dR;refine aR (fun h0=>?_) (fun h0=>?_)
    ·rw [show atV l u.n=l.at_ u.n from ai h0];refine gM ?_;refine Run.call bt bp a (cR ⟨9,l.at_ u.n,j,emptyB⟩ hm (by omega)) fun v' I' S' w'=>?_;rintro ⟨Z,b6,b7,b8,rfl,a1⟩ _ a;rw [Z] at a;exact fin _ _ _ _ _ (by rw [eN,ah h2,ai h1,ai h0]) a1 a
    have e:eN l j u=(l.put u.n l.next).inc.emit ⟨8,l.next,j,emptyB⟩:=by rw [eN,ah h2,ai h1,ah h0]
    have hf:Instr.findNow (.int .i64) (.int .i64 u.n) es.toList 0=some none:=by
     rcases hm.find U.1 U.2 with ⟨q,_⟩|⟨_,q⟩
     ·exact absurd q h0
     ·exact q
    have a9:=hm.push a0.len U h0 (v:=l.next) (by omega) V;generalize c7:es.push { key:=.int .i64 u.n,val:=.int .i64 l.next,born:=V }=a2 at a9;refine ⟨fun D Ix Ck Ac yd xh tK sC sD w_=>Fx D 0 [sD=.pointer (some ⟨G,0,none⟩),sC=.pointer (some ⟨G,0,none⟩),tK=.pointer (some ⟨G,0,none⟩),xh=.map (some O),yd=.pointer (some ⟨b5,1,none⟩),Ac=.int .i64 u.n,Ck=.pointer (some ⟨G,0,none⟩),Ix=.int .i64 l.next,True]/\Inv w X ([.blk b5 (.cells #[.int .i64 u.kind,.int .i64 u.n,.string u.name,a3] ac),.blk b3 (.cells #[.int .i64 t.kind,.int .i64 t.n,.string t.name,kv] ac)]++cj G O (cond (D 8) a2 es) (cond (D 8) (V+1) V) (cond (D 7) l.inc l) cv) S w_,⟨Fx.nil _ _,a.draw⟩,⟨?_,?_,?_,?_,?_,?_,?_,?_,?_,trivial⟩,?_⟩;all_goals (intro D bm; intros; rename_i Ix Ck Ac yd xh tK sC sD w_ Y; have g:=Y.1; obtain ⟨⟨c9,cX,cZ,c4,cY,c8,cB,df,dK,_⟩,a⟩:=Y)
    ·exact ⟨g.set 0 rfl,a⟩
    ·obtain rfl:=c9 ‹_›;refine bj ?_;exact ⟨g.set 1 rfl,a⟩
    ·obtain rfl:=cX ‹_›;refine ay dG ?_;exact ⟨g.set 2 rfl,a⟩
    ·obtain rfl:=cZ ‹_›;refine aJ a 2 ef rfl rfl ?_;exact ⟨g.set 3 rfl,a⟩
    ·refine ay aM ?_;exact ⟨g.set 4 rfl,a⟩
    ·obtain rfl:=cY ‹_›;refine aJ a 0 az rfl rfl ?_;exact ⟨g.set 5 rfl,a⟩
    ·exact ⟨g.set 6 rfl,a⟩
    ·obtain rfl:=cB ‹_›;rw [bm] at a;refine Run.call fk fg a (kw (s:=l) (by omega)) fun v' I' S' w_=>?_;rintro ⟨Z,rfl,rfl⟩ _ a;rw [Z] at a;exact ⟨g.set 7 rfl,a⟩
    ·obtain rfl:=c4 ‹_›;obtain rfl:=c8 ‹_›;obtain rfl:=df ‹_›;rw [bm] at a;refine uV a 3 ed eY rfl hf fun w_ a=>?_;dsimp only [cond_false] at a;rw [c7] at a;exact ⟨g.set 8 trivial,a⟩
    obtain ⟨rfl,rfl,rfl,rfl,rfl,rfl,rfl,rfl,_,_⟩:=g.all;have sW:D 7=true:=by assumption
    have wl:D 8=true:=by assumption
    clear g c9 cX cZ c4 cY c8 cB df dK;rw [sW,wl] at a;have a:Inv w X ([.blk b5 (.cells #[.int .i64 u.kind,.int .i64 u.n,.string u.name,a3] ac),.blk b3 (.cells #[.int .i64 t.kind,.int .i64 t.n,.string t.name,kv] ac)]++cj G O a2 (V+1) (l.put u.n l.next).inc cv) S w_:=a;have a1:SlM a2 (l.put u.n l.next).inc:=a9;have e1:(l.put u.n l.next).inc.at_ u.n=l.next:=by show (l.put u.n l.next).at_ u.n=_; rw [gQ a0.len U U,ai rfl]
    refine ⟨fun D IO Ii H8 Ir Ie Ih Iw Ig Iy IC JO w_=>Fx D 0 [JO=.pointer (some ⟨G,0,none⟩),IC=.pointer (some ⟨G,0,none⟩),Iy=.pointer (some ⟨G,0,none⟩),Ig=.pointer (some ⟨G,0,none⟩),Iw=.map (some O),Ih=.pointer (some ⟨b5,1,none⟩),Ie=.int .i64 u.n,Ir=.int .i64 l.next,H8=.int .i64 j,Ii=.agg (Ist.cells ⟨8,l.next,j,emptyB⟩).toArray,True]/\∃ N m p r,N=(cond (D 10) ((l.put u.n l.next).inc.emit ⟨8,l.next,j,emptyB⟩) (l.put u.n l.next).inc)/\SlM m N/\(D 10=false->m=a2/\p=V+1/\r=cv)/\Inv w X ([.blk b5 (.cells #[.int .i64 u.kind,.int .i64 u.n,.string u.name,a3] ac),.blk b3 (.cells #[.int .i64 t.kind,.int .i64 t.n,.string t.name,kv] ac)]++cj G O m p N r) S w_,⟨Fx.nil _ _,⟨_,a2,V+1,cv,rfl,a1,fun _=>⟨rfl,rfl,rfl⟩,a.draw⟩⟩,⟨?_,?_,?_,?_,?_,?_,?_,?_,?_,?_,?_,trivial⟩,?_⟩;all_goals (intro D bm; intros; rename_i IO Ii H8 Ir Ie Ih Iw Ig Iy IC JO w_ Y; have g:=Y.1; obtain ⟨⟨c9,cX,cZ,c4,cY,c8,cB,df,dK,eF,cW,_⟩,⟨N,m,p,r,B,C,J,a⟩⟩:=Y)
    ·exact ⟨g.set 0 rfl,⟨N,m,p,r,B,C,J,a⟩⟩
    ·exact ⟨g.set 1 rfl,⟨N,m,p,r,B,C,J,a⟩⟩
    ·obtain rfl:=cX ‹_›;refine bj ?_;exact ⟨g.set 2 rfl,⟨N,m,p,r,B,C,J,a⟩⟩
    ·obtain rfl:=cZ ‹_›;refine ay dG ?_;exact ⟨g.set 3 rfl,⟨N,m,p,r,B,C,J,a⟩⟩
    ·obtain rfl:=c4 ‹_›;refine aJ a 2 ef rfl rfl ?_;exact ⟨g.set 4 rfl,⟨N,m,p,r,B,C,J,a⟩⟩
    ·refine ay aM ?_;exact ⟨g.set 5 rfl,⟨N,m,p,r,B,C,J,a⟩⟩
    ·obtain rfl:=c8 ‹_›;refine aJ a 0 az rfl rfl ?_;exact ⟨g.set 6 rfl,⟨N,m,p,r,B,C,J,a⟩⟩
    ·obtain rfl:=cY ‹_›;obtain rfl:=cB ‹_›;have b1:=C.look U.1 U.2;have c6:N.at_ u.n=l.next:=by rw [B]; cases D 10 <;> exact e1
     rw [atV,c6,ai (by omega),bb (show 0<=l.next by omega)] at b1;refine tV (c:=false) (ok:=true) (v:=.int .i64 l.next) (a.its (.blk O (.map m p)) (by simp)) ed eY qr b1 ?_;exact ⟨g.set 7 rfl,⟨N,m,p,r,B,C,J,a⟩⟩
    ·exact ⟨g.set 8 rfl,⟨N,m,p,r,B,C,J,a⟩⟩
    ·obtain rfl:=df ‹_›;obtain rfl:=dK ‹_›;refine gM ?_;exact ⟨g.set 9 rfl,⟨N,m,p,r,B,C,J,a⟩⟩
    ·obtain rfl:=c9 ‹_›;obtain rfl:=eF ‹_›;obtain ⟨b9,d1,d2⟩:=J bm;rw [b9,d1,d2] at a;rw [b9] at C;rw [bm] at B;have B:N=(l.put u.n l.next).inc:=B;rw [B] at a C;refine Run.call bt bp a (cR ⟨8,l.next,j,emptyB⟩ C (by show l.code.length<=_; omega)) fun v' I' S' w_=>?_;rintro ⟨Z,m,p,r,rfl,C⟩ _ a;rw [Z] at a;obtain ⟨N,c1⟩:∃ N,N=(l.put u.n l.next).inc.emit ⟨8,l.next,j,emptyB⟩:=⟨_,rfl⟩
     rw [<- c1] at a C;have B:N=cond (aB D 10 10) ((l.put u.n l.next).inc.emit ⟨8,l.next,j,emptyB⟩) (l.put u.n l.next).inc:=c1;have J:aB D 10 10=false->m=a2/\p=V+1/\r=cv:=fun h=>by cases h
     exact ⟨g.set 10 (by first|assumption|trivial),⟨N,m,p,r,B,C,J,a⟩⟩
    obtain ⟨rfl,rfl,rfl,rfl,rfl,rfl,rfl,rfl,rfl,rfl,Dp,_⟩:=g.all;have CZ:D 10=true:=by assumption
    clear g c9 cX cZ c4 cY c8 cB df dK eF cW;rw [CZ] at B;exact fin _ _ _ _ _ (by rw [B,e]; rfl) C a
   have h3:u.kind=3:=by have:=a7.kind; omega
   have i4:=hH u l;refine au a 0 ad rfl rfl ?_;refine Run.call iY iT a (Au u S _ G O V es l cv e0 a0 hm a7 h3 (by omega)) fun v' I' S' w'=>?_;rintro ⟨rfl,Z,a2,h8,h9,rfl,a9⟩ _ a;rw [Z] at a;have hx:=(pn u a0 a7).1.wf.four;refine gM ?_;refine Run.call bt bp a (cR ⟨9,(aY u l).2,j,emptyB⟩ a9 (by
    have hb:(aY u l).1.sz<=900000000:=by omega
    unfold CS.sz at hb;omega)) fun v' I' S' w'=>?_
   rintro ⟨Z,b6,b7,b8,rfl,a1⟩ _ a;rw [Z] at a;exact fin _ _ _ _ _ (by rw [eN,ah h2,ah h1]) a1 a
  intro _ _ _ _ _ _ _ _ _ _ _ _ _ _ _ _ _ _ _ _ _ _ _ _ _ _ _ _ _ _ _ _ _ _ _ _ _ _ _ _ _ _ _ _ _ _ _ _ _ _ _ _ _ _ _ _ _ _ _ _ _ _ _ w';rintro ⟨m,p,r,q2,a⟩;refine bz (by omega) ?_;have hz:=(ze l j u).2;exact ⟨⟨j+1,_,m,p,r,a5,rfl,(Dz a0 j a7).wf,q2,by omega,a8,a⟩,by simp [intOf]; omega⟩
 have e2:j=t.kids.length:=by omega
 subst e2;rw [dV,dT] at a8;rw [dV,bi] at b4;rw [a8];have i5:=a0.four;have c5:l.code.length<=900000000:=by
  have hb:l.sz<=900000000:=by omega
  unfold CS.sz at hb;omega
 refine ⟨fun v w'=>v=.int .i64 (if dM t=true then 12 else 11)/\Inv w X ([.blk b3 (.cells #[.int .i64 t.kind,.int .i64 t.n,.string t.name,kv] ac)]++cj G O es V l cv) S w',?_,?_⟩
 ·refine au a 0 ad rfl rfl ?_;refine Run.callPure ko jX a (jb hR) fun w' a=>?_;refine aE (fun hb=>?_) (fun hb=>?_)
  ·exact ⟨by rw [ai hb],a⟩
  ·exact ⟨by rw [ah (by rw [hb]; decide)],a⟩
 intro o _ _ w';rintro ⟨rfl,a⟩;refine ag a 0 rfl av ar rfl ?_;refine aL b0 ao ?_;refine ag a 0 rfl aW aO rfl ?_;refine FV ?_;refine Run.call bt bp a (cR ⟨if dM t=true then 12 else 11,t.kids.length,0,t.name⟩ hm (by omega)) fun v' I' S' w'=>?_;rintro ⟨Z,m,p,r,rfl,b2⟩ _ a;rw [Z] at a;exact ⟨_,_,_,rfl,a.sub (fF _ _),Ext.refl _ _ _,rfl,m,p,r,rfl,b2⟩
theorem zj {q u C:Nat} {B:Array MapEntry} {s:CS} {cv v:Value} {g:List T} {S:af} (h:RdSl S 4 (RdT S) v g) (hw:Wf s) (Y:SlM B s) (ht:g8 g) (hl:s.sz+8 * bi g<=800000000) :
  Tri Tryz.prog sY [.pointer (some ⟨q,0,none⟩),v] (cj q u B C s cv) S fun r I' S'=>S'=S/\∃ l o,I'=cj q u l o ((dP s g).emit ⟨14,0,0,emptyB⟩) r:=by
 intro w a;obtain ⟨X,hX⟩:∃ X,X=bF (cj q u B C s cv):=⟨_,rfl⟩
 rw [<- hX] at a ⊢;have O:=h.le;simp only [maxLen] at O;have a5:=hw.four;have a9:=fW g;refine jB.2 ?_;dsimp only[jB,a6];refine aL h ao ?_;refine ⟨fun i w'=>∃ (j:Nat) (m:CS) (l:Array MapEntry) (o:Nat) (D:Value),j<=g.length/\i=.int .i64 j/\Wf m/\SlM l m/\m.sz+8 * bi (g.drop j)<=s.sz+8 * bi g/\dP s g=dP m (g.drop j)/\
   Inv w X (cj q u l o m D) S w',fun i _=>g.length - (intOf i).toNat,
   ⟨0,s,B,C,cv,aQ _,rfl,hw,Y,by rw [dk]; omega,by rw [dk],a⟩,?_⟩
 intro i _ _ _ _ _ _ _ _ w';rintro ⟨j,m,B,C,cv,hj,rfl,G,Y,N,t,a⟩;refine cq ?_;refine aR (fun a4=>?_) (fun a4=>?_)
 ·have p:j<g.length:=by omega
  have U:=ij ht _ (cr p);have b0:=bW (g.drop (j+1));rw [hK g j p] at N;rw [rp g m j p] at t;refine dx a h ao ad p (fun _ _=>RdT.length) fun ds J=>?_;have V:=J.length;refine aF a aZ fun b5 w' a=>?_;have a:=a.perm (M:=.blk b5 _::(cj q u B C m cv)) (dy (l₁:=[_]));refine al a 0 rfl ad (by simpa using V) rfl (by simpa using J.one) fun w' a=>?_;have a:Inv w X ([.blk b5 (.cells ds.toArray ac)]++cj q u B C m cv) S w':=a;refine au a 0 ad rfl (by simpa using V) ?_;refine Run.call qU ql a (yQ J G Y U (by omega)) fun v' I' S' w'=>?_;rintro ⟨Z,a0,a1,a2,rfl,a3⟩ _ a;rw [Z] at a;refine bz (by omega) ?_;have hz:=(B7 m g[j]).2;exact ⟨⟨j+1,_,a0,a1,a2,p,rfl,(HV G U).wf,a3,by omega,t,a.sub (jz _ _)⟩,by simp [intOf]; omega⟩
 have a7:j=g.length:=by omega
 subst a7;rw [dV,dP] at t;rw [dV,bi] at N;rw [t];have b1:=G.four;refine zp ?_;have a:Inv w X ([]++cj q u B C m cv) S _:=a;refine Run.call bt bp a (cR ⟨14,0,0,emptyB⟩ Y (by
  have hb:m.sz<=900000000:=by omega
  unfold CS.sz at hb;omega)) fun v' I' S' w'=>?_
 rintro ⟨Z,l,o,D,rfl,a8⟩ _ a;rw [Z] at a;have a:Inv w X (cj q u l o (m.emit ⟨14,0,0,emptyB⟩) D) S w':=a;refine bj ?_;refine ag a 0 rfl j3 kA rfl ?_;exact ⟨_,_,_,rfl,a,Ext.refl _ _ _,rfl,l,o,rfl⟩
end
end
section
open Go Go.RowKit
theorem RdSl.single {α:Type} {S:af} {k b:Nat} {R:List Value->α->Prop} {cs:List Value} {x:α} {E:TypeId} {a:Nat × Nat} (g:S b=some (.cells cs.toArray E a)) (j:cs.length=k) (h:R cs x):RdSl S k R (.slice (some ⟨b,0,none⟩) 1 1) [x]:=by
 refine ⟨some ⟨b,0,none⟩,1,rfl,a7 _,by simp [maxLen],.inr ⟨b,0,cs.toArray,E,a,rfl,g,fun i l=>?_⟩⟩;have:i=0:=by simp at l; omega
 subst this;have e:bd cs.toArray (0+0 * k) k=cs:=by
  rw [bd,jh,ct,dk,<- j,mS]
 rw [e];exact h
def apC {α:Type} (w0:World) (X:List Nat) (A:List Item) (T:TypeId) (k:Nat) (R:af->List Value->α->Prop) (xs:List α) (y:α) (S:af) (v0 v1 v2:Value) (w:World):Nat->Prop
 | 0=>Inv w0 X A S w
 | 1=>Inv w0 X (A++[ax v0 T k []]) S w
 | 2=>∃ css,Rows k (R S) css xs/\Inv w0 X (A++[ax v1 T k css]) S w
 | _=>RdSl S k (R S) v2 (xs++[y])/\Inv w0 X A S w
section
variable {α:Type} {w0 w:World} {X:List Nat} {A:List Item} {T:TypeId} {k n:Nat} {R:af->List Value->α->Prop} {xs:List α} {y:α} {S:af} {v0 v1 v2:Value}
theorem apC.ex (hR:∀ S S' cs x,Sle S S'->R S cs x->R S' cs x) (h:apC w0 X A T k R xs y S v0 v1 v2 w n) :
  ∃ B,Inv w0 X (A++B) S w/\∀ A' S1 g,Sle S S1->Inv w0 X (A'++B) S1 g->apC w0 X A' T k R xs y S1 v0 v1 v2 g n:=by
 match n,h with
 | 0,h=>exact ⟨[],by rw [cS]; exact h,fun A' S1 g _ a=>by rw [cS] at a; exact a⟩
 | 1,h=>exact ⟨_,h,fun A' S1 g _ a=>a⟩
 | 2,⟨css,h1,h2⟩=>exact ⟨_,h2,fun A' S1 g i a=>⟨css,h1.monoR fun _ _ h=>hR _ _ _ _ i h,a⟩⟩
 | n+3,⟨h1,h2⟩=>exact ⟨[],by rw [cS]; exact h2,fun A' S1 g i a=>⟨h1.mono i fun _ _ h=>hR _ _ _ _ i h,by rw [cS] at a; exact a⟩⟩
theorem apC.inv (h:apC w0 X A T k R xs y S v0 v1 v2 w n):∃ B,Inv w0 X (A++B) S w:=by
 match n,h with
 | 0,h=>exact ⟨[],by rw [cS]; exact h⟩
 | 1,h=>exact ⟨_,h⟩
 | 2,⟨css,h1,h2⟩=>exact ⟨_,h2⟩
 | n+3,⟨h1,h2⟩=>exact ⟨[],by rw [cS]; exact h2⟩
end
section
variable {α:Type} {P:Program} {w0 w:World} {X:List Nat} {A:List Item} {k:Nat} {R:af->List Value->α->Prop} {xs:List α} {y:α} {S:af} {v0 v1 v2:Value} {K:Value->World->Prop}
attribute [local irreducible] Run
theorem KC {T e:TypeId} {a:Nat} {z:Value} (h:apC w0 X A e k R xs y S v0 v1 v2 w 0) (g:fY P T=some (e,k,a,z))
  (hk:∀ v w',apC w0 X A e k R xs y S v v1 v2 w' 1->K v w'):Run P (be T 0 []) w K:=by
 have h:Inv w0 X A S w:=h;exact ey h g fun v w' i=>hk v w' i
theorem Ku {T ty e:TypeId} {a:Nat} {z u:Value} {cs:List Bool} (h:apC w0 X A e k R xs y S v0 v1 v2 w 1) (m:fY P T=some (e,k,a,z)) (i:0<k) (o:RdSl S k (R S) u xs)
  (g:∀ cs y,R S cs y->cs.length=k) (p:∀ cs y,R S cs y->∀ c∈cs,c.oneCell'=true) (q:xs.length<=4294967296) (j:a<=32768)
  (hk:∀ v w',apC w0 X A e k R xs y S v0 v v2 w' 2->K v w'):Run P (bn .append #[T,T] ty cs [v0,u]) w K:=by
 have h:Inv w0 X (A++[ax v0 e k []]) S w:=h;refine gq (css:=[]) h A.length m i (by simp) o g p (by simpa using q) j fun v w' css hR l=>?_;refine hk v w' ⟨css,hR,?_⟩;have e:(A++[ax v0 e k []]).set A.length (ax v e k ([]++css))=A++[ax v e k css]:=by simp
 rw [e] at l;exact l
theorem Kw {T ty e:TypeId} {g:Nat} {z u:Value} {cs:List Bool} (hR:∀ S S' cs x,Sle S S'->R S cs x->R S' cs x) (h:apC w0 X A e k R xs y S v0 v1 v2 w 2) (t:fY P T=some (e,k,g,z)) (m:0<k) (B:RdSl S k (R S) u [y])
  (i:∀ cs y,R S cs y->cs.length=k) (C:∀ cs y,R S cs y->∀ c∈cs,c.oneCell'=true) (G:xs.length+1<=4294967296) (o:g<=32768)
  (hk:∀ v S' w',Ext w0.heap.size X S S'->apC w0 X A e k R xs y S' v0 v1 v w' 3->K v w'):Run P (bn .append #[T,T] ty cs [v1,u]) w K:=by
 obtain ⟨css,j,h⟩:=h;have D:=j.hc;refine gq (css:=css) h A.length t m (by simp) B i C (by simp; omega) o fun v w' a p l=>?_;have e:(A++[ax v1 e k css]).set A.length (ax v e k (css++a))=A++[ax v e k (css++a)]:=by simp
 rw [e] at l;obtain ⟨S',r,q,l⟩:=Inv.lendExt l;exact hk v S' w' r ⟨RowRd.rows ((j.append p).monoR fun _ _ h=>hR _ _ _ _ r.1 h) q,l⟩
end
end
section
open Go Go.RowKit
def nwP (w0:World) (X:List Nat) (A:List Item) (T:TypeId) (z:Array Value) (Q:af->Array Value->Prop) (da ds:Bool) (x:Value) (S:af) (w:World):Prop:=
 ∃ b q,(da=true->x=.pointer (some ⟨b,0,none⟩))/\(ds=true->da=true)/\(ds=false->q=z)/\(ds=true->Q S q)/\Inv w0 X (A++cond da [.blk b (.cells q T)] []) S w
section
variable {w0 w:World} {X:List Nat} {A:List Item} {T:TypeId} {z:Array Value} {Q:af->Array Value->Prop} {da ds:Bool} {x:Value} {S:af}
theorem nwP.mk (h:Inv w0 X A S w) (x:Value):nwP w0 X A T z Q false false x S w:=⟨0,z,fun h=>(by cases h),fun h=>(by cases h),fun _=>rfl,fun h=>(by cases h),by rw [cond_false,cS]; exact h⟩
theorem nwP.ex (a:∀ S S' q,Sle S S'->Q S q->Q S' q) (h:nwP w0 X A T z Q da ds x S w):∃ B,Inv w0 X (A++B) S w/\∀ S' w',Sle S S'->Inv w0 X (A++B) S' w'->nwP w0 X A T z Q da ds x S' w':=by
 obtain ⟨b,q,j,l,m,o,p⟩:=h;exact ⟨_,p,fun S' w' g i=>⟨b,q,j,l,m,fun h=>a _ _ _ g (o h),i⟩⟩
theorem nwP.inv (h:nwP w0 X A T z Q da ds x S w):∃ B,Inv w0 X (A++B) S w:=by
 obtain ⟨b,q,g,i,j,l,a⟩:=h;exact ⟨_,a⟩
theorem nwP.fin (h:nwP w0 X A T z Q true true x S w):∃ b q,x=.pointer (some ⟨b,0,none⟩)/\Q S q/\Inv w0 X (A++[.blk b (.cells q T)]) S w:=by
 obtain ⟨b,q,a,j,l,g,i⟩:=h;exact ⟨b,q,a rfl,g rfl,i⟩
end
section
variable {P:Program} {w0 w:World} {X:List Nat} {A:List Item} {T:TypeId} {z:Array Value} {Q:af->Array Value->Prop} {da ds:Bool} {x:Value} {S:af} {K:Value->World->Prop}
attribute [local irreducible] Run
theorem nwP.alloc {ty:TypeId} {j:Value} (h:nwP w0 X A T z Q da ds x S w) (a:da=false) (m:fB P T=some j) (g:j.cells=z) (hk:∀ v w',nwP w0 X A T z Q true ds v S w'->K v w'):Run P (sOp (.alloc T) ty) w K:=by
 obtain ⟨b,q,r,p,t,u,l⟩:=h;have i:ds=false:=bS.2 fun e=>by rw [p e] at a; cases a
 rw [a,cond_false,cS] at l;refine aF l m fun b w' o=>hk _ w' ⟨b,z,fun _=>rfl,fun _=>rfl,fun _=>rfl,fun e=>(by rw [i] at e; cases e),?_⟩;rw [cond_true,<- g];exact o
theorem nwP.store {ty:TypeId} {n:Nat} {cs:Array Value} (h:nwP w0 X A T z Q da ds x S w) (a:da=true) (l:ds=false) (m:kr P T=some n) (hn:cs.size=n) (o:z.size=n) (p:∀ u∈cs.toList,u.oneCell'=true) (r:Q S cs)
  (hk:∀ w',nwP w0 X A T z Q da true x S w'->K undef w'):Run P (sOp (.store T (.const x) (.const (.agg cs))) ty) w K:=by
 obtain ⟨b,q,i,B,t,C,j⟩:=h;rw [a,cond_true,t l] at j;rw [i a];refine al (E:=T) j A.length (by simp) m hn o p fun w' g=>?_;have e:(A++[Item.blk b (.cells z T)]).set A.length (.blk b (.cells cs T))=A++[.blk b (.cells cs T)]:=by simp
 rw [e] at g;exact hk w' ⟨b,cs,i,fun _=>a,fun e=>(by cases e),fun _=>r,by rw [a]; exact g⟩
end
def apP {α:Type} (w0:World) (X:List Nat) (A:Value->List Item) (z:Value) (T:TypeId) (k:Nat) (R:af->List Value->α->Prop) (xs:List α) (y:α) (S0:af) (d5 d8:Bool) (v0 v1 v5 v2:Value) (w:World) (n:Nat):Prop:=
 ∃ S1 cv,Ext w0.heap.size X S0 S1/\(d5=true->RdSl S1 k (R S1) v5 [y])/\(d8=false->cv=z)/\(d8=true->RdSl S1 k (R S1) cv (xs++[y]))/\apC w0 X (A cv) T k R xs y S1 v0 v1 v2 w n
section
variable {α:Type} {P:Program} {w0 w:World} {X:List Nat} {A:Value->List Item} {z:Value} {e:TypeId} {k:Nat} {R:af->List Value->α->Prop} {xs:List α} {y:α} {S0:af} {d5 d8:Bool} {v0 v1 v5 v2:Value} {n:Nat} {K:Value->World->Prop}
attribute [local irreducible] Run
theorem apP.mk {S:af} (h:Inv w0 X (A z) S w) (v0 v1 v5 v2:Value):apP w0 X A z e k R xs y S false false v0 v1 v5 v2 w 0:=⟨S,z,Ext.refl _ _ _,fun h=>(by cases h),fun _=>rfl,fun h=>(by cases h),h⟩
theorem apP.inv (h:apP w0 X A z e k R xs y S0 d5 d8 v0 v1 v5 v2 w n):∃ S1 cv B,Ext w0.heap.size X S0 S1/\Inv w0 X (A cv++B) S1 w:=by
 obtain ⟨S1,cv,a,j,l,m,g⟩:=h;obtain ⟨B,i⟩:=g.inv;exact ⟨S1,cv,B,a,i⟩
theorem apP.inv0 (h:apP w0 X A z e k R xs y S0 d5 d8 v0 v1 v5 v2 w n) (g:d8=false):∃ S1 B,Ext w0.heap.size X S0 S1/\Inv w0 X (A z++B) S1 w:=by
 obtain ⟨S1,cv,i,m,j,o,l⟩:=h;obtain ⟨B,a⟩:=l.inv;rw [j g] at a;exact ⟨S1,B,i,a⟩
theorem apP.fin (h:apP w0 X A z e k R xs y S0 d5 true v0 v1 v5 v2 w 3):∃ S1 cv,Ext w0.heap.size X S0 S1/\RdSl S1 k (R S1) cv (xs++[y])/\Inv w0 X (A cv) S1 w:=by
 obtain ⟨S1,cv,a,j,l,g,i⟩:=h;exact ⟨S1,cv,a,g rfl,i.2⟩
theorem KF {T:TypeId} {a:Nat} {g:Value} (h:apP w0 X A z e k R xs y S0 d5 d8 v0 v1 v5 v2 w 0) (i:fY P T=some (e,k,a,g))
  (hk:∀ v w',apP w0 X A z e k R xs y S0 d5 d8 v v1 v5 v2 w' 1->K v w'):Run P (be T 0 []) w K:=by
 obtain ⟨S1,cv,j,l,m,o,p⟩:=h;exact KC p i fun v w' h=>hk v w' ⟨S1,cv,j,l,m,o,h⟩
theorem Kz {T ty:TypeId} {a:Nat} {m u:Value} {cs:List Bool} (hR:∀ S S' cs x,Sle S S'->R S cs x->R S' cs x) (h:apP w0 X A z e k R xs y S0 d5 d8 v0 v1 v5 v2 w 1) (o:fY P T=some (e,k,a,m)) (i:0<k) (p:RdSl S0 k (R S0) u xs)
  (g:∀ S cs y,R S cs y->cs.length=k) (q:∀ S cs y,R S cs y->∀ c∈cs,c.oneCell'=true) (r:xs.length<=4294967296) (j:a<=32768)
  (hk:∀ v w',apP w0 X A z e k R xs y S0 d5 d8 v0 v v5 v2 w' 2->K v w'):Run P (bn .append #[T,T] ty cs [v0,u]) w K:=by
 obtain ⟨S1,cv,l,t,B,C,D⟩:=h;exact Ku D o i (p.mono l.1 fun _ _ h=>hR _ _ _ _ l.1 h) (g S1) (q S1) r j fun v w' h=>hk v w' ⟨S1,cv,l,t,B,C,h⟩
theorem KG {T:TypeId} {o:Nat} {C:Value} {cs:List Value} (hR:∀ S S' cs x,Sle S S'->R S cs x->R S' cs x) (h:apP w0 X A z e k R xs y S0 d5 d8 v0 v1 v5 v2 w n) (D:fY P T=some (e,k,o,C)) (p:0<k) (g:k<=65536)
  {v:Value} (i:v.cells=cs.toArray) (q:R S0 cs y) (j:∀ S cs y,R S cs y->cs.length=k)
  (hk:∀ v w',apP w0 X A z e k R xs y S0 true d8 v0 v1 v v2 w' n->K v w'):Run P (be T 1 [(0,v)]) w K:=by
 obtain ⟨S1,cv,r,N,G,J,M⟩:=h;obtain ⟨B,l,a⟩:=M.ex hR;have u:=j _ _ _ q;refine dI l D (by rw [i]; simpa using u) g p fun b w' l=>?_;obtain ⟨S2,l,m,t⟩:=Inv.pub1 l;rw [i] at t;exact hk _ w' ⟨S2,cv,r.trans m,fun _=>RdSl.single t u (hR _ _ _ _ (r.trans m).1 q),G,fun e=>(J e).mono m.1 fun _ _ h=>hR _ _ _ _ m.1 h,a _ S2 w' m.1 l⟩
theorem Kx {T ty:TypeId} {a:Nat} {o:Value} {cs:List Bool} (hR:∀ S S' cs x,Sle S S'->R S cs x->R S' cs x) (h:apP w0 X A z e k R xs y S0 d5 d8 v0 v1 v5 v2 w 2) (p:d5=true) (q:fY P T=some (e,k,a,o)) (j:0<k)
  (g:∀ S cs y,R S cs y->cs.length=k) (r:∀ S cs y,R S cs y->∀ c∈cs,c.oneCell'=true) (t:xs.length+1<=4294967296) (l:a<=32768)
  (hk:∀ v w',apP w0 X A z e k R xs y S0 d5 d8 v0 v1 v5 v w' 3->K v w'):Run P (bn .append #[T,T] ty cs [v1,v5]) w K:=by
 obtain ⟨S1,cv,u,m,B,C,D⟩:=h;exact Kw hR D q j (m p) (g S1) (r S1) t l fun v S' w' i h=>hk v w' ⟨S',cv,u.trans i,fun e=>(m e).mono i.1 fun _ _ h=>hR _ _ _ _ i.1 h,B,fun e=>(C e).mono i.1 fun _ _ h=>hR _ _ _ _ i.1 h,h⟩
theorem KE {U ty E:TypeId} {b d:Nat} {A0:List Item} {C:Value->Array Value} (l:∀ v,A v=A0++[.blk b (.cells (C v) E)]) (h:apP w0 X A z e k R xs y S0 d5 d8 v0 v1 v5 v2 w 3) (r:iv P U=true)
  (t:∀ v q,(C v).setIfInBounds d q=C q) (g:∀ v,d<(C v).size) (hk:∀ w',apP w0 X A z e k R xs y S0 d5 true v0 v1 v5 v2 w' 3->K undef w') :
  Run P (sOp (.store U (.const (.pointer (some ⟨b,d,none⟩))) (.const v2)) ty) w K:=by
 obtain ⟨S1,cv,u,B,M,N,j,p⟩:=h;rw [l] at p;obtain ⟨a,m,rfl,_⟩:=id j;refine di p A0.length (b:=b) (o:=d) (E:=E) (c:=C cv) (n:=1) (v:=.slice a (xs++[y]).length m) rfl (by rw [r]; simp) (by simp) (by have:=g cv; omega) (by simp [Value.cells,Value.oneCell']) fun w' i=>?_;have D:bx (C cv) d (Value.slice a (xs++[y]).length m).cells.toList=C (.slice a (xs++[y]).length m):=by
  refine Eq.trans ?_ (t cv _);apply s6.1;simp only [bx,Hz];have G:d<(C cv).toList.length:=by simpa using g cv
  rw [xb,ai G];simp [Value.cells]
 rw [D] at i;have J:(A0++[Item.blk b (.cells (C cv) E)]).set A0.length (.blk b (.cells (C (.slice a (xs++[y]).length m)) E))=A (.slice a (xs++[y]).length m):=by rw [l]; simp
 rw [J] at i;exact hk w' ⟨S1,_,u,B,fun e=>(by cases e),fun _=>j,j,i⟩
end
end
section
open Go Go.RowKit
theorem rI {k f:Nat} {x:Value}:∀ (css:List (List Value)) (j:Nat) (_:∀ cs∈css,cs.length=k) (h:j<css.length) (_:f<k),css.flatten.set (j * k+f) x=(css.set j (css[j].set f x)).flatten
 | [],j,_,h,_=>by simp at h
 | c::css,0,hk,_,hf=>by
  have:=hk c (cQ ..);rw [eP,jh,ct,Gy _ _ (by omega)];rfl
 | c::css,j+1,hk,h,hf=>by
  have hc:=hk c (cQ ..);have g:=rI (x:=x) css j (fun cs a=>hk cs (c7 _ a)) (by simpa using h) hf;have e:(j+1) * k+f=c.length+(j * k+f):=by rw [ip,hc]; omega
  rw [eP,e,List.set_append_right _ _ (by omega),pE,g];rfl
theorem yB (c:Array Value) (p:Nat) (x:Value) (h:p<c.size):(bx c p [x]).toList=c.toList.set p x:=by
 unfold bx;rw [xb,ai (by simpa using h)];simp
theorem Rows.set {α:Type} {k:Nat} {R:List Value->α->Prop} {css:List (List Value)} {ys:List α} (h:Rows k R css ys) {cs:List Value} {y:α} (j:Nat) (hR:R cs y) (a:cs.length=k):Rows k R (css.set j cs) (ys.set j y):=by
 refine ⟨by rw [ic,ic,h.hc],fun c hc=>?_,fun i g l=>?_⟩
 ·rcases EG hc with hc|rfl
  ·exact h.hk c hc
  ·exact a
 ·rw [Ew,Ew];split
  ·exact hR
  ·exact h.hR i (by simpa using g) (by simpa using l)
theorem Rows.take {α:Type} {k:Nat} {R:List Value->α->Prop} {css:List (List Value)} {ys:List α} (h:Rows k R css ys) (n:Nat):Rows k R (css.take n) (ys.take n):=by
 have:=h.hc;refine ⟨by rw [mL,mL,h.hc],fun c hc=>h.hk c (List.mem_of_mem_take hc),fun i a g=>?_⟩;rw [mL] at a;simp only [List.getElem_take];exact h.hR i (by omega) (by omega)
section
variable {P:Program} {w w0:World} {X:List Nat} {L:List Item} {S:af} {K:Value->World->Prop}
attribute [local irreducible] Run CondV aw aI
theorem Inv.rowPtr (h:Inv w0 X L S w) {i k:Nat} {e:TypeId} {v:Value} {css:List (List Value)} (p:L[i]?=some (ax v e k css)) {j:Nat} (o:j<css.length) (hk:∀ cs∈css,cs.length=k) :
  ∃ g cap,v=.slice (some ⟨g,0,none⟩) css.length cap/\(∀ f u,css[j][f]?=some u->w.cell? ⟨g,j * k+f,none⟩=some u):=by
 have q:w.ownsRow 0 e k v css.length css.flatten:=h.its _ (fw p);rcases q.2 with ⟨_,B⟩|⟨g,cap,m,rfl,C,r,D,G,J,t⟩
 ·omega
 ·refine ⟨g,cap,rfl,fun f u hf=>?_⟩;rw [cell_of_row w g (j * k+f) m e (0,0) r];have a:=eK k css j hk o;have l:f<k:=by have:=(gX.1 hf).1; have:=hk _ (cr o); omega
  rw [<- a,rC,ai l,rq,<- t,rC] at hf;split at hf
  ·simpa using hf
  ·cases hf
theorem DE (h:Inv w0 X L S w) {T ty e:TypeId} (i:Nat) {g cap k j f a:Nat} {css:List (List Value)} {x:Value} (D:L[i]?=some (ax (.slice (some ⟨g,0,none⟩) css.length cap) e k css)) (N:iv P T=true) (G:j<css.length) (hf:f<k) (O:a=j * k+f)
  (p:∀ cs∈css,cs.length=k) (q:x.cells=#[x]) (U:x.oneCell'=true)
  (hk:∀ w',Inv w0 X (L.set i (ax (.slice (some ⟨g,0,none⟩) css.length cap) e k (css.set j (css[j].set f x)))) S w'->K undef w') :
  Run P (sOp (.store T (.const (.pointer (some ⟨g,a,none⟩))) (.const x)) ty) w K:=by
 subst O;have m:=(gX.1 D).1;have r:=(gX.1 D).2;have Y:List.Perm L ((L.take i++L.drop (i+1))++[ax (.slice (some ⟨g,0,none⟩) css.length cap) e k css]):=by
  conv=>lhs; rw [<- List.take_append_drop i L,dr m,r]
  rw [d4];exact rB _ (dy (l₁:=[_]))
 have l:=h.perm Y.symm;obtain ⟨_,V⟩:=Inv.openRow l;rcases V with ⟨t,_⟩|⟨g',M,u,t,o,B,C,ht,l⟩
 ·cases t
 cases t;have Z:j * k+f<css.length * k:=by
  have:(j+1) * k<=css.length * k:=eV k G;rw [ip] at this;omega
 have J:css.length * k<=cap * k:=eV k o;refine di l (L.take i++L.drop (i+1)).length (n:=1) (by rw [q]; rfl) (by rw [N]; rfl) (by rw [fP (a7 _),dY]; rfl) (by omega) (by rw [q]; simpa using U) fun w' l=>hk w' ?_;rw [List.set_append_right _ _ (a7 _),dY] at l;have l:Inv w0 X ((L.take i++L.drop (i+1))++[.blk g (.cells (bx u (j * k+f) x.cells.toList) e)]) S w':=l;rw [show x.cells.toList=[x] by rw [q]] at l;have l:=Inv.closeRow (n:=css.length) (cap:=cap) (k:=k) l o B (by rw [ft _ _ _ (by simp; omega)]; exact C);rw [yB _ _ _ (by omega),List.take_set,ht,rI css j p G hf] at l;refine l.perm ?_;rw [xb,ai m,d4];refine rB _ ?_;rw [show Item.row (.slice (some ⟨g,0,none⟩) css.length cap) e k css.length (css.set j (css[j].set f x)).flatten=ax (.slice (some ⟨g,0,none⟩) css.length cap) e k (css.set j (css[j].set f x)) by simp [ax]];exact (dy (l₁:=[_]))
end
end
end Go.Proofs.YtjbcdmheajljpaaGreat
