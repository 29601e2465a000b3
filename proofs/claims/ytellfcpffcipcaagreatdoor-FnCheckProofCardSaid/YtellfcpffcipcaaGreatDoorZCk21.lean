/- Rows of one's own: a cell is set, the row is cut, a place is read. -/
import Derived.Test.YtellfcpffcipcaaGreatDoorZCkA
import Derived.Test.YtellfcpffcipcaaGreatDoorZCk20
namespace Go.Proofs.YtellfcpffcipcaaGreatDoor
attribute [local irreducible] Run CondV aF aT
section
open Go Go.RowKit
theorem FG {k f:Nat} {x:Value}:∀ (css:List (hZ)) (j:Nat) (_:∀ cs∈css,cs.length=k) (h:j<css.length) (_:f<k),css.flatten.set (j * k+f) x=(css.set j (css[j].set f x)).flatten
 | [],j,_,h,_=>by simp at h
 | c::css,0,hk,_,hf=>by
  have:=hk c (bi ..);rw [jY,sz,dr,VD _ _ (by omega)];rfl
 | c::css,j+1,hk,h,hf=>by
  have hc:=hk c (bi ..);have g:=FG (x:=x) css j (fun cs a=>hk cs (bk _ a)) (by simpa using h) hf;have e:(j+1) * k+f=c.length+(j * k+f):=by rw [mi,hc];omega
  rw [jY,e,List.set_append_right _ _ (by omega),qS,g];rfl
theorem OZ (c:Array Value) (p:Nat) (x:Value) (h:p<c.size):(b0 c p [x]).toList=c.toList.set p x:=by
 unfold b0;rw [DE,ai (by simpa using h)];simp
theorem Rows.set {α:Type} {k:Nat} {R:hZ->α->Prop} {css:List (hZ)} {ys:List α} (h:Rows k R css ys) {cs:hZ} {y:α} (j:Nat) (hR:R cs y) (hl:cs.length=k):Rows k R (css.set j cs) (ys.set j y):=by
 refine ⟨by rw [mQ,mQ,h.hc],fun c hc=>?_,fun i a f=>?_⟩
 ·rcases DS hc with hc|rfl
  ·exact h.hk c hc
  ·exact hl
 ·rw [List.getElem_set,List.getElem_set];split
  ·exact hR
  ·exact h.hR i (by simpa using a) (by simpa using f)
theorem Rows.take {α:Type} {k:Nat} {R:hZ->α->Prop} {css:List (hZ)} {ys:List α} (h:Rows k R css ys) (n:Nat):Rows k R (css.take n) (ys.take n):=by
 have:=h.hc;refine ⟨by rw [ey,ey,h.hc],fun c hc=>h.hk c (zO hc),fun i a f=>?_⟩;rw [ey] at a;simp only [IU];exact h.hR i (by omega) (by omega)
theorem CF {k:Nat}:∀ (css:List (hZ)) (n:Nat) (_:∀ cs∈css,cs.length=k),css.flatten.take (n * k)=(css.take n).flatten
 | [],n,_=>by simp
 | c::css,0,_=>by simp
 | c::css,n+1,hk=>by
  have hc:=hk c (bi ..);have f:=CF css n fun cs a=>hk cs (bk _ a);rw [jY,mi,vR,List.take_append,Ie (by omega),hc,qS,f];rfl
def abt (v:Value) (h:Nat):Value:=match v with
 | .slice a _ cap=>.slice a h cap
 | v=>v
section
variable {P:Program} {w w0:World} {X:List Nat} {L:List Item} {S:ae} {K:Value->World->Prop}
theorem Inv.swapItem (h:Inv w0 X L S w) {i:Nat} {a b:Item} (g:L[i]?=some a) (hf:b.foot=a.foot) (l:b.holds w):Inv w0 X (L.set i b) S w:=by
 have hl:=(fS.1 g).1;have f:bS (L.set i b)=bS L:=by
  have e:L.map Item.foot=(L.set i b).map Item.foot:=by
   rw [List.map_set,hf];apply ya;intro j;rw [CT];split
   ·rename_i e
    subst e;rw [ai (by simpa using hl),List.getElem?_map,g];rfl
   ·rfl
  unfold bS;rw [List.flatMap_def,List.flatMap_def]
  congr 1
  rw [List.map_set];apply ya;intro j;rw [CT];split
  ·rename_i e
   subst e;rw [ai (by simpa using hl),List.getElem?_map,g];simp [hf]
  ·rfl
 refine ⟨h.size,h.os,h.tape,h.output,h.old,fun it hit=>?_,by rw [f];exact h.nd,by rw [f];exact h.new,by rw [f];exact h.pub⟩;rcases DS hit with hit|rfl
 ·exact h.its it hit
 ·exact l
theorem Inv.rowSlice' (h:Inv w0 X L S w) {i k n:Nat} {e:TypeId} {v:Value} {xs:hZ} (f:L[i]?=some (.row v e k n xs)):∃ a cap,v=.slice a n cap/\n<=cap:=by
 have j:w.ownsRow 0 e k v n xs:=h.its (.row v e k n xs) (cJ f);rcases j.2 with ⟨rfl,hn⟩|⟨g,cap,l,rfl,_,_,hn,_⟩
 ·exact ⟨_,_,by rw [hn],by omega⟩
 ·exact ⟨_,_,rfl,hn⟩
theorem Inv.cutRow (h:Inv w0 X L S w) {i k:Nat} {e:TypeId} {v:Value} {css:List (hZ)} (f:L[i]?=some (aK v e k css)) {n:Nat} (hn:n<=css.length) (hk:∀ cs∈css,cs.length=k):Inv w0 X (L.set i (aK (abt v n) e k (css.take n))) S w:=by
 have l:w.ownsRow 0 e k v css.length css.flatten:=h.its _ (cJ f);refine h.swapItem f ?_ ?_
 ·obtain ⟨a,cap,rfl,_⟩:=h.rowSlice' f;cases a <;> rfl
 ·show w.ownsRow 0 e k (abt v n) (css.take n).length (css.take n).flatten;have hl:(css.take n).length=n:=by rw [ey];omega
  refine ⟨wt fun cs hc=>hk cs (zO hc),?_⟩;rcases l.2 with ⟨rfl,B⟩|⟨g,cap,j,rfl,m,o,D,q,r,t⟩
  ·left;have:n=0:=by omega
   subst this;exact ⟨rfl,by simp⟩
  ·right;refine ⟨g,cap,j,by rw [hl];rfl,m,o,by omega,q,r,?_⟩;rw [hl,<- CF css n hk,<- t,lW,kJ (jw k hn)]
theorem U8 (h:Inv w0 X L S w) (i:Nat) {T ty e:TypeId} {k n m:Nat} {v:Value} {xs:hZ} (j:L[i]?=some (.row v e k m xs)) (q:dt P T=some (e,k)) (hn:n<=m) (hk:K (abt v n) w) :
  Run P (sOp (.slice T (.const v) none (some (.const (ax n))) none) ty) w K:=by
 obtain ⟨a,cap,rfl,hc⟩:=h.rowSlice' j;refine Jt q (by omega) ?_;cases a with
 | none=>split <;> exact hk
 | some a=>
  split
  ·exact hk
  ·obtain ⟨b,o,p⟩:=a;have r:w.ownsRow 0 e k (.slice (some ⟨b,o,p⟩) m cap) m xs:=h.its _ (cJ j);rcases r.2 with ⟨f,_⟩|⟨g,l,t,f,_⟩
   ·cases f
   ·cases f;simpa [mK,abt] using hk
theorem Inv.rowPtr (h:Inv w0 X L S w) {i k:Nat} {e:TypeId} {v:Value} {css:List (hZ)} (q:L[i]?=some (aK v e k css)) {j:Nat} (o:j<css.length) (hk:∀ cs∈css,cs.length=k) :
  ∃ g cap,v=eF g 0 css.length cap/\(∀ f u,css[j][f]?=some u->w.cell? ⟨g,j * k+f,none⟩=some u):=by
 have r:w.ownsRow 0 e k v css.length css.flatten:=h.its _ (cJ q);rcases r.2 with ⟨_,D⟩|⟨g,cap,m,rfl,G,t,J,M,N,B⟩
 ·omega
 ·refine ⟨g,cap,rfl,fun f u hf=>?_⟩;rw [cell_of_row w g (j * k+f) m e (0,0) t];have a:=jc k css j hk o;have l:f<k:=by have:=(fS.1 hf).1;have:=hk _ (bJ o);omega
  rw [<- a,ym,ai l,AW,<- B,ym] at hf;split at hf
  ·simpa using hf
  ·cases hf
theorem Jv (h:Inv w0 X L S w) {T ty e:TypeId} (i:Nat) {g cap k j f a:Nat} {css:List (hZ)} {x:Value} (M:L[i]?=some (aK (eF g 0 css.length cap) e k css)) (V:jK P T=true) (N:j<css.length) (hf:f<k) (Y:a=j * k+f)
  (q:∀ cs∈css,cs.length=k) (r:x.cells=#[x]) (Z:x.oneCell'=true)
  (hk:∀ w',Inv w0 X (L.set i (aK (eF g 0 css.length cap) e k (css.set j (css[j].set f x)))) S w'->K undef w') :
  Run P (sOp (.store T (.const (eu g a)) (.const x)) ty) w K:=by
 subst Y;have m:=(fS.1 M).1;have t:=(fS.1 M).2;have hp:List.Perm L ((L.take i++L.drop (i+1))++[aK (eF g 0 css.length cap) e k css]):=by
  conv=>lhs;rw [<- Pw i L,dB m,t]
  rw [eY];exact yj _ (cT (l₁:=[_]))
 have l:=h.perm hp.symm;obtain ⟨_,ho⟩:=Inv.openRow l;rcases ho with ⟨B,_⟩|⟨g',U,D,B,o,G,J,ht,l⟩
 ·cases B
 cases B;have a0:j * k+f<css.length * k:=by
  have:(j+1) * k<=css.length * k:=jw k N;rw [mi] at this;omega
 have O:css.length * k<=cap * k:=jw k o;refine dD l (L.take i++L.drop (i+1)).length (n:=1) (by rw [r];rfl) (by rw [V];rfl) (by rw [jr (be _),fH];rfl) (by omega) (by rw [r];simpa using Z) fun w' l=>hk w' ?_;rw [List.set_append_right _ _ (be _),fH] at l;have l:Inv w0 X ((L.take i++L.drop (i+1))++[ay g (b0 D (j * k+f) x.cells.toList) e]) S w':=l;rw [show x.cells.toList=[x] by rw [r]] at l;have l:=Inv.closeRow (n:=css.length) (cap:=cap) (k:=k) l o G (by rw [my _ _ _ (by simp;omega)];exact J);rw [OZ _ _ _ (by omega),List.take_set,ht,FG css j q N hf] at l;apply l.perm;rw [DE,ai m,eY];refine yj _ ?_;rw [show Item.row (eF g 0 css.length cap) e k css.length (css.set j (css[j].set f x)).flatten=aK (eF g 0 css.length cap) e k (css.set j (css[j].set f x)) by simp [aK]];exact (cT (l₁:=[_]))
end
end
section
open Go Go.RowKit
abbrev eW (sb:Nat) (pv qv:Value) (nc:Bool) (fuel used fresh:Int) (gv cv nv:Value) (mo:Int):Array Value:=
 #[ee sb,pv,qv,.bool false,.bool nc,ax fuel,ax used,ax fresh,gv,cv,nv,ax mo]
abbrev g7 (sp:Nat) (c:Array Value):Item:=ay sp c sx
abbrev chI (cv:Value) (ccs:List (List Value)):Item:=aK cv fk 9 ccs
abbrev noI (nv:Value) (ncs:List (List Value)):Item:=aK nv nV 6 ncs
abbrev lF (a:Option Addr) (cap n l:Nat):Value:=.slice (if cap=l then a else a.map (·.add (l * 1))) (n - l) (cap - l)
abbrev chC (a0 a1 a2 a3:Value) (at_:Int) (gp:Option Addr) (lv:Value) (m n:Int):List Value:=[a0,a1,a2,a3,ax at_,.pointer gp,lv,ax m,ax n]
theorem aa6 {f g i j:Value} (h:∀ u∈[f,g,i,j],u.oneCell'=true) {at_:Int} {q:Option Addr} {a:Option Addr} {c l r:Nat} {m n:Int}:∀ u∈chC f g i j at_ q (lF a c l r) m n,u.oneCell'=true:=by
 intro u o;simp only [cw,ic,g9] at o;rcases o with rfl|rfl|rfl|rfl|rfl|rfl|rfl|rfl|rfl <;> first|rfl|exact h _ (by simp)
def RdCI (S:ae) (cs:List Value) (x:CI × Nat):Prop:=∃ a0 a1 a2 a3 gp lv,cs=[a0,a1,a2,a3,ax x.1.node,gp,lv,ax (x.2:Int),ax (x.1.taken:Int)]/\RdT S [a0,a1,a2,a3] x.1.goal/\GL S gp x.1.rest/\RdSl S 1 gW lv x.1.left
def RdNI (S:ae) (cs:List Value) (x:NI):Prop:=∃ a0 a1 a2 a3,cs=[a0,a1,a2,a3,ax x.up,ax x.clause]/\RdT S [a0,a1,a2,a3] x.goal
theorem RdCI.mono {S S':ae} (a:Sle S S') {cs:hZ} {x:CI × Nat} (h:RdCI S cs x):RdCI S' cs x:=by
 obtain ⟨j,l,m,o,q,r,rfl,f,g,i⟩:=h;exact ⟨_,_,_,_,_,_,rfl,f.mono a,g.mono a,i.mono a fun _ _ h=>h⟩
theorem RdNI.mono {S S':ae} (a:Sle S S') {cs:hZ} {x:NI} (h:RdNI S cs x):RdNI S' cs x:=by
 obtain ⟨g,i,j,l,rfl,f⟩:=h;exact ⟨_,_,_,_,rfl,f.mono a⟩
theorem KnownM.upS {S S':ae} {f:Array MapEntry} {st:au} (h:KnownM S f st) (g:Sle S S'):KnownM S' f st:=
 ⟨fun e i=>by
  obtain ⟨n,t,cs,a,b,c,d⟩:=h.1 e i;exact ⟨n,t,cs,a,b,c.mono g,d⟩,h.2⟩
structure SeaK (S:ae) (chs:List CI) (nodes:List NI) (st:au) (ms:List Nat) (tr:List Int) (es:Array MapEntry) (ccs ncs:List (List Value)):Prop where
 km:KnownM S es st
 ch:Rows 9 (RdCI S) ccs (chs.zip ms)
 nd:Rows 6 (RdNI S) ncs nodes
 mkI:MkI chs ms st tr
 tb:tr.length+unb st<=st.length
theorem SeaK.mono {S S':ae} {chs:List CI} {nodes:List NI} {st:au} {i:List Nat} {tr:List Int} {j:Array MapEntry} {a f:List (hZ)} (h:SeaK S chs nodes st i tr j a f) (g:Sle S S'):SeaK S' chs nodes st i tr j a f:=
 ⟨h.km.upS g,h.ch.monoR fun _ _=>RdCI.mono g,h.nd.monoR fun _ _=>RdNI.mono g,h.mkI,h.tb⟩
theorem KnownM.g26 {S:ae} {g:Array MapEntry} {st:au} (h:KnownM S g st):KnownM S g (g26 st):=by
 obtain ⟨j,l,m⟩:=h;refine ⟨fun e i=>?_,fun n t hn=>?_,m⟩
 ·obtain ⟨n,t,cs,a,b,c,d⟩:=j e i;have f:n<st.length:=(fS.1 d).1;exact ⟨n,t,cs,a,b,c,by unfold Go.Proofs.YtellfcpffcipcaaGreatDoor.g26;rw [vA f];exact d⟩
 ·unfold Go.Proofs.YtellfcpffcipcaaGreatDoor.g26 at hn;by_cases f:n<st.length
  ·rw [vA f] at hn;exact l n t hn
  ·rw [jr (by omega),Qc] at hn;split at hn <;> simp at hn
section
variable {P:Program} {w:World} {K:Value->World->Prop}
theorem ad9 {cs:List Bool} {a b:Int} (hk:K (ax (if a<b then b else a)) w):Run Tryz.prog (ce .max #[cR,cR] cR cs [ax a,ax b]) w K:=by
 refine Run.of ?_ hk;simp [ce,builtin,Builtin.max_,Builtin.max2]
end
section
variable {P:Program} {w w0:World} {X:List Nat} {L:List Item} {S:ae} {K:Value->World->Prop}
theorem mG (h:Inv w0 X L S w) (i:Nat) {T ty e:TypeId} {cs:List Bool} {k n:Nat} {v:Value} {xs:hZ} {Ek:TypeId × Nat} (f:L[i]?=some (.row v e k n xs)) (a:dt P T=some Ek) (hk:K (ax (n:Int)) w) :
  Run P (ce .len #[T] ty cs [v]) w K:=by
 have j:w.ownsRow 0 e k v n xs:=h.its (.row v e k n xs) (cJ f);rcases j.2 with ⟨rfl,hn⟩|⟨g,cap,l,rfl,_⟩
 ·subst hn;exact fJ a hk
 ·exact fJ a hk
end
def Ov (sp sb mb:Nat) (pv qv:Value) (nc:Bool) (fuel used:Int) (gv0:Value) (chs:List CI) (nodes:List NI) (st:au) (tr:List Int) (ms:List Nat) (g:T) (at_:Int) (rest:List GI) (o:Option HI) (n:Nat):Value->List Item->ae->Prop:=fun q I' S'=>
 q=.bool o.isSome/\∃ es' ck' tv' tr' ms' gv' cv' ccs' nv' ncs' mo',I'=[g7 sp (eW sb pv qv nc fuel used n gv' cv' nv' mo'),chI cv' ccs',noI nv' ncs']++aN sb mb es' ck' tv' tr'/\
  match o with
  | none=>gv'=gv0/\tr'=tr/\ms'=ms/\SeaK S' chs nodes (ct st n) ms tr es' ccs' ncs'
  | some r=>GL S' gv' (jj chs nodes g at_ rest st r).goals/\SeaK S' (jj chs nodes g at_ rest st r).chs (jj chs nodes g at_ rest st r).nodes r.st ms' tr' es' ccs' ncs'
theorem TryI.inv {p:List C} {g:T} {x:Int} {l:List Int} {st:au} {o:Option HI} {n:Nat} (h:TryI p g (x::l) st o n):∃ (i:Nat) (cl:C) (r:Bool) (a:au),x=i/\p[i]?=some cl/\Uni (g26 st) (.one g (bD st.length cl.head)) r a/\
  ((r=true/\o=some ⟨i,cl,st.length,l,a⟩/\n=st.length+26) ∨ (r=false/\TryI p g l (g26 st) o n)):=by
 cases h with
 | hit f j=>exact ⟨_,_,_,_,rfl,f,j,.inl ⟨rfl,rfl,rfl⟩⟩
 | miss f j m=>exact ⟨_,_,_,_,rfl,f,j,.inr ⟨rfl,m⟩⟩
theorem Zr (ns:List NI) (a:Nat) (i:Int) (h:a<ns.length):OX ns a i=ns.set a ⟨ns[a].goal,ns[a].up,i⟩:=by
 unfold OX;apply ya;intro j;rw [List.getElem?_modify,CT];split
 ·rename_i e
  subst e;rw [gd h];rfl
 ·cases ns[j]? <;> rfl
theorem MU {t:T} (h:okU 26 t):okV t:=Ny t h
section
set_option maxHeartbeats 2000000 in
theorem Mg {p:List C} (hp:∀ cl∈p,kB cl) (k5:∀ cl∈p,cl.body.length<=1048576) {g:T} {l:List Int} {st:au} {o:Option HI} {n:Nat} (ht:TryI p g l st o n) (k6:Good st.length st) (k7:tabM st) (g8:(okU st.length g/\wT g<=1048576)/\okM g)
  (hn:st.length+26 * l.length<=900000) {S:ae} {d4:hZ} {lv gv b5 pv qv cv nv tv:Value} {rest:List GI} {chs:List CI} {nodes:List NI} {ms:List Nat} {tr:List Int} {es:Array MapEntry} {b7 N:List (hZ)}
  {sp sb mb ck:Nat} {nc:Bool} {fuel used at_ mo:Int} (h1:RdT S d4 g) (h2:RdSl S 1 gW lv l) (h3:GL S gv rest) (h4:RdSl S 5 (RdC S) pv p) (hK:SeaK S chs nodes st ms tr es b7 N) (s0:0<=at_/\at_<nodes.length) (e9:chs.length<=1000000) :
  kt I4 [ee sp,.agg d4.toArray,ax at_,lv,gv] ([g7 sp (eW sb pv qv nc fuel used st.length b5 cv nv mo),chI cv b7,noI nv N]++aN sb mb es ck tv tr) S
   (Ov sp sb mb pv qv nc fuel used b5 chs nodes st tr ms g at_ rest o n):=by
 intro w t;obtain ⟨X,hX⟩:∃ X,X=bS ([g7 sp (eW sb pv qv nc fuel used st.length b5 cv nv mo),chI cv b7,noI nv N]++aN sb mb es ck tv tr):=⟨_,rfl⟩
 rw [<- hX] at t ⊢;have n3:=h1.length;have r5:tr.length<=900000:=by have:=hK.tb;omega
 refine tL.2 ?_;dsimp only[tL,LY];refine bq t fun b6 w' t=>?_;have t:Inv w X ([ay b6 d4.toArray ab,g7 sp (eW sb pv qv nc fuel used st.length b5 cv nv mo),chI cv b7,noI nv N]++aN sb mb es ck tv tr) S w':=t.perm (cT (l₁:=[_]));refine aH ?_;refine ad t 1 rfl iH gP rfl ?_;refine aH ?_;refine ad t 4 rfl iB ft rfl ?_;refine mG t 6 rfl cU ?_;refine aI h2 cU ?_;have n4:=h2.le;simp only [maxLen] at n4;refine ⟨fun i w'=>∃ (k:Nat) (G:au) (d1:Array MapEntry) (d2:Nat) (d3:Value) (S1:ae),k<=l.length/\i=ax (k:Int)/\TryI p g (l.drop k) G o n/\G=ct st G.length/\G.length=st.length+26 * k/\Ext w.heap.size X S S1/\KnownM S1 d1 G/\
   Inv w X ([ay b6 d4.toArray ab,g7 sp (eW sb pv qv nc fuel used G.length b5 cv nv mo),chI cv b7,noI nv N]++aN sb mb d1 d2 d3 tr) S1 w',
  fun i _=>l.length - (intOf i).toNat,⟨0,st,es,ck,tv,S,bf _,rfl,ht,(kR st).symm,rfl,Ext.refl _ _ _,hK.km,t⟩,?_⟩
 clear t;intro s1 _ _ p2 p3 p4 p5 p7 p8 p9 q0 q4 q5 q6 q7 q8;(iterate 38 intro);intro q9 r0 r1 s2 s4 s5 s7 s8 s9 t0 t1 t2 t3 t4 t5 t6 t7 t8 t9 u0 u1 u2 u3;(iterate 17 intro);intro u4 u5 u6 u7 u8 u9 v3 v4 v6 v7 v8 v9 x0 x1 x2 x3 x4;(iterate 20 intro);intro w';rintro ⟨k,G,d1,d2,d3,S1,hk,rfl,f1,c8,k8,f2,f8,t⟩;refine bM (aJ (fun l5=>?_) (fun l5=>?_))
 ·have h6:k<l.length:=by omega
  rw [dB h6] at f1;obtain ⟨i,cl,r,d0,m0,f5,hu,h5⟩:=f1.inv;have h7:i<p.length:=(fS.1 f5).1;have n5:p[i]=cl:=(fS.1 f5).2;have d9:=hp cl (cJ f5);have e5:st.length<=G.length:=by omega
  have n6:Good G.length G:=by have h:=k6.to e5;rwa [<- c8] at h
  have r6:tabM G:=by have h:=k7.to G.length;rwa [<- c8] at h
  have k1:(okU G.length g/\wT g<=1048576)/\okM g:=⟨⟨iK e5 _ g8.1.1,g8.1.2⟩,g8.2⟩
  have n7:=MW k1.1 d9;have x7:G.length<=900000:=by omega
  have r7:unb G+tr.length<=G.length:=by
   have:=hK.tb;rw [c8,dj e5];unfold ct;rw [tu];omega
  have h8:tr.length+unb (g26 G)<=1000000:=by unfold g26;rw [tu];omega
  refine gj t (h2.mono f2.1 fun _ _ h=>h) cU aw h6 (fun cs l6=>l6) ?_;rw [m0];refine aH (ad t 1 rfl sM aw rfl (aG t UP fun f4 w' t=>?_));refine dD t 7 (n:=1) rfl (by rw [aw];rfl) rfl (l9 rfl) (by simp [Value.cells];rfl) fun w' t=>?_;have t:Inv w X (([ay b6 d4.toArray ab,g7 sp (eW sb pv qv nc fuel used G.length b5 cv nv mo),chI cv b7,noI nv N]++aN sb mb d1 d2 d3 tr)++[ay f4 #[ax (G.length:Int)] cR]) S1 w':=t;obtain ⟨S2,t,j2,j3⟩:=Inv.pub1 t;refine aH (ad t 1 rfl sM aw rfl (bA (by omega) (aH (cX t 1 rfl sM aw rfl rfl rfl fun w' t=>?_))));apply md;have e2:=f2.trans j2;obtain ⟨pb,po,g0,pc,pE,x5,j4,j5,j6⟩:=h4.at_ h7;rw [n5] at j6;obtain ⟨hd,kb,f6,j7,m1⟩:=j6;have k2:=j7.length;have g3:=XA (S:=S2) (by_:=(G.length:Int)) j3 (by omega);have h9:((G.length:Int)+26)=((g26 G).length:Int):=by rw [mw];omega
  have n8:Inv w X ([ay b6 d4.toArray ab,g7 sp (eW sb pv qv nc fuel used ((g26 G).length:Int) b5 cv nv mo),chI cv b7,noI nv N]++aN sb mb d1 d2 d3 tr) S2 w':=by rw [<- h9];exact t
  repeat clear t
  refine ⟨fun D z5 xN yU xj xH vC uk uB sT uv qW nh s6 tV rf qp lL w_=>Fx D 0 [lL=ee sp,qp=ee sp,rf=ee sp,tV=ee sb,s6=.agg d4.toArray,nh=ee sp,qW=ee sp,uv=eu sp 1,sT=eF pb po p.length g0,uB=ax (i:Int),uk=eu pb (po+i * 5),vC=eu pb (po+i * 5),xH=.agg hd.toArray,xj=.func (.func sk) #[] #[ee f4],True,xN=.bool r,z5=.bool (!r)]/\∃ (SN:ae) (Y:Array MapEntry) (Z:Nat) (a4:Value) (U:List Int),Ext w.heap.size X S2 SN/\(D 14=true->∃ cs,yU=.agg cs.toArray/\RdT SN cs (bD G.length cl.head))/\(D 15=false->d1=Y/\d2=Z/\d3=a4/\tr=U)/\(D 15=true->KnownM SN Y d0/\Tr (g26 G) d0 tr U)/\Inv w X ([ay b6 d4.toArray ab,g7 sp (eW sb pv qv nc fuel used ((g26 G).length:Int) b5 cv nv mo),chI cv b7,noI nv N]++aN sb mb Y Z a4 U) SN w_,⟨Fx.nil _ _,⟨S2,d1,d2,d3,tr,Ext.refl _ _ _,aU,fun _=>⟨rfl,rfl,rfl,rfl⟩,aU,n8.draw⟩⟩,⟨?_,?_,?_,?_,?_,?_,?_,?_,?_,?_,?_,?_,?_,?_,?_,?_,?_,trivial⟩,?_⟩;all_goals (intro D bw;intros;rename_i z5 xN yU xj xH vC uk uB sT uv qW nh s6 tV rf qp lL w_ d6;have B:=d6.1;obtain ⟨⟨co,cn,bP,cj,cA,bQ,bO,cM,de,dv,bU,cC,cY,dK,dd,ek,eH,_⟩,⟨SN,Y,Z,a4,U,hN,b4,b9,b1,t⟩⟩:=d6)
  rotate_left;obtain rfl:=co ‹_›;apply aH;rotate_left
  obtain rfl:=cn ‹_›;apply ah iH;rotate_left
  obtain rfl:=bP ‹_›;refine aD (b:=sp) t 1 (c:=eW sb pv qv nc fuel used ((g26 G).length:Int) b5 cv nv mo) gP rfl rfl ?_;rotate_left
  refine av t 0 ac rfl (by simpa using n3) ?_;rotate_left;rotate_left
  obtain rfl:=bQ ‹_›;apply aH;rotate_left
  obtain rfl:=bO ‹_›;apply ah sW;rotate_left
  obtain rfl:=cM ‹_›;refine aD (b:=sp) t 1 (c:=eW sb pv qv nc fuel used ((g26 G).length:Int) b5 cv nv mo) vE rfl (by rw [j4];rfl) ?_;rotate_left;rotate_left
  obtain rfl:=de ‹_›;obtain rfl:=dv ‹_›;apply az cr h7;rotate_left
  obtain rfl:=bU ‹_›;apply ah dl;rotate_left
  obtain rfl:=cC ‹_›;refine bV (cs:=hd) ac k2 (fun j v hj=>by rw [t.cellS ((e2.trans hN).1 _ _ j5)];exact aA f6 j v (by rw [vA (fS.1 hj).1];exact hj)) ?_;rotate_left;rotate_left
  obtain rfl:=cY ‹_›;obtain rfl:=dK ‹_›;refine Run.call0E lu lJ t (Jz [ee f4] _ qw p6 cl.head SN hd (j7.mono (e2.trans hN).1) (MU d9.head.1.1) d9.head.1.2 (g3.mono hN.1)) fun v' I' S4 w_=>?_;rintro ⟨rfl,d7,rfl,hT⟩ i2 t;rw [wn G.length cl.head d9.head.1.1] at hT;have t:=t.sub (eh _ _);have hN:=hN.trans i2;have b4:aC D 14 14=true->∃ cs,Value.agg d7.toArray=.agg cs.toArray/\RdT S4 cs (bD G.length cl.head):=fun _=>⟨d7,rfl,hT⟩
  have b1:aC D 14 15=true->KnownM S4 Y d0/\Tr (g26 G) d0 tr U:=fun h=>⟨(b1 h).1.upS i2.1,(b1 h).2⟩
  obtain ⟨SN,m2⟩:∃ a,a=S4:=⟨_,rfl⟩
  subst m2
  rotate_left;obtain rfl:=cj ‹_›;obtain rfl:=cA ‹_›;have Eb:=dd ‹_›;obtain ⟨rfl,rfl,rfl,rfl⟩:=b9 bw;obtain ⟨d7,rfl,j8⟩:=b4 ‹D 14=true›;refine Run.callE (A:=[_,_,_,_]) fV fX t (jS (by omega) n6.g26 n7 hu SN _ _ sb mb d2 d1 d3 tr (h1.mono (e2.trans hN).1) j8 ((f8.upS (j2.trans hN).1).g26) h8) fun v' I' S4 w_=>?_;rintro ⟨eS,rfl,Y,Z,a4,U,rfl,k9,_,l0⟩ _ t;rw [eS] at t;have b9:aC D 15 15=false->d1=Y/\d2=Z/\d3=a4/\tr=U:=fun h=>Bool.noConfusion h;have b1:aC D 15 15=true->KnownM SN Y d0/\Tr (g26 G) d0 tr U:=fun _=>⟨k9,l0⟩
  have b4:aC D 15 14=true->∃ cs,Value.agg d7.toArray=.agg cs.toArray/\RdT SN cs (bD G.length cl.head):=fun _=>⟨d7,rfl,j8⟩
  rotate_left;obtain rfl:=ek ‹_›;apply cq;rotate_left
  all_goals try exact ⟨B.set _ (by first|rfl|assumption|trivial),SN,Y,Z,a4,U,hN,b4,b9,b1,t⟩
  obtain ⟨rfl,rfl,rfl,rfl,rfl,rfl,rfl,rfl,rfl,rfl,rfl,rfl,rfl,rfl,Eb,rfl,rfl,_⟩:=B.all;clear B co cn bP cj cA bQ bO cM de dv bU cC cY dK dd ek eH;obtain ⟨g1,e1⟩:=b1 (by assumption);clear b9 b4 b1;have c6:=e2.trans hN;rcases h5 with ⟨rfl,ho,p0⟩|⟨rfl,p1⟩
  ·refine aE (fun hb=>by cases hb) (fun _=>?_);subst ho p0;obtain ⟨an,rfl⟩:∃ an:Nat,at_=an:=⟨at_.toNat,by omega⟩
   have k3:an<nodes.length:=by omega
   obtain ⟨a0,a1,a2,a3,rfl⟩:=h1.four;obtain ⟨gp,rfl⟩:=h3.ptr;have n9:=hK.mkI.len;have o0:b7.length=chs.length:=by have:=hK.ch.hc;rw [WA] at this;omega
   have o1:=hK.nd.hc;have k4:TrG st d0 tr U:=by
    refine (TrG.grow st tr e5).trans ?_;rw [<- c8];refine (TrG.grow G tr (s3 _ 26)).trans ?_;rw [<- TT];exact TrG.of e1
   have r8:d0.length=G.length+26:=by
    obtain ⟨ns,_,m3,_⟩:=e1;have:=congrArg List.length m3;rw [se,mw] at this;exact this
   obtain ⟨la,c4,rfl,r2,r3,x6⟩:=id h2;have o2:=h2.from (l:=k+1) (by omega);refine aH ?_;refine ad t 1 rfl eU fB rfl ?_;refine mG t 2 rfl jo ?_;refine ⟨fun w'=>∃ (SJ:ae) (b8:Value) (b0:List (hZ)) (f0:List Nat),Ext w.heap.size X SN SJ/\Rows 9 (RdCI SJ) b0 ((chs++(if l.drop (k+1)=[] then [] else ([⟨g,(an:Int),rest,l.drop (k+1),st,nodes.length⟩]:List CI))).zip f0)/\
    MkI (chs++(if l.drop (k+1)=[] then [] else ([⟨g,(an:Int),rest,l.drop (k+1),st,nodes.length⟩]:List CI))) f0 d0 U/\
    Inv w X ([ay b6 #[a0,a1,a2,a3] ab,g7 sp (eW sb pv qv nc fuel used ((g26 G).length:Int) b5 b8 nv mo),chI b8 b0,noI nv N]++aN sb mb Y Z a4 U) SJ w',?_,?_⟩
   ·refine bA (by omega) (aI h2 cU (bM (aJ (fun l7=>?_) (fun l7=>?_))))
    ·have o3:l.drop (k+1)≠[]:=fun e=>by have:=congrArg List.length e;rw [nJ,cB] at this;omega
     rw [af o3];have o4:=t;clear t;have x8:=hN;clear hN;refine ⟨fun D i3 i4 GY YA YV V5 Qt Kb FT Ee DV FU FS xB wx xD wV yn xL yr AF xA yf w_=>Fx D 0 [yf=ee sp,xA=ee sp,AF=ee sp,yr=eu sp 9,xL=cv,yn=.agg #[a0,a1,a2,a3],wV=ax (an:Int),xD=.pointer gp,wx=.slice la l.length c4,xB=ax (k:Int),FS=ax ((k+1:Nat):Int),FU=lF la c4 l.length (k+1),DV=ax (tr.length:Int),Ee=ee sp,FT=ee sp,Kb=eu sp 10,Qt=nv,V5=ax (N.length:Int),YV=.agg (chC a0 a1 a2 a3 an gp (lF la c4 l.length (k+1)) tr.length N.length).toArray,True,True,i4=ee sp,i3=eu sp 9,True]/\∃ (SP:ae) (V O:Value) (J:List (hZ)),Ext w.heap.size X SN SP/\(D 19=true->∃ b,YA=eF b 0 1 1/\SP b=some (.cells (chC a0 a1 a2 a3 an gp (lF la c4 l.length (k+1)) tr.length N.length).toArray fk))/\(D 20=false->cv=V/\cv=O/\b7=J)/\(D 20=true->O=GY/\J=b7++[chC a0 a1 a2 a3 an gp (lF la c4 l.length (k+1)) tr.length N.length])/\(D 23=true->V=GY)/\(D 20=true->D 4=true)/\(D 23=true->D 20=true)/\Inv w X ([ay b6 #[a0,a1,a2,a3] ab,g7 sp (eW sb pv qv nc fuel used ((g26 G).length:Int) b5 V nv mo),chI O J,noI nv N]++aN sb mb Y Z a4 U) SP w_,⟨Fx.nil _ _,⟨SN,cv,cv,b7,Ext.refl _ _ _,aU,fun _=>⟨rfl,rfl,rfl⟩,aU,aU,aU,aU,o4.draw⟩⟩,⟨?_,?_,?_,?_,?_,?_,?_,?_,?_,?_,?_,?_,?_,?_,?_,?_,?_,?_,?_,?_,?_,?_,?_,?_,trivial⟩,?_⟩;all_goals (intro D bw;intros;rename_i i3 i4 GY YA YV V5 Qt Kb FT Ee DV FU FS xB wx xD wV yn xL yr AF xA yf w_ d6;have B:=d6.1;obtain ⟨⟨co,cn,bP,cj,cA,bQ,bO,cM,de,dv,bU,cC,cY,dK,dd,ek,eH,fl,gZ,fI,iI,jU,pw,sP,_⟩,⟨SP,V,O,J,hN,a5,M,a6,a7,a8,a9,t⟩⟩:=d6)
     rotate_left;rotate_left;obtain rfl:=cn ‹_›;apply aH;rotate_left
     obtain rfl:=bP ‹_›;apply ah eU;rotate_left
     obtain rfl:=cj ‹_›;have o5:D 20=false:=bN.2 fun h=>by rw [a8 h] at bw;cases bw
     have q:=(M o5).1;refine aD (b:=sp) (v:=cv) t 1 (c:=eW sb pv qv nc fuel used ((g26 G).length:Int) b5 V nv mo) fB rfl (by rw [q];rfl) ?_;have a8:aC D 4 20=true->aC D 4 4=true:=fun _=>rfl
     rotate_left;apply av t 0 ac rfl rfl;rotate_left;rotate_left;rotate_left;rotate_left;rotate_left
     obtain rfl:=dv ‹_›;refine bA (by omega) ?_;rotate_left
     obtain rfl:=de ‹_›;obtain rfl:=bU ‹_›;refine RA cU (by omega) ?_;rotate_left;rotate_left;rotate_left
     obtain rfl:=dK ‹_›;apply aH;rotate_left
     obtain rfl:=dd ‹_›;apply ah gS;rotate_left
     obtain rfl:=ek ‹_›;refine aD (b:=sp) (v:=nv) t 1 (c:=eW sb pv qv nc fuel used ((g26 G).length:Int) b5 V nv mo) mr rfl rfl ?_;rotate_left
     have Uq:=eH ‹_›;refine mG (e:=nV) (k:=6) (n:=N.length) (xs:=N.flatten) t 3 (by rw [Uq];rfl) xt ?_;rotate_left
     obtain rfl:=bQ ‹_›;obtain rfl:=bO ‹_›;obtain rfl:=cM ‹_›;obtain rfl:=cC ‹_›;obtain rfl:=cY ‹_›;obtain rfl:=fl ‹_›;apply KZ;rotate_left
     obtain rfl:=gZ ‹_›;refine dQ t FP rfl (by omega) (by omega) fun e7 w_ t=>?_;have t:Inv w X (([ay b6 #[a0,a1,a2,a3] ab,g7 sp (eW sb pv qv nc fuel used ((g26 G).length:Int) b5 V nv mo),chI O J,noI nv N]++aN sb mb Y Z a4 U)++[ay e7 (chC a0 a1 a2 a3 an gp (lF la c4 l.length (k+1)) tr.length N.length).toArray fk]) SP w_:=t;obtain ⟨SP,t,m4,j9⟩:=Inv.pub1 t;have hN:=hN.trans m4;have a5:aC D 19 19=true->∃ b,Value.slice (some ⟨e7,0,none⟩) 1 1=eF b 0 1 1/\SP b=some (.cells (chC a0 a1 a2 a3 an gp (lF la c4 l.length (k+1)) tr.length N.length).toArray fk):=fun _=>⟨e7,rfl,j9⟩
     rotate_left;have Ot:=cA ‹_›;have m6:=fI ‹_›;obtain ⟨b,m5,hb⟩:=a5 ‹D 19=true›;subst m5;obtain ⟨q1,rfl,rfl⟩:=M bw;refine eT t 2 (chC a0 a1 a2 a3 an gp (lF la c4 l.length (k+1)) tr.length N.length) FP (by omega) (n:=b7.length) (xs:=b7.flatten) (by rw [Ot];rfl) rfl (m:=1) (o:=0) (fun j u hj=>by rw [t.cellS hb,dr];simpa using hj) (aa6 h1.one) (by omega) (by omega) fun O w_ t=>?_;obtain ⟨J,hR⟩:∃ a,a=b7++[chC a0 a1 a2 a3 an gp (lF la c4 l.length (k+1)) tr.length N.length]:=⟨_,rfl⟩
     rw [fU,<- hR] at t;have M:aC D 20 20=false->cv=V/\cv=O/\b7=J:=fun h=>Bool.noConfusion h;have a6:aC D 20 20=true->O=O/\J=b7++[chC a0 a1 a2 a3 an gp (lF la c4 l.length (k+1)) tr.length N.length]:=fun _=>⟨rfl,hR⟩
     have a7:aC D 20 23=true->V=O:=fun h=>absurd (a9 h) (by rw [bw];decide);have a8:aC D 20 20=true->aC D 20 4=true:=fun _=>‹D 4=true›;have a9:aC D 20 23=true->aC D 20 20=true:=fun _=>rfl;have a5:aC D 20 19=true->∃ b',Value.slice (some ⟨b,0,none⟩) 1 1=eF b' 0 1 1/\SP b'=some (.cells (chC a0 a1 a2 a3 an gp (lF la c4 l.length (k+1)) tr.length N.length).toArray fk):=fun _=>⟨b,rfl,hb⟩
     rotate_left;obtain rfl:=co ‹_›;apply aH;rotate_left
     obtain rfl:=jU ‹_›;apply ah eU;rotate_left
     obtain rfl:=pw ‹_›;have m7:=iI ‹_›;obtain ⟨q1,q2⟩:=a6 ‹D 20=true›;subst q1;obtain ⟨va,r4,hv,_⟩:=t.rowSlice' (i:=2) rfl;have e9:O.cells=#[O]:=by rw [hv];rfl
     refine dD t 1 (n:=1) (by rw [e9];rfl) (by rw [fB];rfl) rfl (l9 rfl) (by rw [e9,hv];simp [Value.oneCell']) fun w_ t=>?_;rw [e9] at t;obtain ⟨V,hF⟩:∃ a,a=O:=⟨_,rfl⟩
     have a7:aC D 23 23=true->V=O:=fun _=>hF;have M:aC D 23 20=false->cv=V/\cv=O/\b7=J:=fun h=>absurd ‹D 20=true› (by rw [show D 20=false from h];decide);have a9:aC D 23 23=true->aC D 23 20=true:=fun _=>‹D 20=true›;have t:Inv w X ([ay b6 #[a0,a1,a2,a3] ab,g7 sp (eW sb pv qv nc fuel used ((g26 G).length:Int) b5 V nv mo),chI O J,noI nv N]++aN sb mb Y Z a4 U) SP w_:=by rw [hF];exact t
     rotate_left
     all_goals try exact ⟨B.set _ (by first|rfl|assumption|trivial),SP,V,O,J,hN,a5,M,a6,a7,a8,a9,t⟩
     obtain ⟨rfl,rfl,rfl,rfl,Ot,rfl,rfl,rfl,rfl,rfl,rfl,rfl,rfl,rfl,rfl,rfl,Uq,rfl,rfl,m6,m7,rfl,rfl,_,_⟩:=B.all;clear B co cn bP cj cA bQ bO cM de dv bU cC cY dK dd ek eH fl gZ fI iI jU pw sP;obtain ⟨q1,q2⟩:=a6 (by assumption);have q3:=a7 (by assumption);subst q2;rw [q3,<- q1] at t;refine ⟨SP,_,_,ms++[tr.length],hN,?_,?_,t⟩
     ·rw [List.zip_append n9.symm];exact (hK.ch.monoR fun _ _=>RdCI.mono (c6.trans hN).1).snoc ⟨a0,a1,a2,a3,.pointer gp,_,by rw [<- o1],h1.mono (c6.trans hN).1,h3.mono (c6.trans hN).1,o2.mono (c6.trans hN).1 fun _ _ h=>h⟩ rfl
     ·exact (MkI.push (c:=⟨g,(an:Int),rest,l.drop (k+1),st,nodes.length⟩) hK.mkI).go k4
    ·have he:l.drop (k+1)=[]:=xZ (by omega);rw [ai he,dc];exact ⟨SN,cv,b7,ms,Ext.refl _ _ _,hK.ch.monoR fun _ _=>RdCI.mono c6.1,hK.mkI.go k4,t⟩
   clear t;(iterate 28 intro);intro w';rintro ⟨SJ,b8,b0,f0,g9,l1,l2,t⟩;have g4:=c6.trans g9;obtain ⟨ng,b3,m8,-⟩:=t.rowPtr (i:=3) rfl (j:=an) (by omega) hK.nd.hk;subst m8;refine aH (ad t 1 rfl gS mr rfl (az xt (by omega) (ah UE (Jv t 3 (j:=an) (f:=5) rfl aw (by omega) (by omega) (by omega) hK.nd.hk rfl rfl fun w' t=>?_))));obtain ⟨c9,g2⟩:∃ a,a=N.set an ((N[an]'(by omega)).set 5 (ax (i:Int))):=⟨_,rfl⟩
   have t:Inv w X ([ay b6 #[a0,a1,a2,a3] ab,g7 sp (eW sb pv qv nc fuel used ((g26 G).length:Int) b5 b8 (eF ng 0 N.length b3) mo),chI b8 b0,noI (eF ng 0 N.length b3) c9]++aN sb mb Y Z a4 U) SJ w':=by
    rw [g2];exact t
   refine aH ?_;refine ad (u:=eF pb po p.length g0) t 1 rfl sW vE (by rw [j4];rfl) ?_;refine az cr h7 ?_;refine ah bF ?_;refine cS (v:=kb) aj (by
    rw [t.cellS (g4.1 _ _ j5)];exact aA f6 4 kb (by rw [jr (by omega),k2];rfl)) ?_
   have g5:=m1.monoT g4.1;have x9:=k5 cl (cJ f5);refine aI g5 ag ?_;have t:=t.rowNil ab 4;refine ⟨fun ix v w'=>∃ (j:Nat) (css:List (hZ)) (S6:ae),j<=cl.body.length/\ix=ax (j:Int)/\Ext w.heap.size X SJ S6/\Rows 4 (RdT S6) css ((cl.body.take j).map (bD G.length))/\
     Inv w X (([ay b6 #[a0,a1,a2,a3] ab,g7 sp (eW sb pv qv nc fuel used ((g26 G).length:Int) b5 b8 (eF ng 0 N.length b3) mo),chI b8 b0,noI (eF ng 0 N.length b3) c9]++aN sb mb Y Z a4 U)++[aK v ab 4 css]) S6 w',
    fun ix _ _=>cl.body.length - (intOf ix).toNat,⟨0,[],SJ,bf _,rfl,Ext.refl _ _ _,Rows.nil _ _,t⟩,?_⟩
   clear t;intro xx _ vv _ _ _ _ _ _ _ _ _ _ w';rintro ⟨j,css,S6,hj,rfl,e6,f3,t⟩;refine bM (aJ (fun l8=>?_) (fun l8=>?_))
   ·have f7:j<cl.body.length:=by omega
    have o6:css.length=j:=by rw [f3.hc,nN,ey];omega
    have i0:=d9.body _ (bJ f7);refine cL t (g5.monoT e6.1) ag ac f7 (fun _ _=>RdT.length) fun j1 e0=>?_;refine aG t aV fun e7 w' t=>?_;refine aq t 8 rfl ac (by simpa using e0.length) rfl (by simpa using e0.one) fun w' t=>?_;refine av t 8 ac rfl (by simpa using e0.length) ?_;have t:Inv w X (([ay b6 #[a0,a1,a2,a3] ab,g7 sp (eW sb pv qv nc fuel used ((g26 G).length:Int) b5 b8 (eF ng 0 N.length b3) mo),chI b8 b0,noI (eF ng 0 N.length b3) c9]++aN sb mb Y Z a4 U)++[aK vv ab 4 css]) S6 w':=t.sub (eh _ [Item.blk e7 (.cells j1.toArray ab)]);refine Run.call0E lu lJ t (Jz [ee f4] _ qw p6 _ S6 j1 e0 (MU i0.1.1) i0.1.2 (g3.mono (hN.trans (g9.trans e6)).1)) fun v' I' S7 w'=>?_;rintro ⟨rfl,d7,rfl,hT⟩ e4 t;rw [wn G.length _ i0.1.1] at hT;have t:=t.sub (eh _ _);refine ei t 7 d7 bx (by omega) (by omega) rfl hT.length hT.one (by omega) (by omega) fun v' w' t=>?_;refine bA (by omega) ?_;refine ⟨⟨j+1,css++[d7],S7,f7,rfl,e6.trans e4,?_,t⟩,by simp only [intOf,dq];omega⟩;rw [gh f7,IY];exact (f3.monoR fun _ _=>RdT.mono e4.1).snoc hT hT.length
   ·have:j=cl.body.length:=by omega
    subst this;rw [fM] at f3;obtain ⟨S7,e4,m9,t⟩:=t.lendExt;have o7:=RowRd.rows (f3.monoR fun _ _=>RdT.mono e4.1) m9;have g6:=g9.trans (e6.trans e4);refine Run.call0E QE RP t (M1 o7 (h3.mono (c6.trans g6).1)) fun v' I' S8 w'=>?_;rintro ⟨rfl,h0⟩ i5 t;have t:=t.sub (eh _ _);obtain ⟨e8,rfl⟩:=h0.ptr;refine aH (cX t 1 rfl jD eO rfl rfl rfl fun w' t=>?_);have o8:Inv w X ([ay b6 #[a0,a1,a2,a3] ab,g7 sp (eW sb pv qv nc fuel used ((g26 G).length:Int) (.pointer e8) b8 (eF ng 0 N.length b3) mo),chI b8 b0,noI (eF ng 0 N.length b3) c9]++aN sb mb Y Z a4 U) S8 w':=t;repeat clear t
    refine ⟨fun D Zm Y9 Z0 i6 i7 i8 i9 j0 YM Yw Yr YQ YK w_=>Fx D 0 [YK=ee sp,YQ=ee sp,Yr=ee sp,Yw=eu sp 11,YM=ax mo,j0=ee sp,i9=ee sp,i8=eu sp 9,i7=b8,i6=ax (b0.length:Int),Z0=ax (if mo<(b0.length:Int) then (b0.length:Int) else mo),Y9=ee sp,Zm=eu sp 11,True]/\∃ b2:Int,(D 13=false->mo=b2)/\(D 13=true->D 4=true)/\Inv w X ([ay b6 #[a0,a1,a2,a3] ab,g7 sp (eW sb pv qv nc fuel used ((g26 G).length:Int) (.pointer e8) b8 (eF ng 0 N.length b3) b2),chI b8 b0,noI (eF ng 0 N.length b3) c9]++aN sb mb Y Z a4 U) S8 w_,⟨Fx.nil _ _,⟨mo,fun _=>rfl,aU,o8.draw⟩⟩,⟨?_,?_,?_,?_,?_,?_,?_,?_,?_,?_,?_,?_,?_,?_,trivial⟩,?_⟩;all_goals (intro D bw;intros;rename_i Zm Y9 Z0 i6 i7 i8 i9 j0 YM Yw Yr YQ YK w_ d6;have B:=d6.1;obtain ⟨⟨co,cn,bP,cj,cA,bQ,bO,cM,de,dv,bU,cC,cY,dK,_⟩,⟨b2,c7,c5,t⟩⟩:=d6)
    rotate_left;rotate_left;obtain rfl:=cn ‹_›;apply aH;rotate_left
    obtain rfl:=bP ‹_›;apply ah yG;rotate_left
    obtain rfl:=cj ‹_›;have o9:D 13=false:=bN.2 fun h=>by rw [c5 h] at bw;cases bw
    have q:=c7 o9;refine aD (b:=sp) (v:=ax mo) t 1 (c:=eW sb pv qv nc fuel used ((g26 G).length:Int) (.pointer e8) b8 (eF ng 0 N.length b3) b2) aw rfl (by rw [q];rfl) ?_;have c5:aC D 4 13=true->aC D 4 4=true:=fun _=>rfl
    rotate_left;rotate_left;obtain rfl:=bQ ‹_›;apply aH;rotate_left
    obtain rfl:=bO ‹_›;apply ah eU;rotate_left
    obtain rfl:=cM ‹_›;refine aD (b:=sp) (v:=b8) t 1 (c:=eW sb pv qv nc fuel used ((g26 G).length:Int) (.pointer e8) b8 (eF ng 0 N.length b3) b2) fB rfl rfl ?_;rotate_left
    have Db:=de ‹_›;refine mG (e:=fk) (k:=9) (n:=b0.length) (xs:=b0.flatten) t 2 (by rw [Db];rfl) jo ?_;rotate_left
    obtain rfl:=cA ‹_›;obtain rfl:=dv ‹_›;apply ad9;rotate_left
    obtain rfl:=co ‹_›;apply aH;rotate_left
    obtain rfl:=cC ‹_›;apply ah yG;rotate_left
    obtain rfl:=cY ‹_›;obtain rfl:=bU ‹_›;refine dD t 1 (n:=1) rfl (by rw [aw];rfl) rfl (l9 rfl) (by simp [Value.cells,Value.oneCell']) fun w_ t=>?_;obtain ⟨b2,hF⟩:∃ a,a=(if mo<(b0.length:Int) then (b0.length:Int) else mo):=⟨_,rfl⟩
    have c7:aC D 13 13=false->mo=b2:=fun h=>Bool.noConfusion h;have c5:aC D 13 13=true->aC D 13 4=true:=fun _=>by assumption
    have t:Inv w X ([ay b6 #[a0,a1,a2,a3] ab,g7 sp (eW sb pv qv nc fuel used ((g26 G).length:Int) (.pointer e8) b8 (eF ng 0 N.length b3) b2),chI b8 b0,noI (eF ng 0 N.length b3) c9]++aN sb mb Y Z a4 U) S8 w_:=by rw [hF];exact t
    rotate_left
    all_goals try exact ⟨B.set _ (by first|rfl|assumption|trivial),b2,c7,c5,t⟩
    obtain ⟨rfl,rfl,rfl,rfl,rfl,rfl,rfl,rfl,Db,rfl,rfl,rfl,rfl,_,_⟩:=B.all;clear B co cn bP cj cA bQ bO cM de dv bU cC cY dK;have e3:=g6.trans i5;have n2:=e1.short;have r9:unb (g26 G)=unb G+26:=by unfold Go.Proofs.YtellfcpffcipcaaGreatDoor.g26;rw [tu]
    refine ⟨_,_,S8,rfl,t.sub (kA _ _),c6.trans e3,rfl,Y,Z,a4,U,f0,_,b8,b0,_,c9,_,by rw [mw];rfl,?_,g1.upS e3.1,l1.monoR fun _ _=>RdCI.mono ((e6.trans e4).trans i5).1,?_,l2,by show U.length+unb d0<=d0.length;omega⟩
    ·show GL S8 _ (nf cl G.length chs.length an rest);rw [List.map_map,o0] at h0;exact h0
    ·show Rows 6 (RdNI S8) c9 (OX nodes (an:Int).toNat i);rw [dq,Zr _ _ _ k3,g2];obtain ⟨c0,c1,c2,c3,f6,n0⟩:=hK.nd.hR an k3 (by omega);refine (hK.nd.monoR fun _ _=>RdNI.mono (c6.trans e3).1).set an ⟨c0,c1,c2,c3,by rw [f6];rfl,n0.mono (c6.trans e3).1⟩ ?_;rw [mQ];exact hK.nd.hk _ (bJ _)
  ·refine aE (fun _=>?_) (fun hb=>by cases hb);refine aH (ad t 1 rfl iH gP rfl ?_);obtain ⟨ns,rfl,k0,n1,n2⟩:=e1;have h26:unb (g26 G)=unb G+26:=by unfold g26;rw [tu]
   refine Run.callE (A:=[_,_,_,_]) nC nq t (zk (mark:=tr.length) g1 (by simp) (fun n hn=>by
    rw [WP] at hn;obtain ⟨j,rfl,_⟩:=n1 n hn;omega) (by rw [bK];omega)) fun v' I' S4 w'=>?_
   rintro ⟨eS,rfl,l3,l4,rfl,f9⟩ _ t;rw [eS] at t;rw [WP,k0] at f9;rw [IE] at t;refine bA (by omega) ?_;refine ⟨⟨k+1,g26 G,l3,Z,l4,SN,h6,rfl,p1,?_,by rw [mw];omega,c6,f9,t⟩,by simp only [intOf,dq];omega⟩;rw [mw,c8,zC e5,dj e5]
 ·have:k=l.length:=by omega
  subst this;rw [dY] at f1;cases f1;refine ⟨_,_,S1,rfl,t.sub (kA _ _),f2,rfl,d1,d2,d3,tr,ms,b5,cv,b7,nv,N,mo,rfl,rfl,rfl,rfl,?_⟩;have i1:=hK.mono f2.1;refine ⟨by rw [<- c8];exact f8,i1.ch,i1.nd,i1.mkI.go (TrG.grow st tr (by omega)),?_⟩;have:=hK.tb;rw [<- c8,c8,dj (by omega)];unfold ct;rw [tu];omega
end
end
end Go.Proofs.YtellfcpffcipcaaGreatDoor
