/- The graph of calls: the plain form. -/
import Derived.Test.YtgllldjiaglkcaaGreatDoorZUf13
namespace Go.Proofs.YtgllldjiaglkcaaGreatDoor
section
open Go Go.RowKit
attribute [local irreducible] Run CondV aq aK

def iL (l:List Pd) (ts:List T):List Pd:=ts.foldl (fun l t=>if dI t=true then mv l (bN t) else l) l
def jb (l:List Pd) (p:List C) (x:Pd):List Pd:=p.foldl (fun l c=>if gQ (bN c.head) x=true then iL l c.body else l) l
def jt (p:List C) (x:Pd):List Pd:=jb [] p x
def hH (l m:List Pd):List Pd:=m.foldl mv l
def qj:Nat->List C->List Pd->Nat->List Pd
 | 0,_,l,_=>l
 | n+1,p,l,i=>if h:i<l.length then qj n p (hH l (jt p l[i])) (i+1) else l
def gPs (p:List C):List Pd:=p.flatMap fun c=>c.body.map bN
def xu (p:List C) (l:List Pd):List Pd:=qj (l.length+(gPs p).length) p l 0
theorem Gb:∀ (ts:List T) (l:List Pd) (y:Pd),y∈iL l ts->y∈l ∨ y∈ts.map bN
 | [],l,y,h=>.inl h
 | t::ts,l,y,h=>by
  have e:iL l (t::ts)=iL (if dI t=true then mv l (bN t) else l) ts:=rfl;rw [e] at h;rcases Gb ts _ y h with h|h
  ·split at h
   ·unfold mv at h;split at h
    ·exact .inl h
    ·rcases bF.1 h with h|h
     ·exact .inl h
     ·simp at h; subst h; exact .inr (by simp)
   ·exact .inl h
  ·exact .inr (by simp at h ⊢; exact .inr h)
theorem vJ (x:Pd):∀ (p:List C) (l:List Pd) (y:Pd),y∈jb l p x->y∈l ∨ y∈gPs p
 | [],l,y,h=>.inl h
 | c::p,l,y,h=>by
  have e:jb l (c::p) x=jb (if gQ (bN c.head) x=true then iL l c.body else l) p x:=rfl;have a:∀ z,z∈gPs (c::p)↔z∈c.body.map bN ∨ z∈gPs p:=fun z=>by simp only [gPs,rQ,bF]
  rw [e] at h;rcases vJ x p _ y h with h|h
  ·split at h
   ·rcases Gb _ _ _ h with h|h
    ·exact .inl h
    ·exact .inr ((a y).2 (.inl h))
   ·exact .inl h
  ·exact .inr ((a y).2 (.inr h))
theorem QT {p:List C} {x y:Pd} (h:y∈jt p x):y∈gPs p:=by
 rcases vJ x p [] y h with h|h
 ·simp at h
 ·exact h
def pot (G l:List Pd):Nat:=(G.filter fun g=>!G0 l g).length
theorem Yu (G l:List Pd):pot G l<=G.length:=VI ..
theorem Ao (l:List Pd) (x g:Pd):G0 (l++[x]) g=(G0 l g || gQ g x):=by simp [G0]
theorem Cz (l:List Pd) (x:Pd):∀ G:List Pd,pot G (l++[x])<=pot G l
 | []=>aS _
 | g::G=>by
  have:=Cz l x G;unfold pot at *;rw [rN,rN,Ao];cases G0 l g <;> cases gQ g x <;> simp <;> omega
theorem Cf (l:List Pd) (x:Pd) (a:G0 l x=false):∀ G:List Pd,x∈G->pot G (l++[x])+1<=pot G l
 | g::G,h=>by
  by_cases e:x=g
  ·subst e;have:=Cz l x G;unfold pot at *;rw [rN,rN,Ao,a,pf];simp;omega
  ·have f:x∈G:=by
    rcases bY.1 h with h|h
    ·exact absurd h e
    ·exact h
   have:=Cf l x a G f;unfold pot at *;rw [rN,rN,Ao];have e2:gQ g x=false:=by rw [pf]; exact ba fun h=>e h.symm
   rw [e2];cases G0 l g <;> simp <;> omega
theorem Uv {G l:List Pd} {x:Pd} (a:x∈G):(mv l x).length+pot G (mv l x)<=l.length+pot G l:=by
 unfold mv;split
 ·exact aS _
 ·rename_i h
  have:=Cf l x (bx.2 h) G a;rw [bA,lu];omega

section
variable {P:Program} {w w0:World} {X:List Nat} {L:List Item} {S:ae} {K:Value->World->Prop}
end
end
section
open Go Go.RowKit
attribute [local irreducible] Run CondV aq aK
end
section
open Go Go.RowKit
attribute [local irreducible] Run CondV aq aK
end
section
open Go Go.RowKit
attribute [local irreducible] Run CondV aq aK
end
section
open Go Go.RowKit
attribute [local irreducible] Run CondV aq aK

def gH (l:List Pd) (p:List C):List Pd:=p.foldl (fun l c=>mv l (bN c.head)) l
def Ec (p:List C):List Pd:=if dc p=true then gH [] p else []
end
section
open Go Go.ChangeShapes Go.WideShapes Go.ChangeAt Go.RowKit
section
attribute [local irreducible] Run CondV aq aK
end
theorem two {cs:List Value} (h:cs.length=2):∃ a b,cs=[a,b]:=by
 match cs,h with
 | [a,b],_=>exact ⟨a,b,rfl⟩
end
section
open Go Go.RowKit
section
variable {br:Nat} {sl:Value} {ys:List Nat}
attribute [local irreducible] Run CondV aq aK
theorem Pd.one (x:Pd):∀ u∈x.cells,u.oneCell'=true:=by
 intro u f;have a:u∈([.string x.name,.int .i64 x.arity]:List Value):=f;simp at a;rcases a with rfl|rfl <;> rfl
end
end
section
open Go Go.ChangeShapes Go.WideShapes Go.ChangeAt Go.RowKit
theorem aaP:Tryz.prog.underlying Ky=some (.int .u8):=by kernel_rfl
theorem Xg {H:Type} {enc:TypeId × Value->H} {W:World} {sp:Nat->Bool} {held:Bool} {fuel:Nat} {cs:List Value} {x:DataW H × List MemPlace} (h:DataW.trod enc Tryz.prog W 0 sp held fuel Ky cs=some x) :
  ∃ n,oD cs n:=by
 cases fuel with
 | zero=>simp [DataW.trod] at h
 | succ n=>
  unfold DataW.trod at h;rw [aaP] at h;split at h <;> simp_all
  rename_i f g m a
  subst a;obtain ⟨⟨_,h⟩,_⟩:=h;simp only [Lit.wf,bM,bD] at h;have i:0<=m/\m<=255:=h;exact ⟨m.toNat,by rw [oD,nR (by omega)]; exact ⟨rfl,by omega⟩⟩
theorem QE {H:Type} {enc:TypeId × Value->H} {W:World} {sp:Nat->Bool} {held:Bool} {fuel:Nat} {v:Value} {x:DataW H × List MemPlace} (h:DataW.trod enc Tryz.prog W 0 sp held fuel Od [v]=some x) :
  ∃ ys,RdSl (SD W) 1 oD v ys:=W0 eQ (by omega) h fun _ _ _ _ a=>Xg a
section
variable {w0 w:World} {X:List Nat} {L:List Item} {S:ae} {K:Value->World->Prop}
attribute [local irreducible] Run CondV aq aK
theorem Zf {P:Program} {T:TypeId} {f g:Bool} {a b:Bool} (h:P.underlying T=some .bool) (hk:K (.bool (a == b)) w):Run P (c9 .eql T f g (.bool a) (.bool b)) w K:=
 Run.of (by
  have i:(Op.equal T (.bool a) (.bool b)).run P w=.ok (a == b) w:=by
   rw [Op.equal,Op.maxDepth,Op.equalIn.eq_def];simp [run_underlying h]
  simp only [c9,binOp,Sem.run_bind,xF,Result.andThen_ok,i,Sem.run_pure]) hk
theorem T3 (t:T):eqT t t=true:=(Ed t t).2 rfl
theorem xc {f i:C} {cs ds:List Value} (h:RdC S cs f) (g:RdC S ds i):Pure Tryz.prog uC [.agg cs.toArray,.agg ds.toArray] S (.bool (eqT f.head i.head && eqL f.body i.body)):=by
 intro w a;obtain ⟨hd,J,rfl,r,M⟩:=h;obtain ⟨N,m,rfl,B,O⟩:=g;have o:=r;have q:=B;obtain ⟨kv,rfl,_⟩:=RdT.iff.1 r;obtain ⟨l,rfl,_⟩:=RdT.iff.1 B;refine sc.2 ?_;dsimp only[sc,bm];refine bJ a fun D w' a=>?_;refine bJ a fun G w' a=>?_;have a:Inv w [] [.blk D (.cells #[.int .i64 f.head.kind,.int .i64 f.head.n,.string f.head.name,kv,J] ac),.blk G (.cells #[.int .i64 i.head.kind,.int .i64 i.head.n,.string i.head.name,l,m] ac)] S w':=a;refine aw bO ?_;refine dC a 0 [.int .i64 f.head.kind,.int .i64 f.head.n,.string f.head.name,kv] ad rfl rfl Ax ?_;refine aw bO ?_;refine dC a 1 [.int .i64 i.head.kind,.int .i64 i.head.n,.string i.head.name,l] ad rfl rfl Ax ?_;refine Run.callPure oA oy a (ij _ _ S _ _ o q) fun w' a=>?_;cases U:eqT f.head i.head
 ·refine rpG ?_;exact done a (by rw [iP])
 ·refine rpG ?_;refine af a 0 rfl aU al rfl ?_;refine af a 1 rfl aU al rfl ?_;refine Run.callPure iE iD a (qZ (fun t _=>ij t) M O) fun w' a=>?_;refine rpG ?_;exact done a (by rw [eH])
theorem Dq {a:C} {cs ds:List Value} (h:RdC S cs a) (g:RdC S ds a):Pure Tryz.prog uC [.agg cs.toArray,.agg ds.toArray] S (.bool true):=by
 have:=xc h g
 rwa [T3,(xZ _ _).2 rfl] at this
theorem rI {p:List C} {u v:Value} (h:RdSl S 5 (RdC S) u p) (g:RdSl S 5 (RdC S) v p):Pure Tryz.prog HU [u,v] S (.bool true):=by
 intro w f;have t:=h.le;simp only [maxLen] at t;refine sI.2 ?_;dsimp only[sI,bm];refine aJ h bf ?_;refine aJ g bf ?_;refine fW ?_;refine aD (fun G=>by simp at G) (fun _=>?_);refine ⟨fun i w'=>∃ k:Nat,k<=p.length/\i=.int .i64 k/\Inv w [] [] S w',fun i _=>p.length - (intOf i).toNat,⟨0,bk _,rfl,f⟩,?_⟩;intro t5 _ _ _ a0 a1 a2 a3 a4 a5 a6 a7 a8 a9 _ _ _ _ w';rintro ⟨k,hk,rfl,f⟩;refine aJ h bf ?_;refine bS ?_;refine aL (fun J=>?_) (fun J=>done f rfl);have l:k<p.length:=by omega
 obtain ⟨b,o,cap,c,E,fz,rfl,hS,hR⟩:=h.at_ l;obtain ⟨b2,N,q,c2,E2,b0,rfl,O,r⟩:=g.at_ l;refine ⟨fun D U V Y Z pR oK jG kZ rF jX B=>Fx D 0 [jX=.slice (some ⟨b,o,none⟩) p.length cap,rF=.int .i64 k,kZ=.pointer (some ⟨b,o+k * 5,none⟩),jG=.agg (aX c (o+k * 5) 5).toArray,oK=.slice (some ⟨b2,N,none⟩) p.length q,pR=.int .i64 k,Z=.pointer (some ⟨b2,N+k * 5,none⟩),Y=.agg (aX c2 (N+k * 5) 5).toArray,V=.bool true,U=.bool false]/\Inv w [] [] S B,⟨Fx.nil _ _,f.draw⟩,⟨?_,?_,?_,?_,?_,?_,?_,?_,?_,?_,trivial⟩,?_⟩;all_goals (intro D bH; intros; rename_i U V Y Z pR oK jG kZ rF jX B m; have a:=m.1; obtain ⟨⟨cI,cJ,cH,cD,cL,cN,cq,dg,dG,dL,_⟩,f⟩:=m)
 ·exact ⟨a.set 0 rfl,f⟩
 ·exact ⟨a.set 1 rfl,f⟩
 ·obtain rfl:=cI ‹_›;obtain rfl:=cJ ‹_›;refine az bf l ?_;exact ⟨a.set 2 rfl,f⟩
 ·obtain rfl:=cH ‹_›;refine ci aH hR.length (fun j v M=>by rw [f.cellS hS]; exact aF rfl j v M) ?_;exact ⟨a.set 3 rfl,f⟩
 ·exact ⟨a.set 4 rfl,f⟩
 ·exact ⟨a.set 5 rfl,f⟩
 ·obtain rfl:=cL ‹_›;obtain rfl:=cN ‹_›;refine az bf l ?_;exact ⟨a.set 6 rfl,f⟩
 ·obtain rfl:=cq ‹_›;refine ci aH r.length (fun j v M=>by rw [f.cellS O]; exact aF rfl j v M) ?_;exact ⟨a.set 7 rfl,f⟩
 ·obtain rfl:=cD ‹_›;obtain rfl:=dg ‹_›;refine Run.callPure DG Du f (Dq hR r) fun B f=>?_;exact ⟨a.set 8 rfl,f⟩
 ·obtain rfl:=dG ‹_›;refine cw ?_;exact ⟨a.set 9 rfl,f⟩
 obtain ⟨rfl,rfl,rfl,rfl,rfl,rfl,rfl,rfl,rfl,rfl,_⟩:=a.all;clear a cI cJ cH cD cL cN cq dg dG dL;refine aD (fun G=>by cases G) (fun _=>?_);refine bC (by omega) ?_;exact ⟨⟨k+1,l,rfl,f⟩,by simp [intOf]; omega⟩
end
end
section
open Go Go.RowKit
def VF (a b:Int):Int:=if a.tmod b≠0/\(decide (a.tmod b<0) != decide (b<0))=true then a.tmod b+b else a.tmod b
def oq (n:Int):Int × Int:=if n < -999 ∨ 999<n then (0,5) else (n,0)
def opA (s:ByteArray) (a b:Int):Int × Int:=
 if s=⟨#[43]⟩ then oq (a+b)
 else if s=⟨#[45]⟩ then oq (a - b)
 else if s=⟨#[42]⟩ then oq (a * b)
 else if b=0 then (0,4)
 else if s=⟨#[109,111,100]⟩ then (VF a b,0)
 else (a.tdiv b,0)
def qp (s:ByteArray):List (Int × Int)->Int × Int
 | [a,b]=>if cS s=1 ∨ cS s=2 then (if a.2≠0 then (0,a.2) else if b.2≠0 then (0,b.2) else opA s a.1 b.1) else (0,3)
 | _=>(0,3)
mutual
def du:T->Int × Int
 | .mk k n s ks=>if k=1 then (0,2) else if k=2 then (n,0) else qp s (fe ks)
def fe:List T->List (Int × Int)
 | []=>[]
 | t::ts=>du t::fe ts
end
theorem EN:∀ ts:List T,fe ts=ts.map du
 | []=>rfl
 | t::ts=>by rw [fe,EN ts,lr]
mutual
def okN:T->Prop
 | .mk k n _ ks=>(k=2->-999<=n/\n<=999)/\K9 ks
def K9:List T->Prop
 | []=>True
 | t::ts=>okN t/\K9 ts
end
theorem kY:∀ {ts:List T},K9 ts->∀ t∈ts,okN t
 | t::ts,h,x,a=>by
  rw [K9] at h;rcases bY.1 a with rfl|a
  ·exact h.1
  ·exact kY h.2 x a
theorem okN.kids {t:T} (h:okN t):K9 t.kids:=by cases t; rw [okN] at h; exact h.2
def Sm (n:Int):Prop:=-999<=n/\n<=999
theorem Bf (n:Int):Sm (oq n).1:=by
 unfold oq Sm;split
 ·simp
 ·simp only []; omega
theorem Q0 {a b:Int} (f:Sm a):Sm (a.tdiv b):=by
 unfold Sm at *;have g:(a.tdiv b).natAbs<=a.natAbs:=by
  rw [Int.natAbs_tdiv];exact Nat.div_le_self _ _
 omega
theorem Ri {a b:Int} (_:Sm b) (f:b≠0):(a.tmod b).natAbs<b.natAbs:=by
 rw [Int.natAbs_tmod];exact wY _ (by omega)
theorem Re {a b:Int} (m:Sm b) (o:b≠0):Sm (VF a b):=by
 have h:=Ri (a:=a) m o;unfold VF;split
 ·rename_i g
  obtain ⟨g,i⟩:=g;unfold Sm at *;by_cases l:a.tmod b<0
  ·by_cases f:b<0
   ·simp [l,f] at i
   ·omega
  ·by_cases f:b<0
   ·omega
   ·simp [l,f] at i
 ·unfold Sm at *; omega
theorem Y0 {s:ByteArray} {a b:Int} (f:Sm a) (g:Sm b):Sm (opA s a b).1:=by
 unfold opA;split
 ·exact Bf _
 split
 ·exact Bf _
 split
 ·exact Bf _
 split
 ·simp [Sm]
 split
 ·rename_i h _; exact Re g h
 ·exact Q0 f
theorem yn:∀ t:T,okN t->Sm (du t).1:=by
 refine T.ind fun k n s ks a h=>?_;rw [okN] at h;rw [du];split
 ·simp [Sm]
 split
 ·rename_i hk; exact h.1 hk
 rw [EN]
 match ks,a,h.2 with
 | [],_,_=>simp [qp,Sm]
 | [x],_,_=>simp [qp,Sm]
 | [x,y],a,h2=>
  have f:=a x (by simp) (kY h2 x (by simp));have g:=a y (by simp) (kY h2 y (by simp));simp only [lr,List.map_nil,qp];split
  ·split
   ·simp [Sm]
   ·split
    ·simp [Sm]
    ·exact Y0 f g
  ·simp [Sm]
 | _::_::_::_,_,_=>simp [qp,Sm]
theorem G1 {x b:Int} (h:x.natAbs<b.natAbs):x.tmod b=x:=by
 have a:=Int.tmod_add_mul_tdiv x b;have g:(x.tdiv b).natAbs=0:=by rw [Int.natAbs_tdiv]; exact Nat.div_eq_of_lt h
 have f:x.tdiv b=0:=by omega
 rw [f] at a;simpa using a
theorem Oz {m b:Int} (a:0<=m) (h:m<b):(m+b).tmod b=m:=by
 rw [Int.tmod_eq_emod_of_nonneg (by omega),Int.add_emod_right,Int.emod_eq_of_lt a h]
theorem SU {m b:Int} (f:m<=0) (h:b<m):(m+b).tmod b=m:=by
 have a:=Oz (m:=-m) (b:=-b) (by omega) (by omega);rw [Int.tmod_neg,show -m+-b=-(m+b) by omega,Int.neg_tmod] at a;omega
theorem Xd {a b:Int} (o:b≠0):(a.tmod b+b).tmod b=VF a b:=by
 have h:(a.tmod b).natAbs<b.natAbs:=by
  rw [Int.natAbs_tmod];exact wY _ (by omega)
 obtain ⟨m,l⟩:∃ m,m=a.tmod b:=⟨_,rfl⟩
 unfold VF;rw [<- l] at h ⊢;by_cases g:m<0
 ·by_cases f:b<0
  ·rw [ag (by simp [g,f]),SU (by omega) (by omega)]
  ·rw [ai (by simp [g,f]; omega),G1 (by omega)]
 ·by_cases f:b<0
  ·by_cases i:m=0
   ·subst i; simp
   ·rw [ai (by simp [g,f,i]),G1 (by omega)]
  ·rw [ag (by simp [g,f]),Oz (by omega) (by omega)]
def td (s:ByteArray) (a b:Int):Bool:=
 if s=⟨#[60]⟩ then decide (a<b)
 else if s=⟨#[62]⟩ then decide (b<a)
 else if s=⟨#[61,60]⟩ then decide (a<=b)
 else if s=⟨#[62,61]⟩ then decide (b<=a)
 else decide (a=b)
def gO (b:Bool):Int:=if b=true then 0 else 1
def WZ (s:ByteArray):List (Int × Int)->Int
 | [a,b]=>if a.2≠0 then a.2 else if b.2≠0 then b.2 else gO (td s a.1 b.1)
 | _=>0
def gD:List ByteArray:=[⟨#[60]⟩,⟨#[62]⟩,⟨#[61,60]⟩,⟨#[62,61]⟩,⟨#[61,58,61]⟩]
abbrev aa7 (p:Int × Int):Value:=.tuple #[.int .i64 p.1,.int .i64 p.2]
theorem Mu (s:ByteArray) (l:List ByteArray):(l.any fun x=>decide (x=s))=di s l:=by
 rw [di]
 congr 1
 funext x
 rw [gB];exact xt
theorem BK {l:List T} (h:l.length=2):∃ x y,l=[x,y]:=by
 match l,h with
 | [x,y],_=>exact ⟨x,y,rfl⟩
theorem SO (n:Int):oq n=if (decide (-999<=n) && decide (n<=999))=true then (n,0) else (0,5):=by
 unfold oq;by_cases h:n < -999 ∨ 999<n
 ·rw [ai h,ag (by simp; omega)]
 ·rw [ag h,ai (by simp; omega)]
theorem Vc {n:Int} (h:Sm n):oq n=(n,0):=by
 unfold oq Sm at *;rw [ag (by omega)]
section
attribute [local irreducible] Run CondV aq aK
theorem YL {a b:Int} (f:Sm a) (g:Sm b):-998001<=a * b/\a * b<=998001:=by
 unfold Sm at *;have h:(a * b).natAbs=a.natAbs * b.natAbs:=Int.natAbs_mul a b;have i:a.natAbs * b.natAbs<=999 * 999:=L5 (by omega) (by omega);omega
theorem dO (b:Bool) (S:ae):Pure Tryz.prog n_i_holds [.bool b] S (.int .i64 (gO b)):=by
 intro w a;refine sh_i_holds.2 ?_;dsimp only[sh_i_holds,aO];refine aD (fun h=>done a ?_) (fun h=>done a ?_) <;> rw [h] <;> rfl
theorem oz:∀ (t:T) (S:ae) (cs:List Value),RdT S cs t->okN t->Pure Tryz.prog SM [.agg cs.toArray] S (aa7 (du t)):=by
 refine T.ind fun k n s ks ih S0 cs h hn=>?_;intro w f;obtain ⟨kv,rfl,_,_,_,l⟩:=RdT.iff.1 h;rw [okN] at hn;simp only [T.name,T.kids,T.kind,T.n] at l ⊢;refine Fe.2 ?_;dsimp only[Fe,aO];refine bJ f fun b1 w' f=>?_;refine af f 0 rfl aW aG rfl ?_;refine bw ?_;refine aL (fun B=>?_) (fun B=>?_)
 ·refine af (u:=.int .i64 n) f 0 rfl bi aG rfl ?_;exact done f (by rw [du,ag (by omega),ai B])
 refine af f 0 rfl aW aG rfl ?_;refine bw ?_;refine aL (fun r=>done f (by rw [du,ai r])) (fun r=>?_);have e0:du (.mk k n s ks)=qp s (fe ks):=by rw [du,ag r,ag B]
 rw [e0];refine ⟨fun t w'=>t=.bool (!(decide (ks.length=2) && di s (yi++nh)))/\∃ S,Sle S0 S/\Inv w [] [.blk b1 (.cells #[.int .i64 k,.int .i64 n,.string s,kv] ab)] S w',?_,?_⟩
 ·refine af f 0 rfl ar al rfl ?_;refine aJ l ah ?_;refine fW ?_;have el:decide ((ks.length:Int)=2)=decide (ks.length=2):=by rw [gB]; omega
  rw [el];cases hl:decide (ks.length=2)
  ·refine rpG ?_;exact ⟨rfl,S0,Sle.refl _,f⟩
  refine rpG ?_;refine qA f (by kernel_rfl) rfl (by omega) fun v S1 w' a0 U f=>?_;refine af f 0 rfl bl be rfl ?_;refine Run.callPure gU g6 f (gK s U) fun w' f=>?_;refine cw ?_;refine rpG ?_;refine ⟨?_,S1,a0.1,f⟩;rw [Mu];rfl
 intro q _ _ _ _ _ _ _ _ _ _ _ w';rintro ⟨rfl,S,g,f⟩;have l:=l.monoT g;have G:di s (yi++nh)=true↔cS s=1 ∨ cS s=2:=by
  have e1:di s (yi++nh)=(di s yi || di s nh):=by rw [di,List.any_append]; rfl
  rw [e1];unfold cS;have a1:di s sj=true->di s yi=false/\di s nh=false:=by
   intro hc;rw [di,Gd] at hc;obtain ⟨x,hx,hd⟩:=hc;have hd:=of_decide_eq_true hd;subst hd;simp only [sj,bY,i6,i9] at hx;rcases hx with rfl|rfl|rfl|rfl|rfl|rfl|rfl|rfl|rfl <;> exact ⟨by decide +kernel,by decide +kernel⟩
  cases hc:di s sj
  ·cases hs:di s yi <;> cases hp:di s nh <;> simp
  ·simp [a1 hc]
 refine aD (fun hc=>iw f g ?_) (fun hc=>?_)
 ·match ks,hc with
  | [],_|[_],_|_::_::_::_,_=>rfl
  | [x,y],hc=>
   have hc:di s (yi++nh)=false:=by simpa using hc
   rw [fe,fe,fe,qp,ag (by rw [<- G,hc]; decide)]
 simp only [Ru,bM,bD] at hc;obtain ⟨hl,U⟩:=hc;rw [G] at U;obtain ⟨x,y,rfl⟩:=BK hl;have e1:qp s (fe [x,y])=if (du x).2≠0 then (0,(du x).2) else if (du y).2≠0 then (0,(du y).2) else opA s (du x).1 (du y).1:=by
  rw [fe,fe,fe,qp,ai U]
 rw [e1];have nx:=kY hn.2 x (by simp);have ny:=kY hn.2 y (by simp);refine af f 0 rfl ar al rfl ?_;refine co (i:=0) f l ah ad (by simp) (fun _ _=>RdT.length) fun J o=>?_;refine Run.callPure mD mI f (ih x (by simp) S J o nx) fun w' f=>?_;refine av (v:=.int .i64 _) rfl ?_;refine av (v:=.int .i64 _) rfl ?_;refine fW ?_;refine aD (fun M=>iw f g ?_) (fun M=>?_)
 ·simp at M;rw [ai M]
 simp at M;rw [ag (by simp [M])];refine af f 0 rfl ar al rfl ?_;refine co (i:=1) f l ah ad (by simp) (fun _ _=>RdT.length) fun J o=>?_;refine Run.callPure mD mI f (ih y (by simp) S J o ny) fun w' f=>?_;refine av (v:=.int .i64 _) rfl ?_;refine av (v:=.int .i64 _) rfl ?_;refine fW ?_;refine aD (fun N=>iw f g ?_) (fun N=>?_)
 ·simp at N;rw [ai N]
 simp at N;rw [ag (by simp [N])];have V:=yn x nx;have Y:=yn y ny;obtain ⟨a,ha⟩:∃ a,a=(du x).1:=⟨_,rfl⟩
 obtain ⟨b,hb⟩:∃ b,b=(du y).1:=⟨_,rfl⟩
 rw [<- ha] at V ⊢;rw [<- hb] at Y ⊢;have a4:=YL V Y;have a2:=V;have O:=Y;unfold Sm at V Y;refine ⟨fun q w'=>∃ m:Int,q=.int .i64 m/\opA s a b=oq m/\Inv w [] [.blk b1 (.cells #[.int .i64 k,.int .i64 n,.string s,kv] ab)] S w',?_,?_⟩
 ·refine af f 0 rfl bl be rfl ?_;refine bQ ?_;refine aL (fun h=>?_) (fun r=>?_)
  ·exact bC (by omega) ⟨_,rfl,by rw [opA,ai h],f⟩
  refine bQ ?_;refine aL (fun h=>?_) (fun B=>?_)
  ·exact kT (by omega) ⟨_,rfl,by rw [opA,ag r,ai h],f⟩
  refine bQ ?_;refine aL (fun h=>?_) (fun h3=>?_)
  ·exact FD (by omega) ⟨_,rfl,by rw [opA,ag r,ag B,ai h],f⟩
  refine bw ?_;refine aL (fun h=>?_) (fun D=>?_)
  ·exact iw f g (by rw [opA,ag r,ag B,ag h3,ai h])
  have hd:=Q0 (b:=b) a2;have a3:=hd;unfold Sm at hd;refine aaw D (by omega) ?_;refine af f 0 rfl bl be rfl ?_;refine bQ ?_;refine aL (fun h=>?_) (fun M=>?_)
  ·have hm:=Ri (a:=a) O D;refine XV D ?_;refine bC (by omega) ?_;refine XV D ?_;refine ⟨_,rfl,?_,f⟩;rw [opA,ag r,ag B,ag h3,ag D,ai h,Xd D,Vc (Re O D)]
  ·refine ⟨_,rfl,?_,f⟩;rw [opA,ag r,ag B,ag h3,ag D,ag M,Vc a3]
 intro _ _ _ _ _ _ _ _ _ _ _ _ _ _ _ _ _ _ _ _ _ _ _ _ _ _ _ q _ _ _ _ _ _ _ w';rintro ⟨m,rfl,Z,f⟩;refine Run.callPure fS fT f (fi _ _ _ S) fun w' f=>?_;refine cw ?_;rw [Z,SO];refine aD (fun hc=>iw f g ?_) (fun hc=>iw f g ?_)
 ·rw [o6] at hc;rw [hc]; rfl
 ·rw [Ru] at hc;rw [hc]; rfl
def WF (t:T):Bool:=decide (t.kind=3) && (decide (t.kids.length=2) && di t.name gD)
theorem A0 {t:T} {S0:ae} {cs:List Value} (h:RdT S0 cs t):Pure Tryz.prog KQ [.agg cs.toArray] S0 (.bool (WF t)):=by
 intro w a;obtain ⟨kv,rfl,_,_,_,g⟩:=RdT.iff.1 h;refine wj.2 ?_;dsimp only[wj,aO];unfold WF;refine bJ a fun m w' a=>?_;refine af a 0 rfl aW aG rfl ?_;refine bw ?_;have l:decide ((t.kids.length:Int)=2)=decide (t.kids.length=2):=by rw [gB]; omega
 cases hk:decide (t.kind=3)
 ·refine rpG ?_;exact done a rfl
 refine rpG ?_;refine af a 0 rfl ar al rfl ?_;refine aJ g ah ?_;refine bw ?_;rw [l];refine rpG ?_;cases hl:decide (t.kids.length=2)
 ·refine rpG ?_;exact done a rfl
 refine rpG ?_;refine qA a (by kernel_rfl) rfl (by omega) fun v S1 w' f i a=>?_;refine af a 0 rfl bl be rfl ?_;refine Run.callPure gU g6 a (gK t.name i) fun w' a=>?_;refine rpG ?_;refine iw a f.1 ?_;rw [Mu];rfl
theorem Am {s:ByteArray} {k n:Int} {ks:List T} {S:ae} {cs:List Value} (h:RdT S cs (.mk k n s ks)) (hl:ks.length=2) (hn:K9 ks):Pure Tryz.prog KR [.agg cs.toArray] S (.int .i64 (WZ s (fe ks))):=by
 intro w f;obtain ⟨kv,rfl,_,_,_,m⟩:=RdT.iff.1 h;simp only [T.name,T.kids,T.kind,T.n] at m ⊢;obtain ⟨x,y,rfl⟩:=BK hl;have J:=kY hn x (by simp);have M:=kY hn y (by simp);rw [fe,fe,fe,WZ];refine vB.2 ?_;dsimp only[vB,aO];refine bJ f fun N w' f=>?_;refine af f 0 rfl ar al rfl ?_;refine co (i:=0) f m ah ad (by simp) (fun _ _=>RdT.length) fun l g=>?_;refine Run.callPure mD mI f (oz x S l g J) fun w' f=>?_;refine av (v:=.int .i64 _) rfl ?_;refine av (v:=.int .i64 _) rfl ?_;refine fW ?_;refine aD (fun o=>done f ?_) (fun o=>?_)
 ·simp at o;rw [ai o]
 simp at o;rw [ag (by simp [o])];refine af f 0 rfl ar al rfl ?_;refine co (i:=1) f m ah ad (by simp) (fun _ _=>RdT.length) fun l g=>?_;refine Run.callPure mD mI f (oz y S l g M) fun w' f=>?_;refine av (v:=.int .i64 _) rfl ?_;refine av (v:=.int .i64 _) rfl ?_;refine fW ?_;refine aD (fun q=>done f ?_) (fun q=>?_)
 ·simp at q;rw [ai q]
 simp at q;rw [ag (by simp [q])];refine af f 0 rfl bl be rfl ?_;have a:∀ (b:Bool) {w':World} {L:List Item},Inv w [] L S w'->td s (du x).1 (du y).1=b->Run Tryz.prog (ff (.func (.func n_i_holds) #[] #[]) [.bool b]) w' fun v t=>Ending.returned v=.returned (.int .i64 (gO (td s (du x).1 (du y).1)))/\Inv w [] [] S t:=fun b w' L f e=>
  Run.callPure fn_i_holds nm_i_holds f (dO b S) fun w' f=>done f (by rw [e])
 refine bQ ?_;refine aL (fun h=>bS (a _ f (by rw [td,ai h]))) (fun r=>?_);refine bQ ?_;refine aL (fun h=>eP (a _ f (by rw [td,ag r,ai h]))) (fun B=>?_);refine bQ ?_;refine aL (fun h=>fU (a _ f (by rw [td,ag r,ag B,ai h]))) (fun D=>?_);refine bQ ?_;refine aL (fun h=>jM (a _ f (by rw [td,ag r,ag B,ag D,ai h]))) (fun G=>?_);exact bw (a _ f (by rw [td,ag r,ag B,ag D,ag G]))
end
end
section
open Go Go.RowKit
def zT:T:=.mk 0 0 ⟨#[]⟩ []
def kd (g:T) (i:Nat):T:=g.kids.getD i zT
inductive BJ where
 | done (c:Int)
 | uni (a b:T)
 | not (a b:T)
def Ig (n t u:T):BJ:=if n.kind=1 ∨ t.kind=1 then .done 2 else if n.kind≠2 ∨ t.kind≠3 ∨ t.kids.length=0 then .done 3
 else if n.n<1 ∨ (t.kids.length:Int)<n.n then .done 1 else .uni u (kd t (n.n.toNat - 1))
def vQ (s:ByteArray) (t:T):Bool:=if s=⟨#[118,97,114]⟩ then decide (t.kind=1) else if s=⟨#[110,111,110,118,97,114]⟩ then !decide (t.kind=1)
 else if s=⟨#[105,110,116]⟩ then decide (t.kind=2) else decide (t.kind=3) && decide (t.kids.length=0)
abbrev jH:ByteArray:=⟨#[116,114,117,101]⟩
abbrev lN:ByteArray:=⟨#[102,97,105,108]⟩
abbrev nEq:ByteArray:=⟨#[61]⟩
abbrev nNe:ByteArray:=⟨#[92,61]⟩
abbrev sM:ByteArray:=⟨#[61,61]⟩
abbrev nIs:ByteArray:=⟨#[105,115]⟩
abbrev GF:ByteArray:=⟨#[97,114,103]⟩
def LP (n:Int):T:=.mk 2 n emptyB []
def gA (g:T):BJ:=
 if g.name=jH then .done 0
 else if g.name=lN then .done 1
 else if g.name=nEq then .uni (kd g 0) (kd g 1)
 else if g.name=nNe then .not (kd g 0) (kd g 1)
 else if g.name=sM then .done (gO (eqT (kd g 0) (kd g 1)))
 else if g.name=nIs then (if (du (kd g 1)).2≠0 then .done (du (kd g 1)).2 else .uni (kd g 0) (LP (du (kd g 1)).1))
 else if g.name=GF then Ig (kd g 0) (kd g 1) (kd g 2)
 else if di g.name gD=true then .done (WZ g.name (fe g.kids))
 else .done (gO (vQ g.name (kd g 0)))
def BltJ (st:aj) (j:BJ) (code:Int) (st':aj):Prop:=match j with
 | .done c=>code=c/\st'=st
 | .uni a b=>∃ r,Uni st (.one a b) r st'/\code=gO r
 | .not a b=>st'=st/\∃ r st1,Uni st (.one a b) r st1/\code=gO (!r)
def Blt (st:aj) (g:T) (code:Int) (st':aj):Prop:=BltJ st (gA g) code st'
theorem iv {s:ByteArray} {n:Int} (a:di s sj=true) (h:eT s n=true):n=2:=by
 rw [eT,ai a] at h;exact of_decide_eq_true h
theorem St {n:Int} (h:eT GF n=true):n=3:=by
 rw [eT,ag (by decide +kernel),ag (by decide +kernel),ag (by decide +kernel),ai rfl] at h;exact of_decide_eq_true h
theorem Gy {s:ByteArray} {l:List ByteArray}:di s l=false↔∀ x∈l,s≠x:=by
 rw [di,List.any_eq_false];simp
theorem Xx {s:ByteArray} (h:di s gD=true):di s sj=true:=by
 rw [di,Gd] at h ⊢;obtain ⟨x,a,hd⟩:=h;refine ⟨x,?_,hd⟩;simp only [gD,bY,i6,i9] at a;rcases a with rfl|rfl|rfl|rfl|rfl <;> simp [sj]
theorem uF {s:ByteArray} {n:Int} (h:eT s n=true) (i:s≠jH) (l:s≠lN) (m:s≠nEq) (o:s≠nNe) (q:s≠sM) (r:s≠nIs) (hc:di s gD=false) :
  (di s wz=true/\n=1) ∨ (s=GF/\n=3):=by
 have hk:di s sj=false:=by
  rw [Gy] at hc ⊢;intro x a;simp only [sj,bY,i6,i9] at a;rcases a with rfl|rfl|rfl|rfl|rfl|rfl|rfl|rfl|rfl <;> first|assumption|exact hc _ (by simp [gD])
 have f:di s rf=false:=by
  rw [Gy];intro x a;simp only [rf,bY,i6,i9] at a;rcases a with rfl|rfl <;> assumption
 rw [eT,hk,f,ag (by decide),ag (by decide)] at h;cases g:di s wz
 ·rw [g,ag (by decide)] at h;split at h
  ·rename_i e; exact .inr ⟨e,of_decide_eq_true h⟩
  ·cases h
 ·rw [g,ai rfl] at h;exact .inl ⟨rfl,of_decide_eq_true h⟩
theorem Kf {l:List T} (h:l.length=1):∃ x,l=[x]:=by
 match l,h with
 | [x],_=>exact ⟨x,rfl⟩
theorem V9 {l:List T} (h:l.length=3):∃ x y z,l=[x,y,z]:=by
 match l,h with
 | [x,y,z],_=>exact ⟨x,y,z,rfl⟩
def WN (N:Nat):BJ->Prop
 | .done _=>True
 | .uni a b=>okJ N (.one a b)
 | .not a b=>okJ N (.one a b)
theorem BltJ.ex {N:Nat} {st:aj} {j:BJ} (i:Good N st) (g:WN N j):∃ c f,BltJ st j c f:=by
 match j,g with
 | .done c,_=>exact ⟨c,st,rfl,rfl⟩
 | .uni a b,g=>
  have g:okJ N (.one a b):=g;obtain ⟨r,f,h⟩:=FI (unb st) st i (aS _) _ g;exact ⟨_,f,r,h,rfl⟩
 | .not a b,g=>
  have g:okJ N (.one a b):=g;obtain ⟨r,f,h⟩:=FI (unb st) st i (aS _) _ g;exact ⟨_,st,rfl,r,f,h,rfl⟩
theorem Xk (N:Nat) (n:Int):okU N (LP n):=by
 rw [LP,okU,bL];exact ⟨by decide,(fun h=>by cases h),trivial,by decide +kernel⟩
theorem PN {g:T} {i:Nat} (h:i<g.kids.length):kd g i∈g.kids:=by
 rw [kd,x0,ew h];exact bG h
theorem vW {N:Nat} {g:T} {i:Nat} (a:okU N g/\wT g<=1048576) (h:i<g.kids.length):okU N (kd g i)/\wT (kd g i)<=1048576:=jn a _ (PN h)
theorem yG {N:Nat} {g:T} (a:bU g=true) (f:okU N g/\wT g<=1048576):WN N (gA g):=by
 rw [bU,bM] at a;have a:=a.2;have l:∀ m:Nat,((g.kids.length:Nat):Int)=m->g.kids.length=m:=fun m h=>by omega
 unfold gA;split
 ·trivial
 split
 ·trivial
 split
 ·rename_i h; rw [h] at a
  have:=iv (by decide +kernel) a;exact ⟨vW f (by omega),vW f (by omega)⟩
 split
 ·rename_i h; rw [h] at a
  have:=iv (by decide +kernel) a;exact ⟨vW f (by omega),vW f (by omega)⟩
 split
 ·trivial
 split
 ·rename_i h; rw [h] at a
  have:=iv (by decide +kernel) a;split
  ·trivial
  ·exact ⟨vW f (by omega),Xk N _,by have e:emptyB.size=0:=rfl; simp only [LP,wT,wL,bW]; omega⟩
 split
 ·rename_i h; rw [h] at a
  have:=St a;unfold Ig;split
  ·trivial
  split
  ·trivial
  split
  ·trivial
  ·rename_i q r t
   have o:=vW (i:=1) f (by omega);exact ⟨vW f (by omega),vW o (by omega)⟩
 split
 ·trivial
 ·trivial
theorem Blt.ex {N:Nat} {st:aj} {g:T} (f:Good N st) (h:bU g=true) (i:okU N g/\wT g<=1048576):∃ c a,Blt st g c a:=BltJ.ex f (yG h i)
theorem Blt.good {N:Nat} {st f:aj} {g:T} {c:Int} (i:Good N st) (m:bU g=true) (o:okU N g/\wT g<=1048576) (h:Blt st g c f):Good N f:=by
 have l:=yG m o;unfold Blt at h
 match m:gA g,h,l with
 | .done c,h,_=>exact h.2 ▸ i
 | .uni a b,⟨r,hu,_⟩,l=>exact (hu.good i l).1
 | .not a b,h,_=>exact h.1 ▸ i
theorem RdSl.ptr {α:Type} {S:ae} {k:Nat} {R:List Value->α->Prop} {v:Value} {xs:List α} (h:RdSl S k R v xs) (g:0<xs.length) :
  ∃ b o cap c E f,v=.slice (some ⟨b,o,none⟩) xs.length cap/\S b=some (.cells c E f)/\∀ i (h:i<xs.length),R (aX c (o+i * k) k) xs[i]:=by
 obtain ⟨a,cap,rfl,hl,hc,h⟩:=h;rcases h with h|⟨b,o,c,E,f,rfl,l,h⟩
 ·subst h; simp at g
 ·exact ⟨b,o,cap,c,E,f,rfl,l,h⟩
section
attribute [local irreducible] Run CondV aq aK
end
end
section
open Go Go.RowKit
section
attribute [local irreducible] Run CondV aq aK
def neSt (w0:World) (X:List Nat) (A:List Item) (S:ae) (N:Nat) (st:aj) (r:Bool) (qd xC tU:Value) (w':World):Nat->Prop
 | 0=>Inv w0 X A S w'
 | 1=>Inv w0 X (A++[.row qd ab 4 0 []]) S w'
 | 2=>∃ g cap cur,xC=kvU g N cap/\KnU S cur st/\Inv w0 X (A++[.blk g (.cells cur ab)]) S w'
 | _=>tU=.bool r/\∃ R,Inv w0 X (A++R) S w'
theorem neSt.inv {w0 w':World} {X:List Nat} {A:List Item} {S:ae} {N:Nat} {st:aj} {r:Bool} {a f g:Value}:∀ {n:Nat},neSt w0 X A S N st r a f g w' n->∃ R,Inv w0 X (A++R) S w'
 | 0,h=>⟨[],by rw [bV]; exact h⟩
 | 1,h=>⟨_,h⟩
 | 2,⟨_,_,_,_,_,h⟩=>⟨_,h⟩
 | _+3,h=>h.2
end
end
end Go.Proofs.YtgllldjiaglkcaaGreatDoor
