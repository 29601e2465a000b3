/- impl: resolved terms, if they are small. -/
import Derived.Test.YtgllldjiaglkcaaGreatDoorZUf15
import Derived.Test.YtgllldjiaglkcaaGreatDoorZUf5
import Derived.Test.YtgllldjiaglkcaaGreatDoorZUf3
import Derived.Test.YtgllldjiaglkcaaGreatDoorZUf4
import Derived.Test.YtgllldjiaglkcaaGreatDoorZUf6
namespace Go.Proofs.YtgllldjiaglkcaaGreatDoor
section
open Go Go.RowKit
theorem KnownM.up {S S':ae} {a:Array MapEntry} {st:aj} (h:KnownM S a st) (f:Sle S S'):KnownM S' a st:=
 ⟨fun e g=>by
  obtain ⟨n,t,cs,i,l,m,o⟩:=h.1 e g;exact ⟨n,t,cs,i,l,m.mono f,o⟩,h.2⟩
theorem StS.up {S S':ae} {sb:Nat} {st:aj} (h:StS S S sb st) (a:Sle S S'):StS S' S' sb st:=by
 obtain ⟨mb,tv,f,ck,E,g,i,l⟩:=h;exact ⟨mb,tv,f,ck,E,a _ _ g,a _ _ i,l.up a⟩
def okR (u:T) (deep count:Int):Bool:=decide (count+dG u<=120) && oC u (31 - deep)
def RC (st:aj) (sb:Nat) (t u:T):Prop:=∀ (S:ae) (cs:List Value) (cb:Nat) (deep count:Int),RdT S cs t->StS S S sb st->1<=deep->deep<=1000000->0<=count->count<=1000000->
 Tri Tryz.prog vj [.pointer (some ⟨sb,0,none⟩),.agg cs.toArray,.int .i64 deep,.pointer (some ⟨cb,0,none⟩)] [.blk cb (.cells #[.int .i64 count] cN)] S fun q I' S'=>
  ∃ (cs':List Value) (c':Int),q=.tuple #[.agg cs'.toArray,.bool (okR u deep count)]/\I'=[.blk cb (.cells #[.int .i64 c'] cN)]/\cs'.length=4/\(∀ x∈cs',x.oneCell'=true)/\(okR u deep count=true->c'=count+dG u/\RdT S' cs' u)
section
attribute [local irreducible] Run CondV aq aK
theorem GO {N:Nat} {st:aj} {sb:Nat} {t v:T} {us:List T} (hg:Good N st) (a9:dv st t v) (b0:okU N t/\wT t<=1048576) (e0:us.length=v.kids.length)
  (hk:∀ i (h:i<us.length) (h':i<v.kids.length),RC st sb v.kids[i] us[i]):RC st sb t (.mk v.kind v.n v.name us):=by
 intro S cs o g f h b1 e2 e3 e4 e5 w a;have b7:=h.length;have d0:=dz hg a9 b0;obtain ⟨X,hX⟩:∃ X,X=bP [Item.blk o (.cells #[.int .i64 f] cN)]:=⟨_,rfl⟩
 rw [<- hX] at a ⊢;have f0:=ef us;have B:okR (.mk v.kind v.n v.name us) g f=(decide (f+(1+cY us)<=120) && (if 31 - g<1 then false else Ih us (31 - g - 1))):=by
  rw [okR,nI,oC]
 refine kV.2 ?_;dsimp only[kV,lE];refine bJ a fun J w' a=>?_;refine aQ a bj fun O w' a=>?_;have a:Inv w X ([.blk J (.cells cs.toArray ab),.blk O (.cells #[.int .i64 0,.int .i64 0,.string ⟨#[]⟩,.slice none 0 0] ab)]++[.blk o (.cells #[.int .i64 f] cN)]) S w':=a.perm (cj (l₁:=[_,_]) (l₂:=[_]));refine aC a 0 ad rfl (by simpa using b7) ?_;refine Run.call0 iU iW a (lU hg a9 b0.1 b1 h) fun v' I' S' w'=>?_;rintro ⟨eS,rfl,e6,rfl,U⟩ _ a;rw [eS] at a;clear eS;refine au a 0 rfl ad (by simpa using U.length) (by simpa using b7) (by simpa using U.one) fun w' a=>?_;obtain ⟨kv,rfl,c7,c8,hs,a8⟩:=RdT.iff.1 U;have a:Inv w X [.blk J (.cells #[.int .i64 v.kind,.int .i64 v.n,.string v.name,kv] ab),.blk O (.cells #[.int .i64 0,.int .i64 0,.string ⟨#[]⟩,.slice none 0 0] ab),.blk o (.cells #[.int .i64 f] cN)] S w':=a;have d6:=a8.le;have f1:v.kids.length<=1048576:=by
  have:=d0.2;cases v;simp only [wT] at this;simp only [T.kids];omega
 refine aE ?_;refine aU a 2 aG rfl rfl ?_;refine bC (by omega) ?_;refine aE ?_;refine dA a 2 (n:=1) rfl (by decide +kernel) rfl (by simp) (by simp [Value.cells,Value.oneCell']) fun w' a=>?_;have a:Inv w X [.blk J (.cells #[.int .i64 v.kind,.int .i64 v.n,.string v.name,kv] ab),.blk O (.cells #[.int .i64 0,.int .i64 0,.string ⟨#[]⟩,.slice none 0 0] ab),.blk o (.cells #[.int .i64 (f+1)] cN)] S w':=a;refine ⟨fun q w'=>q=.bool (decide (120<f+1 ∨ 30<g))/\Inv w X [.blk J (.cells #[.int .i64 v.kind,.int .i64 v.n,.string v.name,kv] ab),.blk O (.cells #[.int .i64 0,.int .i64 0,.string ⟨#[]⟩,.slice none 0 0] ab),.blk o (.cells #[.int .i64 (f+1)] cN)] S w',?_,?_⟩
 ·refine aE ?_;refine aU a 2 aG rfl rfl ?_;refine eP ?_;by_cases e1:120<f+1
  ·rw [aN e1];refine rpG ?_;exact ⟨by rw [aN (Or.inl e1)],a⟩
  ·rw [aZ e1];refine rpG ?_;refine eP ?_;refine rpG ?_;refine ⟨?_,a⟩
   congr 1
   rw [oh,bD,bD];omega
 intro q _ _ _ _ _ _ _ w';rintro ⟨rfl,a⟩;refine aL (fun b3=>?_) (fun c3=>?_)
 ·have Z:okR (.mk v.kind v.n v.name us) g f=false:=by
   rw [B];rcases b3 with e|e
   ·rw [aZ (by omega),iQ]
   ·rw [ai (by omega),xI]
  refine qx ?_;refine au a 1 rfl ad rfl rfl pi fun w' a=>?_;refine bB a 1 ad rfl rfl ?_;exact ⟨_,_,_,rfl,a.pick [false,false,true],Ext.refl _ _ _,[.int .i64 0,.int .i64 0,.string ⟨#[]⟩,.slice none 0 0],f+1,by rw [Z],rfl,rfl,pi,fun h=>by rw [Z] at h; cases h⟩
 have d1:f+1<=120:=by omega
 have f2:g<=30:=by omega
 rw [ag (by omega)] at B;refine af a 0 rfl aW aG rfl ?_;refine af a 0 rfl bi aG rfl ?_;refine af a 0 rfl bl be rfl ?_;refine ja ?_;refine aQ a bj fun m w' a=>?_;have a:Inv w X [.blk J (.cells #[.int .i64 v.kind,.int .i64 v.n,.string v.name,kv] ab),.blk O (.cells #[.int .i64 0,.int .i64 0,.string ⟨#[]⟩,.slice none 0 0] ab),.blk m _,.blk o (.cells #[.int .i64 (f+1)] cN)] S w':=a.perm (((cj (l₁:=[_]) (l₂:=[_])).cons _).cons _);refine au a 2 rfl ad rfl rfl (by simp [Value.oneCell']) fun w' a=>?_;have a:=a.rowNil ab 4;have a:Inv w X [.blk J (.cells #[.int .i64 v.kind,.int .i64 v.n,.string v.name,kv] ab),.blk O (.cells #[.int .i64 0,.int .i64 0,.string ⟨#[]⟩,.slice none 0 0] ab),.blk m (.cells #[.int .i64 v.kind,.int .i64 v.n,.string v.name,.slice none 0 0] ab),aA (.slice none 0 0) ab 4 [],.blk o (.cells #[.int .i64 (f+1)] cN)] S w':=a.perm ((((cj (l₁:=[_]) (l₂:=[_])).cons _).cons _).cons _);refine af a 0 rfl ar al rfl ?_;refine aJ a8 ah ?_;refine ⟨fun i w'=>∃ (j:Nat) (c:Int) (l:Value) (css:List (List Value)) (S1:ae),j<=us.length/\i=.int .i64 j/\Ext w.heap.size X S S1/\c=f+1+cY (us.take j)/\c<=120/\(∀ k (_:k<us.length),k<j->oC us[k] (31 - g - 1)=true)/\Rows 4 (RdT S1) css (us.take j)/\
   Inv w X [.blk J (.cells #[.int .i64 v.kind,.int .i64 v.n,.string v.name,kv] ab),.blk O (.cells #[.int .i64 0,.int .i64 0,.string ⟨#[]⟩,.slice none 0 0] ab),.blk m (.cells #[.int .i64 v.kind,.int .i64 v.n,.string v.name,l] ab),aA l ab 4 css,.blk o (.cells #[.int .i64 c] cN)] S1 w',
  fun i _=>us.length - (intOf i).toNat,⟨0,f+1,_,[],S,bk _,rfl,Ext.refl _ _ _,by simp [cY],d1,fun k _ h=>by omega,Rows.nil _ _,a⟩,?_⟩
 intro e7 _ _ _ _ _ _ _ _ _ _ _ _ _ _ _ _ _ _ _ _ _ _ _ _ _ _ w';rintro ⟨j,c,l,css,S1,hj,rfl,hE,hc,c1,a3,hR,a⟩;have d7:=ef (us.take j);refine bT ?_;refine aL (fun c4=>?_) (fun c4=>?_)
 ·have a0:j<us.length:=by omega
  have b9:j<v.kids.length:=by omega
  have d2:=hR.hc;rw [cL] at d2;refine cn a (a8.monoT hE.1) ah ad b9 (fun _ _=>RdT.length) fun c5 Y=>?_;have a4:=Y.length;refine aQ a bj fun c6 w' a=>?_;have a:=a.perm (M:=.blk c6 _::[.blk J (.cells #[.int .i64 v.kind,.int .i64 v.n,.string v.name,kv] ab),.blk O (.cells #[.int .i64 0,.int .i64 0,.string ⟨#[]⟩,.slice none 0 0] ab),.blk m (.cells #[.int .i64 v.kind,.int .i64 v.n,.string v.name,l] ab),aA l ab 4 css,.blk o (.cells #[.int .i64 c] cN)]) (cj (l₁:=[_]));refine au a 0 rfl ad (by simpa using a4) rfl (by simpa using Y.one) fun w' a=>?_;refine aC a 0 ad rfl (by simpa using a4) ?_;refine bC (by omega) ?_;have a:Inv w X ([.blk J (.cells #[.int .i64 v.kind,.int .i64 v.n,.string v.name,kv] ab),.blk O (.cells #[.int .i64 0,.int .i64 0,.string ⟨#[]⟩,.slice none 0 0] ab),.blk m (.cells #[.int .i64 v.kind,.int .i64 v.n,.string v.name,l] ab),aA l ab 4 css]++[.blk o (.cells #[.int .i64 c] cN)]) S1 w':=a.pick [false,true,true,true,true,true];refine Run.callE kP lj a (hk j a0 b9 S1 c5 o (g+1) c Y (b1.up hE.1) (by omega) (by omega) (by omega) (by omega)) fun v' I' S2 w'=>?_;rintro ⟨V,c2,rfl,rfl,a1,b2,a6⟩ a7 a;refine av rfl ?_;refine av rfl ?_;refine aQ a bj fun b4 w' a=>?_;have a:=a.perm (M:=.blk b4 _::[.blk J (.cells #[.int .i64 v.kind,.int .i64 v.n,.string v.name,kv] ab),.blk O (.cells #[.int .i64 0,.int .i64 0,.string ⟨#[]⟩,.slice none 0 0] ab),.blk m (.cells #[.int .i64 v.kind,.int .i64 v.n,.string v.name,l] ab),aA l ab 4 css,.blk o (.cells #[.int .i64 c2] cN)]) (cj (l₁:=[_]));refine au a 0 rfl ad (by simpa using a1) rfl (by simpa using b2) fun w' a=>?_;refine cw ?_;have f3:=Jz us j a0;have d9:=yn us (j+1);refine aD (fun hb=>?_) (fun hb=>?_)
  ·have G:okR us[j] (g+1) c=false:=by simpa using hb
   have Z:okR (.mk v.kind v.n v.name us) g f=false:=by
    rw [B];rw [okR,Bool.and_eq_false_iff] at G;rcases G with e|e
    ·have e:=of_decide_eq_false e;rw [aZ (by omega),iQ]
    ·have:Ih us (31 - g - 1)=false:=by
      rw [zO,List.all_eq_false];exact ⟨us[j],bG a0,by rw [show 31 - g - 1=31 - (g+1) by omega,e]; decide⟩
     rw [this,xI]
   refine qx ?_;have a:Inv w X [.blk b4 (.cells V.toArray ab),.blk J (.cells #[.int .i64 v.kind,.int .i64 v.n,.string v.name,kv] ab),.blk O (.cells #[.int .i64 0,.int .i64 0,.string ⟨#[]⟩,.slice none 0 0] ab),.blk m (.cells #[.int .i64 v.kind,.int .i64 v.n,.string v.name,l] ab),aA l ab 4 css,.blk o (.cells #[.int .i64 c2] cN)] S2 w':=a;refine au a 2 rfl ad rfl rfl pi fun w' a=>?_;refine bB a 2 ad rfl rfl ?_;exact ⟨_,_,_,rfl,a.pick [false,false,false,false,false,true],hE.trans a7,[.int .i64 0,.int .i64 0,.string ⟨#[]⟩,.slice none 0 0],c2,by rw [Z],rfl,rfl,pi,fun h=>by rw [Z] at h; cases h⟩
  ·have G:okR us[j] (g+1) c=true:=by simpa using hb
   obtain ⟨e9,c9⟩:=a6 G;rw [okR,bM,bD] at G;refine af (b:=m) (c:=#[.int .i64 v.kind,.int .i64 v.n,.string v.name,l]) a 3 rfl ar al rfl ?_;refine aC a 0 ad rfl (by simpa using a1) ?_;refine de a 4 V bn (by omega) (by omega) rfl a1 b2 (by omega) (by omega) fun r w' a=>?_;have D:=re (a.its (aA r ab 4 (css++[V])) (by simp));refine dj (b:=m) (c:=#[.int .i64 v.kind,.int .i64 v.n,.string v.name,l]) a 3 rfl ar al rfl D.1 D.2 fun w' a=>?_;have a:Inv w X [.blk J (.cells #[.int .i64 v.kind,.int .i64 v.n,.string v.name,kv] ab),.blk O (.cells #[.int .i64 0,.int .i64 0,.string ⟨#[]⟩,.slice none 0 0] ab),.blk m (.cells #[.int .i64 v.kind,.int .i64 v.n,.string v.name,r] ab),aA r ab 4 (css++[V]),.blk o (.cells #[.int .i64 c2] cN)] S2 w':=a.pick [false,true,true,true,true,true];refine bC (by omega) ?_;refine ⟨⟨j+1,c2,r,css++[V],S2,a0,rfl,hE.trans a7,by omega,by omega,fun k a2 e8=>?_,?_,a⟩,by simp [intOf]; omega⟩
   ·by_cases e:k=j
    ·subst e;rw [show 31 - g - 1=31 - (g+1) by omega];exact G.2
    ·exact a3 k a2 (by omega)
   ·rw [eT a0];exact (hR.monoR fun _ _ h=>RdT.mono a7.1 h).snoc c9 a1
 ·have d3:j=us.length:=by omega
  subst d3;rw [ed] at hR hc;have c0:okR (.mk v.kind v.n v.name us) g f=true:=by
   rw [B,aN (by omega),eH,zO,dE];intro x hx;obtain ⟨k,a2,rfl⟩:=mG.1 hx;exact a3 k a2 a2
  refine aC (b:=m) (c:=#[.int .i64 v.kind,.int .i64 v.n,.string v.name,l]) a 2 ad rfl rfl ?_;have D:=re (a.its (aA l ab 4 css) (by simp));have a5:∀ x∈([.int .i64 v.kind,.int .i64 v.n,.string v.name,l]:List Value),x.oneCell'=true:=by
   intro x hx;simp at hx;rcases hx with rfl|rfl|rfl|rfl <;> first|rfl|exact D.2
  refine au a 1 rfl ad rfl rfl a5 fun w' a=>?_;refine bB (c:=#[.int .i64 v.kind,.int .i64 v.n,.string v.name,l]) a 1 ad rfl rfl ?_;have a:Inv w X ([.blk o (.cells #[.int .i64 c] cN)]++[aA l ab 4 css]) S1 w':=(a.pick [false,false,false,true,true]).perm (List.Perm.swap ..);obtain ⟨S3,b6,a6,a⟩:=a.lendExt;have d4:=RowRd.rows (hR.monoR fun _ _ h=>RdT.mono b6.1 h) a6;exact ⟨_,_,_,rfl,a,hE.trans b6,[.int .i64 v.kind,.int .i64 v.n,.string v.name,l],c,by rw [c0],rfl,rfl,a5,fun _=>⟨by rw [nI]; omega,RdT.iff.2 ⟨l,rfl,c7,c8,hs,d4⟩⟩⟩
theorem DW {N:Nat} {st:aj} (sb:Nat) (m:Good N st) {j:OI} (r:Res st j):match j with
  | .one t u=>(okU N t/\wT t<=1048576)->RC st sb t u
  | .list ts us=>(∀ t∈ts,okU N t/\wT t<=1048576)->us.length=ts.length/\∀ i (h:i<us.length) (o:i<ts.length),RC st sb ts[i] us[i]:=by
 induction r with
 | one q _ G=>
  intro a;have f:=G (jr (dz m q a));exact GO m q a f.1 f.2
 | nil=>exact fun _=>⟨rfl,fun i h _=>by simp at h⟩
 | cons _ _ g l=>
  intro a;obtain ⟨f,D⟩:=l fun t B=>a t (aR _ B);refine ⟨by simp [f],fun i h o=>?_⟩;cases i with
  | zero=>exact g (a _ (aM ..))
  | succ i=>exact D i (by simpa using h) (by simpa using o)
theorem vG {N:Nat} {st:aj} (M:Good N st) {t u:T} (O:Res st (.one t u)) (U:okU N t/\wT t<=1048576) {S:ae} {cs:List Value} {sb:Nat} (h:RdT S cs t) (m:StS S S sb st) :
  Tri Tryz.prog od [.pointer (some ⟨sb,0,none⟩),.agg cs.toArray] [] S fun q I' S'=>I'=[]/\∃ f:List Value,f.length=4/\(∀ x∈f,x.oneCell'=true)/\q=.tuple #[.agg f.toArray,.bool (bv u)]/\(bv u=true->RdT S' f u):=by
 intro w a;have D:=h.length;have a:Inv w [] [] S w:=a;have G:RC st sb t u:=DW sb M O U;have e:okR u 1 0=bv u:=by rw [okR,bv,Int.zero_add]; rfl
 refine mQ.2 ?_;dsimp only[mQ,bm];refine bJ a fun b3 w' a=>?_;refine aQ a bj fun J w' a=>?_;have Y:iH Tryz.prog cN=some (.int .i64 0):=by kernel_rfl
 refine aQ a Y fun B w' a=>?_;refine dA a 2 (n:=1) rfl (by decide +kernel) rfl (by simp [Value.cells]) (by simp [Value.cells,Value.oneCell']) fun w' a=>?_;have a:Inv w [] ([.blk b3 (.cells cs.toArray ab),.blk J (.cells #[.int .i64 0,.int .i64 0,.string ⟨#[]⟩,.slice none 0 0] ab)]++[.blk B (.cells #[.int .i64 0] cN)]) S w':=a;refine aC a 0 ad rfl (by simpa using D) ?_;refine Run.callE kP lj a (G S cs B 1 0 h m (by omega) (by omega) (by omega) (by omega)) fun Z I' S2 w'=>?_;rintro ⟨o,V,rfl,rfl,g,i,l⟩ r a;rw [e] at l ⊢;refine av rfl ?_;refine av rfl ?_;have a:Inv w [] [.blk b3 (.cells cs.toArray ab),.blk J (.cells #[.int .i64 0,.int .i64 0,.string ⟨#[]⟩,.slice none 0 0] ab),.blk B (.cells #[.int .i64 V] cN)] S2 w':=a;refine au a 1 rfl ad (by simpa using g) rfl (by simpa using i) fun w' a=>?_;refine bB a 1 ad rfl (by simpa using g) ?_;exact ⟨_,_,_,rfl,a.nil,r,rfl,o,g,i,rfl,fun h=>(l h).2⟩
end
end
section
open Go Go.RowKit

theorem Gd:∀ (a b c:List UInt8),Op.bytesLess a b=true->Op.bytesLess b c=true->Op.bytesLess a c=true
 | _,[],_,h,_=>by simp [Op.bytesLess] at h
 | _,_::_,[],_,h=>by simp [Op.bytesLess] at h
 | [],_::_,_::_,_,_=>by simp [Op.bytesLess]
 | x::a,y::b,z::c,h,f=>by
  simp only [Op.bytesLess,jd,bD,bM,beq_iff_eq] at h f ⊢;rcases h with h|⟨rfl,h⟩
  ·rcases f with f|⟨rfl,f⟩
   ·left; exact UInt8.lt_trans h f
   ·left; exact h
  ·rcases f with f|⟨rfl,f⟩
   ·left; exact f
   ·right; exact ⟨rfl,Gd a b c h f⟩
theorem IH:∀ a:List UInt8,Op.bytesLess a a=false
 | []=>by simp [Op.bytesLess]
 | x::a=>by
  simp only [Op.bytesLess,IH a,xI,Bool.or_false,mH];exact UInt8.lt_irrefl x
theorem Mw:∀ a b:List UInt8,a≠b->Op.bytesLess a b=true ∨ Op.bytesLess b a=true
 | [],[],h=>absurd rfl h
 | [],_::_,_=>.inl (by simp [Op.bytesLess])
 | _::_,[],_=>.inr (by simp [Op.bytesLess])
 | x::a,y::b,h=>by
  simp only [Op.bytesLess,jd,bD,bM,beq_iff_eq];by_cases e:x=y
  ·subst e;rcases Mw a b (fun e=>h (by rw [e])) with f|f
   ·exact .inl (.inr ⟨rfl,f⟩)
   ·exact .inr (.inr ⟨rfl,f⟩)
  ·rcases UInt8.lt_or_lt_of_ne e with f|f
   ·exact .inl (.inl f)
   ·exact .inr (.inl f)
def bls (a b:ByteArray):Bool:=Op.bytesLess a.toList b.toList
def r9 (a b:Int):Int:=if a<b then -1 else if b<a then 1 else 0
def ip (a b:ByteArray):Int:=if bls a b=true then -1 else if bls b a=true then 1 else 0
def rkS (t:T):Int:=if t.kind=3/\0<t.kids.length then 4 else t.kind
def DA (a b:Int):Int:=if a≠0 then a else b
def hdC (t u:T):Int:=DA (r9 (rkS t) (rkS u)) (DA (r9 t.n u.n) (DA (r9 t.kids.length u.kids.length) (ip t.name u.name)))
mutual
def Ak:T->T->Int
 | .mk k n s ks,u=>DA (hdC (.mk k n s ks) u) (jF ks u.kids)
def jF:List T->List T->Int
 | [],[]=>0
 | [],_::_=>-1
 | _::_,[]=>1
 | t::ts,u::us=>DA (Ak t u) (jF ts us)
end
mutual
def okO:T->Prop
 | .mk k n s ks=>(((k=1 ∨ k=2)/\s=emptyB/\ks=[]) ∨ (k=3/\n=0))/\PC ks
def PC:List T->Prop
 | []=>True
 | t::ts=>okO t/\PC ts
end
theorem MJ {t:T} (h:eB t=true):((t.kind=1 ∨ t.kind=2)/\t.name=emptyB/\t.kids=[]) ∨ (t.kind=3/\t.n=0):=by
 unfold eB at h;by_cases e1:t.kind=1
 ·rw [ai e1] at h;simp only [bM,bD] at h;exact .inl ⟨.inl e1,h.2.2.1,gF h.2.2.2⟩
 ·rw [ag e1] at h;by_cases e2:t.kind=2
  ·rw [ai e2] at h;simp only [bM,bD] at h;exact .inl ⟨.inr e2,h.2.2.1,gF h.2.2.2⟩
  ·rw [ag e2] at h;by_cases a:t.kind=3
   ·rw [ai a] at h;simp only [bM,bD] at h;exact .inr ⟨a,h.1⟩
   ·rw [ag a] at h;cases h
theorem kR (a b:Int):(a<b/\r9 a b=-1) ∨ (b<a/\r9 a b=1) ∨ (a=b/\r9 a b=0):=by
 unfold r9;by_cases h:a<b
 ·exact .inl ⟨h,ai h⟩
 ·by_cases f:b<a
  ·exact .inr (.inl ⟨f,by rw [ag h,ai f]⟩)
  ·exact .inr (.inr ⟨by omega,by rw [ag h,ag f]⟩)
theorem toList_inj {a b:ByteArray} (h:a.toList=b.toList):a=b:=by
 have:=yJ a b;rw [beq_iff_eq.2 h] at this;exact of_decide_eq_true this.symm
theorem iP (a b:ByteArray):(bls a b=true/\ip a b=-1) ∨ (bls b a=true/\bls a b=false/\ip a b=1) ∨ (a=b/\ip a b=0):=by
 unfold ip;cases h:bls a b with
 | true=>exact .inl ⟨rfl,ai rfl⟩
 | false=>
  cases g:bls b a with
  | true=>exact .inr (.inl ⟨rfl,rfl,by simp⟩)
  | false=>
   refine .inr (.inr ⟨?_,by simp⟩);refine toList_inj (Decidable.byContradiction fun e=>?_);rcases Mw _ _ e with f|f
   ·rw [bls,f] at h; cases h
   ·rw [bls,f] at g; cases g
theorem Vf {a b:ByteArray} (h:bls a b=true):bls b a=false:=by
 cases f:bls b a with
 | false=>rfl
 | true=>
  have:=Gd _ _ _ h f;rw [IH] at this;cases this

structure TC (a b c:Int):Prop where
 lt:a=-1->b=-1->c=-1
 e1:a=0->c=b
 e2:b=0->c=a
theorem TC.lex {a b c l m o:Int} (h:TC a b c) (r:TC l m o):TC (DA a l) (DA b m) (DA c o):=by
 obtain ⟨t,i,q⟩:=h;obtain ⟨B,D,G⟩:=r;unfold DA;refine ⟨fun x y=>?_,fun x=>?_,fun x=>?_⟩
 ·by_cases f:a=0
  ·rw [ag (by omega)] at x;by_cases g:b=0
   ·rw [ag (by omega)] at y;rw [ag (by have:=i f; omega)];exact B x y
   ·rw [ai (by omega)] at y;have:=i f;rw [ai (by omega)]; omega
  ·rw [ai (by omega)] at x;by_cases g:b=0
   ·have:=q g;rw [ai (by omega)]; omega
   ·rw [ai (by omega)] at y;have:=t x y;rw [ai (by omega)]; omega
 ·by_cases f:a=0
  ·rw [ag (by omega)] at x;rw [i f,D x]
  ·rw [ai (by omega)] at x; omega
 ·by_cases g:b=0
  ·rw [ag (by omega)] at x;rw [q g,G x]
  ·rw [ai (by omega)] at x; omega
theorem TC.zero:TC 0 0 0:=⟨fun h=>by omega,fun _=>rfl,fun _=>rfl⟩
theorem TC.int (a b c:Int):TC (r9 a b) (r9 b c) (r9 a c):=by
 have f:=kR a b;have g:=kR b c;have h:=kR a c;exact ⟨fun _ _=>by omega,fun _=>by omega,fun _=>by omega⟩
theorem TC.str (a b c:ByteArray):TC (ip a b) (ip b c) (ip a c):=by
 refine ⟨fun x y=>?_,fun x=>?_,fun x=>?_⟩
 ·rcases iP a b with h|h|h
  ·rcases iP b c with f|f|f
   ·have:=Gd _ _ _ h.1 f.1;unfold ip;rw [ai (show bls a c=true from this)]
   ·omega
   ·omega
  ·omega
  ·omega
 ·rcases iP a b with h|h|h
  ·omega
  ·omega
  ·rw [h.1]
 ·rcases iP b c with h|h|h
  ·omega
  ·omega
  ·rw [h.1]
theorem TC.hd (t u v:T):TC (hdC t u) (hdC u v) (hdC t v):=(TC.int _ _ _).lex ((TC.int _ _ _).lex ((TC.int _ _ _).lex (TC.str _ _ _)))
mutual
theorem TC.term:∀ t u v:T,TC (Ak t u) (Ak u v) (Ak t v)
 | .mk k n s ks,.mk k' n' s' ks',v=>by
  rw [Ak,Ak,Ak];exact (TC.hd _ _ _).lex (TC.list ks ks' v.kids)
theorem TC.list:∀ t u v:List T,TC (jF t u) (jF u v) (jF t v)
 | [],[],[]=>by simpa [jF] using TC.zero
 | [],[],_::_=>by rw [jF,jF]; exact ⟨fun h=>by omega,fun _=>rfl,fun h=>by omega⟩
 | [],_::_,[]=>by rw [jF,jF,jF]; exact ⟨fun _ h=>by omega,fun h=>by omega,fun h=>by omega⟩
 | [],_::_,_::_=>by rw [jF,jF]; exact ⟨fun h _=>h,fun h=>by omega,fun h=>rfl⟩
 | _::_,[],[]=>by rw [jF,jF]; exact ⟨fun h _=>h,fun h=>by omega,fun h=>rfl⟩
 | _::_,[],_::_=>by rw [jF,jF]; exact ⟨fun h _=>by omega,fun h=>by omega,fun h=>by omega⟩
 | _::_,_::_,[]=>by rw [jF,jF]; exact ⟨fun _ h=>by omega,fun h=>rfl,fun h=>by omega⟩
 | t::ts,u::us,v::vs=>by
  rw [jF,jF,jF];exact (TC.term t u v).lex (TC.list ts us vs)
end
theorem sH (a b:Int):-(DA a b)=DA (-a) (-b):=by
 unfold DA;by_cases h:a=0
 ·subst h; simp
 ·rw [ai h,ai (by omega)]
theorem wE (a b:Int):r9 b a=-r9 a b:=by
 have:=kR a b;have:=kR b a;omega
theorem Lw (a b:ByteArray):ip b a=-ip a b:=by
 rcases iP a b with h|h|h
 ·rw [h.2];have:=Vf h.1;unfold ip;rw [this,ag (by decide),ai h.1]; rfl
 ·rw [h.2.2];unfold ip;rw [ai h.1]
 ·rw [h.2];obtain rfl:=h.1;rw [h.2]; rfl
theorem Um (t u:T):hdC u t=-hdC t u:=by
 rw [hdC,hdC,sH,sH,sH,wE (rkS t),wE t.n,wE t.kids.length,Lw t.name]
mutual
theorem Jv:∀ t u:T,Ak u t=-Ak t u
 | .mk k n s ks,.mk k' n' s' ks'=>by
  rw [Ak,Ak,sH,Um (.mk k n s ks)]
  congr 1
  exact Ji ks ks'
theorem Ji:∀ t u:List T,jF u t=-jF t u
 | [],[]=>by simp [jF]
 | [],_::_=>by simp [jF]
 | _::_,[]=>by simp [jF]
 | t::ts,u::us=>by rw [jF,jF,sH,Jv t u,Ji ts us]
end
theorem Tx (t:T):Ak t t=0:=by
 have:=Jv t t;omega
def Sorted:List T->Prop
 | []=>True
 | x::xs=>(∀ y∈xs,Ak x y<0)/\Sorted xs
theorem Sorted.nodup:∀ {l:List T},Sorted l->l.Nodup
 | [],_=>xy
 | x::xs,h=>by
  rw [Gt];refine ⟨fun a=>?_,Sorted.nodup h.2⟩;have:=h.1 x a;rw [Tx] at this;omega
end
section
open Go Go.RowKit
section
variable {P:Program} {w:World} {K:Value->World->Prop}
attribute [local irreducible] Run
end
section
attribute [local irreducible] Run CondV aq aK
end
end
section
open Go Go.RowKit
section
attribute [local irreducible] Run CondV aq aK
end
end
section
open Go Go.RowKit
def RT:T:=.mk 0 0 ⟨#[]⟩ []
def stW (st:aj):Prop:=∀ t,some t∈st->wT t<=1048576
theorem RdT.zero (S:ae):RdT S qh RT:=RdT.iff.2 ⟨_,rfl,by simp [inI,T.kind,RT],by simp [inI,T.n,RT],by rw [RT,T.name]; decide +kernel,none,0,rfl,aS _,bk _,.inl rfl⟩
def KRel (S:ae) (cs:List Value) (o:Option T):Prop:=cs.length=4/\(o=none->cs=qh)/\∀ t,o=some t->RdT S cs t
theorem KRel.one {S:ae} {cs:List Value} {o:Option T} (h:KRel S cs o):∀ u∈cs,u.oneCell'=true:=by
 cases o with
 | none=>rw [h.2.1 rfl]; simp [qh,Value.oneCell']
 | some t=>exact (h.2.2 t rfl).one
theorem KnownC.rd {S:ae} {a kp:Nat} {f:Array Value} {st:aj} {E:TypeId} (m:S a=some (.cells f E)) (h:KnownC S f st) (g:st.length=26) (o:26<=kp) (l:kp<=maxLen):RdSl S 4 (KRel S) (kvn a kp) st:=by
 refine ⟨some ⟨a,0,none⟩,kp,by rw [g],by omega,l,.inr ⟨a,0,f,E,(0,0),rfl,m,fun i q=>?_⟩⟩;obtain ⟨r,t⟩:=h.2 i q;rw [cQ];refine ⟨?_,r,t⟩;have:=h.1;rw [aX,cL,mK,QG];omega
section
attribute [local irreducible] Run CondV aq aK
theorem KnownC.mono {S S':ae} {a:Array Value} {st:aj} (h:KnownC S a st) (g:Sle S S'):KnownC S' a st:=
 ⟨h.1,fun i f=>⟨(h.2 i f).1,fun t l=>((h.2 i f).2 t l).mono g⟩⟩
end
end
section
open Go Go.RowKit
mutual
def DG (φ:Int->T):T->T
 | .mk k n s ks=>if k=1 then φ n else .mk k n s (sG φ ks)
def sG (φ:Int->T):List T->List T
 | []=>[]
 | t::ts=>DG φ t::sG φ ts
end
theorem u9 (φ:Int->T):∀ ts:List T,sG φ ts=ts.map (DG φ)
 | []=>rfl
 | t::ts=>by rw [sG,u9 φ ts]; rfl
theorem PA (φ:Int->T) (ks:List T) (j:Nat) (h:j<ks.length):sG φ (ks.take (j+1))=sG φ (ks.take j)++[DG φ ks[j]]:=by
 rw [u9,u9,eT h,AG]; rfl
def Fun (f:FuncId) (cap:List Value) (S:ae) (φ:Int->T):Prop:=∀ S',Sle S S'->∀ n:Int,0<=n->n<=25->∃ cs,RdT S' cs (φ n)/\Pure Tryz.prog f (.int .i64 n::cap) S' (.agg cs.toArray)
theorem Fun.mono {f:FuncId} {cap:List Value} {S S':ae} {φ:Int->T} (h:Fun f cap S φ) (a:Sle S S'):Fun f cap S' φ:=fun S2 g=>h S2 (a.trans g)
abbrev aaF (t:T):Value->List Item->ae->Prop:=fun v I' S'=>I'=[]/\∃ cs,v=.agg cs.toArray/\RdT S' cs t
section
attribute [local irreducible] Run CondV aq aK
theorem qw {f:FuncId} {fn:Func} (cap:List Value) (φ:Int->T) (hf:Tryz.prog.funcs[f]?=some fn) (hn:(fn.name == "runtime.NumGoroutine" || fn.body.isNone)=false) :
  ∀ (t:T) (S:ae) (cs:List Value),RdT S cs t->okV t->wT t<=1048576->Fun f cap S φ->Tri Tryz.prog tg [.agg cs.toArray,fv f cap] [] S (aaF (DG φ t)):=by
 refine T.ind fun k n s ks ih S cs h hv hw hφ=>?_;intro w a;obtain ⟨kv,rfl,h1,h2,hs,a4⟩:=RdT.iff.1 h;simp only [T.name,T.kids,T.kind,T.n] at h1 h2 hs a4 ⊢;simp only [wT] at hw;rw [okV] at hv;have b9:=hv.2;refine lZ.2 ?_;dsimp only[lZ,bm];refine bJ a fun J w' a=>?_;refine aQ a bj fun b4 w' a=>?_;refine af a 0 rfl aW aG rfl ?_;refine bw ?_;rw [DG];refine aL (fun a2=>?_) (fun a2=>?_)
 ·rw [ai a2];obtain ⟨b5,a7⟩:=hv.1 a2;refine af a 0 rfl bi aG rfl ?_;obtain ⟨ds,a3,hp⟩:=hφ S (Sle.refl S) n b5 a7;refine Run.callVPure hf hn a hp fun w' a=>?_;refine au a 1 rfl ad (by simpa using a3.length) rfl (by simpa using a3.one) fun w' a=>?_;refine bB a 1 ad rfl (by simpa using a3.length) ?_;exact ⟨_,_,_,rfl,a.pick [false,false],Ext.refl _ _ _,rfl,ds,rfl,a3⟩
 rw [ag a2];refine af a 0 rfl ar al rfl ?_;refine dj a 0 rfl ar al rfl rfl rfl fun w' a=>?_;refine aJ a4 ah ?_;have a:Inv w [] [.blk b4 (.cells #[.int .i64 0,.int .i64 0,.string ⟨#[]⟩,.slice none 0 0] ab),.blk J (.cells #[.int .i64 k,.int .i64 n,.string s,.slice none 0 0] ab)] S w':=a.perm (List.Perm.swap _ _ _);have a:=a.rowNil ab 4;refine ⟨fun i w'=>∃ (j:Nat) (l:Value) (css:List (List Value)) (S1:ae),j<=ks.length/\i=.int .i64 j/\Ext w.heap.size [] S S1/\Rows 4 (RdT S1) css (sG φ (ks.take j))/\
   Inv w [] [.blk b4 (.cells #[.int .i64 0,.int .i64 0,.string ⟨#[]⟩,.slice none 0 0] ab),.blk J (.cells #[.int .i64 k,.int .i64 n,.string s,l] ab),aA l ab 4 css] S1 w',
  fun i _=>ks.length - (intOf i).toNat,⟨0,_,[],S,bk _,rfl,Ext.refl _ _ _,Rows.nil _ _,a⟩,?_⟩
 intro c2 _ _ _ _ _ _ _ _ _ _ _ _ _ w';rintro ⟨j,l,css,S1,hj,rfl,hE,hg,a⟩;refine bT ?_;refine aL (fun b3=>?_) (fun b3=>?_)
 ·have a0:j<ks.length:=by omega
  have c3:(ks.take j).length=j:=by simp; omega
  have c0:=hg.hc;rw [u9,jO] at c0;have hm:=bG a0;have c4:=iL hm;refine cn a (a4.monoT hE.1) ah ad a0 (fun _ _=>RdT.length) fun N V=>?_;refine aQ a bj fun b7 w' a=>?_;have a:=a.perm (M:=.blk b7 _::[.blk b4 (.cells #[.int .i64 0,.int .i64 0,.string ⟨#[]⟩,.slice none 0 0] ab),.blk J (.cells #[.int .i64 k,.int .i64 n,.string s,l] ab),aA l ab 4 css]) (cj (l₁:=[_]));refine au a 0 rfl ad (by simpa using V.length) rfl (by simpa using V.one) fun w' a=>?_;refine ⟨fun D ut U ji jw oP kT fN lK w_=>Fx D 0 [lK=.pointer (some ⟨J,3,none⟩),fN=l,kT=.agg N.toArray,oP=fv f cap,True,True,True,ut=.pointer (some ⟨J,3,none⟩),True]/\∃ SN g G,Ext w.heap.size [] S1 SN/\(D 4=true->jw=.agg g.toArray/\RdT SN g (DG φ ks[j]))/\(D 5=true->ji=.slice (some ⟨G,0,none⟩) 1 1)/\(D 5=true->D 4=true)/\(D 6=true->D 5=true)/\(D 8=true->D 6=true)/\(D 8=true->D 1=true)/\Inv w [] (aP (.blk b7 (.cells N.toArray ab)) (.blk b4 (.cells #[.int .i64 0,.int .i64 0,.string ⟨#[]⟩,.slice none 0 0] ab)) (.blk J (.cells #[.int .i64 k,.int .i64 n,.string s,l] ab)) (.blk J (.cells #[.int .i64 k,.int .i64 n,.string s,U] ab)) (aA l ab 4 css) (aA U ab 4 (css++[g])) [] [] (.blk G (.cells g.toArray ab)) false (D 5) (D 6) (D 8)) SN w_,⟨Fx.nil _ _,⟨S1,[],0,Ext.refl _ _ _,aI,aI,aI,aI,aI,aI,by simpa [aP] using a.draw⟩⟩,⟨?_,?_,?_,?_,?_,?_,?_,?_,?_,trivial⟩,?_⟩;all_goals (intro D bI; intros; rename_i ut U ji jw oP kT fN lK w_ a6; have r:=a6.1; obtain ⟨⟨cJ,cH,cI,cD,cM,cO,cq,dg,dF,_⟩,⟨SN,g,G,O,Y,e8,k8,Z,q,k1,a⟩⟩:=a6)
  ·refine aw ar ?_;exact ⟨r.set 0 rfl,⟨SN,g,G,O,Y,e8,k8,Z,q,k1,a⟩⟩
  ·obtain rfl:=cJ ‹_›;have B:D 8=false:=bx.2 fun h=>by rw [k1 h] at bI; cases bI
   refine aU (b:=J) a 2 (c:=(#[.int .i64 k,.int .i64 n,.string s,l])) al (by rw [B]; rfl) rfl ?_;have k1:=fun (_:ao D 1 8=true)=>(rfl:ao D 1 1=true)
   exact ⟨r.set 1 rfl,⟨SN,g,G,O,Y,e8,k8,Z,q,k1,a⟩⟩
  ·refine aC a 0 ad rfl (by simpa using V.length) ?_;exact ⟨r.set 2 rfl,⟨SN,g,G,O,Y,e8,k8,Z,q,k1,a⟩⟩
  ·exact ⟨r.set 3 rfl,⟨SN,g,G,O,Y,e8,k8,Z,q,k1,a⟩⟩
  ·obtain rfl:=cI ‹_›;obtain rfl:=cD ‹_›;have f8:D 5=false:=bx.2 fun h=>by rw [k8 h] at bI; cases bI
   have f9:D 6=false:=bx.2 fun h=>by rw [Z h] at f8; cases f8
   have B:D 8=false:=bx.2 fun h=>by rw [q h] at f9; cases f9
   rw [f8,f9,B] at a;refine Run.callE (I:=[]) gh gB (by simpa using a) (ih _ (bG a0) SN N (V.mono O.1) (Of b9 _ (bG a0)) (by omega) ((hφ.mono hE.1).mono O.1)) fun v' I' SN w_=>?_;rintro ⟨rfl,g,rfl,hT⟩ a1 a;have O:=O.trans a1;have Y:ao D 4 4=true->Value.agg g.toArray=Value.agg g.toArray/\RdT SN g (DG φ ks[j]):=fun _=>⟨rfl,hT⟩
   have k8:=fun (_:ao D 4 5=true)=>(rfl:ao D 4 4=true)
   have a:Inv w [] (aP (.blk b7 (.cells N.toArray ab)) (.blk b4 (.cells #[.int .i64 0,.int .i64 0,.string ⟨#[]⟩,.slice none 0 0] ab)) (.blk J (.cells #[.int .i64 k,.int .i64 n,.string s,l] ab)) (.blk J (.cells #[.int .i64 k,.int .i64 n,.string s,U] ab)) (aA l ab 4 css) (aA U ab 4 (css++[g])) [] [] (.blk G (.cells g.toArray ab)) false (D 5) (D 6) (D 8)) SN w_:=by
    rw [f8,f9,B];simpa [aP] using a
   exact ⟨r.set 4 (by first|assumption|trivial),⟨SN,g,G,O,Y,e8,k8,Z,q,k1,a⟩⟩
  ·have D9:=cM ‹_›;have f9:D 6=false:=bx.2 fun h=>by rw [Z h] at bI; cases bI
   have B:D 8=false:=bx.2 fun h=>by rw [q h] at f9; cases f9
   obtain ⟨q7,hT⟩:=Y ‹D 4=true›;subst q7;rw [bI,f9,B] at a;refine dC a bn (by simp [Value.cells,hT.length]) (by omega) (by omega) fun G w_ a=>?_;have Y:ao D 5 4=true->Value.agg g.toArray=Value.agg g.toArray/\RdT SN g (DG φ ks[j]):=fun _=>⟨rfl,hT⟩
   have e8:=fun (_:ao D 5 5=true)=>(rfl:Value.slice (some ⟨G,0,none⟩) 1 1=_)
   have k8:=fun (_:ao D 5 5=true)=>‹D 4=true›;have Z:=fun (_:ao D 5 6=true)=>(rfl:ao D 5 5=true)
   have a:Inv w [] (aP (.blk b7 (.cells N.toArray ab)) (.blk b4 (.cells #[.int .i64 0,.int .i64 0,.string ⟨#[]⟩,.slice none 0 0] ab)) (.blk J (.cells #[.int .i64 k,.int .i64 n,.string s,l] ab)) (.blk J (.cells #[.int .i64 k,.int .i64 n,.string s,U] ab)) (aA l ab 4 css) (aA U ab 4 (css++[g])) [] [] (.blk G (.cells g.toArray ab)) false true (D 6) (D 8)) SN w_:=by
    rw [f9,B];simpa [aP,Value.cells] using a
   exact ⟨r.set 5 (by first|assumption|trivial),⟨SN,g,G,O,Y,e8,k8,Z,q,k1,a⟩⟩
  ·obtain rfl:=cH ‹_›;have Hj:=cO ‹_›;have B:D 8=false:=bx.2 fun h=>by rw [q h] at bI; cases bI
   have q8:=e8 ‹D 5=true›;subst q8;obtain ⟨_,hT⟩:=Y ‹D 4=true›;rw [‹D 5=true›,bI,B] at a;have a9:((aP (.blk b7 (.cells N.toArray ab)) (.blk b4 (.cells #[.int .i64 0,.int .i64 0,.string ⟨#[]⟩,.slice none 0 0] ab)) (.blk J (.cells #[.int .i64 k,.int .i64 n,.string s,fN] ab)) (.blk J (.cells #[.int .i64 k,.int .i64 n,.string s,U] ab)) (aA fN ab 4 css) (aA U ab 4 (css++[g])) [] [] (.blk G (.cells g.toArray ab)) false true false false))[4]?=some (.blk G (.cells g.toArray ab)):=rfl;refine dD a 3 g bn (by omega) rfl (by rw [hT.length]) (m:=1) (o:=0) ?_ hT.one (by omega) (by omega) fun v' w_ a=>?_
   ·intro i u hi;rw [a.cellL a9,cQ];simpa using hi
   rw [eC] at a;have Z:=fun (_:ao D 6 6=true)=>‹D 5=true›;have q:=fun (_:ao D 6 8=true)=>(rfl:ao D 6 6=true)
   have a:Inv w [] (aP (.blk b7 (.cells N.toArray ab)) (.blk b4 (.cells #[.int .i64 0,.int .i64 0,.string ⟨#[]⟩,.slice none 0 0] ab)) (.blk J (.cells #[.int .i64 k,.int .i64 n,.string s,fN] ab)) (.blk J (.cells #[.int .i64 k,.int .i64 n,.string s,v'] ab)) (aA fN ab 4 css) (aA v' ab 4 (css++[g])) [] [] (.blk G (.cells g.toArray ab)) false (D 5) true (D 8)) SN w_:=by
    rw [‹D 5=true›,B];exact a
   exact ⟨r.set 6 (by first|assumption|trivial),⟨SN,g,G,O,Y,e8,k8,Z,q,k1,a⟩⟩
  ·refine aw ar ?_;exact ⟨r.set 7 rfl,⟨SN,g,G,O,Y,e8,k8,Z,q,k1,a⟩⟩
  ·obtain rfl:=dg ‹_›;have L6:=cq ‹_›;rw [‹D 5=true›,‹D 6=true›,bI] at a;obtain ⟨va,vn,vc,a5⟩:=Inv.rowSlice a 3 rfl;refine dA a 2 (n:=1) (by rw [a5]; rfl) (by decide +kernel) rfl (by simp) (by rw [a5]; simp [Value.cells,Value.oneCell']) fun w_ a=>?_;have b0:Value.cells U=#[U]:=by rw [a5]; rfl
   rw [b0] at a;have k1:=fun (_:ao D 8 8=true)=>‹D 1=true›;have q:=fun (_:ao D 8 8=true)=>‹D 6=true›;have a:Inv w [] (aP (.blk b7 (.cells N.toArray ab)) (.blk b4 (.cells #[.int .i64 0,.int .i64 0,.string ⟨#[]⟩,.slice none 0 0] ab)) (.blk J (.cells #[.int .i64 k,.int .i64 n,.string s,l] ab)) (.blk J (.cells #[.int .i64 k,.int .i64 n,.string s,U] ab)) (aA l ab 4 css) (aA U ab 4 (css++[g])) [] [] (.blk G (.cells g.toArray ab)) false (D 5) (D 6) true) SN w_:=by
    rw [‹D 5=true›,‹D 6=true›];exact a
   exact ⟨r.set 8 trivial,⟨SN,g,G,O,Y,e8,k8,Z,q,k1,a⟩⟩
  obtain ⟨rfl,rfl,rfl,rfl,D9,Hj,L6,rfl,_,_⟩:=r.all;have Zg:D 4=true:=by assumption
  have XW:D 5=true:=by assumption
  have OQ:D 6=true:=by assumption
  have EB:D 8=true:=by assumption
  clear r cJ cH cI cD cM cO cq dg dF;obtain ⟨_,hT⟩:=Y Zg;rw [XW,OQ,EB] at a;refine bC (by omega) ?_;refine ⟨⟨j+1,U,css++[g],SN,a0,rfl,hE.trans O,?_,?_⟩,by simp [intOf]; omega⟩
  ·rw [PA φ ks j a0];exact (Rows.monoR hg fun _ _ h=>h.mono O.1).snoc hT hT.length
  ·refine a.sub ?_;simp only [aP];exact ((((Lk _).cons_cons _).cons_cons _).cons_cons _).cons _
 ·have:j=ks.length:=by omega
  subst this;rw [ed] at hg;obtain ⟨va,vn,vc,a8⟩:=a.rowSlice 2 rfl;have c1:l.oneCell'=true:=by rw [a8]; rfl
  refine aC a 1 ad rfl rfl ?_;refine au a 0 rfl ad rfl rfl ?_ fun w' a=>?_
  ·intro u hu;have b1:u∈([.int .i64 k,.int .i64 n,.string s,l]:List Value):=hu;simp at b1;rcases b1 with rfl|rfl|rfl|rfl <;> first|rfl|exact c1
  refine bB a 0 ad rfl rfl ?_;have a:Inv w [] ([]++[aA l ab 4 css]) S1 w':=a.sub (dJ [_,_] _);obtain ⟨S2,a1,b6,a⟩:=a.lendExt;exact ⟨_,_,_,rfl,a,hE.trans a1,rfl,_,rfl,RdT.iff.2 ⟨l,rfl,h1,h2,hs,(RowRd.rows hg b6).mono (Sle.refl _) fun _ _ h=>h.mono a1.1⟩⟩
end
end
end Go.Proofs.YtgllldjiaglkcaaGreatDoor
