/- impl: resolved terms, if they are small. -/
import Derived.Test.YtgllldjiaglkcaaGreatDoorZUf15
namespace Go.Proofs.YtgllldjiaglkcaaGreatDoor
section
open Go Go.RowKit
theorem KnownM.up {S S':ae} {a:Array MapEntry} {st:aj} (h:KnownM S a st) (f:Sle S S'):KnownM S' a st:=
 ⟨fun e g=>by
  obtain ⟨n,t,cs,i,l,m,o⟩:=h.1 e g;exact ⟨n,t,cs,i,l,m.mono f,o⟩,h.2⟩
theorem StS.up {S S':ae} {sb:Nat} {st:aj} (h:StS S S sb st) (a:Sle S S'):StS S' S' sb st:=by
 obtain ⟨mb,tv,f,ck,E,g,i,l⟩:=h;exact ⟨mb,tv,f,ck,E,a _ _ g,a _ _ i,l.up a⟩
def okR (u:T) (deep count:Int):Bool:=decide (count+dF u<=120) && ox u (31 - deep)
def RC (st:aj) (sb:Nat) (t u:T):Prop:=∀ (S:ae) (cs:List Value) (cb:Nat) (deep count:Int),RdT S cs t->StS S S sb st->1<=deep->deep<=1000000->0<=count->count<=1000000->
 Tri Tryz.prog ve [.pointer (some ⟨sb,0,none⟩),.agg cs.toArray,.int .i64 deep,.pointer (some ⟨cb,0,none⟩)] [.blk cb (.cells #[.int .i64 count] cO)] S fun q I' S'=>
  ∃ (cs':List Value) (c':Int),q=.tuple #[.agg cs'.toArray,.bool (okR u deep count)]/\I'=[.blk cb (.cells #[.int .i64 c'] cO)]/\cs'.length=4/\(∀ x∈cs',x.oneCell'=true)/\(okR u deep count=true->c'=count+dF u/\RdT S' cs' u)
section
attribute [local irreducible] Run CondV aq aK
theorem Gh {N:Nat} {st:aj} {sb:Nat} {t v:T} {us:List T} (hg:Good N st) (a9:dr st t v) (b0:okU N t/\wT t<=1048576) (e2:us.length=v.kids.length)
  (hk:∀ i (h:i<us.length) (h':i<v.kids.length),RC st sb v.kids[i] us[i]):RC st sb t (.mk v.kind v.n v.name us):=by
 intro S cs o g f h b1 e3 e4 e5 e6 w a;have b7:=h.length;have d0:=dz hg a9 b0;obtain ⟨X,hX⟩:∃ X,X=bP [Item.blk o (.cells #[.int .i64 f] cO)]:=⟨_,rfl⟩
 rw [<- hX] at a ⊢;have f1:=ef us;have B:okR (.mk v.kind v.n v.name us) g f=(decide (f+(1+cY us)<=120) && (if 31 - g<1 then false else Hv us (31 - g - 1))):=by
  rw [okR,oo,ox]
 refine kS.2 ?_;dsimp only[kS,lK];refine bJ a fun J w' a=>?_;refine aQ a bj fun O w' a=>?_;have a:Inv w X ([.blk J (.cells cs.toArray ab),.blk O (.cells #[.int .i64 0,.int .i64 0,.string ⟨#[]⟩,.slice none 0 0] ab)]++[.blk o (.cells #[.int .i64 f] cO)]) S w':=a.perm (cj (l₁:=[_,_]) (l₂:=[_]));refine aC a 0 ad rfl (by simpa using b7) ?_;refine Run.call0 iT iS a (lU hg a9 b0.1 b1 h) fun v' I' S' w'=>?_;rintro ⟨eS,rfl,e7,rfl,U⟩ _ a;rw [eS] at a;clear eS;refine au a 0 rfl ad (by simpa using U.length) (by simpa using b7) (by simpa using U.one) fun w' a=>?_;obtain ⟨kv,rfl,c7,c8,hs,a8⟩:=RdT.iff.1 U;have a:Inv w X [.blk J (.cells #[.int .i64 v.kind,.int .i64 v.n,.string v.name,kv] ab),.blk O (.cells #[.int .i64 0,.int .i64 0,.string ⟨#[]⟩,.slice none 0 0] ab),.blk o (.cells #[.int .i64 f] cO)] S w':=a;have d7:=a8.le;have f2:v.kids.length<=1048576:=by
  have:=d0.2;cases v;simp only [wT] at this;simp only [T.kids];omega
 refine aE ?_;refine aT a 2 aG rfl rfl ?_;refine bC (by omega) ?_;refine aE ?_;refine dy a 2 (n:=1) rfl (by decide +kernel) rfl (by simp) (by simp [Value.cells,Value.oneCell']) fun w' a=>?_;have a:Inv w X [.blk J (.cells #[.int .i64 v.kind,.int .i64 v.n,.string v.name,kv] ab),.blk O (.cells #[.int .i64 0,.int .i64 0,.string ⟨#[]⟩,.slice none 0 0] ab),.blk o (.cells #[.int .i64 (f+1)] cO)] S w':=a;refine ⟨fun q w'=>q=.bool (decide (120<f+1 ∨ 30<g))/\Inv w X [.blk J (.cells #[.int .i64 v.kind,.int .i64 v.n,.string v.name,kv] ab),.blk O (.cells #[.int .i64 0,.int .i64 0,.string ⟨#[]⟩,.slice none 0 0] ab),.blk o (.cells #[.int .i64 (f+1)] cO)] S w',?_,?_⟩
 ·refine aE ?_;refine aT a 2 aG rfl rfl ?_;refine eP ?_;by_cases e1:120<f+1
  ·rw [aN e1];refine rpG ?_;exact ⟨by rw [aN (Or.inl e1)],a⟩
  ·rw [ba e1];refine rpG ?_;refine eP ?_;refine rpG ?_;refine ⟨?_,a⟩
   congr 1
   rw [nZ,bD,bD];omega
 intro q _ _ _ _ _ _ _ w';rintro ⟨rfl,a⟩;refine aL (fun b3=>?_) (fun c3=>?_)
 ·have Z:okR (.mk v.kind v.n v.name us) g f=false:=by
   rw [B];rcases b3 with e|e
   ·rw [ba (by omega),iP]
   ·rw [ai (by omega),y5]
  refine qX ?_;refine au a 1 rfl ad rfl rfl oY fun w' a=>?_;refine bB a 1 ad rfl rfl ?_;exact ⟨_,_,_,rfl,a.pick [false,false,true],Ext.refl _ _ _,[.int .i64 0,.int .i64 0,.string ⟨#[]⟩,.slice none 0 0],f+1,by rw [Z],rfl,rfl,oY,fun h=>by rw [Z] at h; cases h⟩
 have d1:f+1<=120:=by omega
 have f3:g<=30:=by omega
 rw [ag (by omega)] at B;refine af a 0 rfl aW aG rfl ?_;refine af a 0 rfl bi aG rfl ?_;refine af a 0 rfl bl be rfl ?_;refine jd ?_;refine aQ a bj fun m w' a=>?_;have a:Inv w X [.blk J (.cells #[.int .i64 v.kind,.int .i64 v.n,.string v.name,kv] ab),.blk O (.cells #[.int .i64 0,.int .i64 0,.string ⟨#[]⟩,.slice none 0 0] ab),.blk m _,.blk o (.cells #[.int .i64 (f+1)] cO)] S w':=a.perm (((cj (l₁:=[_]) (l₂:=[_])).cons _).cons _);refine au a 2 rfl ad rfl rfl (by simp [Value.oneCell']) fun w' a=>?_;have a:=a.rowNil ab 4;have a:Inv w X [.blk J (.cells #[.int .i64 v.kind,.int .i64 v.n,.string v.name,kv] ab),.blk O (.cells #[.int .i64 0,.int .i64 0,.string ⟨#[]⟩,.slice none 0 0] ab),.blk m (.cells #[.int .i64 v.kind,.int .i64 v.n,.string v.name,.slice none 0 0] ab),aA (.slice none 0 0) ab 4 [],.blk o (.cells #[.int .i64 (f+1)] cO)] S w':=a.perm ((((cj (l₁:=[_]) (l₂:=[_])).cons _).cons _).cons _);refine af a 0 rfl ar al rfl ?_;refine aJ a8 ah ?_;refine ⟨fun i w'=>∃ (j:Nat) (c:Int) (l:Value) (css:List (List Value)) (S1:ae),j<=us.length/\i=.int .i64 j/\Ext w.heap.size X S S1/\c=f+1+cY (us.take j)/\c<=120/\(∀ k (_:k<us.length),k<j->ox us[k] (31 - g - 1)=true)/\Rows 4 (RdT S1) css (us.take j)/\
   Inv w X [.blk J (.cells #[.int .i64 v.kind,.int .i64 v.n,.string v.name,kv] ab),.blk O (.cells #[.int .i64 0,.int .i64 0,.string ⟨#[]⟩,.slice none 0 0] ab),.blk m (.cells #[.int .i64 v.kind,.int .i64 v.n,.string v.name,l] ab),aA l ab 4 css,.blk o (.cells #[.int .i64 c] cO)] S1 w',
  fun i _=>us.length - (intOf i).toNat,⟨0,f+1,_,[],S,bk _,rfl,Ext.refl _ _ _,by simp [cY],d1,fun k _ h=>by omega,Rows.nil _ _,a⟩,?_⟩
 intro e8 _ _ _ _ _ _ _ _ _ _ _ _ _ _ _ _ _ _ _ _ _ _ _ _ _ _ w';rintro ⟨j,c,l,css,S1,hj,rfl,hE,hc,c1,a3,hR,a⟩;have d9:=ef (us.take j);refine bS ?_;refine aL (fun c4=>?_) (fun c4=>?_)
 ·have a0:j<us.length:=by omega
  have b9:j<v.kids.length:=by omega
  have d2:=hR.hc;rw [cM] at d2;refine co a (a8.monoT hE.1) ah ad b9 (fun _ _=>RdT.length) fun c5 Y=>?_;have a4:=Y.length;refine aQ a bj fun c6 w' a=>?_;have a:=a.perm (M:=.blk c6 _::[.blk J (.cells #[.int .i64 v.kind,.int .i64 v.n,.string v.name,kv] ab),.blk O (.cells #[.int .i64 0,.int .i64 0,.string ⟨#[]⟩,.slice none 0 0] ab),.blk m (.cells #[.int .i64 v.kind,.int .i64 v.n,.string v.name,l] ab),aA l ab 4 css,.blk o (.cells #[.int .i64 c] cO)]) (cj (l₁:=[_]));refine au a 0 rfl ad (by simpa using a4) rfl (by simpa using Y.one) fun w' a=>?_;refine aC a 0 ad rfl (by simpa using a4) ?_;refine bC (by omega) ?_;have a:Inv w X ([.blk J (.cells #[.int .i64 v.kind,.int .i64 v.n,.string v.name,kv] ab),.blk O (.cells #[.int .i64 0,.int .i64 0,.string ⟨#[]⟩,.slice none 0 0] ab),.blk m (.cells #[.int .i64 v.kind,.int .i64 v.n,.string v.name,l] ab),aA l ab 4 css]++[.blk o (.cells #[.int .i64 c] cO)]) S1 w':=a.pick [false,true,true,true,true,true];refine Run.callE kR lf a (hk j a0 b9 S1 c5 o (g+1) c Y (b1.up hE.1) (by omega) (by omega) (by omega) (by omega)) fun v' I' S2 w'=>?_;rintro ⟨V,c2,rfl,rfl,a1,b2,a6⟩ a7 a;refine av rfl ?_;refine av rfl ?_;refine aQ a bj fun b4 w' a=>?_;have a:=a.perm (M:=.blk b4 _::[.blk J (.cells #[.int .i64 v.kind,.int .i64 v.n,.string v.name,kv] ab),.blk O (.cells #[.int .i64 0,.int .i64 0,.string ⟨#[]⟩,.slice none 0 0] ab),.blk m (.cells #[.int .i64 v.kind,.int .i64 v.n,.string v.name,l] ab),aA l ab 4 css,.blk o (.cells #[.int .i64 c2] cO)]) (cj (l₁:=[_]));refine au a 0 rfl ad (by simpa using a1) rfl (by simpa using b2) fun w' a=>?_;refine cw ?_;have f4:=Jm us j a0;have e0:=yw us (j+1);refine aD (fun hb=>?_) (fun hb=>?_)
  ·have G:okR us[j] (g+1) c=false:=by simpa using hb
   have Z:okR (.mk v.kind v.n v.name us) g f=false:=by
    rw [B];rw [okR,Bool.and_eq_false_iff] at G;rcases G with e|e
    ·have e:=of_decide_eq_false e;rw [ba (by omega),iP]
    ·have:Hv us (31 - g - 1)=false:=by
      rw [yS,List.all_eq_false];exact ⟨us[j],bG a0,by rw [show 31 - g - 1=31 - (g+1) by omega,e]; decide⟩
     rw [this,y5]
   refine qX ?_;have a:Inv w X [.blk b4 (.cells V.toArray ab),.blk J (.cells #[.int .i64 v.kind,.int .i64 v.n,.string v.name,kv] ab),.blk O (.cells #[.int .i64 0,.int .i64 0,.string ⟨#[]⟩,.slice none 0 0] ab),.blk m (.cells #[.int .i64 v.kind,.int .i64 v.n,.string v.name,l] ab),aA l ab 4 css,.blk o (.cells #[.int .i64 c2] cO)] S2 w':=a;refine au a 2 rfl ad rfl rfl oY fun w' a=>?_;refine bB a 2 ad rfl rfl ?_;exact ⟨_,_,_,rfl,a.pick [false,false,false,false,false,true],hE.trans a7,[.int .i64 0,.int .i64 0,.string ⟨#[]⟩,.slice none 0 0],c2,by rw [Z],rfl,rfl,oY,fun h=>by rw [Z] at h; cases h⟩
  ·have G:okR us[j] (g+1) c=true:=by simpa using hb
   obtain ⟨f0,c9⟩:=a6 G;rw [okR,bM,bD] at G;refine af (b:=m) (c:=#[.int .i64 v.kind,.int .i64 v.n,.string v.name,l]) a 3 rfl ar al rfl ?_;refine aC a 0 ad rfl (by simpa using a1) ?_;refine de a 4 V bn (by omega) (by omega) rfl a1 b2 (by omega) (by omega) fun r w' a=>?_;have D:=qx (a.its (aA r ab 4 (css++[V])) (by simp));refine dj (b:=m) (c:=#[.int .i64 v.kind,.int .i64 v.n,.string v.name,l]) a 3 rfl ar al rfl D.1 D.2 fun w' a=>?_;have a:Inv w X [.blk J (.cells #[.int .i64 v.kind,.int .i64 v.n,.string v.name,kv] ab),.blk O (.cells #[.int .i64 0,.int .i64 0,.string ⟨#[]⟩,.slice none 0 0] ab),.blk m (.cells #[.int .i64 v.kind,.int .i64 v.n,.string v.name,r] ab),aA r ab 4 (css++[V]),.blk o (.cells #[.int .i64 c2] cO)] S2 w':=a.pick [false,true,true,true,true,true];refine bC (by omega) ?_;refine ⟨⟨j+1,c2,r,css++[V],S2,a0,rfl,hE.trans a7,by omega,by omega,fun k a2 e9=>?_,?_,a⟩,by simp [intOf]; omega⟩
   ·by_cases e:k=j
    ·subst e;rw [show 31 - g - 1=31 - (g+1) by omega];exact G.2
    ·exact a3 k a2 (by omega)
   ·rw [eV a0];exact (hR.monoR fun _ _ h=>RdT.mono a7.1 h).snoc c9 a1
 ·have d3:j=us.length:=by omega
  subst d3;rw [d4] at hR hc;have c0:okR (.mk v.kind v.n v.name us) g f=true:=by
   rw [B,aN (by omega),eH,yS,dD];intro x hx;obtain ⟨k,a2,rfl⟩:=mT.1 hx;exact a3 k a2 a2
  refine aC (b:=m) (c:=#[.int .i64 v.kind,.int .i64 v.n,.string v.name,l]) a 2 ad rfl rfl ?_;have D:=qx (a.its (aA l ab 4 css) (by simp));have a5:∀ x∈([.int .i64 v.kind,.int .i64 v.n,.string v.name,l]:List Value),x.oneCell'=true:=by
   intro x hx;simp at hx;rcases hx with rfl|rfl|rfl|rfl <;> first|rfl|exact D.2
  refine au a 1 rfl ad rfl rfl a5 fun w' a=>?_;refine bB (c:=#[.int .i64 v.kind,.int .i64 v.n,.string v.name,l]) a 1 ad rfl rfl ?_;have a:Inv w X ([.blk o (.cells #[.int .i64 c] cO)]++[aA l ab 4 css]) S1 w':=(a.pick [false,false,false,true,true]).perm (List.Perm.swap ..);obtain ⟨S3,b6,a6,a⟩:=a.lendExt;have d6:=RowRd.rows (hR.monoR fun _ _ h=>RdT.mono b6.1 h) a6;exact ⟨_,_,_,rfl,a,hE.trans b6,[.int .i64 v.kind,.int .i64 v.n,.string v.name,l],c,by rw [c0],rfl,rfl,a5,fun _=>⟨by rw [oo]; omega,RdT.iff.2 ⟨l,rfl,c7,c8,hs,d6⟩⟩⟩
theorem DJ {N:Nat} {st:aj} (sb:Nat) (m:Good N st) {j:M8} (r:Res st j):match j with
  | .one t u=>(okU N t/\wT t<=1048576)->RC st sb t u
  | .list ts us=>(∀ t∈ts,okU N t/\wT t<=1048576)->us.length=ts.length/\∀ i (h:i<us.length) (o:i<ts.length),RC st sb ts[i] us[i]:=by
 induction r with
 | one q _ G=>
  intro a;have f:=G (jn (dz m q a));exact Gh m q a f.1 f.2
 | nil=>exact fun _=>⟨rfl,fun i h _=>by simp at h⟩
 | cons _ _ g l=>
  intro a;obtain ⟨f,D⟩:=l fun t B=>a t (aR _ B);refine ⟨by simp [f],fun i h o=>?_⟩;cases i with
  | zero=>exact g (a _ (aM ..))
  | succ i=>exact D i (by simpa using h) (by simpa using o)
theorem wb {N:Nat} {st:aj} (M:Good N st) {t u:T} (O:Res st (.one t u)) (U:okU N t/\wT t<=1048576) {S:ae} {cs:List Value} {sb:Nat} (h:RdT S cs t) (m:StS S S sb st) :
  Tri Tryz.prog ni [.pointer (some ⟨sb,0,none⟩),.agg cs.toArray] [] S fun q I' S'=>I'=[]/\∃ f:List Value,f.length=4/\(∀ x∈f,x.oneCell'=true)/\q=.tuple #[.agg f.toArray,.bool (bv u)]/\(bv u=true->RdT S' f u):=by
 intro w a;have D:=h.length;have a:Inv w [] [] S w:=a;have G:RC st sb t u:=DJ sb M O U;have e:okR u 1 0=bv u:=by rw [okR,bv,Int.zero_add]; rfl
 refine mQ.2 ?_;dsimp only[mQ,bm];refine bJ a fun b3 w' a=>?_;refine aQ a bj fun J w' a=>?_;have Y:iI Tryz.prog cO=some (.int .i64 0):=by kernel_rfl
 refine aQ a Y fun B w' a=>?_;refine dy a 2 (n:=1) rfl (by decide +kernel) rfl (by simp [Value.cells]) (by simp [Value.cells,Value.oneCell']) fun w' a=>?_;have a:Inv w [] ([.blk b3 (.cells cs.toArray ab),.blk J (.cells #[.int .i64 0,.int .i64 0,.string ⟨#[]⟩,.slice none 0 0] ab)]++[.blk B (.cells #[.int .i64 0] cO)]) S w':=a;refine aC a 0 ad rfl (by simpa using D) ?_;refine Run.callE kR lf a (G S cs B 1 0 h m (by omega) (by omega) (by omega) (by omega)) fun Z I' S2 w'=>?_;rintro ⟨o,V,rfl,rfl,g,i,l⟩ r a;rw [e] at l ⊢;refine av rfl ?_;refine av rfl ?_;have a:Inv w [] [.blk b3 (.cells cs.toArray ab),.blk J (.cells #[.int .i64 0,.int .i64 0,.string ⟨#[]⟩,.slice none 0 0] ab),.blk B (.cells #[.int .i64 V] cO)] S2 w':=a;refine au a 1 rfl ad (by simpa using g) rfl (by simpa using i) fun w' a=>?_;refine bB a 1 ad rfl (by simpa using g) ?_;exact ⟨_,_,_,rfl,a.nil,r,rfl,o,g,i,rfl,fun h=>(l h).2⟩
end
end
section
open Go Go.RowKit

theorem EZ:∀ (a b c:List UInt8),Op.bytesLess a b=true->Op.bytesLess b c=true->Op.bytesLess a c=true
 | _,[],_,h,_=>by simp [Op.bytesLess] at h
 | _,_::_,[],_,h=>by simp [Op.bytesLess] at h
 | [],_::_,_::_,_,_=>by simp [Op.bytesLess]
 | x::a,y::b,z::c,h,f=>by
  simp only [Op.bytesLess,jc,bD,bM,beq_iff_eq] at h f ⊢;rcases h with h|⟨rfl,h⟩
  ·rcases f with f|⟨rfl,f⟩
   ·left; exact UInt8.lt_trans h f
   ·left; exact h
  ·rcases f with f|⟨rfl,f⟩
   ·left; exact f
   ·right; exact ⟨rfl,EZ a b c h f⟩
theorem IA:∀ a:List UInt8,Op.bytesLess a a=false
 | []=>by simp [Op.bytesLess]
 | x::a=>by
  simp only [Op.bytesLess,IA a,y5,Bool.or_false,mK];exact UInt8.lt_irrefl x
theorem NF:∀ a b:List UInt8,a≠b->Op.bytesLess a b=true ∨ Op.bytesLess b a=true
 | [],[],h=>absurd rfl h
 | [],_::_,_=>.inl (by simp [Op.bytesLess])
 | _::_,[],_=>.inr (by simp [Op.bytesLess])
 | x::a,y::b,h=>by
  simp only [Op.bytesLess,jc,bD,bM,beq_iff_eq];by_cases e:x=y
  ·subst e;rcases NF a b (fun e=>h (by rw [e])) with f|f
   ·exact .inl (.inr ⟨rfl,f⟩)
   ·exact .inr (.inr ⟨rfl,f⟩)
  ·rcases UInt8.lt_or_lt_of_ne e with f|f
   ·exact .inl (.inl f)
   ·exact .inr (.inl f)
def bls (a b:ByteArray):Bool:=Op.bytesLess a.toList b.toList
def rn (a b:Int):Int:=if a<b then -1 else if b<a then 1 else 0
def ig (a b:ByteArray):Int:=if bls a b=true then -1 else if bls b a=true then 1 else 0
def rkS (t:T):Int:=if t.kind=3/\0<t.kids.length then 4 else t.kind
def Dp (a b:Int):Int:=if a≠0 then a else b
def hdC (t u:T):Int:=Dp (rn (rkS t) (rkS u)) (Dp (rn t.n u.n) (Dp (rn t.kids.length u.kids.length) (ig t.name u.name)))
mutual
def Av:T->T->Int
 | .mk k n s ks,u=>Dp (hdC (.mk k n s ks) u) (jC ks u.kids)
def jC:List T->List T->Int
 | [],[]=>0
 | [],_::_=>-1
 | _::_,[]=>1
 | t::ts,u::us=>Dp (Av t u) (jC ts us)
end
mutual
def okO:T->Prop
 | .mk k n s ks=>(((k=1 ∨ k=2)/\s=emptyB/\ks=[]) ∨ (k=3/\n=0))/\QH ks
def QH:List T->Prop
 | []=>True
 | t::ts=>okO t/\QH ts
end
theorem NO {t:T} (h:eB t=true):((t.kind=1 ∨ t.kind=2)/\t.name=emptyB/\t.kids=[]) ∨ (t.kind=3/\t.n=0):=by
 unfold eB at h;by_cases e1:t.kind=1
 ·rw [ai e1] at h;simp only [bM,bD] at h;exact .inl ⟨.inl e1,h.2.2.1,gF h.2.2.2⟩
 ·rw [ag e1] at h;by_cases e2:t.kind=2
  ·rw [ai e2] at h;simp only [bM,bD] at h;exact .inl ⟨.inr e2,h.2.2.1,gF h.2.2.2⟩
  ·rw [ag e2] at h;by_cases a:t.kind=3
   ·rw [ai a] at h;simp only [bM,bD] at h;exact .inr ⟨a,h.1⟩
   ·rw [ag a] at h;cases h
theorem lk (a b:Int):(a<b/\rn a b=-1) ∨ (b<a/\rn a b=1) ∨ (a=b/\rn a b=0):=by
 unfold rn;by_cases h:a<b
 ·exact .inl ⟨h,ai h⟩
 ·by_cases f:b<a
  ·exact .inr (.inl ⟨f,by rw [ag h,ai f]⟩)
  ·exact .inr (.inr ⟨by omega,by rw [ag h,ag f]⟩)
theorem toList_inj {a b:ByteArray} (h:a.toList=b.toList):a=b:=by
 have:=xD a b;rw [beq_iff_eq.2 h] at this;exact of_decide_eq_true this.symm
theorem iR (a b:ByteArray):(bls a b=true/\ig a b=-1) ∨ (bls b a=true/\bls a b=false/\ig a b=1) ∨ (a=b/\ig a b=0):=by
 unfold ig;cases h:bls a b with
 | true=>exact .inl ⟨rfl,ai rfl⟩
 | false=>
  cases g:bls b a with
  | true=>exact .inr (.inl ⟨rfl,rfl,by simp⟩)
  | false=>
   refine .inr (.inr ⟨?_,by simp⟩);refine toList_inj (Decidable.byContradiction fun e=>?_);rcases NF _ _ e with f|f
   ·rw [bls,f] at h; cases h
   ·rw [bls,f] at g; cases g
theorem Uk {a b:ByteArray} (h:bls a b=true):bls b a=false:=by
 cases f:bls b a with
 | false=>rfl
 | true=>
  have:=EZ _ _ _ h f;rw [IA] at this;cases this

structure TC (a b c:Int):Prop where
 lt:a=-1->b=-1->c=-1
 e1:a=0->c=b
 e2:b=0->c=a
theorem TC.lex {a b c l m o:Int} (h:TC a b c) (r:TC l m o):TC (Dp a l) (Dp b m) (Dp c o):=by
 obtain ⟨t,i,q⟩:=h;obtain ⟨B,D,G⟩:=r;unfold Dp;refine ⟨fun x y=>?_,fun x=>?_,fun x=>?_⟩
 ·by_cases f:a=0
  ·rw [ag (by omega)] at x;by_cases g:b=0
   ·rw [ag (by omega)] at y;rw [ag (by have:=i f; omega)];exact B x y
   ·rw [ai (by omega)] at y;have:=i f;rw [ai (by omega)]; omega
  ·rw [ai (by omega)] at x;by_cases g:b=0
   ·have:=q g;rw [ai (by omega)]; omega
   ·rw [ai (by omega)] at y;have:=t x y;rw [ai (by omega)]; omega
 ·by_cases f:a=0
  ·rw [ag (by omega)] at x;rw [i f,D x]
  ·rw [ai (by omega)] at x; omega
 ·by_cases g:b=0
  ·rw [ag (by omega)] at x;rw [q g,G x]
  ·rw [ai (by omega)] at x; omega
theorem TC.zero:TC 0 0 0:=⟨fun h=>by omega,fun _=>rfl,fun _=>rfl⟩
theorem TC.int (a b c:Int):TC (rn a b) (rn b c) (rn a c):=by
 have f:=lk a b;have g:=lk b c;have h:=lk a c;exact ⟨fun _ _=>by omega,fun _=>by omega,fun _=>by omega⟩
theorem TC.str (a b c:ByteArray):TC (ig a b) (ig b c) (ig a c):=by
 refine ⟨fun x y=>?_,fun x=>?_,fun x=>?_⟩
 ·rcases iR a b with h|h|h
  ·rcases iR b c with f|f|f
   ·have:=EZ _ _ _ h.1 f.1;unfold ig;rw [ai (show bls a c=true from this)]
   ·omega
   ·omega
  ·omega
  ·omega
 ·rcases iR a b with h|h|h
  ·omega
  ·omega
  ·rw [h.1]
 ·rcases iR b c with h|h|h
  ·omega
  ·omega
  ·rw [h.1]
theorem TC.hd (t u v:T):TC (hdC t u) (hdC u v) (hdC t v):=(TC.int _ _ _).lex ((TC.int _ _ _).lex ((TC.int _ _ _).lex (TC.str _ _ _)))
mutual
theorem TC.term:∀ t u v:T,TC (Av t u) (Av u v) (Av t v)
 | .mk k n s ks,.mk k' n' s' ks',v=>by
  rw [Av,Av,Av];exact (TC.hd _ _ _).lex (TC.list ks ks' v.kids)
theorem TC.list:∀ t u v:List T,TC (jC t u) (jC u v) (jC t v)
 | [],[],[]=>by simpa [jC] using TC.zero
 | [],[],_::_=>by rw [jC,jC]; exact ⟨fun h=>by omega,fun _=>rfl,fun h=>by omega⟩
 | [],_::_,[]=>by rw [jC,jC,jC]; exact ⟨fun _ h=>by omega,fun h=>by omega,fun h=>by omega⟩
 | [],_::_,_::_=>by rw [jC,jC]; exact ⟨fun h _=>h,fun h=>by omega,fun h=>rfl⟩
 | _::_,[],[]=>by rw [jC,jC]; exact ⟨fun h _=>h,fun h=>by omega,fun h=>rfl⟩
 | _::_,[],_::_=>by rw [jC,jC]; exact ⟨fun h _=>by omega,fun h=>by omega,fun h=>by omega⟩
 | _::_,_::_,[]=>by rw [jC,jC]; exact ⟨fun _ h=>by omega,fun h=>rfl,fun h=>by omega⟩
 | t::ts,u::us,v::vs=>by
  rw [jC,jC,jC];exact (TC.term t u v).lex (TC.list ts us vs)
end
theorem tL (a b:Int):-(Dp a b)=Dp (-a) (-b):=by
 unfold Dp;by_cases h:a=0
 ·subst h; simp
 ·rw [ai h,ai (by omega)]
theorem xb (a b:Int):rn b a=-rn a b:=by
 have:=lk a b;have:=lk b a;omega
theorem LY (a b:ByteArray):ig b a=-ig a b:=by
 rcases iR a b with h|h|h
 ·rw [h.2];have:=Uk h.1;unfold ig;rw [this,ag (by decide),ai h.1]; rfl
 ·rw [h.2.2];unfold ig;rw [ai h.1]
 ·rw [h.2];obtain rfl:=h.1;rw [h.2]; rfl
theorem Vr (t u:T):hdC u t=-hdC t u:=by
 rw [hdC,hdC,tL,tL,tL,xb (rkS t),xb t.n,xb t.kids.length,LY t.name]
mutual
theorem JV:∀ t u:T,Av u t=-Av t u
 | .mk k n s ks,.mk k' n' s' ks'=>by
  rw [Av,Av,tL,Vr (.mk k n s ks)]
  congr 1
  exact Jh ks ks'
theorem Jh:∀ t u:List T,jC u t=-jC t u
 | [],[]=>by simp [jC]
 | [],_::_=>by simp [jC]
 | _::_,[]=>by simp [jC]
 | t::ts,u::us=>by rw [jC,jC,tL,JV t u,Jh ts us]
end
theorem TD (t:T):Av t t=0:=by
 have:=JV t t;omega
def Sorted:List T->Prop
 | []=>True
 | x::xs=>(∀ y∈xs,Av x y<0)/\Sorted xs
theorem Sorted.nodup:∀ {l:List T},Sorted l->l.Nodup
 | [],_=>xr
 | x::xs,h=>by
  rw [ED];refine ⟨fun a=>?_,Sorted.nodup h.2⟩;have:=h.1 x a;rw [TD] at this;omega
end
section
open Go Go.RowKit
section
variable {P:Program} {w:World} {K:Value->World->Prop}
attribute [local irreducible] Run
end
section
attribute [local irreducible] Run CondV aq aK
end
end
section
open Go Go.RowKit
section
attribute [local irreducible] Run CondV aq aK
end
end
section
open Go Go.RowKit
def RQ:T:=.mk 0 0 ⟨#[]⟩ []
def stW (st:aj):Prop:=∀ t,some t∈st->wT t<=1048576
theorem RdT.zero (S:ae):RdT S qm RQ:=RdT.iff.2 ⟨_,rfl,by simp [inI,T.kind,RQ],by simp [inI,T.n,RQ],by rw [RQ,T.name]; decide +kernel,none,0,rfl,aS _,bk _,.inl rfl⟩
def KRel (S:ae) (cs:List Value) (o:Option T):Prop:=cs.length=4/\(o=none->cs=qm)/\∀ t,o=some t->RdT S cs t
theorem KRel.one {S:ae} {cs:List Value} {o:Option T} (h:KRel S cs o):∀ u∈cs,u.oneCell'=true:=by
 cases o with
 | none=>rw [h.2.1 rfl]; simp [qm,Value.oneCell']
 | some t=>exact (h.2.2 t rfl).one
theorem KnownC.rd {S:ae} {a kp:Nat} {f:Array Value} {st:aj} {E:TypeId} (m:S a=some (.cells f E)) (h:KnownC S f st) (g:st.length=26) (o:26<=kp) (l:kp<=maxLen):RdSl S 4 (KRel S) (kvn a kp) st:=by
 refine ⟨some ⟨a,0,none⟩,kp,by rw [g],by omega,l,.inr ⟨a,0,f,E,(0,0),rfl,m,fun i q=>?_⟩⟩;obtain ⟨r,t⟩:=h.2 i q;rw [cP];refine ⟨?_,r,t⟩;have:=h.1;rw [aX,cM,mi,Qp];omega
section
attribute [local irreducible] Run CondV aq aK
theorem KnownC.mono {S S':ae} {a:Array Value} {st:aj} (h:KnownC S a st) (g:Sle S S'):KnownC S' a st:=
 ⟨h.1,fun i f=>⟨(h.2 i f).1,fun t l=>((h.2 i f).2 t l).mono g⟩⟩
end
end
section
open Go Go.RowKit
mutual
def Ds (φ:Int->T):T->T
 | .mk k n s ks=>if k=1 then φ n else .mk k n s (ti φ ks)
def ti (φ:Int->T):List T->List T
 | []=>[]
 | t::ts=>Ds φ t::ti φ ts
end
theorem uU (φ:Int->T):∀ ts:List T,ti φ ts=ts.map (Ds φ)
 | []=>rfl
 | t::ts=>by rw [ti,uU φ ts]; rfl
theorem O7 (φ:Int->T) (ks:List T) (j:Nat) (h:j<ks.length):ti φ (ks.take (j+1))=ti φ (ks.take j)++[Ds φ ks[j]]:=by
 rw [uU,uU,eV h,BD]; rfl
def Fun (f:FuncId) (cap:List Value) (S:ae) (φ:Int->T):Prop:=∀ S',Sle S S'->∀ n:Int,0<=n->n<=25->∃ cs,RdT S' cs (φ n)/\Pure Tryz.prog f (.int .i64 n::cap) S' (.agg cs.toArray)
theorem Fun.mono {f:FuncId} {cap:List Value} {S S':ae} {φ:Int->T} (h:Fun f cap S φ) (a:Sle S S'):Fun f cap S' φ:=fun S2 g=>h S2 (a.trans g)
abbrev Z8 (t:T):Value->List Item->ae->Prop:=fun v I' S'=>I'=[]/\∃ cs,v=.agg cs.toArray/\RdT S' cs t
section
attribute [local irreducible] Run CondV aq aK
theorem qK {f:FuncId} {fn:Func} (cap:List Value) (φ:Int->T) (hf:Tryz.prog.funcs[f]?=some fn) (hn:(fn.name == "runtime.NumGoroutine" || fn.body.isNone)=false) :
  ∀ (t:T) (S:ae) (cs:List Value),RdT S cs t->okV t->wT t<=1048576->Fun f cap S φ->Tri Tryz.prog sJ [.agg cs.toArray,fv f cap] [] S (Z8 (Ds φ t)):=by
 refine T.ind fun k n s ks ih S cs h hv hw hφ=>?_;intro w a;obtain ⟨kv,rfl,h1,h2,hs,a4⟩:=RdT.iff.1 h;simp only [T.name,T.kids,T.kind,T.n] at h1 h2 hs a4 ⊢;simp only [wT] at hw;rw [okV] at hv;have b9:=hv.2;refine lY.2 ?_;dsimp only[lY,bm];refine bJ a fun J w' a=>?_;refine aQ a bj fun b4 w' a=>?_;refine af a 0 rfl aW aG rfl ?_;refine bw ?_;rw [Ds];refine aL (fun a2=>?_) (fun a2=>?_)
 ·rw [ai a2];obtain ⟨b5,a7⟩:=hv.1 a2;refine af a 0 rfl bi aG rfl ?_;obtain ⟨ds,a3,hp⟩:=hφ S (Sle.refl S) n b5 a7;refine Run.callVPure hf hn a hp fun w' a=>?_;refine au a 1 rfl ad (by simpa using a3.length) rfl (by simpa using a3.one) fun w' a=>?_;refine bB a 1 ad rfl (by simpa using a3.length) ?_;exact ⟨_,_,_,rfl,a.pick [false,false],Ext.refl _ _ _,rfl,ds,rfl,a3⟩
 rw [ag a2];refine af a 0 rfl ar al rfl ?_;refine dj a 0 rfl ar al rfl rfl rfl fun w' a=>?_;refine aJ a4 ah ?_;have a:Inv w [] [.blk b4 (.cells #[.int .i64 0,.int .i64 0,.string ⟨#[]⟩,.slice none 0 0] ab),.blk J (.cells #[.int .i64 k,.int .i64 n,.string s,.slice none 0 0] ab)] S w':=a.perm (List.Perm.swap _ _ _);have a:=a.rowNil ab 4;refine ⟨fun i w'=>∃ (j:Nat) (l:Value) (css:List (List Value)) (S1:ae),j<=ks.length/\i=.int .i64 j/\Ext w.heap.size [] S S1/\Rows 4 (RdT S1) css (ti φ (ks.take j))/\
   Inv w [] [.blk b4 (.cells #[.int .i64 0,.int .i64 0,.string ⟨#[]⟩,.slice none 0 0] ab),.blk J (.cells #[.int .i64 k,.int .i64 n,.string s,l] ab),aA l ab 4 css] S1 w',
  fun i _=>ks.length - (intOf i).toNat,⟨0,_,[],S,bk _,rfl,Ext.refl _ _ _,Rows.nil _ _,a⟩,?_⟩
 intro c2 _ _ _ _ _ _ _ _ _ _ _ _ _ w';rintro ⟨j,l,css,S1,hj,rfl,hE,hg,a⟩;refine bS ?_;refine aL (fun b3=>?_) (fun b3=>?_)
 ·have a0:j<ks.length:=by omega
  have c3:(ks.take j).length=j:=by simp; omega
  have c0:=hg.hc;rw [uU,jO] at c0;have hm:=bG a0;have c4:=iJ hm;refine co a (a4.monoT hE.1) ah ad a0 (fun _ _=>RdT.length) fun N V=>?_;refine aQ a bj fun b7 w' a=>?_;have a:=a.perm (M:=.blk b7 _::[.blk b4 (.cells #[.int .i64 0,.int .i64 0,.string ⟨#[]⟩,.slice none 0 0] ab),.blk J (.cells #[.int .i64 k,.int .i64 n,.string s,l] ab),aA l ab 4 css]) (cj (l₁:=[_]));refine au a 0 rfl ad (by simpa using V.length) rfl (by simpa using V.one) fun w' a=>?_;refine ⟨fun D sA U ji jv pn kV fN lP w_=>Fx D 0 [lP=.pointer (some ⟨J,3,none⟩),fN=l,kV=.agg N.toArray,pn=fv f cap,True,True,True,sA=.pointer (some ⟨J,3,none⟩),True]/\∃ SN g G,Ext w.heap.size [] S1 SN/\(D 4=true->jv=.agg g.toArray/\RdT SN g (Ds φ ks[j]))/\(D 5=true->ji=.slice (some ⟨G,0,none⟩) 1 1)/\(D 5=true->D 4=true)/\(D 6=true->D 5=true)/\(D 8=true->D 6=true)/\(D 8=true->D 1=true)/\Inv w [] (aP (.blk b7 (.cells N.toArray ab)) (.blk b4 (.cells #[.int .i64 0,.int .i64 0,.string ⟨#[]⟩,.slice none 0 0] ab)) (.blk J (.cells #[.int .i64 k,.int .i64 n,.string s,l] ab)) (.blk J (.cells #[.int .i64 k,.int .i64 n,.string s,U] ab)) (aA l ab 4 css) (aA U ab 4 (css++[g])) [] [] (.blk G (.cells g.toArray ab)) false (D 5) (D 6) (D 8)) SN w_,⟨Fx.nil _ _,⟨S1,[],0,Ext.refl _ _ _,aI,aI,aI,aI,aI,aI,by simpa [aP] using a.draw⟩⟩,⟨?_,?_,?_,?_,?_,?_,?_,?_,?_,trivial⟩,?_⟩;all_goals (intro D bH; intros; rename_i sA U ji jv pn kV fN lP w_ a6; have r:=a6.1; obtain ⟨⟨cI,cJ,cH,cD,cL,cN,cq,dg,dG,_⟩,⟨SN,g,G,O,Y,e8,k8,Z,q,k1,a⟩⟩:=a6)
  ·refine aw ar ?_;exact ⟨r.set 0 rfl,⟨SN,g,G,O,Y,e8,k8,Z,q,k1,a⟩⟩
  ·obtain rfl:=cI ‹_›;have B:D 8=false:=bx.2 fun h=>by rw [k1 h] at bH; cases bH
   refine aT (b:=J) a 2 (c:=(#[.int .i64 k,.int .i64 n,.string s,l])) al (by rw [B]; rfl) rfl ?_;have k1:=fun (_:ao D 1 8=true)=>(rfl:ao D 1 1=true)
   exact ⟨r.set 1 rfl,⟨SN,g,G,O,Y,e8,k8,Z,q,k1,a⟩⟩
  ·refine aC a 0 ad rfl (by simpa using V.length) ?_;exact ⟨r.set 2 rfl,⟨SN,g,G,O,Y,e8,k8,Z,q,k1,a⟩⟩
  ·exact ⟨r.set 3 rfl,⟨SN,g,G,O,Y,e8,k8,Z,q,k1,a⟩⟩
  ·obtain rfl:=cH ‹_›;obtain rfl:=cD ‹_›;have f8:D 5=false:=bx.2 fun h=>by rw [k8 h] at bH; cases bH
   have f9:D 6=false:=bx.2 fun h=>by rw [Z h] at f8; cases f8
   have B:D 8=false:=bx.2 fun h=>by rw [q h] at f9; cases f9
   rw [f8,f9,B] at a;refine Run.callE (I:=[]) gq gh (by simpa using a) (ih _ (bG a0) SN N (V.mono O.1) (Nq b9 _ (bG a0)) (by omega) ((hφ.mono hE.1).mono O.1)) fun v' I' SN w_=>?_;rintro ⟨rfl,g,rfl,hT⟩ a1 a;have O:=O.trans a1;have Y:ao D 4 4=true->Value.agg g.toArray=Value.agg g.toArray/\RdT SN g (Ds φ ks[j]):=fun _=>⟨rfl,hT⟩
   have k8:=fun (_:ao D 4 5=true)=>(rfl:ao D 4 4=true)
   have a:Inv w [] (aP (.blk b7 (.cells N.toArray ab)) (.blk b4 (.cells #[.int .i64 0,.int .i64 0,.string ⟨#[]⟩,.slice none 0 0] ab)) (.blk J (.cells #[.int .i64 k,.int .i64 n,.string s,l] ab)) (.blk J (.cells #[.int .i64 k,.int .i64 n,.string s,U] ab)) (aA l ab 4 css) (aA U ab 4 (css++[g])) [] [] (.blk G (.cells g.toArray ab)) false (D 5) (D 6) (D 8)) SN w_:=by
    rw [f8,f9,B];simpa [aP] using a
   exact ⟨r.set 4 (by first|assumption|trivial),⟨SN,g,G,O,Y,e8,k8,Z,q,k1,a⟩⟩
  ·have D1:=cL ‹_›;have f9:D 6=false:=bx.2 fun h=>by rw [Z h] at bH; cases bH
   have B:D 8=false:=bx.2 fun h=>by rw [q h] at f9; cases f9
   obtain ⟨q7,hT⟩:=Y ‹D 4=true›;subst q7;rw [bH,f9,B] at a;refine dB a bn (by simp [Value.cells,hT.length]) (by omega) (by omega) fun G w_ a=>?_;have Y:ao D 5 4=true->Value.agg g.toArray=Value.agg g.toArray/\RdT SN g (Ds φ ks[j]):=fun _=>⟨rfl,hT⟩
   have e8:=fun (_:ao D 5 5=true)=>(rfl:Value.slice (some ⟨G,0,none⟩) 1 1=_)
   have k8:=fun (_:ao D 5 5=true)=>‹D 4=true›;have Z:=fun (_:ao D 5 6=true)=>(rfl:ao D 5 5=true)
   have a:Inv w [] (aP (.blk b7 (.cells N.toArray ab)) (.blk b4 (.cells #[.int .i64 0,.int .i64 0,.string ⟨#[]⟩,.slice none 0 0] ab)) (.blk J (.cells #[.int .i64 k,.int .i64 n,.string s,l] ab)) (.blk J (.cells #[.int .i64 k,.int .i64 n,.string s,U] ab)) (aA l ab 4 css) (aA U ab 4 (css++[g])) [] [] (.blk G (.cells g.toArray ab)) false true (D 6) (D 8)) SN w_:=by
    rw [f9,B];simpa [aP,Value.cells] using a
   exact ⟨r.set 5 (by first|assumption|trivial),⟨SN,g,G,O,Y,e8,k8,Z,q,k1,a⟩⟩
  ·obtain rfl:=cJ ‹_›;have Hj:=cN ‹_›;have B:D 8=false:=bx.2 fun h=>by rw [q h] at bH; cases bH
   have q8:=e8 ‹D 5=true›;subst q8;obtain ⟨_,hT⟩:=Y ‹D 4=true›;rw [‹D 5=true›,bH,B] at a;have a9:((aP (.blk b7 (.cells N.toArray ab)) (.blk b4 (.cells #[.int .i64 0,.int .i64 0,.string ⟨#[]⟩,.slice none 0 0] ab)) (.blk J (.cells #[.int .i64 k,.int .i64 n,.string s,fN] ab)) (.blk J (.cells #[.int .i64 k,.int .i64 n,.string s,U] ab)) (aA fN ab 4 css) (aA U ab 4 (css++[g])) [] [] (.blk G (.cells g.toArray ab)) false true false false))[4]?=some (.blk G (.cells g.toArray ab)):=rfl;refine dE a 3 g bn (by omega) rfl (by rw [hT.length]) (m:=1) (o:=0) ?_ hT.one (by omega) (by omega) fun v' w_ a=>?_
   ·intro i u hi;rw [a.cellL a9,cP];simpa using hi
   rw [eE] at a;have Z:=fun (_:ao D 6 6=true)=>‹D 5=true›;have q:=fun (_:ao D 6 8=true)=>(rfl:ao D 6 6=true)
   have a:Inv w [] (aP (.blk b7 (.cells N.toArray ab)) (.blk b4 (.cells #[.int .i64 0,.int .i64 0,.string ⟨#[]⟩,.slice none 0 0] ab)) (.blk J (.cells #[.int .i64 k,.int .i64 n,.string s,fN] ab)) (.blk J (.cells #[.int .i64 k,.int .i64 n,.string s,v'] ab)) (aA fN ab 4 css) (aA v' ab 4 (css++[g])) [] [] (.blk G (.cells g.toArray ab)) false (D 5) true (D 8)) SN w_:=by
    rw [‹D 5=true›,B];exact a
   exact ⟨r.set 6 (by first|assumption|trivial),⟨SN,g,G,O,Y,e8,k8,Z,q,k1,a⟩⟩
  ·refine aw ar ?_;exact ⟨r.set 7 rfl,⟨SN,g,G,O,Y,e8,k8,Z,q,k1,a⟩⟩
  ·obtain rfl:=dg ‹_›;have Me:=cq ‹_›;rw [‹D 5=true›,‹D 6=true›,bH] at a;obtain ⟨va,vn,vc,a5⟩:=Inv.rowSlice a 3 rfl;refine dy a 2 (n:=1) (by rw [a5]; rfl) (by decide +kernel) rfl (by simp) (by rw [a5]; simp [Value.cells,Value.oneCell']) fun w_ a=>?_;have b0:Value.cells U=#[U]:=by rw [a5]; rfl
   rw [b0] at a;have k1:=fun (_:ao D 8 8=true)=>‹D 1=true›;have q:=fun (_:ao D 8 8=true)=>‹D 6=true›;have a:Inv w [] (aP (.blk b7 (.cells N.toArray ab)) (.blk b4 (.cells #[.int .i64 0,.int .i64 0,.string ⟨#[]⟩,.slice none 0 0] ab)) (.blk J (.cells #[.int .i64 k,.int .i64 n,.string s,l] ab)) (.blk J (.cells #[.int .i64 k,.int .i64 n,.string s,U] ab)) (aA l ab 4 css) (aA U ab 4 (css++[g])) [] [] (.blk G (.cells g.toArray ab)) false (D 5) (D 6) true) SN w_:=by
    rw [‹D 5=true›,‹D 6=true›];exact a
   exact ⟨r.set 8 trivial,⟨SN,g,G,O,Y,e8,k8,Z,q,k1,a⟩⟩
  obtain ⟨rfl,rfl,rfl,rfl,D1,Hj,Me,rfl,_,_⟩:=r.all;have Zg:D 4=true:=by assumption
  have Yf:D 5=true:=by assumption
  have OQ:D 6=true:=by assumption
  have FO:D 8=true:=by assumption
  clear r cI cJ cH cD cL cN cq dg dG;obtain ⟨_,hT⟩:=Y Zg;rw [Yf,OQ,FO] at a;refine bC (by omega) ?_;refine ⟨⟨j+1,U,css++[g],SN,a0,rfl,hE.trans O,?_,?_⟩,by simp [intOf]; omega⟩
  ·rw [O7 φ ks j a0];exact (Rows.monoR hg fun _ _ h=>h.mono O.1).snoc hT hT.length
  ·refine a.sub ?_;simp only [aP];exact ((((K0 _).cons_cons _).cons_cons _).cons_cons _).cons _
 ·have:j=ks.length:=by omega
  subst this;rw [d4] at hg;obtain ⟨va,vn,vc,a8⟩:=a.rowSlice 2 rfl;have c1:l.oneCell'=true:=by rw [a8]; rfl
  refine aC a 1 ad rfl rfl ?_;refine au a 0 rfl ad rfl rfl ?_ fun w' a=>?_
  ·intro u hu;have b1:u∈([.int .i64 k,.int .i64 n,.string s,l]:List Value):=hu;simp at b1;rcases b1 with rfl|rfl|rfl|rfl <;> first|rfl|exact c1
  refine bB a 0 ad rfl rfl ?_;have a:Inv w [] ([]++[aA l ab 4 css]) S1 w':=a.sub (dH [_,_] _);obtain ⟨S2,a1,b6,a⟩:=a.lendExt;exact ⟨_,_,_,rfl,a,hE.trans a1,rfl,_,rfl,RdT.iff.2 ⟨l,rfl,h1,h2,hs,(RowRd.rows hg b6).mono (Sle.refl _) fun _ _ h=>h.mono a1.1⟩⟩
end
end
end Go.Proofs.YtgllldjiaglkcaaGreatDoor
