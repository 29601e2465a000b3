/- spec: walks, full and small terms over a published table (printed by wip/gen_tabw.py). -/
import Derived.Test.YtellfcpffcipcaaGreatDoorZCkA
import Derived.Test.YtellfcpffcipcaaGreatDoorZCk27
namespace Go.Proofs.YtellfcpffcipcaaGreatDoor
attribute [local irreducible] Run
section
open Go Go.RowKit
section
attribute [local irreducible] CondV aF aT
theorem abj {N:Nat} {st:au} (hg:Good N st) {t v:T} (hw:dL st t v) (ht:okU N t) {S:ae} {cs:List Value} {v0:Value} (h:RdT S cs t) (hk:RdSl S 4 (RdO S) v0 st) (h0:0<N) :
  Tri Tryz.prog JG [.agg cs.toArray,v0] [] S fun r I' S'=>S'=S/\I'=[]/\∃ D,r=.agg D.toArray/\RdT S D v:=by
 intro w a;obtain ⟨X,hX⟩:∃ X,X=bS []:=⟨_,rfl⟩
 rw [<- hX] at a ⊢;have a6:=hg.len;obtain ⟨r,hr⟩:=hg.rk;obtain ⟨kb,o,kp,kc,E,fz,rfl,Y,hT⟩:=hk.ptr (by omega);rw [a6];refine qA.2 ?_;dsimp only[qA,bl];refine bq a fun V w' a=>?_;refine aG a aV fun b4 w' a=>?_;have a:Inv w X [.blk V (.cells cs.toArray ab),.blk b4 (.cells #[.int .i64 0,.int .i64 0,.string ⟨#[]⟩,.slice none 0 0] ab)] S w':=a;refine ⟨fun w'=>∃ (g:T) (D:List Value),dL st g v/\okU N g/\RdT S D g/\Inv w X [.blk V (.cells D.toArray ab),.blk b4 (.cells #[.int .i64 0,.int .i64 0,.string ⟨#[]⟩,.slice none 0 0] ab)] S w',
  fun w'=>vO V r st w',⟨t,cs,hw,ht,h,a⟩,?_⟩
 intro _ _ _ _ _ _ _ _ _ _ _ _ _ _ _ _ _ _ _ _ _ _ _ _ w';rintro ⟨g,D,a2,a3,J,a⟩;have a0:=sr a (i:=0) rfl J r st;have O:=J;obtain ⟨kv,rfl,_⟩:=RdT.iff.1 J;refine ⟨fun q w'=>q=.bool (look st g).isSome/\Inv w X [.blk V (.cells #[.int .i64 g.kind,.int .i64 g.n,.string g.name,kv] ab),.blk b4 (.cells #[.int .i64 0,.int .i64 0,.string ⟨#[]⟩,.slice none 0 0] ab)] S w',?_,?_⟩
 ·refine ad a 0 rfl aM aw rfl ?_;refine bn ?_;by_cases m:g.kind=1
  ·rw [aL m];obtain ⟨a5,a4,_⟩:=a3.var m;obtain ⟨j,Z⟩:∃ j:Nat,g.n=j:=⟨g.n.toNat,by omega⟩
   have a1:j<N:=by omega
   have G:j<st.length:=by omega
   refine rpG ?_;refine ad a 0 rfl aQ aw rfl ?_;refine fJ ag ?_;refine bM ?_;rw [aL a4];refine rpG ?_;refine ad a 0 rfl aQ aw rfl ?_;rw [Z];refine az ag a1 ?_;refine ah aM ?_;rw [vo];have B:=hT j G;rw [Z] at a;have a7:look st g=st[j]:=by
    rw [look,ai m,Z,dq,gd G]; rfl
   rw [a7];cases f:st[j] with
   | none=>
    rw [f] at B;have l:aO kc (o+j * 4) 4=p7:=B;refine cS aw (by rw [a.cellS Y]; exact aA l 0 _ rfl) ?_;refine dw ?_;refine rpG ?_;refine ⟨by simp,a⟩
   | some t0=>
    rw [f] at B;have hR:RdT S (aO kc (o+j * 4) 4) t0:=B;have a8:t0.kind≠0:=(hg.ok t0 (by rw [<- f]; exact bJ G)).kind;obtain ⟨b0,l,_,_,_,_⟩:=RdT.iff.1 hR;refine cS aw (by rw [a.cellS Y]; exact aA l 0 _ rfl) ?_;refine dw ?_;rw [aS a8];refine rpG ?_;refine ⟨rfl,a⟩
  ·rw [aS m];refine rpG ?_;refine ⟨?_,a⟩;rw [look,af m]; rfl
 intro q _ _ _ _ _ _ _ _ _ _ _ _ _ _ _ _ _ _ w';rintro ⟨rfl,a⟩;refine aE (fun hb=>?_) (fun hb=>?_)
 ·obtain ⟨u,hl⟩:=HJ.1 hb;obtain ⟨m,hs⟩:=dC.1 hl;obtain ⟨a5,a4,_⟩:=a3.var m;obtain ⟨j,Z⟩:∃ j:Nat,g.n=j:=⟨g.n.toNat,by omega⟩
  have a1:j<N:=by omega
  have G:j<st.length:=by omega
  rw [Z,dq] at hs;have f:st[j]=some u:=by rw [gd G,aY] at hs; exact hs
  have hR:RdT S (aO kc (o+j * 4) 4) u:=by
   have B:=hT j G;rw [f] at B;exact B
  have a9:dL st u v:=by
   cases a2 with
   | stop h0=>rw [hl] at h0; cases h0
   | step h1 h2=>rw [hl,aY] at h1; rw [h1]; exact h2
  have hu:=(hg.look_ok hl).1;refine ad a 0 rfl aQ aw rfl ?_;rw [Z];refine az ag a1 ?_;refine bV ac hR.length (fun i v hi=>by rw [a.cellS Y]; exact aA rfl i v hi) ?_;refine aq a 0 rfl ac (by simpa using hR.length) rfl (by simpa using hR.one) fun w' a=>?_;have a:Inv w X [.blk V (.cells (aO kc (o+j * 4) 4).toArray ab),.blk b4 (.cells #[.int .i64 0,.int .i64 0,.string ⟨#[]⟩,.slice none 0 0] ab)] S w':=a;refine ⟨⟨u,_,a9,hu,hR,a⟩,?_⟩;have M:=sr a (i:=0) rfl hR r st;show vO V r st w'<vO V r st _;rw [a0,M,ai hb,Z,dq];split
  ·rename_i U
   obtain ⟨u2,U⟩:=HJ.1 U;have:=hr j u hs u.n.toNat (by rw [kH (dC.1 U).1]; exact cE.2 rfl);omega
  ·omega
 ·have hv:v=g:=by
   cases a2 with
   | stop _=>rfl
   | step h1 _=>rw [h1] at hb; cases hb
  subst hv;refine av a 0 ac rfl rfl ?_;refine aq a 1 rfl ac rfl rfl (by simpa using O.one) fun w' a=>?_;refine bm a 1 ac rfl rfl ?_;exact ⟨_,_,_,rfl,a.pick [false,false],Ext.refl _ _ _,rfl,rfl,_,rfl,O⟩
def ab9 (u:T) (room:Int):Value->List Item->ae->Prop:=fun q I' S'=>I'=[]/\
 ∃ cs':List Value,cs'.length=4/\(∀ x∈cs',x.oneCell'=true)/\q=.tuple #[.agg cs'.toArray,ax (if ez u<=room then room - ez u else -1)]/\(ez u<=room->RdT S' cs' u)
def FCT (st:au) (t u:T):Prop:=∀ (S:ae) (cs:List Value) (v0:Value) (room:Int),RdT S cs t->RdSl S 4 (RdO S) v0 st->-1<=room->room<=1000000->
 Tri Tryz.prog JA [.agg cs.toArray,v0,ax room] [] S (ab9 u room)
theorem Oi {N:Nat} {st:au} (b2:0<N) {t v:T} {us:List T} (hg:Good N st) (a1:dL st t v) (a2:okU N t/\wT t<=1048576) (c8:us.length=v.kids.length)
  (hk:∀ i (h:i<us.length) (h':i<v.kids.length),FCT st v.kids[i] us[i]):FCT st t (.mk v.kind v.n v.name us):=by
 intro S cs v0 g h a3 c9 d0 w a;have b0:=h.length;have c2:=dS hg a1 a2;obtain ⟨X,hX⟩:∃ X,X=bS []:=⟨_,rfl⟩
 rw [<- hX] at a ⊢;have d4:=eK us;apply qh.2;dsimp only[qh,dR];refine bq a fun U w' a=>?_;refine aG a aV fun V w' a=>?_;have a:Inv w X ([ay U cs.toArray ab,ay V bb ab]++[]) S w':=a;refine bM (aJ (fun b5=>?_) (fun b5=>?_))
 ·refine iF (aq a 1 rfl ac rfl rfl mP fun w' a=>?_);apply bm a 1 ac rfl rfl;refine ⟨_,_,_,rfl,a.pick [false,false],Ext.refl _ _ _,rfl,_,rfl,mP,?_,fun h=>?_⟩
  ·rw [jz,af (by omega)]
  ·rw [jz] at h;omega
 refine av a 0 ac rfl (by simpa using b0) (Run.call pR qf a (abj hg a1 a2.1 h a3 b2) fun v' I' S' w'=>?_);rintro ⟨eS,rfl,d1,rfl,r⟩ _ a;rw [eS] at a;clear eS;refine aq a 0 rfl ac (by simpa using r.length) (by simpa using b0) (by simpa using r.one) fun w' a=>?_;obtain ⟨kv,rfl,c0,c1,hs,a0⟩:=RdT.iff.1 r;have a:Inv w X [ay U (gn v kv) ab,ay V bb ab] S w':=a;have c5:=a0.le;have d6:v.kids.length<=1048576:=by
  have:=c2.2;cases v;simp only [wT] at this;simp only [T.kids];omega
 refine ad a 0 rfl aM aw rfl ?_;refine ad a 0 rfl aQ aw rfl ?_;refine ad a 0 rfl aW aP rfl ?_;refine jp ?_;refine aG a aV fun G w' a=>?_;refine aq a 2 rfl ac rfl rfl (by simp [Value.oneCell']) fun w' a=>?_;refine je (by omega) ?_;have a:=a.rowNil ab 4;have a:Inv w X [ay U (gn v kv) ab,ay V bb ab,ay G (gn v (hV)) ab,aK (hV) ab 4 []] S w':=a;refine ⟨fun i l w'=>∃ (j:Nat) (left:Int) (f:Value) (css:List (hZ)) (S1:ae),j<=us.length/\i=ax j/\l=ax left/\Ext w.heap.size X S S1/\css.length=j/\
   ((left=g - 1 - dx (us.take j)/\0<=left/\Rows 4 (RdT S1) css (us.take j)) ∨ (left=-1/\g - 1<dx us))/\
   Inv w X [ay U (gn v kv) ab,ay V bb ab,ay G (gn v f) ab,aK f ab 4 css] S1 w',
  fun i _ _=>us.length - (intOf i).toNat,⟨0,g - 1,_,[],S,bf _,rfl,rfl,Ext.refl _ _ _,rfl,.inl ⟨by simp [dx],by omega,Rows.nil _ _⟩,a⟩,?_⟩
 intro d2 _ _ t9;(iterate 29 intro);intro w';rintro ⟨j,left,f,css,S1,hj,rfl,rfl,hE,b4,a4,a⟩;refine ⟨fun q w'=>q=.bool (decide (j<us.length/\0<=left))/\Inv w X [ay U (gn v kv) ab,ay V bb ab,ay G (gn v f) ab,aK f ab 4 css] S1 w',?_,?_⟩
 ·refine ad a 0 rfl ao aj rfl (aI a0 ag (bM ?_));by_cases e1:(j:Int)<(v.kids.length:Nat)
  ·rw [aL e1];refine rpG ?_;apply iS;refine rpG ?_;refine ⟨?_,a⟩
   congr 1
   rw [qt,bt,bt];omega
  ·rw [aS e1];refine rpG ?_;refine ⟨?_,a⟩;rw [aS (by omega)]
 intro q _ _ _ _ _ _ _ _ w';rintro ⟨rfl,a⟩;refine aJ (fun a7=>?_) (fun a7=>?_)
 ·obtain ⟨Y,d3⟩:=a7;have b1:j<v.kids.length:=by omega
  obtain ⟨hleft,_,hR⟩:left=g - 1 - dx (us.take j)/\0<=left/\Rows 4 (RdT S1) css (us.take j):=by
   rcases a4 with h1|⟨h1,_⟩
   ·exact h1
   ·omega
  have c6:=eK (us.take j);refine ad a 0 rfl ao aj rfl (cL a (a0.monoT hE.1) ag ac b1 (fun _ _=>RdT.length) fun b7 a8=>?_);have a:Inv w X ([ay U (gn v kv) ab,ay V bb ab,ay G (gn v f) ab,aK f ab 4 css]++[]) S1 _:=a;refine Run.callE qz qg a (hk j Y b1 S1 b7 v0 left a8 (a3.mono hE.1 fun _ _ h=>RdO.mono hE.1 h) (by omega) (by omega)) fun v' I' S2 w'=>?_;rintro ⟨rfl,J,O,a5,rfl,Z⟩ a6 a;refine al rfl (al rfl (aG a aV fun b9 w' a=>?_));have a:=a.perm (M:=.blk b9 _::[ay U (gn v kv) ab,ay V bb ab,ay G (gn v f) ab,aK f ab 4 css]) (cT (l₁:=[_]));refine aq a 0 rfl ac (by simpa using O) rfl (by simpa using a5) fun w' a=>?_;refine ad (b:=G) (c:=(gn v f)) a 3 rfl ao aj rfl (av a 0 ac rfl (by simpa using O) (ei a 4 J bx (by omega) (by omega) rfl O a5 (by omega) (by omega) fun m w' a=>?_));have o:=lY (a.its (aK m ab 4 (css++[J])) (by simp));refine cX (b:=G) (c:=(gn v f)) a 3 rfl ao aj rfl o.1 o.2 fun w' a=>?_;have a:Inv w X [ay U (gn v kv) ab,ay V bb ab,ay G (gn v m) ab,aK m ab 4 (css++[J])] S2 w':=a.pick [false,true,true,true,true];refine bA (by omega) ?_;have d7:=Do us j Y;have c7:=tk us (j+1);have d9:=m7 us[j];refine ⟨⟨j+1,_,m,css++[J],S2,Y,rfl,rfl,hE.trans a6,by simp [b4],?_,a⟩,by simp [intOf];omega⟩;by_cases D:ez us[j]<=left
  ·left;rw [ai D];refine ⟨by omega,by omega,?_⟩;rw [gh Y];exact (hR.monoR fun _ _ h=>RdT.mono a6.1 h).snoc (Z D) O
  ·right;rw [af D];exact ⟨rfl,by omega⟩
 ·refine av (b:=G) (c:=(gn v f)) a 2 ac rfl rfl ?_;have o:=lY (a.its (aK f ab 4 css) (by simp));have B:∀ x∈((hJ v f):hZ),x.oneCell'=true:=by
   intro x hx;simp at hx;rcases hx with rfl|rfl|rfl|rfl <;> first|rfl|exact o.2
  refine aq a 1 rfl ac rfl rfl B fun w' a=>?_;refine bm (c:=(gn v f)) a 1 ac rfl rfl ?_;have a:Inv w X ([]++[aK f ab 4 css]) S1 w':=a.pick [false,false,false,true];rcases a4 with ⟨h1,h2,hR⟩|⟨h1,h2⟩
  ·have c3:j=us.length:=by omega
   rw [c3,fM] at h1 hR;obtain ⟨S3,a9,Z,a⟩:=a.lendExt;have c4:=RowRd.rows (hR.monoR fun _ _ h=>RdT.mono a9.1 h) Z;refine ⟨_,_,_,rfl,a,hE.trans a9,rfl,(hJ v f),rfl,B,?_,fun _=>RdT.iff.2 ⟨f,rfl,c0,c1,hs,c4⟩⟩;rw [jz,ai (by omega),show left=g - (1+dx us) by omega]
  ·refine ⟨_,_,_,rfl,a.sub (eh _ _),hE,rfl,(hJ v f),rfl,B,?_,fun h=>?_⟩
   ·rw [jz,af (by omega),h1]
   ·rw [jz] at h;omega
theorem aaY {N:Nat} {st:au} (g:0<N) (o:Good N st) {j:Nz} (B:Res st j):match j with
  | .one t u=>(okU N t/\wT t<=1048576)->FCT st t u
  | .list ts us=>(∀ t∈ts,okU N t/\wT t<=1048576)->us.length=ts.length/\∀ i (h:i<us.length) (q:i<ts.length),FCT st ts[i] us[i]:=by
 induction B with
 | one r _ J=>
  intro a;have f:=J (kq (dS o r a));exact Oi g o r a f.1 f.2
 | nil=>exact fun _=>⟨rfl,fun i h _=>by simp at h⟩
 | cons _ _ l m=>
  intro a;obtain ⟨f,G⟩:=m fun t D=>a t (bk _ D);refine ⟨by simp [f],fun i h q=>?_⟩;cases i with
  | zero=>exact l (a _ (bi ..))
  | succ i=>exact G i (by simpa using h) (by simpa using q)
def abz (u:T):Value->List Item->ae->Prop:=fun q I' S'=>I'=[]/\
 ∃ cs':List Value,cs'.length=4/\(∀ x∈cs',x.oneCell'=true)/\q=.tuple #[.agg cs'.toArray,.bool (bL u)]/\(bL u=true->RdT S' cs' u)
theorem Rf {N:Nat} {st:au} (a1:0<N) (hg:Good N st) {t u:T} (hr:Res st (.one t u)) (ho:okU N t/\wT t<=1048576) {S:ae} {cs:hZ} {v0:Value} (h:RdT S cs t) (a2:RdSl S 4 (RdO S) v0 st) :
  kt R3 [.agg cs.toArray,v0] [] S (abz u):=by
 intro w a;have a4:=h.length;obtain ⟨X,hX⟩:∃ X,X=bS []:=⟨_,rfl⟩
 rw [<- hX] at a ⊢;have q:FCT st t u:=aaY a1 hg hr ho;apply BX.2;dsimp only[BX,bl];refine bq a fun Y w' a=>?_;refine aG a aV fun Z w' a=>?_;have a:Inv w X ([ay Y cs.toArray ab,ay Z bb ab]++[]) S w':=a;refine av a 0 ac rfl (by simpa using a4) (Run.callE qz qg a (q S cs v0 120 h a2 (by omega) (by omega)) fun v' I' S1 w'=>?_);rintro ⟨rfl,g,i,j,rfl,a3⟩ hE a;refine al rfl (al rfl (aG a aV fun b6 w' a=>?_));refine aq a 2 rfl ac (by simpa using i) rfl (by simpa using j) fun w' a=>?_;have a:Inv w X [ay Y cs.toArray ab,ay Z bb ab,ay b6 g.toArray ab] S1 w':=a;by_cases hc:ez u<=120
 ·rw [ai hc];have a5:=m7 u;have a0:=a3 hc;refine ⟨fun D r B G J M O U V o=>Fx D 0 [V=.agg g.toArray,U=ax (120 - ez u),O=.bool true,M=.bool true,J=.agg g.toArray,G=.bool (uX u 30),B=.bool (uX u 30),True,r=.bool (uX u 30)]/\Inv w X [ay Y cs.toArray ab,ay Z (cond (D 7) g.toArray bb) ab,ay b6 g.toArray ab] S1 o,⟨Fx.nil _ _,a.draw⟩,⟨?_,?_,?_,?_,?_,?_,?_,?_,?_,trivial⟩,?_⟩;all_goals (intro D bw;intros;rename_i r B G J M O U V o l;have f:=l.1;obtain ⟨⟨co,cn,bP,m,cA,bQ,bO,cM,de,_⟩,a⟩:=l)
  refine av a 2 ac rfl (by simpa using i) ?_;rotate_left;rotate_left
  obtain rfl:=cn ‹_›;apply iS;rw [aL (by omega)];rotate_left
  obtain rfl:=bP ‹_›;rotate_left
  obtain rfl:=m ‹_›;refine rpG ?_;refine av a 2 ac rfl (by simpa using i) ?_;rotate_left
  obtain rfl:=cA ‹_›;obtain rfl:=m ‹_›;refine rpG ?_;refine Run.callPure Fh Ez a (OP u 30 S1 g a0 (by omega) (by omega)) fun o a=>?_;rotate_left
  obtain rfl:=m ‹_›;obtain rfl:=bQ ‹_›;refine rpG ?_;rotate_left
  obtain rfl:=co ‹_›;rw [bw] at a;refine aq a 1 rfl ac (by simpa using i) rfl (by simpa using j) fun o a=>?_;rotate_left
  obtain rfl:=bO ‹_›;rotate_left
  all_goals try exact ⟨f.set _ (by first|rfl|assumption|trivial),a⟩
  obtain ⟨rfl,rfl,rfl,rfl,rfl,rfl,rfl,_,rfl,_⟩:=f.all;have CQ:D 7=true:=by assumption
  clear f;rw [CQ] at a;refine bm a 1 ac rfl (by simpa using i) ?_;have e:bL u=uX u 30:=by rw [bL,aL hc,dz]
  exact ⟨_,_,_,rfl,a.pick [false,false,false],hE,rfl,g,i,j,by rw [e];rfl,fun _=>a0⟩
 ·rw [af hc];refine ⟨fun D r B G J M O U V o=>Fx D 0 [V=.agg g.toArray,U=ax (-1),O=.bool false,M=.bool false,J=undef,G=undef,B=.bool false,True,r=.bool false]/\Inv w X [ay Y cs.toArray ab,ay Z (cond (D 7) g.toArray bb) ab,ay b6 g.toArray ab] S1 o,⟨Fx.nil _ _,a.draw⟩,⟨?_,?_,?_,?_,?_,?_,?_,?_,?_,trivial⟩,?_⟩;all_goals (intro D bw;intros;rename_i r B G J M O U V o l;have f:=l.1;obtain ⟨⟨co,cn,bP,m,cA,bQ,bO,cM,de,_⟩,a⟩:=l)
  refine av a 2 ac rfl (by simpa using i) ?_;rotate_left;rotate_left
  obtain rfl:=cn ‹_›;apply iS;rw [aS (by omega)];rotate_left
  obtain rfl:=bP ‹_›;rotate_left
  obtain rfl:=m ‹_›;refine rpG ?_;rotate_left
  obtain rfl:=cA ‹_›;obtain rfl:=m ‹_›;refine rpG ?_;rotate_left
  obtain rfl:=m ‹_›;obtain rfl:=bQ ‹_›;refine rpG ?_;rotate_left
  obtain rfl:=co ‹_›;rw [bw] at a;refine aq a 1 rfl ac (by simpa using i) rfl (by simpa using j) fun o a=>?_;rotate_left
  obtain rfl:=bO ‹_›;rotate_left
  all_goals try exact ⟨f.set _ (by first|rfl|assumption|trivial),a⟩
  obtain ⟨rfl,rfl,rfl,rfl,rfl,rfl,rfl,_,rfl,_⟩:=f.all;have CQ:D 7=true:=by assumption
  clear f;rw [CQ] at a;refine bm a 1 ac rfl (by simpa using i) ?_;have e:bL u=false:=by rw [bL,aS hc,jZ]
  exact ⟨_,_,_,rfl,a.pick [false,false,false],hE,rfl,g,i,j,by rw [e];rfl,fun h=>by rw [e] at h;cases h⟩
end
end
section
open Go Go.RowKit
def RdSp (S:ae) (cs:List Value) (x:Sp):Prop:=∃ hd,cs=hd++[ax x.clause,ax x.body]/\RdT S hd x.goal
theorem RdSp.length {S:ae} {cs:hZ} {x:Sp} (h:RdSp S cs x):cs.length=6:=by
 obtain ⟨hd,rfl,h⟩:=h;simp [h.length]
theorem RdSp.one {S:ae} {cs:hZ} {x:Sp} (h:RdSp S cs x):∀ u∈cs,u.oneCell'=true:=by
 obtain ⟨hd,rfl,h⟩:=h;intro u a;rcases ci.1 a with a|a
 ·exact h.one u a
 ·simp only [cw,ic,g9] at a;rcases a with rfl|rfl <;> rfl
theorem RdSp.mono {S S':ae} {cs:hZ} {x:Sp} (a:Sle S S') (h:RdSp S cs x):RdSp S' cs x:=by
 obtain ⟨hd,rfl,h⟩:=h;exact ⟨hd,rfl,h.mono a⟩
theorem RdSl.monoSp {S S':ae} {v:Value} {xs:List Sp} (a:Sle S S') (h:RdSl S 6 (RdSp S) v xs):RdSl S' 6 (RdSp S') v xs:=h.mono a fun _ _=>RdSp.mono a
def RdVS (S:ae) (cs:List Value) (l:List Sp):Prop:=∃ v,cs=[v]/\RdSl S 6 (RdSp S) v l
theorem RdVS.length {S:ae} {cs:hZ} {l:List Sp} (h:RdVS S cs l):cs.length=1:=by
 obtain ⟨v,rfl,h⟩:=h;rfl
theorem RdVS.one {S:ae} {cs:hZ} {l:List Sp} (h:RdVS S cs l):∀ u∈cs,u.oneCell'=true:=by
 obtain ⟨v,rfl,h⟩:=h;intro u a;rw [cE] at a;subst a;exact h.sl
theorem RdVS.mono {S S':ae} {cs:hZ} {l:List Sp} (a:Sle S S') (h:RdVS S cs l):RdVS S' cs l:=by
 obtain ⟨v,rfl,h⟩:=h;exact ⟨v,rfl,h.monoSp a⟩
theorem RdSl.monoVS {S S':ae} {v:Value} {xs:List (List Sp)} (a:Sle S S') (h:RdSl S 1 (RdVS S) v xs):RdSl S' 1 (RdVS S') v xs:=h.mono a fun _ _=>RdVS.mono a
def RdSe (S:ae) (cs:List Value) (s:Se):Prop:=∃ g b c t v,cs=[g,b,c,t,v]/\RdSl S 5 (RdG S) g s.st.goals/\RdSl S 4 (RdO S) b s.st.binds/\RdSl S 7 (RdCh S) c s.st.chs/\RdSl S 6 (RdSp S) t s.steps/\RdSl S 1 (RdVS S) v s.saved
theorem RdSe.length {S:ae} {cs:hZ} {s:Se} (h:RdSe S cs s):cs.length=5:=by
 obtain ⟨g,b,c,t,v,rfl,_⟩:=h;rfl
theorem RdSe.one {S:ae} {cs:hZ} {s:Se} (h:RdSe S cs s):∀ u∈cs,u.oneCell'=true:=by
 obtain ⟨g,b,c,t,v,rfl,f,i,j,l,m⟩:=h;intro u a;simp only [cw,ic,g9] at a;rcases a with rfl|rfl|rfl|rfl|rfl
 ·exact f.sl
 ·exact i.sl
 ·exact j.sl
 ·exact l.sl
 ·exact m.sl
theorem RdSe.mono {S S':ae} {cs:hZ} {s:Se} (a:Sle S S') (h:RdSe S cs s):RdSe S' cs s:=by
 obtain ⟨g,b,c,t,v,rfl,f,i,j,l,m⟩:=h;exact ⟨g,b,c,t,v,rfl,f.monoG a,i.monoO a,j.monoCh a,l.monoSp a,m.monoVS a⟩
theorem aaa {a b c d e f g:Value}:∀ (j:Nat) (v:Value),([a,b,c,d]:hZ)[j]?=some v->(#[a,b,c,d,e,f,g]:Array Value)[0+j]?=some v
 | 0,v,h=>by simpa using h
 | 1,v,h=>by simpa using h
 | 2,v,h=>by simpa using h
 | 3,v,h=>by simpa using h
 | n+4,v,h=>by simp at h
theorem chM (S S':ae) (cs:hZ) (x:Ch) (a:Sle S S') (h:RdCh S cs x):RdCh S' cs x:=h.mono a
theorem chL (S:ae) (cs:hZ) (x:Ch) (h:RdCh S cs x):cs.length=7:=h.length
theorem chO (S:ae) (cs:hZ) (x:Ch) (h:RdCh S cs x):∀ u∈cs,u.oneCell'=true:=h.one
theorem spM (S S':ae) (cs:hZ) (x:Sp) (a:Sle S S') (h:RdSp S cs x):RdSp S' cs x:=h.mono a
theorem spL (S:ae) (cs:hZ) (x:Sp) (h:RdSp S cs x):cs.length=6:=h.length
theorem spO (S:ae) (cs:hZ) (x:Sp) (h:RdSp S cs x):∀ u∈cs,u.oneCell'=true:=h.one
theorem vsM (S S':ae) (cs:hZ) (x:List Sp) (a:Sle S S') (h:RdVS S cs x):RdVS S' cs x:=h.mono a
theorem vsL (S:ae) (cs:hZ) (x:List Sp) (h:RdVS S cs x):cs.length=1:=h.length
theorem vsO (S:ae) (cs:hZ) (x:List Sp) (h:RdVS S cs x):∀ u∈cs,u.oneCell'=true:=h.one
theorem RdSl.single {α:Type} {S:ae} {k b:Nat} {R:hZ->α->Prop} {cs:hZ} {x:α} {E:TypeId} {a:Nat × Nat} (f:S b=some (.cells cs.toArray E a)) (hl:cs.length=k) (h:R cs x):RdSl S k R (eF b 0 1 1) [x]:=by
 refine ⟨some ⟨b,0,none⟩,1,rfl,be _,by simp [maxLen],.inr ⟨b,0,cs.toArray,E,a,rfl,f,fun i g=>?_⟩⟩;have:i=0:=by simp at g;omega
 subst this;have e:aO cs.toArray (0+0 * k) k=cs:=by
  rw [aO,sz,dr,yE,<- hl,fM]
 rw [e];exact h
def apC {α:Type} (w0:World) (X:List Nat) (A:List Item) (T:TypeId) (k:Nat) (R:ae->List Value->α->Prop) (xs:List α) (y:α) (S:ae) (v0 v1 v2:Value) (w:World):Nat->Prop
 | 0=>Inv w0 X A S w
 | 1=>Inv w0 X (A++[aK v0 T k []]) S w
 | 2=>∃ css,Rows k (R S) css xs/\Inv w0 X (A++[aK v1 T k css]) S w
 | _=>RdSl S k (R S) v2 (xs++[y])/\Inv w0 X A S w
section
variable {α:Type} {w0 w:World} {X:List Nat} {A:List Item} {T:TypeId} {k n:Nat} {R:ae->List Value->α->Prop} {xs:List α} {y:α} {S:ae} {v0 v1 v2:Value}
theorem apC.ex (hR:∀ S S' cs x,Sle S S'->R S cs x->R S' cs x) (h:apC w0 X A T k R xs y S v0 v1 v2 w n) :
  ∃ B,Inv w0 X (A++B) S w/\∀ A' S1 f,Sle S S1->Inv w0 X (A'++B) S1 f->apC w0 X A' T k R xs y S1 v0 v1 v2 f n:=by
 match n,h with
 | 0,h=>exact ⟨[],by rw [dc];exact h,fun A' S1 f _ a=>by rw [dc] at a;exact a⟩
 | 1,h=>exact ⟨_,h,fun A' S1 f _ a=>a⟩
 | 2,⟨css,h1,h2⟩=>exact ⟨_,h2,fun A' S1 f g a=>⟨css,h1.monoR fun _ _ h=>hR _ _ _ _ g h,a⟩⟩
 | n+3,⟨h1,h2⟩=>exact ⟨[],by rw [dc];exact h2,fun A' S1 f g a=>⟨h1.mono g fun _ _ h=>hR _ _ _ _ g h,by rw [dc] at a;exact a⟩⟩
theorem apC.inv (h:apC w0 X A T k R xs y S v0 v1 v2 w n):∃ B,Inv w0 X (A++B) S w:=by
 match n,h with
 | 0,h=>exact ⟨[],by rw [dc];exact h⟩
 | 1,h=>exact ⟨_,h⟩
 | 2,⟨css,h1,h2⟩=>exact ⟨_,h2⟩
 | n+3,⟨h1,h2⟩=>exact ⟨[],by rw [dc];exact h2⟩
end
section
variable {α:Type} {P:Program} {w0 w:World} {X:List Nat} {A:List Item} {k:Nat} {R:ae->List Value->α->Prop} {xs:List α} {y:α} {S:ae} {v0 v1 v2:Value} {K:Value->World->Prop}
theorem ac3 {T e:TypeId} {by_:Nat} {z:Value} (h:apC w0 X A e k R xs y S v0 v1 v2 w 0) (a:iP P T=some (e,k,by_,z))
  (hk:∀ v w',apC w0 X A e k R xs y S v v1 v2 w' 1->K v w'):Run P (bY T 0 []) w K:=by
 have h:Inv w0 X A S w:=h;exact fg h a fun v w' f=>hk v w' f
theorem adO {T ty e:TypeId} {by_:Nat} {z u:Value} {cs:List Bool} (h:apC w0 X A e k R xs y S v0 v1 v2 w 1) (j:iP P T=some (e,k,by_,z)) (f:0<k) (l:RdSl S k (R S) u xs)
  (a:∀ cs y,R S cs y->cs.length=k) (m:∀ cs y,R S cs y->∀ c∈cs,c.oneCell'=true) (hl:xs.length<=4294967296) (g:by_<=32768)
  (hk:∀ v w',apC w0 X A e k R xs y S v0 v v2 w' 2->K v w'):Run P (ce .append #[T,T] ty cs [v0,u]) w K:=by
 have h:Inv w0 X (A++[aK v0 e k []]) S w:=h;refine fZ (css:=[]) h A.length j f (by simp) l a m (by simpa using hl) g fun v w' css hR i=>?_;refine hk v w' ⟨css,hR,?_⟩;have e:(A++[aK v0 e k []]).set A.length (aK v e k ([]++css))=A++[aK v e k css]:=by simp
 rw [e] at i;exact i
theorem aei {T ty e:TypeId} {by_:Nat} {z u:Value} {cs:List Bool} (hR:∀ S S' cs x,Sle S S'->R S cs x->R S' cs x) (h:apC w0 X A e k R xs y S v0 v1 v2 w 2) (r:iP P T=some (e,k,by_,z)) (j:0<k) (t:RdSl S k (R S) u [y])
  (f:∀ cs y,R S cs y->cs.length=k) (B:∀ cs y,R S cs y->∀ c∈cs,c.oneCell'=true) (hl:xs.length+1<=4294967296) (l:by_<=32768)
  (hk:∀ v S' w',Ext w0.heap.size X S S'->apC w0 X A e k R xs y S' v0 v1 v w' 3->K v w'):Run P (ce .append #[T,T] ty cs [v1,u]) w K:=by
 obtain ⟨css,g,h⟩:=h;have D:=g.hc;refine fZ (css:=css) h A.length r j (by simp) t f B (by simp;omega) l fun v w' a m i=>?_;have e:(A++[aK v1 e k css]).set A.length (aK v e k (css++a))=A++[aK v e k (css++a)]:=by simp
 rw [e] at i;obtain ⟨S',q,o,i⟩:=Inv.lendExt i;exact hk v S' w' q ⟨RowRd.rows ((g.append m).monoR fun _ _ h=>hR _ _ _ _ q.1 h) o,i⟩
end
section
variable {w:World} {K:Value->World->Prop}
theorem Xx {a:Option Addr} {f g:Nat} {h:Option Addr} {i j:Nat} {l:Option Addr} {m o:Nat} (hk:K (.agg #[.slice a f g,.slice h i j,.slice l m o]) w):Run Tryz.prog (bZ cF [(1,.slice h i j),(2,.slice l m o),(0,.slice a f g)]) w K:=by
 refine Run.of (v:=.agg #[.slice a f g,.slice h i j,.slice l m o]) (w':=w) ?_ hk;unfold bZ;rw [Sem.run_bind,run_build w cF _ #[.slice a f g,.slice h i j,.slice l m o] (by kernel_rfl),Result.andThen_ok];rfl
theorem VC {a:Option Addr} {f g:Nat} {h:Option Addr} {i j:Nat} {l:Option Addr} {m o:Nat} (hk:K (.agg #[.slice a f g,.slice h i j,.slice l m o]) w):Run Tryz.prog (bZ cF [(0,.slice a f g),(1,.slice h i j),(2,.slice l m o)]) w K:=by
 refine Run.of (v:=.agg #[.slice a f g,.slice h i j,.slice l m o]) (w':=w) ?_ hk;unfold bZ;rw [Sem.run_bind,run_build w cF _ #[.slice a f g,.slice h i j,.slice l m o] (by kernel_rfl),Result.andThen_ok];rfl
theorem Tp {a:Option Addr} {f g:Nat} (hk:K (.agg #[hV,hV,.slice a f g]) w):Run Tryz.prog (bZ cF [(2,.slice a f g)]) w K:=by
 refine Run.of (v:=.agg #[hV,hV,.slice a f g]) (w':=w) ?_ hk;unfold bZ;rw [Sem.run_bind,run_build w cF _ #[hV,hV,.slice a f g] (by kernel_rfl),Result.andThen_ok];rfl
theorem Mc {a b c d:Value} {f:Option Addr} {g h:Nat} {i:Option Addr} {j l:Nat} {m:Option Addr} {o q:Nat} (hk:K (.agg #[a,b,c,d,.slice f g h,.slice i j l,.slice m o q]) w):Run Tryz.prog (bZ dp [(0,.agg #[a,b,c,d]),(1,.slice f g h),(2,.slice i j l),(3,.slice m o q)]) w K:=by
 refine Run.of (v:=.agg #[a,b,c,d,.slice f g h,.slice i j l,.slice m o q]) (w':=w) ?_ hk;unfold bZ;rw [Sem.run_bind,run_build w dp _ #[a,b,c,d,.slice f g h,.slice i j l,.slice m o q] (by kernel_rfl),Result.andThen_ok];rfl
theorem MD {a b c:Value} {f:Option Addr} {g h:Nat} {i:Option Addr} {j l:Nat} (hk:K (.agg #[a,b,c,.slice f g h,.slice i j l]) w):Run Tryz.prog (bZ aX [(0,.agg #[a,b,c]),(1,.slice f g h),(2,.slice i j l)]) w K:=by
 refine Run.of (v:=.agg #[a,b,c,.slice f g h,.slice i j l]) (w':=w) ?_ hk;unfold bZ;rw [Sem.run_bind,run_build w aX _ #[a,b,c,.slice f g h,.slice i j l] (by kernel_rfl),Result.andThen_ok];rfl
theorem Ve {a b c:Value} (hk:K (.agg #[a,b,c,hV,hV]) w):Run Tryz.prog (bZ aX [(0,.agg #[a,b,c])]) w K:=by
 refine Run.of (v:=.agg #[a,b,c,hV,hV]) (w':=w) ?_ hk;unfold bZ;rw [Sem.run_bind,run_build w aX _ #[a,b,c,hV,hV] (by kernel_rfl),Result.andThen_ok];rfl
theorem XY {a b c d:Value} {i j:Int} (hk:K (.agg #[a,b,c,d,ax i,ax j]) w):Run Tryz.prog (bZ kI [(0,.agg #[a,b,c,d]),(1,ax i),(2,ax j)]) w K:=by
 refine Run.of (v:=.agg #[a,b,c,d,ax i,ax j]) (w':=w) ?_ hk;unfold bZ;rw [Sem.run_bind,run_build w kI _ #[a,b,c,d,ax i,ax j] (by kernel_rfl),Result.andThen_ok];rfl
theorem Vi {a b c d:Value} {i:Int} (hk:K (.agg #[a,b,c,d,ax i,ax 0]) w):Run Tryz.prog (bZ kI [(0,.agg #[a,b,c,d]),(1,ax i)]) w K:=by
 refine Run.of (v:=.agg #[a,b,c,d,ax i,ax 0]) (w':=w) ?_ hk;unfold bZ;rw [Sem.run_bind,run_build w kI _ #[a,b,c,d,ax i,ax 0] (by kernel_rfl),Result.andThen_ok];rfl
theorem xe {a b c d:Value} {i:Int} (hk:K (.agg #[a,b,c,d,ax i,hV]) w):Run Tryz.prog (bZ ar [(0,.agg #[a,b,c,d]),(1,ax i)]) w K:=by
 refine Run.of (v:=.agg #[a,b,c,d,ax i,hV]) (w':=w) ?_ hk;unfold bZ;rw [Sem.run_bind,run_build w ar _ #[a,b,c,d,ax i,hV] (by kernel_rfl),Result.andThen_ok];rfl
theorem UF  (hk:K (.agg #[ax 0,ax 0,.string ⟨#[]⟩,hV,ax 0,hV]) w):Run Tryz.prog (bZ ar []) w K:=by
 refine Run.of (v:=.agg #[ax 0,ax 0,.string ⟨#[]⟩,hV,ax 0,hV]) (w':=w) ?_ hk;unfold bZ;rw [Sem.run_bind,run_build w ar _ #[ax 0,ax 0,.string ⟨#[]⟩,hV,ax 0,hV] (by kernel_rfl),Result.andThen_ok];rfl
theorem VQ {a b c d:Value} {i:Int} {f:Option Addr} {g h:Nat} (hk:K (.agg #[a,b,c,d,ax i,.slice f g h]) w):Run Tryz.prog (bZ ar [(0,.agg #[a,b,c,d]),(1,ax i),(2,.slice f g h)]) w K:=by
 refine Run.of (v:=.agg #[a,b,c,d,ax i,.slice f g h]) (w':=w) ?_ hk;unfold bZ;rw [Sem.run_bind,run_build w ar _ #[a,b,c,d,ax i,.slice f g h] (by kernel_rfl),Result.andThen_ok];rfl
end
end
section
open Go Go.RowKit
def nwP (w0:World) (X:List Nat) (A:List Item) (T:TypeId) (z:Array Value) (Q:ae->Array Value->Prop) (da ds:Bool) (x:Value) (S:ae) (w:World):Prop:=
 ∃ b q,(da=true->x=ee b)/\(ds=true->da=true)/\(ds=false->q=z)/\(ds=true->Q S q)/\Inv w0 X (A++cond da [ay b q T] []) S w
section
variable {w0 w:World} {X:List Nat} {A:List Item} {T:TypeId} {z:Array Value} {Q:ae->Array Value->Prop} {da ds:Bool} {x:Value} {S:ae}
theorem nwP.mk (h:Inv w0 X A S w) (x:Value):nwP w0 X A T z Q false false x S w:=⟨0,z,fun h=>(by cases h),fun h=>(by cases h),fun _=>rfl,fun h=>(by cases h),by rw [cond_false,dc]; exact h⟩
theorem nwP.ex (a:∀ S S' q,Sle S S'->Q S q->Q S' q) (h:nwP w0 X A T z Q da ds x S w):∃ B,Inv w0 X (A++B) S w/\∀ S' w',Sle S S'->Inv w0 X (A++B) S' w'->nwP w0 X A T z Q da ds x S' w':=by
 obtain ⟨b,q,i,j,l,m,o⟩:=h;exact ⟨_,o,fun S' w' f g=>⟨b,q,i,j,l,fun h=>a _ _ _ f (m h),g⟩⟩
theorem nwP.inv (h:nwP w0 X A T z Q da ds x S w):∃ B,Inv w0 X (A++B) S w:=by
 obtain ⟨b,q,f,g,i,j,a⟩:=h;exact ⟨_,a⟩
theorem nwP.fin (h:nwP w0 X A T z Q true true x S w):∃ b q,x=ee b/\Q S q/\Inv w0 X (A++[ay b q T]) S w:=by
 obtain ⟨b,q,a,i,j,f,g⟩:=h;exact ⟨b,q,a rfl,f rfl,g⟩
end
section
variable {P:Program} {w0 w:World} {X:List Nat} {A:List Item} {T:TypeId} {z:Array Value} {Q:ae->Array Value->Prop} {da ds:Bool} {x:Value} {S:ae} {K:Value->World->Prop}
theorem nwP.alloc {ty:TypeId} {g:Value} (h:nwP w0 X A T z Q da ds x S w) (hd:da=false) (j:fY P T=some g) (a:g.cells=z) (hk:∀ v w',nwP w0 X A T z Q true ds v S w'->K v w'):Run P (sOp (.alloc T) ty) w K:=by
 obtain ⟨b,q,o,m,r,t,i⟩:=h;have f:ds=false:=bN.2 fun e=>by rw [m e] at hd;cases hd
 rw [hd,cond_false,dc] at i;refine aG i j fun b w' l=>hk _ w' ⟨b,z,fun _=>rfl,fun _=>rfl,fun _=>rfl,fun e=>(by rw [f] at e;cases e),?_⟩;rw [cond_true,<- a];exact l
theorem nwP.store {ty:TypeId} {n:Nat} {cs:Array Value} (h:nwP w0 X A T z Q da ds x S w) (hd:da=true) (i:ds=false) (j:oE P T=some n) (hn:cs.size=n) (l:z.size=n) (m:∀ u∈cs.toList,u.oneCell'=true) (o:Q S cs)
  (hk:∀ w',nwP w0 X A T z Q da true x S w'->K undef w'):Run P (sOp (.store T (.const x) (.const (.agg cs))) ty) w K:=by
 obtain ⟨b,q,f,g2,r,t,g⟩:=h;rw [hd,cond_true,r i] at g;rw [f hd];refine aq (E:=T) g A.length (by simp) j hn l m fun w' a=>?_;have e:(A++[Item.blk b (.cells z T)]).set A.length (ay b cs T)=A++[ay b cs T]:=by simp
 rw [e] at a;exact hk w' ⟨b,cs,f,fun _=>hd,fun e=>(by cases e),fun _=>o,by rw [hd];exact a⟩
end
def apP {α:Type} (w0:World) (X:List Nat) (A:Value->List Item) (z:Value) (T:TypeId) (k:Nat) (R:ae->List Value->α->Prop) (xs:List α) (y:α) (S0:ae) (d5 d8:Bool) (v0 v1 v5 v2:Value) (w:World) (n:Nat):Prop:=
 ∃ S1 cv,Ext w0.heap.size X S0 S1/\(d5=true->RdSl S1 k (R S1) v5 [y])/\(d8=false->cv=z)/\(d8=true->RdSl S1 k (R S1) cv (xs++[y]))/\apC w0 X (A cv) T k R xs y S1 v0 v1 v2 w n
section
variable {α:Type} {P:Program} {w0 w:World} {X:List Nat} {A:Value->List Item} {z:Value} {e:TypeId} {k:Nat} {R:ae->List Value->α->Prop} {xs:List α} {y:α} {S0:ae} {d5 d8:Bool} {v0 v1 v5 v2:Value} {n:Nat} {K:Value->World->Prop}
theorem apP.mk {S:ae} (h:Inv w0 X (A z) S w) (v0 v1 v5 v2:Value):apP w0 X A z e k R xs y S false false v0 v1 v5 v2 w 0:=⟨S,z,Ext.refl _ _ _,fun h=>(by cases h),fun _=>rfl,fun h=>(by cases h),h⟩
theorem apP.inv (h:apP w0 X A z e k R xs y S0 d5 d8 v0 v1 v5 v2 w n):∃ S1 cv B,Ext w0.heap.size X S0 S1/\Inv w0 X (A cv++B) S1 w:=by
 obtain ⟨S1,cv,a,i,j,l,f⟩:=h;obtain ⟨B,g⟩:=f.inv;exact ⟨S1,cv,B,a,g⟩
theorem apP.inv0 (h:apP w0 X A z e k R xs y S0 d5 d8 v0 v1 v5 v2 w n) (hd:d8=false):∃ S1 B,Ext w0.heap.size X S0 S1/\Inv w0 X (A z++B) S1 w:=by
 obtain ⟨S1,cv,f,j,g,l,i⟩:=h;obtain ⟨B,a⟩:=i.inv;rw [g hd] at a;exact ⟨S1,B,f,a⟩
theorem apP.fin (h:apP w0 X A z e k R xs y S0 d5 true v0 v1 v5 v2 w 3):∃ S1 cv,Ext w0.heap.size X S0 S1/\RdSl S1 k (R S1) cv (xs++[y])/\Inv w0 X (A cv) S1 w:=by
 obtain ⟨S1,cv,a,i,j,f,g⟩:=h;exact ⟨S1,cv,a,f rfl,g.2⟩
theorem abH {T:TypeId} {by_:Nat} {a:Value} (h:apP w0 X A z e k R xs y S0 d5 d8 v0 v1 v5 v2 w 0) (f:iP P T=some (e,k,by_,a))
  (hk:∀ v w',apP w0 X A z e k R xs y S0 d5 d8 v v1 v5 v2 w' 1->K v w'):Run P (bY T 0 []) w K:=by
 obtain ⟨S1,cv,g,i,j,l,m⟩:=h;exact ac3 m f fun v w' h=>hk v w' ⟨S1,cv,g,i,j,l,h⟩
theorem abw {T ty:TypeId} {by_:Nat} {j u:Value} {cs:List Bool} (hR:∀ S S' cs x,Sle S S'->R S cs x->R S' cs x) (h:apP w0 X A z e k R xs y S0 d5 d8 v0 v1 v5 v2 w 1) (l:iP P T=some (e,k,by_,j)) (f:0<k) (m:RdSl S0 k (R S0) u xs)
  (a:∀ S cs y,R S cs y->cs.length=k) (o:∀ S cs y,R S cs y->∀ c∈cs,c.oneCell'=true) (hl:xs.length<=4294967296) (g:by_<=32768)
  (hk:∀ v w',apP w0 X A z e k R xs y S0 d5 d8 v0 v v5 v2 w' 2->K v w'):Run P (ce .append #[T,T] ty cs [v0,u]) w K:=by
 obtain ⟨S1,cv,i,q,r,t,B⟩:=h;exact adO B l f (m.mono i.1 fun _ _ h=>hR _ _ _ _ i.1 h) (a S1) (o S1) hl g fun v w' h=>hk v w' ⟨S1,cv,i,q,r,t,h⟩
theorem aaV {T:TypeId} {by_:Nat} {t:Value} {cs:hZ} (hR:∀ S S' cs x,Sle S S'->R S cs x->R S' cs x) (h:apP w0 X A z e k R xs y S0 d5 d8 v0 v1 v5 v2 w n) (D:iP P T=some (e,k,by_,t)) (m:0<k) (f:k<=65536)
  {v:Value} (g:v.cells=cs.toArray) (o:R S0 cs y) (i:∀ S cs y,R S cs y->cs.length=k)
  (hk:∀ v w',apP w0 X A z e k R xs y S0 true d8 v0 v1 v v2 w' n->K v w'):Run P (bY T 1 [(0,v)]) w K:=by
 obtain ⟨S1,cv,q,N,G,J,M⟩:=h;obtain ⟨B,j,a⟩:=M.ex hR;have hl:=i _ _ _ o;refine dQ j D (by rw [g];simpa using hl) f m fun b w' j=>?_;obtain ⟨S2,j,l,r⟩:=Inv.pub1 j;rw [g] at r;exact hk _ w' ⟨S2,cv,q.trans l,fun _=>RdSl.single r hl (hR _ _ _ _ (q.trans l).1 o),G,fun e=>(J e).mono l.1 fun _ _ h=>hR _ _ _ _ l.1 h,a _ S2 w' l.1 j⟩
theorem aaW {T ty:TypeId} {by_:Nat} {l:Value} {cs:List Bool} (hR:∀ S S' cs x,Sle S S'->R S cs x->R S' cs x) (h:apP w0 X A z e k R xs y S0 d5 d8 v0 v1 v5 v2 w 2) (hd:d5=true) (m:iP P T=some (e,k,by_,l)) (g:0<k)
  (a:∀ S cs y,R S cs y->cs.length=k) (o:∀ S cs y,R S cs y->∀ c∈cs,c.oneCell'=true) (hl:xs.length+1<=4294967296) (i:by_<=32768)
  (hk:∀ v w',apP w0 X A z e k R xs y S0 d5 d8 v0 v1 v5 v w' 3->K v w'):Run P (ce .append #[T,T] ty cs [v1,v5]) w K:=by
 obtain ⟨S1,cv,q,j,r,t,B⟩:=h;exact aei hR B m g (j hd) (a S1) (o S1) hl i fun v S' w' f h=>hk v w' ⟨S',cv,q.trans f,fun e=>(j e).mono f.1 fun _ _ h=>hR _ _ _ _ f.1 h,r,fun e=>(t e).mono f.1 fun _ _ h=>hR _ _ _ _ f.1 h,h⟩
theorem abo {U ty E:TypeId} {b d:Nat} {A0:List Item} {C:Value->Array Value} (j:∀ v,A v=A0++[ay b (C v) E]) (h:apP w0 X A z e k R xs y S0 d5 d8 v0 v1 v5 v2 w 3) (r:jK P U=true)
  (t:∀ v q,(C v).setIfInBounds d q=C q) (f:∀ v,d<(C v).size) (hk:∀ w',apP w0 X A z e k R xs y S0 d5 true v0 v1 v5 v2 w' 3->K undef w') :
  Run P (sOp (.store U (.const (eu b d)) (.const v2)) ty) w K:=by
 obtain ⟨S1,cv,B,D,J,M,i,l⟩:=h;rw [j] at l;obtain ⟨a,m,rfl,_⟩:=id i;refine dD l A0.length (b:=b) (o:=d) (E:=E) (c:=C cv) (n:=1) (v:=.slice a (xs++[y]).length m) rfl (by rw [r];simp) (by simp) (by have:=f cv;omega) (by simp [Value.cells,Value.oneCell']) fun w' g=>?_;have G:b0 (C cv) d (Value.slice a (xs++[y]).length m).cells.toList=C (.slice a (xs++[y]).length m):=by
  refine Eq.trans ?_ (t cv _);apply Gw.1;simp only [b0,abk];have hl:d<(C cv).toList.length:=by simpa using f cv
  rw [DE,ai hl];simp [Value.cells]
 rw [G] at g;have e2:(A0++[Item.blk b (.cells (C cv) E)]).set A0.length (ay b (C (.slice a (xs++[y]).length m)) E)=A (.slice a (xs++[y]).length m):=by rw [j];simp
 rw [e2] at g;exact hk w' ⟨S1,_,B,D,fun e=>(by cases e),fun _=>i,i,g⟩
end
end
section
open Go Go.RowKit
theorem aa3 {c d:hZ} {n i k:Nat} (h:c.take n=d.take n) (a:i+k<=n):(c.drop i).take k=(d.drop i).take k:=by
 have e:∀ l:hZ,(l.drop i).take k=((l.take n).drop i).take k:=fun l=>by
  rw [EX,lW,kJ (by omega)]
 rw [e c,e d,h]
theorem KnU.grown {S:ae} {c a:Array Value} {st:au} {m:Nat} {z:Array Value} (l:z=bb) (h:KnU S a st) (r:(st.length+m) * 4<=c.size)
  (o:c.toList.take ((st.length+m) * 4)=a.toList.take (st.length * 4)++(Builtin.zeroCells z m).toList):KnU S c (st++List.replicate m none):=by
 have B:=KnU.zero z l S m;have g:z.size=4:=by rw [l];rfl
 have j:Builtin.zeroCells z m=(Array.range (m * 4)).map (z[· % z.size]!):=by rw [Builtin.zeroCells,g]
 have G:=h.1;have f:(a.toList.take (st.length * 4)).length=st.length * 4:=by rw [ey];have:a.toList.length=a.size:=rfl;omega
 refine KnU.of (by rw [bK,E0];exact r) fun i t=>?_;rw [bK,E0] at t;by_cases hl:i<st.length
 ·rw [iO hl];have e:aO c (i * 4) 4=aO a (i * 4) 4:=by
   rw [aO,aO];refine aa3 (n:=st.length * 4) ?_ (by omega);have:=congrArg (List.take (st.length * 4)) o;rw [lW,kJ (by omega),Uc (by omega),lW,Nat.min_self] at this;exact this
  rw [e];exact h.rdO i hl
 ·rw [gF (by omega),YR];have D:i - st.length<(List.replicate m (none:Option T)).length:=by rw [E0];omega
  have q:=B.rdO (i - st.length) D;rw [YR] at q;have e:aO c (i * 4) 4=aO ((Array.range (m * 4)).map (z[· % z.size]!)) ((i - st.length) * 4) 4:=by
   rw [aO,aO,<- j];have e1:(c.toList.drop (i * 4)).take 4=((c.toList.take ((st.length+m) * 4)).drop (i * 4)).take 4:=by
    rw [EX,lW,kJ (by omega)]
   rw [e1,o,List.drop_append,f,xZ (by rw [f];omega),u9];rw [show i * 4 - st.length * 4=(i - st.length) * 4 by omega]
  rw [e];exact q
theorem X5 {z:Array Value} (f:z=bb) (m:Nat):∀ u∈(Builtin.zeroCells z m).toList,u.oneCell'=true:=by
 subst f;intro u a;simp only [Builtin.zeroCells,Array.toList_map,eV] at a;obtain ⟨i,_,rfl⟩:=a;have:i % 4<4:=wG _ (by omega);have g:(bb:Array Value).size=4:=rfl;rw [g]
 match i % 4,this with
 | 0,_=>rfl
 | 1,_=>rfl
 | 2,_=>rfl
 | 3,_=>rfl
section
variable {P:Program} {w w0:World} {X:List Nat} {A:List Item} {S S1:ae} {K:Value->World->Prop}
attribute [local irreducible] CondV aF aT
theorem Ue {T U ty e:TypeId} {by_ m:Nat} {z v:Value} {cs:List Bool} {css:List (hZ)} {st:au} (h:Inv w0 X (A++[aK v e 4 css]) S w) (hR:Rows 4 (RdO S1) css st) (h0:0<st.length)
  (hT:iP P T=some (e,4,by_,z)) (D:z.cells=bb) (hU:P.underlying U=some (.int .i64)) (r:st.length+m<=4294967296) (a0:by_<=32768)
  (hk:∀ (g cap:Nat) (a:Array Value) w',st.length+m<=cap->cap<=maxLen->KnU S1 a (st++List.replicate m none)->Inv w0 X (A++[ay g a e]) S w'->K (kvU g (st.length+m) cap) w') :
  Run P (ce .append #[T,U] ty cs [v,ax m]) w K:=by
 have a2:=hR.hc;obtain ⟨hl,ho⟩:=Inv.openRow h;rcases ho with ⟨rfl,h1⟩|⟨g,cap,a,rfl,Y,a8,Z,ht,hI⟩
 ·omega
 rw [a2] at Y ht ⊢;have M:KnU S1 a st:=hR.knu (by rw [Z];exact jw 4 Y) (by rw [a2];exact ht);obtain ⟨hu,a1,G,hz,hs,hb,a9⟩:=oy hT;have N:w.heap[g]?=some (.cells a e):=hI.its (ay g a e) (by simp);have hw:IntKind.i64.wrap (m:Int)=m:=IntWalk.i64_in _ (by omega);have t:¬ ((m:Int)<0):=by omega
 have B:¬ (281474976710656<(m:Int) * (by_:Int)):=by
  have:m * by_<=(st.length+m) * by_:=jw _ (by omega);have q:(st.length+m) * by_<=140737488355328:=gM (DY r a0) (by decide);rw [<- Int.natCast_mul];omega
 have a3:(Builtin.zeroCells z.cells m).size=m * 4:=by rw [size_zeroCells,a9]
 have a4:(Builtin.zeroCells z.cells m).toList.length=m * 4:=a3;have b6:a.toList.length=a.size:=rfl;by_cases l:st.length+m<=cap
 ·have b1:=run_storeCells_at P g (st.length * 4) e (Builtin.zeroCells z.cells m).toList 0 a w N (by omega) (X5 D m);by_cases hm:m=0
  ·subst hm;have b2:IntKind.i64.wrap 0=0:=IntWalk.i64_in _ (by omega);refine Run.of (v:=kvU g (st.length+0) cap) (w':=w) ?_ (hk g cap a w l a8 (by simpa using M) hI);simp [ce,builtin,Builtin.append_,run_underlying hu,run_underlying hU,sizeOf,typeInfo,G,hb,asInt,asIntOf,b2,Y,storeCells]
  ·have O:¬ (m * 4=0):=by omega
   have b3:KnU S1 (b0 a (st.length * 4) (Builtin.zeroCells z.cells m).toList) (st++List.replicate m none):=by
    refine M.grown D ?_ ?_
    ·rw [my _ _ _ (by omega),Z];exact jw 4 l
    ·show ((a.toList.take (st.length * 4)++(Builtin.zeroCells z.cells m).toList++a.toList.drop (st.length * 4+(Builtin.zeroCells z.cells m).toList.length))).take _=_;rw [H6 (by rw [bK,ey,a4];omega)]
   refine Run.of (v:=kvU g (st.length+m) cap) (w':=w.setRow g (b0 a (st.length * 4) (Builtin.zeroCells z.cells m).toList)) ?_ (hk g cap _ _ l a8 b3 ?_)
   ·simp [ce,builtin,Builtin.append_,run_underlying hu,run_underlying hU,sizeOf,typeInfo,zeroValue,G,hz,hs,hb,asInt,asIntOf,hw,t,B,O,l,mK,b1,b0]
   ·have e2:(A++[Item.blk g (.cells a e)]).set A.length (ay g (b0 a (st.length * 4) (Builtin.zeroCells z.cells m).toList) e)=A++[ay g (b0 a (st.length * 4) (Builtin.zeroCells z.cells m).toList) e]:=by simp
    have h3:=hI.setBlk (i:=A.length) (b:=g) (o:=.cells a e) (by simp) (.cells (b0 a (st.length * 4) (Builtin.zeroCells z.cells m).toList) e) (Mj N);rw [e2] at h3;exact h3
 ·have hg:cap<st.length+m:=by omega
  obtain ⟨f,J⟩:∃ f,f=a.toList.take (st.length * 4):=⟨_,rfl⟩
  have b7:a.size=cap * 4:=Z;have V:f.length=st.length * a1.size:=by rw [J,hs,ey];omega
  have holds:∀ j v,f[j]?=some v->w.cell? ((⟨g,0,none⟩:Addr).add j)=some v:=by
   intro j v hj;rw [mK,dr,cell_of_row w g j a e (0,0) N];rw [J,ym] at hj;split at hj
   ·simpa using hj
   ·cases hj
  have q:(st.length+m) * by_<=140737488355328:=gM (DY r a0) (by decide);have b8:=growslice_fits hg q;have O:¬ (m * 4=0):=by omega
  have a5:¬ (9223372036854775807<(st.length:Int)+(m:Int)):=by omega
  have a6:¬ (281474976710656<Builtin.nextslicecap (st.length+m) cap * by_):=by omega
  have a7:=run_firstCells_some (P:=P) w.drew a1.size st.length ⟨g,0,none⟩ st.length cap f V (by simpa using holds);rw [hs] at a7;have b4:=grownCap_ge w (st.length+m) cap e;have b5:=grownCap_le_maxLen w (st.length+m) cap e (by simp only [maxLen];omega);refine Run.of (v:=kvU w.heap.size (st.length+m) (grownCap w (st.length+m) cap e))
   (w':=w.drew.alloc (.cells (f.toArray++Builtin.zeroCells z.cells m++Builtin.zeroCells z.cells (grownCap w (st.length+m) cap e - (st.length+m))) e)) ?_ (hk _ _ (f.toArray++Builtin.zeroCells z.cells m++Builtin.zeroCells z.cells (grownCap w (st.length+m) cap e - (st.length+m))) _ b4 b5 ?_ ?_)
  ·simp [ce,builtin,Builtin.append_,run_underlying hu,run_underlying hU,sizeOf,typeInfo,zeroValue,G,hz,hs,hb,asInt,asIntOf,hw,l,t,O,a5,a6,B,Question.forced,a7,newRow,grownCap]
  ·refine M.grown D ?_ ?_
   ·simp only [Array.size_append,VN,a3,V,hs];omega
   ·rw [Array.toList_append,Array.toList_append,<- J];rw [H6 (by rw [bK,a4,V,hs];omega)]
  ·have h2:=h.draw.alloc (.cells (f.toArray++Builtin.zeroCells z.cells m++Builtin.zeroCells z.cells (grownCap w (st.length+m) cap e - (st.length+m))) e);exact h2.sub (by rw [eY];exact (eR _ _).append_left _)
end
end
end Go.Proofs.YtellfcpffcipcaaGreatDoor
