/- spec: a proof made of steps (l13Build), in plain Lean. -/
import Derived.Test.YtfcbhfjomgopbaaGreatZT19
import Derived.Test.YtfcbhfjomgopbaaGreatZT17
import Derived.Test.YtfcbhfjomgopbaaGreatZT18
namespace Go.Proofs.YtfcbhfjomgopbaaGreat
open Go Go.RowKit
inductive BKd where
 | one
 | many (n:Nat)
inductive BldR (st:bf):BKd->List Sp->Option (List PF × List Sp)->Prop
 | big {x:Sp} {l:List Sp} {u:T}:Res st (.one x.goal u)->cB u=false->BldR st .one (x::l) none
 | bad {x:Sp} {l:List Sp} {u:T}:Res st (.one x.goal u)->cB u=true->BldR st (.many x.body.toNat) l none->BldR st .one (x::l) none
 | node {x:Sp} {l l1:List Sp} {u:T} {ks:List PF}:Res st (.one x.goal u)->cB u=true->BldR st (.many x.body.toNat) l (some (ks,l1))->BldR st .one (x::l) (some ([.mk u x.clause ks],l1))
 | nil {l:List Sp}:BldR st (.many 0) l (some ([],l))
 | stop {n:Nat} {l:List Sp}:BldR st .one l none->BldR st (.many (n+1)) l none
 | next {n:Nat} {l l1:List Sp} {k:PF}:BldR st .one l (some ([k],l1))->BldR st (.many n) l1 none->BldR st (.many (n+1)) l none
 | cons {n:Nat} {l l1 l2:List Sp} {k:PF} {ks:List PF}:BldR st .one l (some ([k],l1))->BldR st (.many n) l1 (some (ks,l2))->BldR st (.many (n+1)) l (some (k::ks,l2))
theorem BldR.suf {st:bf} {j:BKd} {l:List Sp} {o:Option (List PF × List Sp)} (h:BldR st j l o):∀ ks l2,o=some (ks,l2)->∃ a,l=a++l2:=by
 induction h with
 | big=>intro ks l2 h; cases h
 | bad=>intro ks l2 h; cases h
 | stop=>intro ks l2 h; cases h
 | next=>intro ks l2 h; cases h
 | nil=>
  intro ks l2 h
  simp only [Option.some.injEq,Prod.mk.injEq] at h
  obtain ⟨rfl,rfl⟩:=h
  exact ⟨[],rfl⟩
 | @node x _ _ _ _ _ _ _ ih=>
  intro ks l2 h
  simp only [Option.some.injEq,Prod.mk.injEq] at h
  obtain ⟨rfl,rfl⟩:=h
  obtain ⟨a,rfl⟩:=ih _ _ rfl
  exact ⟨x::a,rfl⟩
 | cons _ _ ih1 ih2=>
  intro ks l2 h
  simp only [Option.some.injEq,Prod.mk.injEq] at h
  obtain ⟨rfl,rfl⟩:=h
  obtain ⟨a,rfl⟩:=ih1 _ _ rfl
  obtain ⟨b,rfl⟩:=ih2 _ _ rfl
  exact ⟨a++b,by rw [List.append_assoc]⟩
def m8:Nat->List Sp->Prop
 | 0,_=>True
 | _+1,[]=>False
 | k+1,x::l=>m8 (k+x.body.toNat) l
theorem Ip:∀ (b a:List Sp) (k:Nat),openP (a++b)->j9 (a++b)=0->j9 a=k->(∀ x∈b,0<=x.body)->m8 k b
 | [],a,k,_,h0,hk,_=>by
  rw [List.append_nil] at h0
  have:k=0:=by omega
  subst this
  trivial
 | x::b,a,k,ho,h0,hk,hb=>by
  have h1:=ho a (x::b) rfl (by simp)
  obtain ⟨m,rfl⟩:∃ m:Nat,k=m+1:=⟨k - 1,by omega⟩
  have hx:=hb x (List.mem_cons_self ..)
  rw [m8]
  refine Ip b (a++[x]) _ ?_ ?_ ?_ fun y hy=>hb y (List.mem_cons_of_mem _ hy)
  ·rw [List.append_assoc]; exact ho
  ·rw [List.append_assoc]; exact h0
  ·rw [tI]; omega
theorem LG {N:Nat} {st:bf} (hg:Good N st):∀ (L:Nat) (l:List Sp),l.length<=L->okLp N l->
  (∀ m,m8 (m+1) l->∃ o,BldR st .one l o/\∀ ks l2,o=some (ks,l2)->∃ k,ks=[k]/\m8 m l2)/\
  (∀ n m,m8 (m+n) l->∃ o,BldR st (.many n) l o/\∀ ks l2,o=some (ks,l2)->ks.length=n/\m8 m l2):=by
 intro L
 induction L with
 | zero=>
  intro l hl _
  have:=List.eq_nil_of_length_eq_zero (Nat.le_zero.1 hl)
  subst this
  refine ⟨fun m h=>h.elim,fun n m h=>?_⟩
  cases n with
  | zero=>
   refine ⟨_,.nil,fun ks l2 e=>?_⟩
   simp only [Option.some.injEq,Prod.mk.injEq] at e
   obtain ⟨rfl,rfl⟩:=e
   exact ⟨rfl,h⟩
  | succ n=>exact h.elim
 | succ L ih=>
  intro l hl hok
  have hone:∀ (l:List Sp),l.length<=L+1->okLp N l->∀ m,m8 (m+1) l->∃ o,BldR st .one l o/\∀ ks l2,o=some (ks,l2)->∃ k,ks=[k]/\m8 m l2:=by
   intro l hl hok m hm
   cases l with
   | nil=>exact hm.elim
   | cons x l=>
    obtain ⟨⟨ho,_⟩,_⟩:=hok x (List.mem_cons_self ..)
    obtain ⟨u,hu⟩:=KW hg x.goal ho
    cases hsm:cB u with
    | false=>exact ⟨_,.big hu hsm,fun _ _ e=>by cases e⟩
    | true=>
     rw [m8] at hm
     obtain ⟨o,h1,h2⟩:=(ih l (by simpa using hl) fun y hy=>hok y (List.mem_cons_of_mem _ hy)).2 x.body.toNat m hm
     match o,h1,h2 with
     | none,h1,_=>exact ⟨_,.bad hu hsm h1,fun _ _ e=>by cases e⟩
     | some (ks,l1),h1,h2=>
      refine ⟨_,.node hu hsm h1,fun ks' l2 e=>?_⟩
      simp only [Option.some.injEq,Prod.mk.injEq] at e
      obtain ⟨rfl,rfl⟩:=e
      exact ⟨_,rfl,(h2 _ _ rfl).2⟩
  refine ⟨hone l hl hok,?_⟩
  intro n
  induction n generalizing l with
  | zero=>
   intro m hm
   refine ⟨_,.nil,fun ks l2 e=>?_⟩
   simp only [Option.some.injEq,Prod.mk.injEq] at e
   obtain ⟨rfl,rfl⟩:=e
   exact ⟨rfl,hm⟩
  | succ n ihn=>
   intro m hm
   obtain ⟨o,h1,h2⟩:=hone l hl hok (m+n) hm
   match o,h1,h2 with
   | none,h1,_=>exact ⟨_,.stop h1,fun _ _ e=>by cases e⟩
   | some (ks,l1),h1,h2=>
    obtain ⟨k,rfl,hk⟩:=h2 _ _ rfl
    obtain ⟨a,rfl⟩:=h1.suf _ _ rfl
    have hl1:l1.length<=L+1:=by rw [List.length_append] at hl; omega
    obtain ⟨o,h3,h4⟩:=ihn l1 hl1 (fun y hy=>hok y (List.mem_append_right _ hy)) m hk
    match o,h3,h4 with
    | none,h3,_=>exact ⟨_,.next h1 h3,fun _ _ e=>by cases e⟩
    | some (ks,l2),h3,h4=>
     refine ⟨_,.cons h1 h3,fun ks' l2' e=>?_⟩
     simp only [Option.some.injEq,Prod.mk.injEq] at e
     obtain ⟨rfl,rfl⟩:=e
     exact ⟨by rw [List.length_cons,(h4 _ _ rfl).1],(h4 _ _ rfl).2⟩
/- a found search can be built -/
theorem M2 {n k:Nat} {s:Se} (hs:jN n s) (hp:okP s) (hg:s.st.goals=[]) (hx:okXk k s):∃ o,BldR s.st.binds .one s.steps o/\∀ ks l2,o=some (ks,l2)->∃ x,ks=[x]:=by
 have hn:m8 1 s.steps:=by
  refine Ip s.steps [] 1 hp.openP ?_ rfl fun x hx'=>(hx.steps x hx').2.1
  have:=hp.goals
  rw [hg] at this
  simpa using this.symm
 obtain ⟨o,h1,h2⟩:=(LG hs.st.good _ s.steps (Nat.le_refl _) hx.steps).1 0 hn
 exact ⟨o,h1,fun ks l2 e=>(h2 ks l2 e).imp fun _ h=>h.1⟩
/- how large it is -/
mutual
def pwT:PF->Prop
 | .mk g _ ks=>wT g<=840/\pwL ks
def pwL:List PF->Prop
 | []=>True
 | p::ps=>pwT p/\pwL ps
end
theorem IU:∀ {ps:List PF},pwL ps->∀ p∈ps,pwT p
 | p::ps,h,x,hx=>by
  rw [pwL] at h
  rcases List.mem_cons.1 hx with rfl|hx
  ·exact h.1
  ·exact IU h.2 x hx
theorem BldR.size {N:Nat} {st:bf} (hg:Good N st) {j:BKd} {l:List Sp} {o:Option (List PF × List Sp)} (h:BldR st j l o):okLp N l->∀ ks l2,o=some (ks,l2)->pcL ks+120 * (l2.length:Int)<=120 * (l.length:Int)/\pwL ks:=by
 induction h with
 | big=>intro _ ks l2 h; cases h
 | bad=>intro _ ks l2 h; cases h
 | stop=>intro _ ks l2 h; cases h
 | next=>intro _ ks l2 h; cases h
 | nil=>
  intro _ ks l2 h
  simp only [Option.some.injEq,Prod.mk.injEq] at h
  obtain ⟨rfl,rfl⟩:=h
  exact ⟨by rw [pcL]; omega,trivial⟩
 | @node x l _ u _ hu hsm _ ih=>
  intro ho ks l2 h
  simp only [Option.some.injEq,Prod.mk.injEq] at h
  obtain ⟨rfl,rfl⟩:=h
  obtain ⟨h1,h2⟩:=ih (fun y hy=>ho y (List.mem_cons_of_mem _ hy)) _ _ rfl
  have hou:okU N u:=jt hg hu (ho x (List.mem_cons_self ..)).1.1
  have hw:=jg hsm hou
  rw [cB,Bool.and_eq_true] at hsm
  have hc:=of_decide_eq_true hsm.1
  refine ⟨?_,?_⟩
  ·rw [pcL,pcL,pcT,List.length_cons]; omega
  ·rw [pwL,pwT,pwL]; exact ⟨⟨hw,h2⟩,trivial⟩
 | @cons _ l l1 l2 k ks' h1 _ ih1 ih2=>
  intro ho ks l3 h
  simp only [Option.some.injEq,Prod.mk.injEq] at h
  obtain ⟨rfl,rfl⟩:=h
  obtain ⟨a,e⟩:=h1.suf _ _ rfl
  obtain ⟨q1,q2⟩:=ih1 ho _ _ rfl
  obtain ⟨q3,q4⟩:=ih2 (fun y hy=>ho y (by rw [e]; exact List.mem_append_right _ hy)) _ _ rfl
  rw [pcL,pcL] at q1
  rw [pwL] at q2
  refine ⟨?_,?_⟩
  ·rw [pcL]; omega
  ·rw [pwL]; exact ⟨q2.1,q4⟩
end Go.Proofs.YtfcbhfjomgopbaaGreat

/- spec: walks, full and small terms over a published table (printed by wip/gen_tabw.py). -/
namespace Go.Proofs.YtfcbhfjomgopbaaGreat
open Go Go.RowKit
section
attribute [local irreducible] Run CondV ag aO
theorem MD {N:Nat} {st:bf} (hg:Good N st) {t v:T} (hw:dp st t v) (ht:okU N t) {S:al} {cs:List Value} {v0:Value} (h:RdT S cs t) (hk:RdSl S 4 (RdO S) v0 st) (h0:0<N) :
  Tri Tryz.prog xR [.agg cs.toArray,v0] [] S fun r I' S'=>S'=S/\I'=[]/\∃ cs',r=.agg cs'.toArray/\RdT S cs' v:=by
 intro w hI
 obtain ⟨X,hX⟩:∃ X,X=bW []:=⟨_,rfl⟩
 rw [<- hX] at hI ⊢
 have hlN:=hg.len
 obtain ⟨r,hr⟩:=hg.rk
 obtain ⟨kb,o,kp,kc,E,fz,rfl,hSb,hT⟩:=hk.ptr (by omega)
 rw [hlN]
 refine l5 ?_
 unfold mP;dsimp only
 refine bS hI fun b2 w' hI=>?_
 refine bi hI bH fun b4 w' hI=>?_
 have hI:Inv w X [.blk b2 (.cells cs.toArray ab),.blk b4 (.cells #[.int .i64 0,.int .i64 0,.string ⟨#[]⟩,.slice none 0 0] ab)] S w':=hI
 refine ⟨fun w'=>∃ (t':T) (cs':List Value),dp st t' v/\okU N t'/\RdT S cs' t'/\Inv w X [.blk b2 (.cells cs'.toArray ab),.blk b4 (.cells #[.int .i64 0,.int .i64 0,.string ⟨#[]⟩,.slice none 0 0] ab)] S w',
  fun w'=>uN b2 r st w',⟨t,cs,hw,ht,h,hI⟩,?_⟩
 intro _ _ _ _ _ _ _ _ _ _ _ _ _ _ _ _ _ _ _ _ _ _ _ _ w'
 rintro ⟨t',cs',hw',ht',hcs',hI⟩
 have hrank:=qh hI (i:=0) rfl hcs' r st
 have hcs0:=hcs'
 obtain ⟨kv,rfl,_⟩:=RdT.iff.1 hcs'
 refine ⟨fun q w'=>q=.bool (look st t').isSome/\Inv w X [.blk b2 (.cells #[.int .i64 t'.kind,.int .i64 t'.n,.string t'.name,kv] ab),.blk b4 (.cells #[.int .i64 0,.int .i64 0,.string ⟨#[]⟩,.slice none 0 0] ab)] S w',?_,?_⟩
 ·refine ao hI 0 rfl bC aY rfl ?_
  refine bP ?_
  by_cases hk1:t'.kind=1
  ·rw [decide_eq_true hk1]
   obtain ⟨hn0,hnN,_⟩:=ht'.var hk1
   obtain ⟨j,hj⟩:∃ j:Nat,t'.n=j:=⟨t'.n.toNat,by omega⟩
   have hjN:j<N:=by omega
   have hjs:j<st.length:=by omega
   repeat (first|refine ad ?_|refine af (by decide) ?_|refine ae ?_|refine ak ?_|refine aj ?_)
   refine ao hI 0 rfl bF aY rfl ?_
   refine eT aC ?_
   refine cg ?_
   rw [decide_eq_true hnN]
   repeat (first|refine ad ?_|refine af (by decide) ?_|refine ae ?_|refine ak ?_|refine aj ?_)
   refine ao hI 0 rfl bF aY rfl ?_
   rw [hj]
   refine be aC hjN ?_
   refine aI bC ?_
   rw [Nat.add_zero]
   have hTj:=hT j hjs
   rw [hj] at hI
   have hlk:look st t'=st[j]:=by
    rw [look,if_pos hk1,hj,Int.toNat_natCast,List.getElem?_eq_getElem hjs]; rfl
   rw [hlk]
   cases hst2:st[j] with
   | none=>
    rw [hst2] at hTj
    have hcell:bm kc (o+j * 4) 4=jE:=hTj
    refine dc aY (by rw [hI.cellS hSb]; exact bh hcell 0 _ rfl) ?_
    refine dB ?_
    repeat (first|refine ad ?_|refine af (by decide) ?_|refine ae ?_|refine ak ?_|refine aj ?_)
    refine ⟨by simp,hI⟩
   | some t0=>
    rw [hst2] at hTj
    have hR:RdT S (bm kc (o+j * 4) 4) t0:=hTj
    have hk0:t0.kind≠0:=(hg.ok t0 (by rw [<- hst2]; exact List.getElem_mem hjs)).kind
    obtain ⟨kv0',hcell,_,_,_,_⟩:=RdT.iff.1 hR
    refine dc aY (by rw [hI.cellS hSb]; exact bh hcell 0 _ rfl) ?_
    refine dB ?_
    rw [decide_eq_false hk0]
    repeat (first|refine ad ?_|refine af (by decide) ?_|refine ae ?_|refine ak ?_|refine aj ?_)
    refine ⟨rfl,hI⟩
  ·rw [decide_eq_false hk1]
   repeat (first|refine ad ?_|refine af (by decide) ?_|refine ae ?_|refine ak ?_|refine aj ?_)
   refine ⟨?_,hI⟩
   rw [look,if_neg hk1]; rfl
 intro q _ _ _ _ _ _ _ _ _ _ _ _ _ _ _ _ _ _ w'
 rintro ⟨rfl,hI⟩
 refine aS (fun hb=>?_) (fun hb=>?_)
 ·obtain ⟨u,hl⟩:=Option.isSome_iff_exists.1 hb
  obtain ⟨hk1,hs⟩:=eY.1 hl
  obtain ⟨hn0,hnN,_⟩:=ht'.var hk1
  obtain ⟨j,hj⟩:∃ j:Nat,t'.n=j:=⟨t'.n.toNat,by omega⟩
  have hjN:j<N:=by omega
  have hjs:j<st.length:=by omega
  rw [hj,Int.toNat_natCast] at hs
  have hst2:st[j]=some u:=by rw [List.getElem?_eq_getElem hjs,Option.some.injEq] at hs; exact hs
  have hR:RdT S (bm kc (o+j * 4) 4) u:=by
   have hTj:=hT j hjs
   rw [hst2] at hTj
   exact hTj
  have hwu:dp st u v:=by
   cases hw' with
   | stop h0=>rw [hl] at h0; cases h0
   | step h1 h2=>rw [hl,Option.some.injEq] at h1; rw [h1]; exact h2
  have hu:=(hg.look_ok hl).1
  refine ao hI 0 rfl bF aY rfl ?_
  rw [hj]
  refine be aC hjN ?_
  refine cL ai hR.length (fun i v hi=>by rw [hI.cellS hSb]; exact bh rfl i v hi) ?_
  refine aG hI 0 rfl ai (by simpa using hR.length) rfl (by simpa using hR.one) fun w' hI=>?_
  have hI:Inv w X [.blk b2 (.cells (bm kc (o+j * 4) 4).toArray ab),.blk b4 (.cells #[.int .i64 0,.int .i64 0,.string ⟨#[]⟩,.slice none 0 0] ab)] S w':=hI
  refine ⟨⟨u,_,hwu,hu,hR,hI⟩,?_⟩
  have hrank2:=qh hI (i:=0) rfl hR r st
  show uN b2 r st w'<uN b2 r st _
  rw [hrank,hrank2,if_pos hb,hj,Int.toNat_natCast]
  split
  ·rename_i hl2
   obtain ⟨u2,hl2⟩:=Option.isSome_iff_exists.1 hl2
   have:=hr j u hs u.n.toNat (by rw [ye (eY.1 hl2).1]; exact List.mem_singleton.2 rfl)
   omega
  ·omega
 ·have hv:v=t':=by
   cases hw' with
   | stop _=>rfl
   | step h1 _=>rw [h1] at hb; cases hb
  subst hv
  refine aL hI 0 ai rfl rfl ?_
  refine aG hI 1 rfl ai rfl rfl (by simpa using hcs0.one) fun w' hI=>?_
  refine bE hI 1 ai rfl rfl ?_
  exact ⟨_,_,_,rfl,hI.pick [false,false],Ext.refl _ _ _,rfl,rfl,_,rfl,hcs0⟩
def Na (u:T) (room:Int):Value->List Item->al->Prop:=fun q I' S'=>I'=[]/\
 ∃ cs':List Value,cs'.length=4/\(∀ x∈cs',x.oneCell'=true)/\q=.tuple #[.agg cs'.toArray,.int .i64 (if dw u<=room then room - dw u else -1)]/\(dw u<=room->RdT S' cs' u)
def FCT (st:bf) (t u:T):Prop:=∀ (S:al) (cs:List Value) (v0:Value) (room:Int),RdT S cs t->RdSl S 4 (RdO S) v0 st->-1<=room->room<=1000000->
 Tri Tryz.prog HI [.agg cs.toArray,v0,.int .i64 room] [] S (Na u room)
theorem Cy {N:Nat} {st:bf} (hN0:0<N) {t v:T} {us:List T} (hg:Good N st) (hwv:dp st t v) (hot:okU N t/\wT t<=1048576) (hlu:us.length=v.kids.length)
  (hk:∀ i (h:i<us.length) (h':i<v.kids.length),FCT st v.kids[i] us[i]):FCT st t (.mk v.kind v.n v.name us):=by
 intro S cs v0 room h hkc hr0 hr1 w hI
 have hlc:=h.length
 have hov:=eP hg hwv hot
 obtain ⟨X,hX⟩:∃ X,X=bW []:=⟨_,rfl⟩
 rw [<- hX] at hI ⊢
 have hcu:=eE us
 refine xt ?_
 unfold tW
 refine bS hI fun b3 w' hI=>?_
 refine bi hI bH fun b6 w' hI=>?_
 have hI:Inv w X ([.blk b3 (.cells cs.toArray ab),.blk b6 (.cells #[.int .i64 0,.int .i64 0,.string ⟨#[]⟩,.slice none 0 0] ab)]++[]) S w':=hI
 refine cg ?_
 refine bz (fun hlt=>?_) (fun hlt=>?_)
 ·refine iB ?_
  refine aG hI 1 rfl ai rfl rfl Eb fun w' hI=>?_
  refine bE hI 1 ai rfl rfl ?_
  refine ⟨_,_,_,rfl,hI.pick [false,false],Ext.refl _ _ _,rfl,_,rfl,Eb,?_,fun h=>?_⟩
  ·rw [nH,if_neg (by omega)]
  ·rw [nH] at h; omega
 refine aL hI 0 ai rfl (by simpa using hlc) ?_
 refine Run.call mK mO hI (MD hg hwv hot.1 h hkc hN0) fun v' I' S' w'=>?_
 rintro ⟨eS,rfl,cs',rfl,hcs'⟩ _ hI
 rw [eS] at hI
 clear eS
 refine aG hI 0 rfl ai (by simpa using hcs'.length) (by simpa using hlc) (by simpa using hcs'.one) fun w' hI=>?_
 obtain ⟨kv,rfl,hi1,hi2,hs,hks⟩:=RdT.iff.1 hcs'
 have hI:Inv w X [.blk b3 (.cells #[.int .i64 v.kind,.int .i64 v.n,.string v.name,kv] ab),.blk b6 (.cells #[.int .i64 0,.int .i64 0,.string ⟨#[]⟩,.slice none 0 0] ab)] S w':=hI
 have hlen:=hks.le
 have hkl:v.kids.length<=1048576:=by
  have:=hov.2
  cases v
  simp only [wT] at this
  simp only [T.kids]
  omega
 refine ao hI 0 rfl bC aY rfl ?_
 refine ao hI 0 rfl bF aY rfl ?_
 refine ao hI 0 rfl bB bn rfl ?_
 refine ia ?_
 refine bi hI bH fun b8 w' hI=>?_
 have hI:Inv w X [.blk b3 (.cells #[.int .i64 v.kind,.int .i64 v.n,.string v.name,kv] ab),.blk b6 (.cells #[.int .i64 0,.int .i64 0,.string ⟨#[]⟩,.slice none 0 0] ab),.blk b8 _] S w':=hI
 refine aG hI 2 rfl ai rfl rfl (by simp [Value.oneCell']) fun w' hI=>?_
 refine ic (by omega) ?_
 have hI:=hI.rowNil ab 4
 have hI:Inv w X [.blk b3 (.cells #[.int .i64 v.kind,.int .i64 v.n,.string v.name,kv] ab),.blk b6 (.cells #[.int .i64 0,.int .i64 0,.string ⟨#[]⟩,.slice none 0 0] ab),.blk b8 (.cells #[.int .i64 v.kind,.int .i64 v.n,.string v.name,.slice none 0 0] ab),bq (.slice none 0 0) ab 4 []] S w':=hI
 refine ⟨fun i l w'=>∃ (j:Nat) (left:Int) (kvc:Value) (css:List (List Value)) (S1:al),j<=us.length/\i=.int .i64 j/\l=.int .i64 left/\Ext w.heap.size X S S1/\css.length=j/\
   ((left=room - 1 - cU (us.take j)/\0<=left/\Rows 4 (RdT S1) css (us.take j)) ∨ (left=-1/\room - 1<cU us))/\
   Inv w X [.blk b3 (.cells #[.int .i64 v.kind,.int .i64 v.n,.string v.name,kv] ab),.blk b6 (.cells #[.int .i64 0,.int .i64 0,.string ⟨#[]⟩,.slice none 0 0] ab),.blk b8 (.cells #[.int .i64 v.kind,.int .i64 v.n,.string v.name,kvc] ab),bq kvc ab 4 css] S1 w',
  fun i _ _=>us.length - (intOf i).toNat,⟨0,room - 1,_,[],S,Nat.zero_le _,rfl,rfl,Ext.refl _ _ _,rfl,.inl ⟨by simp [cU],by omega,Rows.nil _ _⟩,hI⟩,?_⟩
 intro t10 _ _ t9 _ _ _ _ _ _ _ _ _ _ _ _ _ _ _ _ _ _ _ _ _ _ _ _ _ _ _ _ _ w'
 rintro ⟨j,left,kvc,css,S1,hj,rfl,rfl,hE,hcl,hst,hI⟩
 refine ⟨fun q w'=>q=.bool (decide (j<us.length/\0<=left))/\Inv w X [.blk b3 (.cells #[.int .i64 v.kind,.int .i64 v.n,.string v.name,kv] ab),.blk b6 (.cells #[.int .i64 0,.int .i64 0,.string ⟨#[]⟩,.slice none 0 0] ab),.blk b8 (.cells #[.int .i64 v.kind,.int .i64 v.n,.string v.name,kvc] ab),bq kvc ab 4 css] S1 w',?_,?_⟩
 ·refine ao hI 0 rfl aK aJ rfl ?_
  refine bp hks aC ?_
  refine cg ?_
  by_cases e1:(j:Int)<(v.kids.length:Nat)
  ·rw [decide_eq_true e1]
   repeat (first|refine ad ?_|refine af (by decide) ?_|refine ae ?_|refine ak ?_|refine aj ?_)
   refine ja ?_
   repeat (first|refine ad ?_|refine af (by decide) ?_|refine ae ?_|refine ak ?_|refine aj ?_)
   refine ⟨?_,hI⟩
   congr 1
   rw [Bool.eq_iff_iff,decide_eq_true_eq,decide_eq_true_eq]
   omega
  ·rw [decide_eq_false e1]
   repeat (first|refine ad ?_|refine af (by decide) ?_|refine ae ?_|refine ak ?_|refine aj ?_)
   refine ⟨?_,hI⟩
   rw [decide_eq_false (by omega)]
 intro q _ _ _ _ _ _ _ _ w'
 rintro ⟨rfl,hI⟩
 refine bz (fun hgo=>?_) (fun hgo=>?_)
 ·obtain ⟨hj1,hl0⟩:=hgo
  have hj2:j<v.kids.length:=by omega
  obtain ⟨hleft,_,hR⟩:left=room - 1 - cU (us.take j)/\0<=left/\Rows 4 (RdT S1) css (us.take j):=by
   rcases hst with h1|⟨h1,_⟩
   ·exact h1
   ·omega
  have hpos:=eE (us.take j)
  refine ao hI 0 rfl aK aJ rfl ?_
  refine cJ hI (hks.monoT hE.1) aC ai hj2 (fun _ _=>RdT.length) fun cs0 hcs0=>?_
  have hI:Inv w X ([.blk b3 (.cells #[.int .i64 v.kind,.int .i64 v.n,.string v.name,kv] ab),.blk b6 (.cells #[.int .i64 0,.int .i64 0,.string ⟨#[]⟩,.slice none 0 0] ab),.blk b8 (.cells #[.int .i64 v.kind,.int .i64 v.n,.string v.name,kvc] ab),bq kvc ab 4 css]++[]) S1 _:=hI
  refine Run.callE vf uA hI (hk j hj1 hj2 S1 cs0 v0 left hcs0 (hkc.mono hE.1 fun _ _ h=>RdO.mono hE.1 h) (by omega) (by omega)) fun v' I' S2 w'=>?_
  rintro ⟨rfl,cs2,hl4,ho4,rfl,hrd⟩ hE2 hI
  refine aB rfl ?_
  refine aB rfl ?_
  refine bi hI bH fun b11 w' hI=>?_
  have hI:=hI.perm (M:=.blk b11 _::[.blk b3 (.cells #[.int .i64 v.kind,.int .i64 v.n,.string v.name,kv] ab),.blk b6 (.cells #[.int .i64 0,.int .i64 0,.string ⟨#[]⟩,.slice none 0 0] ab),.blk b8 (.cells #[.int .i64 v.kind,.int .i64 v.n,.string v.name,kvc] ab),bq kvc ab 4 css]) (List.perm_append_comm (l₁:=[_]))
  refine aG hI 0 rfl ai (by simpa using hl4) rfl (by simpa using ho4) fun w' hI=>?_
  refine ao (b:=b8) (c:=#[.int .i64 v.kind,.int .i64 v.n,.string v.name,kvc]) hI 3 rfl aK aJ rfl ?_
  refine aL hI 0 ai rfl (by simpa using hl4) ?_
  refine f0 hI 4 cs2 bO (by omega) (by omega) rfl hl4 ho4 (by omega) (by omega) fun kvc2 w' hI=>?_
  have hkv2:=yM (hI.its (bq kvc2 ab 4 (css++[cs2])) (by simp))
  refine cM (b:=b8) (c:=#[.int .i64 v.kind,.int .i64 v.n,.string v.name,kvc]) hI 3 rfl aK aJ rfl hkv2.1 hkv2.2 fun w' hI=>?_
  have hI:Inv w X [.blk b3 (.cells #[.int .i64 v.kind,.int .i64 v.n,.string v.name,kv] ab),.blk b6 (.cells #[.int .i64 0,.int .i64 0,.string ⟨#[]⟩,.slice none 0 0] ab),.blk b8 (.cells #[.int .i64 v.kind,.int .i64 v.n,.string v.name,kvc2] ab),bq kvc2 ab 4 (css++[cs2])] S2 w':=hI.pick [false,true,true,true,true]
  refine bT (by omega) ?_
  have hct:=JE us j hj1
  have hcle:=CH us (j+1)
  have hc0:=iY us[j]
  refine ⟨⟨j+1,_,kvc2,css++[cs2],S2,hj1,rfl,rfl,hE.trans hE2,by simp [hcl],?_,hI⟩,by simp [intOf]; omega⟩
  by_cases hfit:dw us[j]<=left
  ·left
   rw [if_pos hfit]
   refine ⟨by omega,by omega,?_⟩
   rw [List.take_succ_eq_append_getElem hj1]
   exact (hR.monoR fun _ _ h=>RdT.mono hE2.1 h).snoc (hrd hfit) hl4
  ·right
   rw [if_neg hfit]
   exact ⟨rfl,by omega⟩
 ·refine aL (b:=b8) (c:=#[.int .i64 v.kind,.int .i64 v.n,.string v.name,kvc]) hI 2 ai rfl rfl ?_
  have hkv2:=yM (hI.its (bq kvc ab 4 css) (by simp))
  have hone:∀ x∈([.int .i64 v.kind,.int .i64 v.n,.string v.name,kvc]:List Value),x.oneCell'=true:=by
   intro x hx
   simp at hx
   rcases hx with rfl|rfl|rfl|rfl <;> first|rfl|exact hkv2.2
  refine aG hI 1 rfl ai rfl rfl hone fun w' hI=>?_
  refine bE (c:=#[.int .i64 v.kind,.int .i64 v.n,.string v.name,kvc]) hI 1 ai rfl rfl ?_
  have hI:Inv w X ([]++[bq kvc ab 4 css]) S1 w':=hI.pick [false,false,false,true]
  rcases hst with ⟨h1,h2,hR⟩|⟨h1,h2⟩
  ·have hje:j=us.length:=by omega
   rw [hje,List.take_length] at h1 hR
   obtain ⟨S3,hE3,hrd,hI⟩:=hI.lendExt
   have hrr:=RowRd.rows (hR.monoR fun _ _ h=>RdT.mono hE3.1 h) hrd
   refine ⟨_,_,_,rfl,hI,hE.trans hE3,rfl,[.int .i64 v.kind,.int .i64 v.n,.string v.name,kvc],rfl,hone,?_,fun _=>RdT.iff.2 ⟨kvc,rfl,hi1,hi2,hs,hrr⟩⟩
   rw [nH,if_pos (by omega),show left=room - (1+cU us) by omega]
  ·refine ⟨_,_,_,rfl,hI.sub (List.sublist_append_left _ _),hE,rfl,[.int .i64 v.kind,.int .i64 v.n,.string v.name,kvc],rfl,hone,?_,fun h=>?_⟩
   ·rw [nH,if_neg (by omega),h1]
   ·rw [nH] at h; omega
theorem Ms {N:Nat} {st:bf} (hN0:0<N) (hg:Good N st) {j:Lt} (hr:Res st j):match j with
  | .one t u=>(okU N t/\wT t<=1048576)->FCT st t u
  | .list ts us=>(∀ t∈ts,okU N t/\wT t<=1048576)->us.length=ts.length/\∀ i (h:i<us.length) (h':i<ts.length),FCT st ts[i] us[i]:=by
 induction hr with
 | one hw _ ih=>
  intro ho
  have h1:=ih (ju (eP hg hw ho))
  exact Cy hN0 hg hw ho h1.1 h1.2
 | nil=>exact fun _=>⟨rfl,fun i h _=>by simp at h⟩
 | cons _ _ ih1 ih2=>
  intro ho
  obtain ⟨h1,h2⟩:=ih2 fun t ht=>ho t (List.mem_cons_of_mem _ ht)
  refine ⟨by simp [h1],fun i h h'=>?_⟩
  cases i with
  | zero=>exact ih1 (ho _ (List.mem_cons_self ..))
  | succ i=>exact h2 i (by simpa using h) (by simpa using h')
def Mf (u:T):Value->List Item->al->Prop:=fun q I' S'=>I'=[]/\
 ∃ cs':List Value,cs'.length=4/\(∀ x∈cs',x.oneCell'=true)/\q=.tuple #[.agg cs'.toArray,.bool (cB u)]/\(cB u=true->RdT S' cs' u)
theorem Fq {N:Nat} {st:bf} (hN0:0<N) (hg:Good N st) {t u:T} (hr:Res st (.one t u)) (ho:okU N t/\wT t<=1048576) {S:al} {cs:List Value} {v0:Value} (h:RdT S cs t) (hkc:RdSl S 4 (RdO S) v0 st) :
  Tri Tryz.prog EQ [.agg cs.toArray,v0] [] S (Mf u):=by
 intro w hI
 have hlc:=h.length
 obtain ⟨X,hX⟩:∃ X,X=bW []:=⟨_,rfl⟩
 rw [<- hX] at hI ⊢
 have hfull:FCT st t u:=Ms hN0 hg hr ho
 refine vu ?_
 unfold pW
 refine bS hI fun b2 w' hI=>?_
 refine bi hI bH fun b4 w' hI=>?_
 have hI:Inv w X ([.blk b2 (.cells cs.toArray ab),.blk b4 (.cells #[.int .i64 0,.int .i64 0,.string ⟨#[]⟩,.slice none 0 0] ab)]++[]) S w':=hI
 refine aL hI 0 ai rfl (by simpa using hlc) ?_
 refine Run.callE vf uA hI (hfull S cs v0 120 h hkc (by omega) (by omega)) fun v' I' S1 w'=>?_
 rintro ⟨rfl,cs',hl4,ho4,rfl,hrd⟩ hE hI
 refine aB rfl ?_
 refine aB rfl ?_
 refine bi hI bH fun b6 w' hI=>?_
 have hI:Inv w X [.blk b2 (.cells cs.toArray ab),.blk b4 (.cells #[.int .i64 0,.int .i64 0,.string ⟨#[]⟩,.slice none 0 0] ab),.blk b6 _] S1 w':=hI
 refine aG hI 2 rfl ai (by simpa using hl4) rfl (by simpa using ho4) fun w' hI=>?_
 have hI:Inv w X [.blk b2 (.cells cs.toArray ab),.blk b4 (.cells #[.int .i64 0,.int .i64 0,.string ⟨#[]⟩,.slice none 0 0] ab),.blk b6 (.cells cs'.toArray ab)] S1 w':=hI
 by_cases hc:dw u<=120
 ·rw [if_pos hc]
  have hc0:=iY u
  have hru:=hrd hc
  refine ⟨fun D x5 ku oZ xE tz BD Cx wH w_=>(D 0=true->wH=.agg cs'.toArray)/\(D 1=true->Cx=.int .i64 (120 - dw u))/\(D 2=true->BD=.bool true)/\(D 3=true->tz=.bool true)/\(D 4=true->xE=.agg cs'.toArray)/\(D 5=true->oZ=.bool (rz u 30))/\(D 6=true->ku=.bool (rz u 30))/\(D 7=true->True)/\(D 8=true->x5=.bool (rz u 30))/\Inv w X [.blk b2 (.cells cs.toArray ab),.blk b4 (.cells (cond (D 7) cs'.toArray #[.int .i64 0,.int .i64 0,.string ⟨#[]⟩,.slice none 0 0]) ab),.blk b6 (.cells cs'.toArray ab)] S1 w_,⟨ac,ac,ac,ac,ac,ac,ac,ac,ac,hI.draw⟩,⟨?_,?_,?_,?_,?_,?_,?_,?_,?_,trivial⟩,?_⟩
  all_goals (intro D bX; intros; rename_i x5 ku oZ xE tz BD Cx wH w_ hA_; obtain ⟨ax,ay,az,aA,aF,aH,aE,aM,aN,hI⟩:=hA_)
  ·refine aL hI 2 ai rfl (by simpa using hl4) ?_
   exact ⟨fun _=>rfl,ay,az,aA,aF,aH,aE,aM,aN,hI⟩
  ·exact ⟨ax,fun _=>rfl,az,aA,aF,aH,aE,aM,aN,hI⟩
  ·obtain rfl:=ay ‹_›
   refine ja ?_
   rw [decide_eq_true (by omega)]
   exact ⟨ax,ay,fun _=>rfl,aA,aF,aH,aE,aM,aN,hI⟩
  ·obtain rfl:=az ‹_›
   exact ⟨ax,ay,az,fun _=>rfl,aF,aH,aE,aM,aN,hI⟩
  ·obtain rfl:=aA ‹_›
   repeat (first|refine ad ?_|refine af (by decide) ?_|refine ae ?_|refine ak ?_|refine aj ?_)
   refine aL hI 2 ai rfl (by simpa using hl4) ?_
   exact ⟨ax,ay,az,aA,fun _=>rfl,aH,aE,aM,aN,hI⟩
  ·obtain rfl:=aF ‹_›
   obtain rfl:=aA ‹_›
   repeat (first|refine ad ?_|refine af (by decide) ?_|refine ae ?_|refine ak ?_|refine aj ?_)
   refine Run.callPure vj u9 hI (Cj u 30 S1 cs' hru (by omega) (by omega)) fun w_ hI=>?_
   exact ⟨ax,ay,az,aA,aF,fun _=>rfl,aE,aM,aN,hI⟩
  ·obtain rfl:=aA ‹_›
   obtain rfl:=aH ‹_›
   repeat (first|refine ad ?_|refine af (by decide) ?_|refine ae ?_|refine ak ?_|refine aj ?_)
   exact ⟨ax,ay,az,aA,aF,aH,fun _=>rfl,aM,aN,hI⟩
  ·obtain rfl:=ax ‹_›
   rw [bX] at hI
   refine aG hI 1 rfl ai (by simpa using hl4) rfl (by simpa using ho4) fun w_ hI=>?_
   exact ⟨ax,ay,az,aA,aF,aH,aE,fun _=>trivial,aN,hI⟩
  ·obtain rfl:=aE ‹_›
   exact ⟨ax,ay,az,aA,aF,aH,aE,aM,fun _=>rfl,hI⟩
  obtain rfl:=aN ‹_›
  obtain rfl:=aE ‹_›
  obtain rfl:=aH ‹_›
  obtain rfl:=aF ‹_›
  obtain rfl:=aA ‹_›
  obtain rfl:=az ‹_›
  obtain rfl:=ay ‹_›
  obtain rfl:=ax ‹_›
  have Bk:D 7=true:=by assumption
  clear ax ay az aA aF aH aE aM aN
  rw [Bk] at hI
  refine bE hI 1 ai rfl (by simpa using hl4) ?_
  have e:cB u=rz u 30:=by rw [cB,decide_eq_true hc,Bool.true_and]
  exact ⟨_,_,_,rfl,hI.pick [false,false,false],hE,rfl,cs',hl4,ho4,by rw [e]; rfl,fun _=>hru⟩
 ·rw [if_neg hc]
  refine ⟨fun D x5 ku oZ xE tz BD Cx wH w_=>(D 0=true->wH=.agg cs'.toArray)/\(D 1=true->Cx=.int .i64 (-1))/\(D 2=true->BD=.bool false)/\(D 3=true->tz=.bool false)/\(D 4=true->xE=undef)/\(D 5=true->oZ=undef)/\(D 6=true->ku=.bool false)/\(D 7=true->True)/\(D 8=true->x5=.bool false)/\Inv w X [.blk b2 (.cells cs.toArray ab),.blk b4 (.cells (cond (D 7) cs'.toArray #[.int .i64 0,.int .i64 0,.string ⟨#[]⟩,.slice none 0 0]) ab),.blk b6 (.cells cs'.toArray ab)] S1 w_,⟨ac,ac,ac,ac,ac,ac,ac,ac,ac,hI.draw⟩,⟨?_,?_,?_,?_,?_,?_,?_,?_,?_,trivial⟩,?_⟩
  all_goals (intro D bX; intros; rename_i x5 ku oZ xE tz BD Cx wH w_ hA_; obtain ⟨ax,ay,az,aA,aF,aH,aE,aM,aN,hI⟩:=hA_)
  ·refine aL hI 2 ai rfl (by simpa using hl4) ?_
   exact ⟨fun _=>rfl,ay,az,aA,aF,aH,aE,aM,aN,hI⟩
  ·exact ⟨ax,fun _=>rfl,az,aA,aF,aH,aE,aM,aN,hI⟩
  ·obtain rfl:=ay ‹_›
   refine ja ?_
   rw [decide_eq_false (by omega)]
   exact ⟨ax,ay,fun _=>rfl,aA,aF,aH,aE,aM,aN,hI⟩
  ·obtain rfl:=az ‹_›
   exact ⟨ax,ay,az,fun _=>rfl,aF,aH,aE,aM,aN,hI⟩
  ·obtain rfl:=aA ‹_›
   repeat (first|refine ad ?_|refine af (by decide) ?_|refine ae ?_|refine ak ?_|refine aj ?_)
   exact ⟨ax,ay,az,aA,fun _=>rfl,aH,aE,aM,aN,hI⟩
  ·obtain rfl:=aF ‹_›
   obtain rfl:=aA ‹_›
   repeat (first|refine ad ?_|refine af (by decide) ?_|refine ae ?_|refine ak ?_|refine aj ?_)
   exact ⟨ax,ay,az,aA,aF,fun _=>rfl,aE,aM,aN,hI⟩
  ·obtain rfl:=aA ‹_›
   obtain rfl:=aH ‹_›
   repeat (first|refine ad ?_|refine af (by decide) ?_|refine ae ?_|refine ak ?_|refine aj ?_)
   exact ⟨ax,ay,az,aA,aF,aH,fun _=>rfl,aM,aN,hI⟩
  ·obtain rfl:=ax ‹_›
   rw [bX] at hI
   refine aG hI 1 rfl ai (by simpa using hl4) rfl (by simpa using ho4) fun w_ hI=>?_
   exact ⟨ax,ay,az,aA,aF,aH,aE,fun _=>trivial,aN,hI⟩
  ·obtain rfl:=aE ‹_›
   exact ⟨ax,ay,az,aA,aF,aH,aE,aM,fun _=>rfl,hI⟩
  obtain rfl:=aN ‹_›
  obtain rfl:=aE ‹_›
  obtain rfl:=aH ‹_›
  obtain rfl:=aF ‹_›
  obtain rfl:=aA ‹_›
  obtain rfl:=az ‹_›
  obtain rfl:=ay ‹_›
  obtain rfl:=ax ‹_›
  have Bk:D 7=true:=by assumption
  clear ax ay az aA aF aH aE aM aN
  rw [Bk] at hI
  refine bE hI 1 ai rfl (by simpa using hl4) ?_
  have e:cB u=false:=by rw [cB,decide_eq_false hc,Bool.false_and]
  exact ⟨_,_,_,rfl,hI.pick [false,false,false],hE,rfl,cs',hl4,ho4,by rw [e]; rfl,fun h=>by rw [e] at h; cases h⟩
end
end Go.Proofs.YtfcbhfjomgopbaaGreat

/- spec: steps and searches as published values; the composite values that the search builds. -/
namespace Go.Proofs.YtfcbhfjomgopbaaGreat
open Go Go.RowKit
def RdSp (S:al) (cs:List Value) (x:Sp):Prop:=∃ hd,cs=hd++[.int .i64 x.clause,.int .i64 x.body]/\RdT S hd x.goal
theorem RdSp.length {S:al} {cs:List Value} {x:Sp} (h:RdSp S cs x):cs.length=6:=by
 obtain ⟨hd,rfl,h⟩:=h; simp [h.length]
theorem RdSp.one {S:al} {cs:List Value} {x:Sp} (h:RdSp S cs x):∀ u∈cs,u.oneCell'=true:=by
 obtain ⟨hd,rfl,h⟩:=h
 intro u hu
 rcases List.mem_append.1 hu with hu|hu
 ·exact h.one u hu
 ·simp only [List.mem_cons,List.not_mem_nil,or_false] at hu
  rcases hu with rfl|rfl <;> rfl
theorem RdSp.mono {S S':al} {cs:List Value} {x:Sp} (hs:Sle S S') (h:RdSp S cs x):RdSp S' cs x:=by
 obtain ⟨hd,rfl,h⟩:=h; exact ⟨hd,rfl,h.mono hs⟩
theorem RdSl.monoSp {S S':al} {v:Value} {xs:List Sp} (hs:Sle S S') (h:RdSl S 6 (RdSp S) v xs):RdSl S' 6 (RdSp S') v xs:=h.mono hs fun _ _=>RdSp.mono hs
def RdVS (S:al) (cs:List Value) (l:List Sp):Prop:=∃ v,cs=[v]/\RdSl S 6 (RdSp S) v l
theorem RdVS.length {S:al} {cs:List Value} {l:List Sp} (h:RdVS S cs l):cs.length=1:=by
 obtain ⟨v,rfl,h⟩:=h; rfl
theorem RdVS.one {S:al} {cs:List Value} {l:List Sp} (h:RdVS S cs l):∀ u∈cs,u.oneCell'=true:=by
 obtain ⟨v,rfl,h⟩:=h
 intro u hu
 rw [List.mem_singleton] at hu
 subst hu
 exact h.sl
theorem RdVS.mono {S S':al} {cs:List Value} {l:List Sp} (hs:Sle S S') (h:RdVS S cs l):RdVS S' cs l:=by
 obtain ⟨v,rfl,h⟩:=h; exact ⟨v,rfl,h.monoSp hs⟩
theorem RdSl.monoVS {S S':al} {v:Value} {xs:List (List Sp)} (hs:Sle S S') (h:RdSl S 1 (RdVS S) v xs):RdSl S' 1 (RdVS S') v xs:=h.mono hs fun _ _=>RdVS.mono hs
def RdSe (S:al) (cs:List Value) (s:Se):Prop:=∃ g b c t v,cs=[g,b,c,t,v]/\RdSl S 5 (RdG S) g s.st.goals/\RdSl S 4 (RdO S) b s.st.binds/\RdSl S 7 (RdCh S) c s.st.chs/\RdSl S 6 (RdSp S) t s.steps/\RdSl S 1 (RdVS S) v s.saved
theorem RdSe.length {S:al} {cs:List Value} {s:Se} (h:RdSe S cs s):cs.length=5:=by
 obtain ⟨g,b,c,t,v,rfl,_⟩:=h; rfl
theorem RdSe.one {S:al} {cs:List Value} {s:Se} (h:RdSe S cs s):∀ u∈cs,u.oneCell'=true:=by
 obtain ⟨g,b,c,t,v,rfl,h1,h2,h3,h4,h5⟩:=h
 intro u hu
 simp only [List.mem_cons,List.not_mem_nil,or_false] at hu
 rcases hu with rfl|rfl|rfl|rfl|rfl
 ·exact h1.sl
 ·exact h2.sl
 ·exact h3.sl
 ·exact h4.sl
 ·exact h5.sl
theorem RdSe.mono {S S':al} {cs:List Value} {s:Se} (hs:Sle S S') (h:RdSe S cs s):RdSe S' cs s:=by
 obtain ⟨g,b,c,t,v,rfl,h1,h2,h3,h4,h5⟩:=h
 exact ⟨g,b,c,t,v,rfl,h1.monoG hs,h2.monoO hs,h3.monoCh hs,h4.monoSp hs,h5.monoVS hs⟩
theorem KH {a b c d e f g:Value}:∀ (j:Nat) (v:Value),([a,b,c,d]:List Value)[j]?=some v->(#[a,b,c,d,e,f,g]:Array Value)[0+j]?=some v
 | 0,v,h=>by simpa using h
 | 1,v,h=>by simpa using h
 | 2,v,h=>by simpa using h
 | 3,v,h=>by simpa using h
 | n+4,v,h=>by simp at h
theorem chM (S S':al) (cs:List Value) (x:Ch) (hs:Sle S S') (h:RdCh S cs x):RdCh S' cs x:=h.mono hs
theorem chL (S:al) (cs:List Value) (x:Ch) (h:RdCh S cs x):cs.length=7:=h.length
theorem chO (S:al) (cs:List Value) (x:Ch) (h:RdCh S cs x):∀ u∈cs,u.oneCell'=true:=h.one
theorem spM (S S':al) (cs:List Value) (x:Sp) (hs:Sle S S') (h:RdSp S cs x):RdSp S' cs x:=h.mono hs
theorem spL (S:al) (cs:List Value) (x:Sp) (h:RdSp S cs x):cs.length=6:=h.length
theorem spO (S:al) (cs:List Value) (x:Sp) (h:RdSp S cs x):∀ u∈cs,u.oneCell'=true:=h.one
theorem vsM (S S':al) (cs:List Value) (x:List Sp) (hs:Sle S S') (h:RdVS S cs x):RdVS S' cs x:=h.mono hs
theorem vsL (S:al) (cs:List Value) (x:List Sp) (h:RdVS S cs x):cs.length=1:=h.length
theorem vsO (S:al) (cs:List Value) (x:List Sp) (h:RdVS S cs x):∀ u∈cs,u.oneCell'=true:=h.one
/- a row of one, published -/
theorem RdSl.single {α:Type} {S:al} {k b:Nat} {R:List Value->α->Prop} {cs:List Value} {x:α} {E:TypeId} {fz:Nat × Nat} (hb:S b=some (.cells cs.toArray E fz)) (hl:cs.length=k) (h:R cs x):RdSl S k R (.slice (some ⟨b,0,none⟩) 1 1) [x]:=by
 refine ⟨some ⟨b,0,none⟩,1,rfl,Nat.le_refl _,by simp [maxLen],.inr ⟨b,0,cs.toArray,E,fz,rfl,hb,fun i hi=>?_⟩⟩
 have:i=0:=by simp at hi; omega
 subst this
 have e:bm cs.toArray (0+0 * k) k=cs:=by
  rw [bm,Nat.zero_mul,Nat.zero_add,List.drop_zero,<- hl,List.take_length]
 rw [e]
 exact h
/- a row that grows by a published row and by one more element -/
def apC {α:Type} (w0:World) (X:List Nat) (A:List Item) (T:TypeId) (k:Nat) (R:al->List Value->α->Prop) (xs:List α) (y:α) (S:al) (v0 v1 v2:Value) (w:World):Nat->Prop
 | 0=>Inv w0 X A S w
 | 1=>Inv w0 X (A++[bq v0 T k []]) S w
 | 2=>∃ css,Rows k (R S) css xs/\Inv w0 X (A++[bq v1 T k css]) S w
 | _=>RdSl S k (R S) v2 (xs++[y])/\Inv w0 X A S w
section
variable {α:Type} {w0 w:World} {X:List Nat} {A:List Item} {T:TypeId} {k n:Nat} {R:al->List Value->α->Prop} {xs:List α} {y:α} {S:al} {v0 v1 v2:Value}
theorem apC.ex (hR:∀ S S' cs x,Sle S S'->R S cs x->R S' cs x) (h:apC w0 X A T k R xs y S v0 v1 v2 w n) :
  ∃ B,Inv w0 X (A++B) S w/\∀ A' S1 w1,Sle S S1->Inv w0 X (A'++B) S1 w1->apC w0 X A' T k R xs y S1 v0 v1 v2 w1 n:=by
 match n,h with
 | 0,h=>exact ⟨[],by rw [List.append_nil]; exact h,fun A' S1 w1 _ hI=>by rw [List.append_nil] at hI; exact hI⟩
 | 1,h=>exact ⟨_,h,fun A' S1 w1 _ hI=>hI⟩
 | 2,⟨css,h1,h2⟩=>exact ⟨_,h2,fun A' S1 w1 hs hI=>⟨css,h1.monoR fun _ _ h=>hR _ _ _ _ hs h,hI⟩⟩
 | n+3,⟨h1,h2⟩=>exact ⟨[],by rw [List.append_nil]; exact h2,fun A' S1 w1 hs hI=>⟨h1.mono hs fun _ _ h=>hR _ _ _ _ hs h,by rw [List.append_nil] at hI; exact hI⟩⟩
theorem apC.inv (h:apC w0 X A T k R xs y S v0 v1 v2 w n):∃ B,Inv w0 X (A++B) S w:=by
 match n,h with
 | 0,h=>exact ⟨[],by rw [List.append_nil]; exact h⟩
 | 1,h=>exact ⟨_,h⟩
 | 2,⟨css,h1,h2⟩=>exact ⟨_,h2⟩
 | n+3,⟨h1,h2⟩=>exact ⟨[],by rw [List.append_nil]; exact h2⟩
end
section
variable {α:Type} {P:Program} {w0 w:World} {X:List Nat} {A:List Item} {k:Nat} {R:al->List Value->α->Prop} {xs:List α} {y:α} {S:al} {v0 v1 v2:Value} {K:Value->World->Prop}
attribute [local irreducible] Run
theorem Oi {T e:TypeId} {by_:Nat} {z:Value} (h:apC w0 X A e k R xs y S v0 v1 v2 w 0) (hT:fB P T=some (e,k,by_,z))
  (hk:∀ v w',apC w0 X A e k R xs y S v v1 v2 w' 1->K v w'):Run P (av T 0 []) w K:=by
 have h:Inv w0 X A S w:=h
 exact eh h hT fun v w' hI=>hk v w' hI
theorem Oc {T ty e:TypeId} {by_:Nat} {z u:Value} {cs:List Bool} (h:apC w0 X A e k R xs y S v0 v1 v2 w 1) (hT:fB P T=some (e,k,by_,z)) (hk0:0<k) (hu:RdSl S k (R S) u xs)
  (hlen:∀ cs y,R S cs y->cs.length=k) (h1:∀ cs y,R S cs y->∀ c∈cs,c.oneCell'=true) (hl:xs.length<=4294967296) (hby:by_<=32768)
  (hk:∀ v w',apC w0 X A e k R xs y S v0 v v2 w' 2->K v w'):Run P (bx .append #[T,T] ty cs [v0,u]) w K:=by
 have h:Inv w0 X (A++[bq v0 e k []]) S w:=h
 refine ed (css:=[]) h A.length hT hk0 (by simp) hu hlen h1 (by simpa using hl) hby fun v w' css hR hI=>?_
 refine hk v w' ⟨css,hR,?_⟩
 have e:(A++[bq v0 e k []]).set A.length (bq v e k ([]++css))=A++[bq v e k css]:=by simp
 rw [e] at hI
 exact hI
theorem N5 {T ty e:TypeId} {by_:Nat} {z u:Value} {cs:List Bool} (hR:∀ S S' cs x,Sle S S'->R S cs x->R S' cs x) (h:apC w0 X A e k R xs y S v0 v1 v2 w 2) (hT:fB P T=some (e,k,by_,z)) (hk0:0<k) (hu:RdSl S k (R S) u [y])
  (hlen:∀ cs y,R S cs y->cs.length=k) (h1:∀ cs y,R S cs y->∀ c∈cs,c.oneCell'=true) (hl:xs.length+1<=4294967296) (hby:by_<=32768)
  (hk:∀ v S' w',Ext w0.heap.size X S S'->apC w0 X A e k R xs y S' v0 v1 v w' 3->K v w'):Run P (bx .append #[T,T] ty cs [v1,u]) w K:=by
 obtain ⟨css,hRs,h⟩:=h
 have hcl:=hRs.hc
 refine ed (css:=css) h A.length hT hk0 (by simp) hu hlen h1 (by simp; omega) hby fun v w' css2 hR2 hI=>?_
 have e:(A++[bq v1 e k css]).set A.length (bq v e k (css++css2))=A++[bq v e k (css++css2)]:=by simp
 rw [e] at hI
 obtain ⟨S',hE,hrd,hI⟩:=Inv.lendExt hI
 exact hk v S' w' hE ⟨RowRd.rows ((hRs.append hR2).monoR fun _ _ h=>hR _ _ _ _ hE.1 h) hrd,hI⟩
end
section
variable {w:World} {K:Value->World->Prop}
attribute [local irreducible] Run
theorem JA {x1:Option Addr} {x2 x3:Nat} {y1:Option Addr} {y2 y3:Nat} {z1:Option Addr} {z2 z3:Nat} (hk:K (.agg #[.slice x1 x2 x3,.slice y1 y2 y3,.slice z1 z2 z3]) w):Run Tryz.prog (bD bU [(1,.slice y1 y2 y3),(2,.slice z1 z2 z3),(0,.slice x1 x2 x3)]) w K:=by
 refine Run.of (v:=.agg #[.slice x1 x2 x3,.slice y1 y2 y3,.slice z1 z2 z3]) (w':=w) ?_ hk
 unfold bD
 rw [Sem.run_bind,run_build w bU _ #[.slice x1 x2 x3,.slice y1 y2 y3,.slice z1 z2 z3] (by kernel_rfl),Result.andThen_ok]
 rfl
theorem Hl {x1:Option Addr} {x2 x3:Nat} {y1:Option Addr} {y2 y3:Nat} {z1:Option Addr} {z2 z3:Nat} (hk:K (.agg #[.slice x1 x2 x3,.slice y1 y2 y3,.slice z1 z2 z3]) w):Run Tryz.prog (bD bU [(0,.slice x1 x2 x3),(1,.slice y1 y2 y3),(2,.slice z1 z2 z3)]) w K:=by
 refine Run.of (v:=.agg #[.slice x1 x2 x3,.slice y1 y2 y3,.slice z1 z2 z3]) (w':=w) ?_ hk
 unfold bD
 rw [Sem.run_bind,run_build w bU _ #[.slice x1 x2 x3,.slice y1 y2 y3,.slice z1 z2 z3] (by kernel_rfl),Result.andThen_ok]
 rfl
theorem Hz {z1:Option Addr} {z2 z3:Nat} (hk:K (.agg #[.slice none 0 0,.slice none 0 0,.slice z1 z2 z3]) w):Run Tryz.prog (bD bU [(2,.slice z1 z2 z3)]) w K:=by
 refine Run.of (v:=.agg #[.slice none 0 0,.slice none 0 0,.slice z1 z2 z3]) (w':=w) ?_ hk
 unfold bD
 rw [Sem.run_bind,run_build w bU _ #[.slice none 0 0,.slice none 0 0,.slice z1 z2 z3] (by kernel_rfl),Result.andThen_ok]
 rfl
theorem AM {a b c d:Value} {x1:Option Addr} {x2 x3:Nat} {y1:Option Addr} {y2 y3:Nat} {z1:Option Addr} {z2 z3:Nat} (hk:K (.agg #[a,b,c,d,.slice x1 x2 x3,.slice y1 y2 y3,.slice z1 z2 z3]) w):Run Tryz.prog (bD cn [(0,.agg #[a,b,c,d]),(1,.slice x1 x2 x3),(2,.slice y1 y2 y3),(3,.slice z1 z2 z3)]) w K:=by
 refine Run.of (v:=.agg #[a,b,c,d,.slice x1 x2 x3,.slice y1 y2 y3,.slice z1 z2 z3]) (w':=w) ?_ hk
 unfold bD
 rw [Sem.run_bind,run_build w cn _ #[a,b,c,d,.slice x1 x2 x3,.slice y1 y2 y3,.slice z1 z2 z3] (by kernel_rfl),Result.andThen_ok]
 rfl
theorem Br {a b c:Value} {x1:Option Addr} {x2 x3:Nat} {y1:Option Addr} {y2 y3:Nat} (hk:K (.agg #[a,b,c,.slice x1 x2 x3,.slice y1 y2 y3]) w):Run Tryz.prog (bD aW [(0,.agg #[a,b,c]),(1,.slice x1 x2 x3),(2,.slice y1 y2 y3)]) w K:=by
 refine Run.of (v:=.agg #[a,b,c,.slice x1 x2 x3,.slice y1 y2 y3]) (w':=w) ?_ hk
 unfold bD
 rw [Sem.run_bind,run_build w aW _ #[a,b,c,.slice x1 x2 x3,.slice y1 y2 y3] (by kernel_rfl),Result.andThen_ok]
 rfl
theorem GZ {a b c:Value} (hk:K (.agg #[a,b,c,.slice none 0 0,.slice none 0 0]) w):Run Tryz.prog (bD aW [(0,.agg #[a,b,c])]) w K:=by
 refine Run.of (v:=.agg #[a,b,c,.slice none 0 0,.slice none 0 0]) (w':=w) ?_ hk
 unfold bD
 rw [Sem.run_bind,run_build w aW _ #[a,b,c,.slice none 0 0,.slice none 0 0] (by kernel_rfl),Result.andThen_ok]
 rfl
theorem Jc {a b c d:Value} {i j:Int} (hk:K (.agg #[a,b,c,d,.int .i64 i,.int .i64 j]) w):Run Tryz.prog (bD fU [(0,.agg #[a,b,c,d]),(1,.int .i64 i),(2,.int .i64 j)]) w K:=by
 refine Run.of (v:=.agg #[a,b,c,d,.int .i64 i,.int .i64 j]) (w':=w) ?_ hk
 unfold bD
 rw [Sem.run_bind,run_build w fU _ #[a,b,c,d,.int .i64 i,.int .i64 j] (by kernel_rfl),Result.andThen_ok]
 rfl
theorem Gq {a b c d:Value} {i:Int} (hk:K (.agg #[a,b,c,d,.int .i64 i,.int .i64 0]) w):Run Tryz.prog (bD fU [(0,.agg #[a,b,c,d]),(1,.int .i64 i)]) w K:=by
 refine Run.of (v:=.agg #[a,b,c,d,.int .i64 i,.int .i64 0]) (w':=w) ?_ hk
 unfold bD
 rw [Sem.run_bind,run_build w fU _ #[a,b,c,d,.int .i64 i,.int .i64 0] (by kernel_rfl),Result.andThen_ok]
 rfl
theorem nK {a b c d:Value} {i:Int} (hk:K (.agg #[a,b,c,d,.int .i64 i,.slice none 0 0]) w):Run Tryz.prog (bD au [(0,.agg #[a,b,c,d]),(1,.int .i64 i)]) w K:=by
 refine Run.of (v:=.agg #[a,b,c,d,.int .i64 i,.slice none 0 0]) (w':=w) ?_ hk
 unfold bD
 rw [Sem.run_bind,run_build w au _ #[a,b,c,d,.int .i64 i,.slice none 0 0] (by kernel_rfl),Result.andThen_ok]
 rfl
theorem Hb  (hk:K (.agg #[.int .i64 0,.int .i64 0,.string ⟨#[]⟩,.slice none 0 0,.int .i64 0,.slice none 0 0]) w):Run Tryz.prog (bD au []) w K:=by
 refine Run.of (v:=.agg #[.int .i64 0,.int .i64 0,.string ⟨#[]⟩,.slice none 0 0,.int .i64 0,.slice none 0 0]) (w':=w) ?_ hk
 unfold bD
 rw [Sem.run_bind,run_build w au _ #[.int .i64 0,.int .i64 0,.string ⟨#[]⟩,.slice none 0 0,.int .i64 0,.slice none 0 0] (by kernel_rfl),Result.andThen_ok]
 rfl
theorem HV {a b c d:Value} {i:Int} {x1:Option Addr} {x2 x3:Nat} (hk:K (.agg #[a,b,c,d,.int .i64 i,.slice x1 x2 x3]) w):Run Tryz.prog (bD au [(0,.agg #[a,b,c,d]),(1,.int .i64 i),(2,.slice x1 x2 x3)]) w K:=by
 refine Run.of (v:=.agg #[a,b,c,d,.int .i64 i,.slice x1 x2 x3]) (w':=w) ?_ hk
 unfold bD
 rw [Sem.run_bind,run_build w au _ #[a,b,c,d,.int .i64 i,.slice x1 x2 x3] (by kernel_rfl),Result.andThen_ok]
 rfl
end
end Go.Proofs.YtfcbhfjomgopbaaGreat

/- groups of operations in free order: a new variable that is stored, a row that grows by a row and one element. -/
namespace Go.Proofs.YtfcbhfjomgopbaaGreat
open Go Go.RowKit
/- a new variable: da: it is there, ds: it is stored -/
def nwP (w0:World) (X:List Nat) (A:List Item) (T:TypeId) (z:Array Value) (Q:al->Array Value->Prop) (da ds:Bool) (x:Value) (S:al) (w:World):Prop:=
 ∃ b q,(da=true->x=.pointer (some ⟨b,0,none⟩))/\(ds=true->da=true)/\(ds=false->q=z)/\(ds=true->Q S q)/\Inv w0 X (A++cond da [.blk b (.cells q T)] []) S w
section
variable {w0 w:World} {X:List Nat} {A:List Item} {T:TypeId} {z:Array Value} {Q:al->Array Value->Prop} {da ds:Bool} {x:Value} {S:al}
theorem nwP.mk (h:Inv w0 X A S w) (x:Value):nwP w0 X A T z Q false false x S w:=⟨0,z,fun h=>(by cases h),fun h=>(by cases h),fun _=>rfl,fun h=>(by cases h),by rw [cond_false,List.append_nil]; exact h⟩
theorem nwP.ex (hQ:∀ S S' q,Sle S S'->Q S q->Q S' q) (h:nwP w0 X A T z Q da ds x S w):∃ B,Inv w0 X (A++B) S w/\∀ S' w',Sle S S'->Inv w0 X (A++B) S' w'->nwP w0 X A T z Q da ds x S' w':=by
 obtain ⟨b,q,h1,h2,h3,h4,h5⟩:=h
 exact ⟨_,h5,fun S' w' hs hI=>⟨b,q,h1,h2,h3,fun h=>hQ _ _ _ hs (h4 h),hI⟩⟩
theorem nwP.inv (h:nwP w0 X A T z Q da ds x S w):∃ B,Inv w0 X (A++B) S w:=by
 obtain ⟨b,q,h1,h2,h3,h4,h5⟩:=h
 exact ⟨_,h5⟩
theorem nwP.fin (h:nwP w0 X A T z Q true true x S w):∃ b q,x=.pointer (some ⟨b,0,none⟩)/\Q S q/\Inv w0 X (A++[.blk b (.cells q T)]) S w:=by
 obtain ⟨b,q,h1,h2,h3,h4,h5⟩:=h
 exact ⟨b,q,h1 rfl,h4 rfl,h5⟩
end
section
variable {P:Program} {w0 w:World} {X:List Nat} {A:List Item} {T:TypeId} {z:Array Value} {Q:al->Array Value->Prop} {da ds:Bool} {x:Value} {S:al} {K:Value->World->Prop}
attribute [local irreducible] Run
theorem nwP.alloc {ty:TypeId} {zv:Value} (h:nwP w0 X A T z Q da ds x S w) (hd:da=false) (hz:gK P T=some zv) (hzc:zv.cells=z) (hk:∀ v w',nwP w0 X A T z Q true ds v S w'->K v w'):Run P (sOp (.alloc T) ty) w K:=by
 obtain ⟨b,q,h1,h2,h3,h4,h5⟩:=h
 have hds:ds=false:=Bool.eq_false_iff.2 fun e=>by rw [h2 e] at hd; cases hd
 rw [hd,cond_false,List.append_nil] at h5
 refine bi h5 hz fun b w' hI=>hk _ w' ⟨b,z,fun _=>rfl,fun _=>rfl,fun _=>rfl,fun e=>(by rw [hds] at e; cases e),?_⟩
 rw [cond_true,<- hzc]
 exact hI
theorem nwP.store {ty:TypeId} {n:Nat} {cs:Array Value} (h:nwP w0 X A T z Q da ds x S w) (hd:da=true) (hs:ds=false) (hT:iH P T=some n) (hn:cs.size=n) (hz:z.size=n) (h1:∀ u∈cs.toList,u.oneCell'=true) (hQ:Q S cs)
  (hk:∀ w',nwP w0 X A T z Q da true x S w'->K undef w'):Run P (sOp (.store T (.const x) (.const (.agg cs))) ty) w K:=by
 obtain ⟨b,q,g1,g2,g3,g4,g5⟩:=h
 rw [hd,cond_true,g3 hs] at g5
 rw [g1 hd]
 refine aG (E:=T) g5 A.length (by simp) hT hn hz h1 fun w' hI=>?_
 have e:(A++[Item.blk b (.cells z T)]).set A.length (.blk b (.cells cs T))=A++[.blk b (.cells cs T)]:=by simp
 rw [e] at hI
 exact hk w' ⟨b,cs,g1,fun _=>hd,fun e=>(by cases e),fun _=>hQ,by rw [hd]; exact hI⟩
end
/- append(append([]X{}, xs...), y), stored in a field -/
def apP {α:Type} (w0:World) (X:List Nat) (A:Value->List Item) (z:Value) (T:TypeId) (k:Nat) (R:al->List Value->α->Prop) (xs:List α) (y:α) (S0:al) (d5 d8:Bool) (v0 v1 v5 v2:Value) (w:World) (n:Nat):Prop:=
 ∃ S1 cv,Ext w0.heap.size X S0 S1/\(d5=true->RdSl S1 k (R S1) v5 [y])/\(d8=false->cv=z)/\(d8=true->RdSl S1 k (R S1) cv (xs++[y]))/\apC w0 X (A cv) T k R xs y S1 v0 v1 v2 w n
section
variable {α:Type} {P:Program} {w0 w:World} {X:List Nat} {A:Value->List Item} {z:Value} {e:TypeId} {k:Nat} {R:al->List Value->α->Prop} {xs:List α} {y:α} {S0:al} {d5 d8:Bool} {v0 v1 v5 v2:Value} {n:Nat} {K:Value->World->Prop}
attribute [local irreducible] Run
theorem apP.mk {S:al} (h:Inv w0 X (A z) S w) (v0 v1 v5 v2:Value):apP w0 X A z e k R xs y S false false v0 v1 v5 v2 w 0:=⟨S,z,Ext.refl _ _ _,fun h=>(by cases h),fun _=>rfl,fun h=>(by cases h),h⟩
theorem apP.inv (h:apP w0 X A z e k R xs y S0 d5 d8 v0 v1 v5 v2 w n):∃ S1 cv B,Ext w0.heap.size X S0 S1/\Inv w0 X (A cv++B) S1 w:=by
 obtain ⟨S1,cv,h1,h2,h3,h4,h5⟩:=h
 obtain ⟨B,hI⟩:=h5.inv
 exact ⟨S1,cv,B,h1,hI⟩
theorem apP.inv0 (h:apP w0 X A z e k R xs y S0 d5 d8 v0 v1 v5 v2 w n) (hd:d8=false):∃ S1 B,Ext w0.heap.size X S0 S1/\Inv w0 X (A z++B) S1 w:=by
 obtain ⟨S1,cv,h1,h2,h3,h4,h5⟩:=h
 obtain ⟨B,hI⟩:=h5.inv
 rw [h3 hd] at hI
 exact ⟨S1,B,h1,hI⟩
theorem apP.fin (h:apP w0 X A z e k R xs y S0 d5 true v0 v1 v5 v2 w 3):∃ S1 cv,Ext w0.heap.size X S0 S1/\RdSl S1 k (R S1) cv (xs++[y])/\Inv w0 X (A cv) S1 w:=by
 obtain ⟨S1,cv,h1,h2,h3,h4,h5⟩:=h
 exact ⟨S1,cv,h1,h4 rfl,h5.2⟩
theorem Mi {T:TypeId} {by_:Nat} {zv:Value} (h:apP w0 X A z e k R xs y S0 d5 d8 v0 v1 v5 v2 w 0) (hT:fB P T=some (e,k,by_,zv))
  (hk:∀ v w',apP w0 X A z e k R xs y S0 d5 d8 v v1 v5 v2 w' 1->K v w'):Run P (av T 0 []) w K:=by
 obtain ⟨S1,cv,h1,h2,h3,h4,h5⟩:=h
 exact Oi h5 hT fun v w' h=>hk v w' ⟨S1,cv,h1,h2,h3,h4,h⟩
theorem LP {T ty:TypeId} {by_:Nat} {zv u:Value} {cs:List Bool} (hR:∀ S S' cs x,Sle S S'->R S cs x->R S' cs x) (h:apP w0 X A z e k R xs y S0 d5 d8 v0 v1 v5 v2 w 1) (hT:fB P T=some (e,k,by_,zv)) (hk0:0<k) (hu:RdSl S0 k (R S0) u xs)
  (hlen:∀ S cs y,R S cs y->cs.length=k) (ho:∀ S cs y,R S cs y->∀ c∈cs,c.oneCell'=true) (hl:xs.length<=4294967296) (hby:by_<=32768)
  (hk:∀ v w',apP w0 X A z e k R xs y S0 d5 d8 v0 v v5 v2 w' 2->K v w'):Run P (bx .append #[T,T] ty cs [v0,u]) w K:=by
 obtain ⟨S1,cv,h1,h2,h3,h4,h5⟩:=h
 exact Oc h5 hT hk0 (hu.mono h1.1 fun _ _ h=>hR _ _ _ _ h1.1 h) (hlen S1) (ho S1) hl hby fun v w' h=>hk v w' ⟨S1,cv,h1,h2,h3,h4,h⟩
theorem Me {T:TypeId} {by_:Nat} {zv:Value} {cs:List Value} (hR:∀ S S' cs x,Sle S S'->R S cs x->R S' cs x) (h:apP w0 X A z e k R xs y S0 d5 d8 v0 v1 v5 v2 w n) (hT:fB P T=some (e,k,by_,zv)) (hk0:0<k) (hk24:k<=65536)
  {v:Value} (hvc:v.cells=cs.toArray) (hy:R S0 cs y) (hlen:∀ S cs y,R S cs y->cs.length=k)
  (hk:∀ v w',apP w0 X A z e k R xs y S0 true d8 v0 v1 v v2 w' n->K v w'):Run P (av T 1 [(0,v)]) w K:=by
 obtain ⟨S1,cv,h1,h2,h3,h4,h5⟩:=h
 obtain ⟨B,hI,hback⟩:=h5.ex hR
 have hl:=hlen _ _ _ hy
 refine dh hI hT (by rw [hvc]; simpa using hl) hk24 hk0 fun b w' hI=>?_
 obtain ⟨S2,hI,hE,hb⟩:=Inv.pub1 hI
 rw [hvc] at hb
 exact hk _ w' ⟨S2,cv,h1.trans hE,fun _=>RdSl.single hb hl (hR _ _ _ _ (h1.trans hE).1 hy),h3,fun e=>(h4 e).mono hE.1 fun _ _ h=>hR _ _ _ _ hE.1 h,hback _ S2 w' hE.1 hI⟩
theorem LY {T ty:TypeId} {by_:Nat} {zv:Value} {cs:List Bool} (hR:∀ S S' cs x,Sle S S'->R S cs x->R S' cs x) (h:apP w0 X A z e k R xs y S0 d5 d8 v0 v1 v5 v2 w 2) (hd:d5=true) (hT:fB P T=some (e,k,by_,zv)) (hk0:0<k)
  (hlen:∀ S cs y,R S cs y->cs.length=k) (ho:∀ S cs y,R S cs y->∀ c∈cs,c.oneCell'=true) (hl:xs.length+1<=4294967296) (hby:by_<=32768)
  (hk:∀ v w',apP w0 X A z e k R xs y S0 d5 d8 v0 v1 v5 v w' 3->K v w'):Run P (bx .append #[T,T] ty cs [v1,v5]) w K:=by
 obtain ⟨S1,cv,h1,h2,h3,h4,h5⟩:=h
 exact N5 hR h5 hT hk0 (h2 hd) (hlen S1) (ho S1) hl hby fun v S' w' hE h=>hk v w' ⟨S',cv,h1.trans hE,fun e=>(h2 e).mono hE.1 fun _ _ h=>hR _ _ _ _ hE.1 h,h3,fun e=>(h4 e).mono hE.1 fun _ _ h=>hR _ _ _ _ hE.1 h,h⟩
/- the store; the field's block is the last item -/
theorem LX {U ty E:TypeId} {b d:Nat} {A0:List Item} {C:Value->Array Value} (hA:∀ v,A v=A0++[.blk b (.cells (C v) E)]) (h:apP w0 X A z e k R xs y S0 d5 d8 v0 v1 v5 v2 w 3) (hU:iw P U=true)
  (hC:∀ v v',(C v).setIfInBounds d v'=C v') (hlt:∀ v,d<(C v).size) (hk:∀ w',apP w0 X A z e k R xs y S0 d5 true v0 v1 v5 v2 w' 3->K undef w') :
  Run P (sOp (.store U (.const (.pointer (some ⟨b,d,none⟩))) (.const v2)) ty) w K:=by
 obtain ⟨S1,cv,h1,h2,h3,h4,h5,h6⟩:=h
 rw [hA] at h6
 obtain ⟨a,m,rfl,_⟩:=id h5
 refine dy h6 A0.length (b:=b) (o:=d) (E:=E) (c:=C cv) (n:=1) (v:=.slice a (xs++[y]).length m) rfl (by rw [hU]; simp) (by simp) (by have:=hlt cv; omega) (by simp [Value.cells,Value.oneCell']) fun w' hI=>?_
 have hp:bM (C cv) d (Value.slice a (xs++[y]).length m).cells.toList=C (.slice a (xs++[y]).length m):=by
  refine Eq.trans ?_ (hC cv _)
  apply Array.toList_inj.1
  simp only [bM,Array.toList_setIfInBounds]
  have hl:d<(C cv).toList.length:=by simpa using hlt cv
  rw [List.set_eq_take_append_cons_drop,if_pos hl]
  simp [Value.cells]
 rw [hp] at hI
 have e2:(A0++[Item.blk b (.cells (C cv) E)]).set A0.length (.blk b (.cells (C (.slice a (xs++[y]).length m)) E))=A (.slice a (xs++[y]).length m):=by rw [hA]; simp
 rw [e2] at hI
 exact hk w' ⟨S1,_,h1,h2,fun e=>(by cases e),fun _=>h5,h5,hI⟩
end
end Go.Proofs.YtfcbhfjomgopbaaGreat

/- a table of bindings grows by a number of empty entries (append with make). -/
namespace Go.Proofs.YtfcbhfjomgopbaaGreat
open Go Go.RowKit
theorem ME {c d:List Value} {n i k:Nat} (h:c.take n=d.take n) (hi:i+k<=n):(c.drop i).take k=(d.drop i).take k:=by
 have e:∀ l:List Value,(l.drop i).take k=((l.take n).drop i).take k:=fun l=>by
  rw [List.drop_take,List.take_take,Nat.min_eq_left (by omega)]
 rw [e c,e d,h]
theorem KnU.grown {S:al} {c cur:Array Value} {st:bf} {m:Nat} {z:Array Value} (hz:z=#[.int .i64 0,.int .i64 0,.string ⟨#[]⟩,.slice none 0 0]) (h:KnU S cur st) (hs:(st.length+m) * 4<=c.size)
  (ht:c.toList.take ((st.length+m) * 4)=cur.toList.take (st.length * 4)++(Builtin.zeroCells z m).toList):KnU S c (st++List.replicate m none):=by
 have hZ:=KnU.zero z hz S m
 have hz4:z.size=4:=by rw [hz]; rfl
 have hZe:Builtin.zeroCells z m=(Array.range (m * 4)).map (z[· % z.size]!):=by rw [Builtin.zeroCells,hz4]
 have h1:=h.1
 have hlen:(cur.toList.take (st.length * 4)).length=st.length * 4:=by rw [List.length_take]; have:cur.toList.length=cur.size:=rfl; omega
 refine KnU.of (by rw [List.length_append,List.length_replicate]; exact hs) fun i hi=>?_
 rw [List.length_append,List.length_replicate] at hi
 by_cases hl:i<st.length
 ·rw [List.getElem_append_left hl]
  have e:bm c (i * 4) 4=bm cur (i * 4) 4:=by
   rw [bm,bm]
   refine ME (n:=st.length * 4) ?_ (by omega)
   have:=congrArg (List.take (st.length * 4)) ht
   rw [List.take_take,Nat.min_eq_left (by omega),List.take_append_of_le_length (by omega),List.take_take,Nat.min_self] at this
   exact this
  rw [e]
  exact h.rdO i hl
 ·rw [List.getElem_append_right (by omega),List.getElem_replicate]
  have hj:i - st.length<(List.replicate m (none:Option T)).length:=by rw [List.length_replicate]; omega
  have hr:=hZ.rdO (i - st.length) hj
  rw [List.getElem_replicate] at hr
  have e:bm c (i * 4) 4=bm ((Array.range (m * 4)).map (z[· % z.size]!)) ((i - st.length) * 4) 4:=by
   rw [bm,bm,<- hZe]
   have e1:(c.toList.drop (i * 4)).take 4=((c.toList.take ((st.length+m) * 4)).drop (i * 4)).take 4:=by
    rw [List.drop_take,List.take_take,Nat.min_eq_left (by omega)]
   rw [e1,ht,List.drop_append,hlen,List.drop_eq_nil_of_le (by rw [hlen]; omega),List.nil_append]
   rw [show i * 4 - st.length * 4=(i - st.length) * 4 by omega]
  rw [e]
  exact hr
theorem Js {z:Array Value} (hz:z=#[.int .i64 0,.int .i64 0,.string ⟨#[]⟩,.slice none 0 0]) (m:Nat):∀ u∈(Builtin.zeroCells z m).toList,u.oneCell'=true:=by
 subst hz
 intro u hu
 simp only [Builtin.zeroCells,Array.toList_map,List.mem_map] at hu
 obtain ⟨i,_,rfl⟩:=hu
 have:i % 4<4:=Nat.mod_lt _ (by omega)
 have h4:(#[.int .i64 0,.int .i64 0,.string ⟨#[]⟩,.slice none 0 0]:Array Value).size=4:=rfl
 rw [h4]
 match i % 4,this with
 | 0,_=>rfl
 | 1,_=>rfl
 | 2,_=>rfl
 | 3,_=>rfl
section
variable {P:Program} {w w0:World} {X:List Nat} {A:List Item} {S S1:al} {K:Value->World->Prop}
attribute [local irreducible] Run CondV ag aO
theorem GG {T U ty e:TypeId} {by_ m:Nat} {z v:Value} {cs:List Bool} {css:List (List Value)} {st:bf} (h:Inv w0 X (A++[bq v e 4 css]) S w) (hR:Rows 4 (RdO S1) css st) (h0:0<st.length)
  (hT:fB P T=some (e,4,by_,z)) (hzc:z.cells=#[.int .i64 0,.int .i64 0,.string ⟨#[]⟩,.slice none 0 0]) (hU:P.underlying U=some (.int .i64)) (hfit:st.length+m<=4294967296) (hby:by_<=32768)
  (hk:∀ (g cap:Nat) (cur:Array Value) w',st.length+m<=cap->cap<=maxLen->KnU S1 cur (st++List.replicate m none)->Inv w0 X (A++[.blk g (.cells cur e)]) S w'->K (kvU g (st.length+m) cap) w') :
  Run P (bx .append #[T,U] ty cs [v,.int .i64 m]) w K:=by
 have hcy:=hR.hc
 obtain ⟨hl,ho⟩:=Inv.openRow h
 rcases ho with ⟨rfl,h1⟩|⟨g,cap,cur,rfl,hnc,hcm,hcs,ht,hI⟩
 ·omega
 rw [hcy] at hnc ht ⊢
 have hkn:KnU S1 cur st:=hR.knu (by rw [hcs]; exact Nat.mul_le_mul_right 4 hnc) (by rw [hcy]; exact ht)
 obtain ⟨hu,inf,hi',hz,hs,hb,hzs⟩:=gO hT
 have hgw:w.heap[g]?=some (.cells cur e):=hI.its (.blk g (.cells cur e)) (by simp)
 have hw:IntKind.i64.wrap (m:Int)=m:=IntWalk.i64_in _ (by omega)
 have hneg:¬ ((m:Int)<0):=by omega
 have h48i:¬ (281474976710656<(m:Int) * (by_:Int)):=by
  have:m * by_<=(st.length+m) * by_:=Nat.mul_le_mul_right _ (by omega)
  have hbytes:(st.length+m) * by_<=140737488355328:=Nat.le_trans (Nat.mul_le_mul hfit hby) (by decide)
  rw [<- Int.natCast_mul]
  omega
 have hzl:(Builtin.zeroCells z.cells m).size=m * 4:=by rw [size_zeroCells,hzs]
 have hzt:(Builtin.zeroCells z.cells m).toList.length=m * 4:=hzl
 have hct:cur.toList.length=cur.size:=rfl
 by_cases hfits:st.length+m<=cap
 ·have hst:=run_storeCells_at P g (st.length * 4) e (Builtin.zeroCells z.cells m).toList 0 cur w hgw (by omega) (Js hzc m)
  by_cases hm:m=0
  ·subst hm
   have hw0:IntKind.i64.wrap 0=0:=IntWalk.i64_in _ (by omega)
   refine Run.of (v:=kvU g (st.length+0) cap) (w':=w) ?_ (hk g cap cur w hfits hcm (by simpa using hkn) hI)
   simp [bx,builtin,Builtin.append_,run_underlying hu,run_underlying hU,sizeOf,typeInfo,hi',hb,asInt,asIntOf,hw0,hnc,storeCells]
  ·have hns:¬ (m * 4=0):=by omega
   have hkg:KnU S1 (bM cur (st.length * 4) (Builtin.zeroCells z.cells m).toList) (st++List.replicate m none):=by
    refine hkn.grown hzc ?_ ?_
    ·rw [fO _ _ _ (by omega),hcs]; exact Nat.mul_le_mul_right 4 hfits
    ·show ((cur.toList.take (st.length * 4)++(Builtin.zeroCells z.cells m).toList++cur.toList.drop (st.length * 4+(Builtin.zeroCells z.cells m).toList.length))).take _=_
     rw [List.take_left' (by rw [List.length_append,List.length_take,hzt]; omega)]
   refine Run.of (v:=kvU g (st.length+m) cap) (w':=w.setRow g (bM cur (st.length * 4) (Builtin.zeroCells z.cells m).toList)) ?_ (hk g cap _ _ hfits hcm hkg ?_)
   ·simp [bx,builtin,Builtin.append_,run_underlying hu,run_underlying hU,sizeOf,typeInfo,zeroValue,hi',hz,hs,hb,asInt,asIntOf,hw,hneg,h48i,hns,hfits,iA,hst,bM]
   ·have e2:(A++[Item.blk g (.cells cur e)]).set A.length (.blk g (.cells (bM cur (st.length * 4) (Builtin.zeroCells z.cells m).toList) e))=A++[.blk g (.cells (bM cur (st.length * 4) (Builtin.zeroCells z.cells m).toList) e)]:=by simp
    have h3:=hI.setBlk (i:=A.length) (b:=g) (o:=.cells cur e) (by simp) (.cells (bM cur (st.length * 4) (Builtin.zeroCells z.cells m).toList) e) (BA hgw)
    rw [e2] at h3
    exact h3
 ·have hg:cap<st.length+m:=by omega
  obtain ⟨olds,hoe⟩:∃ olds,olds=cur.toList.take (st.length * 4):=⟨_,rfl⟩
  have hcz:cur.size=cap * 4:=hcs
  have hlo:olds.length=st.length * inf.size:=by rw [hoe,hs,List.length_take]; omega
  have holds:∀ j v,olds[j]?=some v->w.cell? ((⟨g,0,none⟩:Addr).add j)=some v:=by
   intro j v hj
   rw [iA,Nat.zero_add,cell_of_row w g j cur e (0,0) hgw]
   rw [hoe,List.getElem?_take] at hj
   split at hj
   ·simpa using hj
   ·cases hj
  have hbytes:(st.length+m) * by_<=140737488355328:=Nat.le_trans (Nat.mul_le_mul hfit hby) (by decide)
  have hgf:=growslice_fits hg hbytes
  have hns:¬ (m * 4=0):=by omega
  have h63':¬ (9223372036854775807<(st.length:Int)+(m:Int)):=by omega
  have h48':¬ (281474976710656<Builtin.nextslicecap (st.length+m) cap * by_):=by omega
  have hfo:=run_firstCells_some (P:=P) w.drew inf.size st.length ⟨g,0,none⟩ st.length cap olds hlo (by simpa using holds)
  rw [hs] at hfo
  have hge:=grownCap_ge w (st.length+m) cap e
  have hle:=grownCap_le_maxLen w (st.length+m) cap e (by simp only [maxLen]; omega)
  refine Run.of (v:=kvU w.heap.size (st.length+m) (grownCap w (st.length+m) cap e))
   (w':=w.drew.alloc (.cells (olds.toArray++Builtin.zeroCells z.cells m++Builtin.zeroCells z.cells (grownCap w (st.length+m) cap e - (st.length+m))) e)) ?_ (hk _ _ (olds.toArray++Builtin.zeroCells z.cells m++Builtin.zeroCells z.cells (grownCap w (st.length+m) cap e - (st.length+m))) _ hge hle ?_ ?_)
  ·simp [bx,builtin,Builtin.append_,run_underlying hu,run_underlying hU,sizeOf,typeInfo,zeroValue,hi',hz,hs,hb,asInt,asIntOf,hw,hfits,hneg,hns,h63',h48',h48i,Question.forced,hfo,newRow,grownCap]
  ·refine hkn.grown hzc ?_ ?_
   ·simp only [Array.size_append,List.size_toArray,hzl,hlo,hs]; omega
   ·rw [Array.toList_append,Array.toList_append,<- hoe]
    rw [List.take_left' (by rw [List.length_append,hzt,hlo,hs]; omega)]
  ·have h2:=h.draw.alloc (.cells (olds.toArray++Builtin.zeroCells z.cells m++Builtin.zeroCells z.cells (grownCap w (st.length+m) cap e - (st.length+m))) e)
   exact h2.sub (by rw [List.append_assoc]; exact (List.sublist_append_right _ _).append_left _)
end
end Go.Proofs.YtfcbhfjomgopbaaGreat

/- spec.l6Try. -/
namespace Go.Proofs.YtfcbhfjomgopbaaGreat
open Go Go.RowKit
def tmC (w0:World) (X:List Nat) (A:List Item) (S:al) (N m:Nat) (b st:bf) (lI jI iz jf zo:Value) (w':World):Nat->Prop
 | 0=>Inv w0 X A S w'
 | 1=>Inv w0 X (A++[bq lI ab 4 []]) S w'
 | 2=>∃ css,Rows 4 (RdO S) css b/\Inv w0 X (A++[bq jI ab 4 css]) S w'
 | 3=>iz=.int .i64 (m:Int)/\∃ css,Rows 4 (RdO S) css b/\Inv w0 X (A++[bq jI ab 4 css]) S w'
 | 4=>∃ g cap cur,jf=kvU g N cap/\N<=cap/\cap<=maxLen/\KnU S cur st/\Inv w0 X (A++[.blk g (.cells cur ab)]) S w'
 | _=>∃ g cap cur,zo=kvU g N cap/\N<=cap/\cap<=maxLen/\KnU S cur st/\Inv w0 X (A++[.blk g (.cells cur ab)]) S w'
theorem tmC.inv {w0 w':World} {X:List Nat} {A:List Item} {S:al} {N m:Nat} {b st:bf} {lI jI iz jf zo:Value}:∀ {n:Nat},tmC w0 X A S N m b st lI jI iz jf zo w' n->∃ R,Inv w0 X (A++R) S w'
 | 0,h=>⟨[],by rw [List.append_nil]; exact h⟩
 | 1,h=>⟨_,h⟩
 | 2,⟨_,_,h⟩=>⟨_,h⟩
 | 3,⟨_,_,_,h⟩=>⟨_,h⟩
 | 4,⟨_,_,_,_,_,_,_,h⟩=>⟨_,h⟩
 | _+5,⟨_,_,_,_,_,_,_,h⟩=>⟨_,h⟩
def unC (w0:World) (X:List Nat) (A:List Item) (S:al) (g:Nat) (cur:Array Value) (st:bf) (t:T) (r:Bool) (nV lH:Value) (w':World):Nat->Prop
 | 0=>Inv w0 X (A++[.blk g (.cells cur ab)]) S w'
 | 1=>∃ S1 cs,nV=.agg cs.toArray/\Ext w0.heap.size X S S1/\RdT S1 cs t/\Inv w0 X (A++[.blk g (.cells cur ab)]) S1 w'
 | _=>lH=.bool r/\∃ S1 cur',Ext w0.heap.size X S S1/\KnU S1 cur' st/\Inv w0 X (A++[.blk g (.cells cur' ab)]) S1 w'
theorem unC.inv {w0 w':World} {X:List Nat} {A:List Item} {S:al} {g:Nat} {cur:Array Value} {st:bf} {t:T} {r:Bool} {nV lH:Value}:∀ {n:Nat},unC w0 X A S g cur st t r nV lH w' n->∃ R S1,Inv w0 X (A++R) S1 w'
 | 0,h=>⟨_,_,h⟩
 | 1,⟨_,_,_,_,_,h⟩=>⟨_,_,h⟩
 | _+2,⟨_,_,_,_,_,h⟩=>⟨_,_,h⟩
abbrev zSt:Array Value:=#[.slice none 0 0,.slice none 0 0,.slice none 0 0]
abbrev zCh:Array Value:=#[.int .i64 0,.int .i64 0,.string ⟨#[]⟩,.slice none 0 0,.slice none 0 0,.slice none 0 0,.slice none 0 0]
def M7 (s:St6) (o:Option St6):Value->List Item->al->Prop:=fun q I' S'=>I'=[]/\∃ cs:List Value,q=.tuple #[.agg cs.toArray,.bool o.isSome]/\RdS6 S' cs (o.getD s)
section
attribute [local irreducible] Run CondV ag aO
set_option maxHeartbeats 4000000 in
theorem Ec {p:List C} (hp:∀ cl∈p,pU cl) {k:Nat} (hk:k<=1000) {c:Ch} (hc:ix c) (hr:okRk k c) {s:St6} {o:Option St6} (h:TryL p s.chs c c.left o) (hn:s.chs.length<=1000)
  {S:al} {u:Value} {ss cs:List Value} (hP:RdSl S 5 (RdC S) u p) (hs:RdS6 S ss s) (hcc:RdCh S cs c):Tri Tryz.prog I0 [u,.agg ss.toArray,.agg cs.toArray] [] S (M7 s o):=by
 intro w hI
 obtain ⟨gs,sb,sc,rfl,hsg,hsb,hsc⟩:=id hs
 obtain ⟨sca,scc,rfl,_⟩:=id hsc
 obtain ⟨hd,rv,lv,bv,rfl,hgo,hre,hle,hbi⟩:=id hcc
 obtain ⟨ra,rc,rfl,_⟩:=id hre
 obtain ⟨ba,bc,rfl,_⟩:=id hbi
 have hgo0:=hgo
 obtain ⟨kv,rfl,_⟩:=RdT.iff.1 hgo
 have hlb:=hbi.le
 have hll:=hle.le
 have hlr:=hre.le
 simp only [maxLen] at hlb hll hlr
 have hnb:=hr.nb
 have hnr:=hr.nr
 have hpos:=hr.pos
 refine z8 ?_
 unfold wZ
 refine bS hI fun b4 w' hI=>?_
 refine bS hI fun b5 w' hI=>?_
 refine bi hI fx fun b6 w' hI=>?_
 obtain ⟨B4,hB4⟩:∃ B:Item,B=.blk b4 (.cells #[gs,sb,.slice sca s.chs.length scc] bU):=⟨_,rfl⟩
 obtain ⟨B5,hB5⟩:∃ B:Item,B=.blk b5 (.cells #[.int .i64 c.goal.kind,.int .i64 c.goal.n,.string c.goal.name,kv,.slice ra c.rest.length rc,lv,.slice ba c.binds.length bc] cn):=⟨_,rfl⟩
 obtain ⟨B6,hB6⟩:∃ B:Item,B=.blk b6 (.cells zSt bU):=⟨_,rfl⟩
 have e4:=congrArg some hB4
 have e5:=congrArg some hB5
 have e6:=congrArg some hB6
 have hI:Inv w [] [B4,B5,B6] S w':=by rw [hB4,hB5,hB6]; exact hI
 refine ⟨fun i w'=>∃ (j:Nat) (S1:al),j<=c.left.length/\i=.int .i64 j/\TryL p s.chs c (c.left.drop j) o/\Ext w.heap.size [] S S1/\Inv w [] [B4,B5,B6] S1 w',
  fun i _=>c.left.length - (intOf i).toNat,⟨0,S,Nat.zero_le _,rfl,h,Ext.refl _ _ _,hI⟩,?_⟩
 intro t8 _ _ _ _ t88 t87 t86 t85 t84 t83 t82 t81 t14 t80 t79 t78 t77 t76 t75 t74 t73 t72 t71 t70 t69 _ _ _ _ _ _ t13 t62 t61 t60 t59 t58 t57 t56 t55 t54 t53 t52 _ _ _ _ t48 t47 t46 t45 t44 t43 t42 t41 t40 t11 t39 t38 t37 t36 t35 t34 t33 _ _ _ _ _ _ _ _ _ _ _ _ _ _ _ _ _ _ w'
 rintro ⟨j,S1,hj,rfl,hT,hE,hI⟩
 refine ao hI 1 e5 cO gU rfl ?_
 refine bp hle cX ?_
 refine cg ?_
 refine bz (fun hji=>?_) (fun hji=>?_)
 ·have hj':j<c.left.length:=by omega
  rw [List.drop_eq_getElem_cons hj'] at hT
  obtain ⟨n,cl,r,st,hxi,hcl,hu,hcase⟩:=hT.inv
  have hnp:n<p.length:=(List.getElem?_eq_some_iff.1 hcl).1
  have hpc:p[n]=cl:=(List.getElem?_eq_some_iff.1 hcl).2
  have hm:=hp cl (List.mem_of_getElem? hcl)
  obtain ⟨m,hme⟩:∃ m:Nat,gL cl=m:=⟨(gL cl).toNat,by have:=(tw (cI (cl.head::cl.body) []) 0).1; rw [<- gL] at this; omega⟩
  have hfr:=hm.fr
  have hln:=hm.ln
  have hjo:=wN hc hm.cf
  have hgn:=nG hc cl
  rw [hme,Int.toNat_natCast] at hjo hgn
  obtain ⟨hg,_⟩:=hu.good hgn hjo
  have hgl:=hg.len
  refine ao hI 1 e5 cO gU rfl ?_
  refine fg (u:=.int .i64 (n:Int)) hI (hle.mono hE.1 fun _ _ h=>h) cX aY hj' (fun cs hcs=>by rw [<- hxi]; exact hcs) ?_
  refine cJ hI (hP.monoC hE.1) fl cr hnp (fun _ _=>RdC.length) fun ds hds=>?_
  rw [hpc] at hds
  have hds0:=hds
  obtain ⟨kv1,kb1,rfl,hh,hb⟩:=hds.cells
  obtain ⟨kba,kbc,rfl,_⟩:=id hb
  refine bi hI fo fun b9 w' hI=>?_
  have hI:Inv w [] [B4,B5,B6,.blk b9 (.cells #[.int .i64 0,.int .i64 0,.string ⟨#[]⟩,.slice none 0 0,.slice none 0 0] bw)] S1 w':=hI
  refine aG hI 3 rfl cr rfl rfl (by simpa using hds.one) fun w' hI=>?_
  obtain ⟨B9,hB9⟩:∃ B:Item,B=.blk b9 (.cells #[.int .i64 cl.head.kind,.int .i64 cl.head.n,.string cl.head.name,kv1,.slice kba cl.body.length kbc] bw):=⟨_,rfl⟩
  have e9:=congrArg some hB9
  have hI:Inv w [] [B4,B5,B6,B9] S1 w':=by rw [hB9]; exact hI
  refine ao hI 1 e5 iK aJ rfl ?_
  refine eT aC ?_
  have hbi1:=hbi.monoO hE.1
  refine ⟨fun D zo jf iz ow jI kP ul lI w_=>(D 0=true->True)/\(D 1=true->ul=.pointer (some ⟨b5,6,none⟩))/\(D 2=true->kP=.slice ba c.binds.length bc)/\(D 3=true->True)/\(D 4=true->ow=.agg #[.int .i64 cl.head.kind,.int .i64 cl.head.n,.string cl.head.name,kv1,.slice kba cl.body.length kbc])/\(D 5=true->True)/\(D 6=true->True)/\(D 7=true->True)/\∃ n_:Nat,n_<=5/\D 0=decide (1<=n_)/\D 3=decide (2<=n_)/\D 5=decide (3<=n_)/\D 6=decide (4<=n_)/\D 7=decide (5<=n_)/\(tmC w [] [B4,B5,B6,B9] S1 (c.binds.length+m) m c.binds (wu c.binds cl) lI jI iz jf zo w_ n_),⟨ac,ac,ac,ac,ac,ac,ac,ac,⟨0,Nat.zero_le _,rfl,rfl,rfl,rfl,rfl,hI.draw⟩⟩,⟨?_,?_,?_,?_,?_,?_,?_,?_,trivial⟩,?_⟩
  all_goals (intro D bX; intros; rename_i zo jf iz ow jI kP ul lI w_ hA_; obtain ⟨ax,ay,az,aA,aF,aH,aE,aM,⟨n_,ln_,e1_,e2_,e3_,e4_,e5_,hS⟩⟩:=hA_)
  ·obtain rfl:n_=0:=vo e1_ bX
   refine eh hS bO fun v w_ hI=>?_
   have hS:tmC w [] [B4,B5,B6,B9] S1 (c.binds.length+m) m c.binds (wu c.binds cl) v jI iz jf zo w_ 1:=hI
   exact ⟨fun _=>by first|assumption|trivial,ay,az,aA,aF,aH,aE,aM,⟨1,by decide,rfl,(by first|exact e2_|rfl),(by first|exact e3_|rfl),(by first|exact e4_|rfl),(by first|exact e5_|rfl),hS⟩⟩
  ·refine aI iK ?_
   exact ⟨ax,fun _=>rfl,az,aA,aF,aH,aE,aM,⟨n_,ln_,e1_,e2_,e3_,e4_,e5_,hS⟩⟩
  ·obtain rfl:=ay ‹_›
   obtain ⟨R,hI⟩:=hS.inv; refine aX hI 1 aJ e5 rfl ?_
   exact ⟨ax,ay,fun _=>rfl,aA,aF,aH,aE,aM,⟨n_,ln_,e1_,e2_,e3_,e4_,e5_,hS⟩⟩
  ·have Ol:=ax ‹_›
   obtain rfl:=az ‹_›
   obtain rfl:n_=1:=gf e1_ ‹D 0=true› e2_ bX
   refine ed (css:=[]) hS 4 bO (by omega) rfl hbi1 (fun _ _=>RdO.length) (fun _ _=>RdO.one) (by simp; omega) (by omega) fun v w_ css hR hI=>?_
   have hS:tmC w [] [B4,B5,B6,B9] S1 (c.binds.length+m) m c.binds (wu c.binds cl) lI v iz jf zo w_ 2:=⟨css,hR,hI⟩
   exact ⟨ax,ay,az,fun _=>by first|assumption|trivial,aF,aH,aE,aM,⟨2,by decide,(by first|exact e1_|rfl),rfl,(by first|exact e3_|rfl),(by first|exact e4_|rfl),(by first|exact e5_|rfl),hS⟩⟩
  ·obtain ⟨R,hI⟩:=hS.inv; refine aL hI 3 cr e9 rfl ?_
   exact ⟨ax,ay,az,aA,fun _=>rfl,aH,aE,aM,⟨n_,ln_,e1_,e2_,e3_,e4_,e5_,hS⟩⟩
  ·obtain rfl:=aF ‹_›
   obtain rfl:n_=2:=gf e2_ ‹D 3=true› e3_ bX
   obtain ⟨css,hR,hI⟩:=hS
   refine Run.callPure DG CJ hI (zX hds0 hm.w hm.vs) fun w_ hI=>?_
   rw [hme]
   have hS:tmC w [] [B4,B5,B6,B9] S1 (c.binds.length+m) m c.binds (wu c.binds cl) lI jI (.int .i64 (m:Int)) jf zo w_ 3:=⟨rfl,css,hR,hI⟩
   exact ⟨ax,ay,az,aA,aF,fun _=>by first|assumption|trivial,aE,aM,⟨3,by decide,(by first|exact e1_|rfl),(by first|exact e2_|rfl),rfl,(by first|exact e4_|rfl),(by first|exact e5_|rfl),hS⟩⟩
  ·have Gu:=aA ‹_›
   have Kz:=aH ‹_›
   obtain rfl:n_=3:=gf e3_ ‹D 5=true› e4_ bX
   obtain ⟨rfl,css,hR,hI⟩:=hS
   refine GG hI hR hpos bO rfl (U:=eW) (by kernel_rfl) (by omega) (by omega) fun g cap cur w_ q1 q2 hkn hI=>?_
   have hS:tmC w [] [B4,B5,B6,B9] S1 (c.binds.length+m) m c.binds (wu c.binds cl) lI jI (.int .i64 (m:Int)) (kvU g (c.binds.length+m) cap) zo w_ 4:=⟨g,cap,cur,rfl,q1,q2,by rw [wu,hme,Int.toNat_natCast]; exact hkn,hI⟩
   exact ⟨ax,ay,az,aA,aF,aH,fun _=>by first|assumption|trivial,aM,⟨4,by decide,(by first|exact e1_|rfl),(by first|exact e2_|rfl),(by first|exact e3_|rfl),rfl,(by first|exact e5_|rfl),hS⟩⟩
  ·have JC:=aE ‹_›
   obtain rfl:n_=4:=gf e4_ ‹D 6=true› e5_ bX
   have hS:tmC w [] [B4,B5,B6,B9] S1 (c.binds.length+m) m c.binds (wu c.binds cl) lI jI iz jf jf w_ 5:=hS
   exact ⟨ax,ay,az,aA,aF,aH,aE,fun _=>by first|assumption|trivial,⟨5,by decide,(by first|exact e1_|rfl),(by first|exact e2_|rfl),(by first|exact e3_|rfl),(by first|exact e4_|rfl),rfl,hS⟩⟩
  obtain rfl:n_=5:=kq ln_ e5_ ‹D 7=true›
  clear e1_ e2_ e3_ e4_ e5_
  obtain ⟨g,cap,cur,rfl,q1,q2,hkn,hI⟩:=hS
  have hgo1:=hgo0.mono hE.1
  refine ⟨fun D pL lH sA nV rX lM ni lx tV w_=>(D 0=true->tV=.pointer (some ⟨b5,0,none⟩))/\(D 1=true->lx=.agg #[.int .i64 c.goal.kind,.int .i64 c.goal.n,.string c.goal.name,kv])/\(D 2=true->ni=.pointer (some ⟨b9,0,none⟩))/\(D 3=true->lM=.agg #[.int .i64 cl.head.kind,.int .i64 cl.head.n,.string cl.head.name,kv1])/\(D 4=true->rX=.int .i64 (c.binds.length:Int))/\(D 5=true->True)/\(D 6=true->sA=kvU g (c.binds.length+m) cap)/\(D 7=true->True)/\(D 8=true->pL=.bool (!r))/\∃ n_:Nat,n_<=2/\D 5=decide (1<=n_)/\D 7=decide (2<=n_)/\(unC w [] [B4,B5,B6,B9] S1 g cur st (ct c.binds.length cl.head) r nV lH w_ n_),⟨ac,ac,ac,ac,ac,ac,ac,ac,ac,⟨0,Nat.zero_le _,rfl,rfl,hI.draw⟩⟩,⟨?_,?_,?_,?_,?_,?_,?_,?_,?_,trivial⟩,?_⟩
  all_goals (intro D bX; intros; rename_i pL lH sA nV rX lM ni lx tV w_ hA_; obtain ⟨ax,ay,az,aA,aF,aH,aE,aM,aN,⟨n_,ln_,e1_,e2_,hS⟩⟩:=hA_)
  ·refine aI i4 ?_
   exact ⟨fun _=>rfl,ay,az,aA,aF,aH,aE,aM,aN,⟨n_,ln_,e1_,e2_,hS⟩⟩
  ·obtain rfl:=ax ‹_›
   obtain ⟨R,S2,hI⟩:=hS.inv; refine cN hI 1 [.int .i64 c.goal.kind,.int .i64 c.goal.n,.string c.goal.name,kv] ai e5 rfl KH ?_
   exact ⟨ax,fun _=>rfl,az,aA,aF,aH,aE,aM,aN,⟨n_,ln_,e1_,e2_,hS⟩⟩
  ·refine aI dt ?_
   exact ⟨ax,ay,fun _=>rfl,aA,aF,aH,aE,aM,aN,⟨n_,ln_,e1_,e2_,hS⟩⟩
  ·obtain rfl:=az ‹_›
   obtain ⟨R,S2,hI⟩:=hS.inv; refine cN hI 3 [.int .i64 cl.head.kind,.int .i64 cl.head.n,.string cl.head.name,kv1] ai e9 rfl KL ?_
   exact ⟨ax,ay,az,fun _=>rfl,aF,aH,aE,aM,aN,⟨n_,ln_,e1_,e2_,hS⟩⟩
  ·exact ⟨ax,ay,az,aA,fun _=>rfl,aH,aE,aM,aN,⟨n_,ln_,e1_,e2_,hS⟩⟩
  ·obtain rfl:=aA ‹_›
   obtain rfl:=aF ‹_›
   obtain rfl:n_=0:=vo e1_ bX
   refine Run.call0E kT kN hS (oT (N:=26) (by omega) (c.binds.length:Int) (by omega) (by omega) _ S1 _ hh (iO (by omega) _ hm.cf.1.1) hm.cf.1.2) fun v' I' S' w_=>?_
   rintro ⟨eS,cs',L,rfl,rfl,hTr⟩ _ hI
   rw [eS] at hI
   obtain ⟨S2,hI,hE2,hins⟩:=hI.pubExt
   have hS:unC w [] [B4,B5,B6,B9] S1 g cur st (ct c.binds.length cl.head) r (.agg cs'.toArray) lH w_ 1:=⟨S2,cs',rfl,hE2,hTr.rd hins,hI⟩
   exact ⟨ax,ay,az,aA,aF,fun _=>by first|assumption|trivial,aE,aM,aN,⟨1,by decide,rfl,(by first|exact e2_|rfl),hS⟩⟩
  ·exact ⟨ax,ay,az,aA,aF,aH,fun _=>rfl,aM,aN,⟨n_,ln_,e1_,e2_,hS⟩⟩
  ·obtain rfl:=ay ‹_›
   have Kz:=aH ‹_›
   obtain rfl:=aE ‹_›
   obtain rfl:n_=1:=gf e1_ ‹D 5=true› e2_ bX
   obtain ⟨S2,cs2,rfl,hE2,hrd2,hI⟩:=hS
   refine Run.callE eQ eO hI (fP (kp:=cap) (by omega) hgn hjo hu S2 _ _ g cur (hgo1.mono hE2.1) hrd2 (hkn.mono hE2.1)) fun v' I' S' w_=>?_
   rintro ⟨eS,rfl,kcx,rfl,hkx⟩ _ hI
   rw [eS] at hI
   have hS:unC w [] [B4,B5,B6,B9] S1 g cur st (ct c.binds.length cl.head) r (.agg cs2.toArray) (.bool r) w_ 2:=⟨rfl,S2,kcx,hE2,hkx,hI⟩
   exact ⟨ax,ay,az,aA,aF,aH,aE,fun _=>by first|assumption|trivial,aN,⟨2,by decide,(by first|exact e1_|rfl),rfl,hS⟩⟩
  ·have Gd:=aM ‹_›
   have hn2:=kq ln_ e2_ ‹D 7=true›
   have hS2:=hS
   rw [hn2] at hS2
   obtain ⟨hx47,_⟩:=hS2
   subst hx47
   refine cK ?_
   exact ⟨ax,ay,az,aA,aF,aH,aE,aM,fun _=>rfl,⟨n_,ln_,e1_,e2_,hS⟩⟩
  obtain rfl:n_=2:=kq ln_ e2_ ‹D 7=true›
  have zn:D 8=true:=by assumption
  clear e1_ e2_
  obtain rfl:=aN zn
  obtain ⟨_,S2,kcx,hE2,hkx,hI⟩:=hS
  refine aS (fun hbt=>?_) (fun hbt=>?_)
  ·have hrf:r=false:=by cases r; rfl; cases hbt
   rcases hcase with ⟨h1,_⟩|⟨_,hT⟩
   ·rw [hrf] at h1; cases h1
   refine bT (by omega) ?_
   exact ⟨⟨j+1,S2,hj',rfl,hT,hE.trans hE2,hI.pick [true,true,true]⟩,by simp [intOf]; omega⟩
  have hrt:r=true:=by cases r; cases hbt; rfl
  rcases hcase with ⟨_,ho⟩|⟨h1,_⟩
  case inr=>rw [hrt] at h1; cases h1
  subst ho
  obtain ⟨S3,hI,hE3,hgS⟩:=Inv.pub1 hI
  have hE03:=(hE.trans hE2).trans hE3
  have htb:RdSl S3 4 (RdO S3) (kvU g (c.binds.length+m) cap) st:=by
   have:=(hkx.rd (cap:=cap) hgS (by rw [hgl]; exact q1) q2).mono (Sle.refl _) fun _ _ h=>RdO.mono hE3.1 h
   rw [hgl] at this
   exact this
  refine ao hI 0 e4 cQ cP rfl ?_
  refine eT fM ?_
  obtain ⟨gl,hgle⟩:∃ gl,gl=cl.body.map (fun t=>(ct (c.binds.length:Int) t,(s.chs.length:Int)))++c.rest:=⟨_,rfl⟩
  have hcalls:∀ S4,Sle S3 S4->Tri Tryz.prog uS [.slice kba cl.body.length kbc,.int .i64 (c.binds.length:Int),.int .i64 (s.chs.length:Int),.slice ra c.rest.length rc] [] S4 (Lr gl):=by
   intro S4 h34
   rw [hgle]
   exact oV (N:=26) (by omega) _ (by omega) (by omega) _ (hb.monoT ((hE2.trans hE3).1.trans h34)) (hre.monoG (hE03.1.trans h34)) (fun t ht=>⟨iO (by omega) _ (hm.cf.2 t ht).1,(hm.cf.2 t ht).2⟩) (by omega) (by omega)
  refine ⟨fun D Md wJ xp wK wS u5 sy sJ tC uO pK jS w_=>(D 0=true->jS=kvU g (c.binds.length+m) cap)/\(D 1=true->pK=.pointer (some ⟨b4,2,none⟩))/\(D 2=true->uO=.slice sca s.chs.length scc)/\(D 3=true->tC=.pointer (some ⟨b9,4,none⟩))/\(D 4=true->sJ=.slice kba cl.body.length kbc)/\(D 5=true->sy=.int .i64 (c.binds.length:Int))/\(D 6=true->u5=.int .i64 (s.chs.length:Int))/\(D 7=true->wS=.pointer (some ⟨b5,4,none⟩))/\(D 8=true->wK=.slice ra c.rest.length rc)/\(D 9=true->True)/\(D 10=true->True)/\(D 11=true->True)/\(D 12=true->True)/\∃ S4,Ext w.heap.size [] S3 S4/\(D 9=true->RdSl S4 5 (RdG S4) xp gl)/\(D 10=true->∃ v,wJ=.agg #[v,kvU g (c.binds.length+m) cap,.slice sca s.chs.length scc]/\RdSl S4 5 (RdG S4) v gl)/\nwP w [] [B4,B5,B6,B9] bU zSt (fun S q=>∃ v,q=#[v,kvU g (c.binds.length+m) cap,.slice sca s.chs.length scc]/\RdSl S 5 (RdG S) v gl) (D 11) (D 12) Md S4 w_,⟨ac,ac,ac,ac,ac,ac,ac,ac,ac,ac,ac,ac,ac,⟨S3,Ext.refl _ _ _,ac,ac,nwP.mk hI.draw _⟩⟩,⟨?_,?_,?_,?_,?_,?_,?_,?_,?_,?_,?_,?_,?_,trivial⟩,?_⟩
  all_goals (intro D bX; intros; rename_i Md wJ xp wK wS u5 sy sJ tC uO pK jS w_ hA_; obtain ⟨ax,ay,az,aA,aF,aH,aE,aM,aN,aR,aq,ar,aD,⟨S4,hE4,f9,f10,hN⟩⟩:=hA_)
  ·exact ⟨fun _=>rfl,ay,az,aA,aF,aH,aE,aM,aN,aR,aq,ar,aD,⟨S4,hE4,f9,f10,hN⟩⟩
  ·refine aI cQ ?_
   exact ⟨ax,fun _=>rfl,az,aA,aF,aH,aE,aM,aN,aR,aq,ar,aD,⟨S4,hE4,f9,f10,hN⟩⟩
  ·obtain rfl:=ay ‹_›
   obtain ⟨R,hI⟩:=hN.inv; refine aX hI 0 cP e4 rfl ?_
   exact ⟨ax,ay,fun _=>rfl,aA,aF,aH,aE,aM,aN,aR,aq,ar,aD,⟨S4,hE4,f9,f10,hN⟩⟩
  ·refine aI cD ?_
   exact ⟨ax,ay,az,fun _=>rfl,aF,aH,aE,aM,aN,aR,aq,ar,aD,⟨S4,hE4,f9,f10,hN⟩⟩
  ·obtain rfl:=aA ‹_›
   obtain ⟨R,hI⟩:=hN.inv; refine aX hI 3 aJ e9 rfl ?_
   exact ⟨ax,ay,az,aA,fun _=>rfl,aH,aE,aM,aN,aR,aq,ar,aD,⟨S4,hE4,f9,f10,hN⟩⟩
  ·exact ⟨ax,ay,az,aA,aF,fun _=>rfl,aE,aM,aN,aR,aq,ar,aD,⟨S4,hE4,f9,f10,hN⟩⟩
  ·exact ⟨ax,ay,az,aA,aF,aH,fun _=>rfl,aM,aN,aR,aq,ar,aD,⟨S4,hE4,f9,f10,hN⟩⟩
  ·refine aI mZ ?_
   exact ⟨ax,ay,az,aA,aF,aH,aE,fun _=>rfl,aN,aR,aq,ar,aD,⟨S4,hE4,f9,f10,hN⟩⟩
  ·obtain rfl:=aM ‹_›
   obtain ⟨R,hI⟩:=hN.inv; refine aX hI 1 eG e5 rfl ?_
   exact ⟨ax,ay,az,aA,aF,aH,aE,aM,fun _=>rfl,aR,aq,ar,aD,⟨S4,hE4,f9,f10,hN⟩⟩
  ·obtain rfl:=aF ‹_›
   obtain rfl:=aH ‹_›
   obtain rfl:=aE ‹_›
   obtain rfl:=aN ‹_›
   obtain ⟨R,hI,hback⟩:=hN.ex (fun S S' q hs hq=>by obtain ⟨v,e,h⟩:=hq; exact ⟨v,e,h.monoG hs⟩)
   refine Run.call0E rC r7 hI (hcalls S4 hE4.1) fun v I' S4 w_=>?_
   rintro ⟨rfl,hg⟩ hE5 hI
   rw [List.append_nil] at hI
   have hN:=hback S4 _ hE5.1 hI
   have hE4:=hE4.trans hE5
   have f9:=fun (_:ah D 9 9=true)=>hg
   have f10:ah D 9 10=true->∃ v,wJ=.agg #[v,kvU g (c.binds.length+m) cap,.slice sca s.chs.length scc]/\RdSl S4 5 (RdG S4) v gl:=fun h=>(f10 h).imp fun v hv=>⟨hv.1,hv.2.monoG hE5.1⟩
   exact ⟨ax,ay,az,aA,aF,aH,aE,aM,aN,fun _=>by first|assumption|trivial,aq,ar,aD,⟨S4,hE4,f9,f10,hN⟩⟩
  ·obtain rfl:=ax ‹_›
   obtain rfl:=az ‹_›
   have Ge:=aR ‹_›
   have hg9:=f9 ‹D 9=true›
   obtain ⟨ga,gc,rfl,_⟩:=id hg9
   refine JA ?_
   have f10:ah D 10 10=true->∃ v,Value.agg #[.slice ga gl.length gc,kvU g (c.binds.length+m) cap,.slice sca s.chs.length scc]=.agg #[v,kvU g (c.binds.length+m) cap,.slice sca s.chs.length scc]/\RdSl S4 5 (RdG S4) v gl:=fun _=>⟨_,rfl,hg9⟩
   exact ⟨ax,ay,az,aA,aF,aH,aE,aM,aN,aR,fun _=>by first|assumption|trivial,ar,aD,⟨S4,hE4,f9,f10,hN⟩⟩
  ·refine nwP.alloc hN bX fx rfl fun v w_ hN=>?_
   exact ⟨ax,ay,az,aA,aF,aH,aE,aM,aN,aR,aq,fun _=>by first|assumption|trivial,aD,⟨S4,hE4,f9,f10,hN⟩⟩
  ·have MI:=ar ‹_›
   have wv:=aq ‹_›
   obtain ⟨v,rfl,hv⟩:=f10 ‹D 10=true›
   refine nwP.store hN ‹D 11=true› bX cb rfl rfl (by obtain ⟨ga,gc,rfl,_⟩:=id hv; simp [Value.oneCell']) ⟨v,rfl,hv⟩ fun w_ hN=>?_
   exact ⟨ax,ay,az,aA,aF,aH,aE,aM,aN,aR,aq,ar,fun _=>trivial,⟨S4,hE4,f9,f10,hN⟩⟩
  have MI:=ar ‹_›
  have wv:=aq ‹_›
  have Ge:=aR ‹_›
  obtain rfl:=aN ‹_›
  obtain rfl:=aM ‹_›
  obtain rfl:=aE ‹_›
  obtain rfl:=aH ‹_›
  obtain rfl:=aF ‹_›
  obtain rfl:=aA ‹_›
  obtain rfl:=az ‹_›
  obtain rfl:=ay ‹_›
  obtain rfl:=ax ‹_›
  have sR:D 11=true:=by assumption
  have HJ:D 12=true:=by assumption
  clear ax ay az aA aF aH aE aM aN aR aq ar aD
  rw [sR,HJ] at hN
  obtain ⟨b13,q13,rfl,⟨gv,rfl,hgv⟩,hI⟩:=hN.fin
  have hI:Inv w [] [B4,B5,B6,B9,.blk b13 (.cells #[gv,kvU g (c.binds.length+m) cap,.slice sca s.chs.length scc] bU)] S4 w_:=hI
  have hE04:=hE03.trans hE4
  refine ⟨fun w'=>∃ S5 cv,Ext w.heap.size [] S4 S5/\RdSl S5 7 (RdCh S5) cv (s.chs++(if c.left.drop (j+1)=[] then [] else [⟨c.goal,c.rest,c.left.drop (j+1),c.binds⟩]))/\Inv w [] [B4,B5,B6,B9,.blk b13 (.cells #[gv,kvU g (c.binds.length+m) cap,cv] bU)] S5 w',?_,?_⟩
  ·refine bT (by omega) ?_
   refine ao hI 1 e5 cO gU rfl ?_
   refine bp hle cX ?_
   refine cg ?_
   refine bz (fun hmo=>?_) (fun hmo=>?_)
   ·have hne:c.left.drop (j+1)≠[]:=fun e=>by have:=congrArg List.length e; rw [List.length_drop] at this; simp at this; omega
    rw [if_neg hne]
    obtain ⟨mc,hmc⟩:∃ mc:Ch,mc=⟨c.goal,c.rest,c.left.drop (j+1),c.binds⟩:=⟨_,rfl⟩
    rw [<- hmc]
    refine ⟨fun D wH MV MZ K2 IH IB J3 JZ Kn K4 Lk J0 JY w_=>(D 0=true->JY=.pointer (some ⟨b5,0,none⟩))/\(D 1=true->J0=.agg #[.int .i64 c.goal.kind,.int .i64 c.goal.n,.string c.goal.name,kv])/\(D 2=true->Lk=.pointer (some ⟨b5,4,none⟩))/\(D 3=true->K4=.slice ra c.rest.length rc)/\(D 4=true->Kn=.pointer (some ⟨b5,5,none⟩))/\(D 5=true->JZ=lv)/\(D 6=true->J3=.int .i64 (j:Int))/\(D 7=true->IB=.int .i64 ((j+1:Nat):Int))/\(D 8=true->RdSl S 1 gt IH (c.left.drop (j+1)))/\(D 9=true->K2=.pointer (some ⟨b5,6,none⟩))/\(D 10=true->MZ=.slice ba c.binds.length bc)/\(D 11=true->True)/\(D 12=true->True)/\(D 13=true->True)/\(D 11=true->∃ la ln lc,MV=.agg #[.int .i64 c.goal.kind,.int .i64 c.goal.n,.string c.goal.name,kv,.slice ra c.rest.length rc,.slice la ln lc,.slice ba c.binds.length bc]/\RdSl S 1 gt (.slice la ln lc) (c.left.drop (j+1)))/\nwP w [] [B4,B5,B6,B9,.blk b13 (.cells #[gv,kvU g (c.binds.length+m) cap,.slice sca s.chs.length scc] bU)] cn zCh (fun _ q=>∃ la ln lc,q=#[.int .i64 c.goal.kind,.int .i64 c.goal.n,.string c.goal.name,kv,.slice ra c.rest.length rc,.slice la ln lc,.slice ba c.binds.length bc]/\RdSl S 1 gt (.slice la ln lc) (c.left.drop (j+1))) (D 12) (D 13) wH S4 w_,⟨ac,ac,ac,ac,ac,ac,ac,ac,ac,ac,ac,ac,ac,ac,⟨ac,nwP.mk hI.draw _⟩⟩,⟨?_,?_,?_,?_,?_,?_,?_,?_,?_,?_,?_,?_,?_,?_,trivial⟩,?_⟩
    all_goals (intro D bX; intros; rename_i wH MV MZ K2 IH IB J3 JZ Kn K4 Lk J0 JY w_ hA_; obtain ⟨ax,ay,az,aA,aF,aH,aE,aM,aN,aR,aq,ar,aD,aP,⟨f11,hN⟩⟩:=hA_)
    ·refine aI i4 ?_
     exact ⟨fun _=>rfl,ay,az,aA,aF,aH,aE,aM,aN,aR,aq,ar,aD,aP,⟨f11,hN⟩⟩
    ·obtain rfl:=ax ‹_›
     obtain ⟨R,hI⟩:=hN.inv; refine cN hI 1 [.int .i64 c.goal.kind,.int .i64 c.goal.n,.string c.goal.name,kv] ai e5 rfl KH ?_
     exact ⟨ax,fun _=>rfl,az,aA,aF,aH,aE,aM,aN,aR,aq,ar,aD,aP,⟨f11,hN⟩⟩
    ·refine aI mZ ?_
     exact ⟨ax,ay,fun _=>rfl,aA,aF,aH,aE,aM,aN,aR,aq,ar,aD,aP,⟨f11,hN⟩⟩
    ·obtain rfl:=az ‹_›
     obtain ⟨R,hI⟩:=hN.inv; refine aX hI 1 eG e5 rfl ?_
     exact ⟨ax,ay,az,fun _=>rfl,aF,aH,aE,aM,aN,aR,aq,ar,aD,aP,⟨f11,hN⟩⟩
    ·refine aI cO ?_
     exact ⟨ax,ay,az,aA,fun _=>rfl,aH,aE,aM,aN,aR,aq,ar,aD,aP,⟨f11,hN⟩⟩
    ·obtain rfl:=aF ‹_›
     obtain ⟨R,hI⟩:=hN.inv; refine aX hI 1 gU e5 rfl ?_
     exact ⟨ax,ay,az,aA,aF,fun _=>rfl,aE,aM,aN,aR,aq,ar,aD,aP,⟨f11,hN⟩⟩
    ·exact ⟨ax,ay,az,aA,aF,aH,fun _=>rfl,aM,aN,aR,aq,ar,aD,aP,⟨f11,hN⟩⟩
    ·obtain rfl:=aE ‹_›
     refine bT (by omega) ?_; rw [show ((j:Int)+1)=((j+1:Nat):Int) by omega]
     exact ⟨ax,ay,az,aA,aF,aH,aE,fun _=>rfl,aN,aR,aq,ar,aD,aP,⟨f11,hN⟩⟩
    ·obtain rfl:=aH ‹_›
     obtain rfl:=aM ‹_›
     refine hK cX hle (by omega) fun v' hv'=>?_
     exact ⟨ax,ay,az,aA,aF,aH,aE,aM,fun _=>by first|assumption|trivial,aR,aq,ar,aD,aP,⟨f11,hN⟩⟩
    ·refine aI iK ?_
     exact ⟨ax,ay,az,aA,aF,aH,aE,aM,aN,fun _=>rfl,aq,ar,aD,aP,⟨f11,hN⟩⟩
    ·obtain rfl:=aR ‹_›
     obtain ⟨R,hI⟩:=hN.inv; refine aX hI 1 aJ e5 rfl ?_
     exact ⟨ax,ay,az,aA,aF,aH,aE,aM,aN,aR,fun _=>rfl,ar,aD,aP,⟨f11,hN⟩⟩
    ·obtain rfl:=ay ‹_›
     obtain rfl:=aA ‹_›
     have BL:=aN ‹_›
     obtain rfl:=aq ‹_›
     obtain ⟨la,lc,rfl,_⟩:=id BL
     refine AM ?_
     have f11:ah D 11 11=true->∃ la ln lc,Value.agg #[.int .i64 c.goal.kind,.int .i64 c.goal.n,.string c.goal.name,kv,.slice ra c.rest.length rc,.slice _ _ _,.slice ba c.binds.length bc]=.agg #[.int .i64 c.goal.kind,.int .i64 c.goal.n,.string c.goal.name,kv,.slice ra c.rest.length rc,.slice la ln lc,.slice ba c.binds.length bc]/\RdSl S 1 gt (.slice la ln lc) (c.left.drop (j+1)):=fun _=>⟨_,_,_,rfl,BL⟩
     exact ⟨ax,ay,az,aA,aF,aH,aE,aM,aN,aR,aq,fun _=>by first|assumption|trivial,aD,aP,⟨f11,hN⟩⟩
    ·refine nwP.alloc hN bX iy rfl fun v w_ hN=>?_
     exact ⟨ax,ay,az,aA,aF,aH,aE,aM,aN,aR,aq,ar,fun _=>by first|assumption|trivial,aP,⟨f11,hN⟩⟩
    ·have Ow:=aD ‹_›
     have MI:=ar ‹_›
     obtain ⟨la,ln,lc,rfl,hv⟩:=f11 ‹D 11=true›
     refine nwP.store hN ‹D 12=true› bX cR rfl rfl (RdCh.one (S:=S) (c:=⟨c.goal,c.rest,c.left.drop (j+1),c.binds⟩) ⟨_,_,_,_,rfl,hgo0,hre,hv,hbi⟩) ⟨la,ln,lc,rfl,hv⟩ fun w_ hN=>?_
     exact ⟨ax,ay,az,aA,aF,aH,aE,aM,aN,aR,aq,ar,aD,fun _=>trivial,⟨f11,hN⟩⟩
    have Ow:=aD ‹_›
    have MI:=ar ‹_›
    obtain rfl:=aq ‹_›
    obtain rfl:=aR ‹_›
    have BL:=aN ‹_›
    obtain rfl:=aM ‹_›
    obtain rfl:=aE ‹_›
    obtain rfl:=aH ‹_›
    obtain rfl:=aF ‹_›
    obtain rfl:=aA ‹_›
    obtain rfl:=az ‹_›
    obtain rfl:=ay ‹_›
    obtain rfl:=ax ‹_›
    have HJ:D 12=true:=by assumption
    have OG:D 13=true:=by assumption
    clear ax ay az aA aF aH aE aM aN aR aq ar aD aP
    rw [HJ,OG] at hN
    obtain ⟨b14,q14,rfl,⟨la,ln,lc,rfl,hlv⟩,hI⟩:=hN.fin
    obtain ⟨B14,hB14⟩:∃ B:Item,B=.blk b14 (.cells #[.int .i64 c.goal.kind,.int .i64 c.goal.n,.string c.goal.name,kv,.slice ra c.rest.length rc,.slice la ln lc,.slice ba c.binds.length bc] cn):=⟨_,rfl⟩
    have e14:=congrArg some hB14
    have hI:Inv w [] ([B4,B5,B6,B9,B14]++[.blk b13 (.cells #[gv,kvU g (c.binds.length+m) cap,.slice sca s.chs.length scc] bU)]) S4 w_:=by
     rw [hB14]
     exact hI.perm (((List.Perm.swap _ _ _).cons _ |>.cons _ |>.cons _ |>.cons _))
    have hmr:RdCh S4 [.int .i64 c.goal.kind,.int .i64 c.goal.n,.string c.goal.name,kv,.slice ra c.rest.length rc,.slice la ln lc,.slice ba c.binds.length bc] mc:=by
     rw [hmc]
     exact ⟨_,_,_,_,rfl,hgo0.mono hE04.1,hre.monoG hE04.1,hlv.mono hE04.1 fun _ _ h=>h,hbi.monoO hE04.1⟩
    have hsc4:=hsc.monoCh hE04.1
    refine ⟨fun D IQ JW Jr KO JX MS MR LI w_=>(D 0=true->True)/\(D 1=true->MR=.pointer (some ⟨b4,2,none⟩))/\(D 2=true->MS=.slice sca s.chs.length scc)/\(D 3=true->True)/\(D 4=true->KO=.agg #[.int .i64 c.goal.kind,.int .i64 c.goal.n,.string c.goal.name,kv,.slice ra c.rest.length rc,.slice la ln lc,.slice ba c.binds.length bc])/\(D 5=true->True)/\(D 6=true->True)/\(D 7=true->IQ=.pointer (some ⟨b13,2,none⟩))/\(D 8=true->True)/\∃ n_:Nat,n_<=3/\D 0=decide (1<=n_)/\D 3=decide (2<=n_)/\D 6=decide (3<=n_)/\(apP w [] (fun cv=>[B4,B5,B6,B9,B14]++[.blk b13 (.cells #[gv,kvU g (c.binds.length+m) cap,cv] bU)]) (.slice sca s.chs.length scc) cn 7 RdCh s.chs mc S4 (D 5) (D 8) LI JX Jr JW w_ n_),⟨ac,ac,ac,ac,ac,ac,ac,ac,ac,⟨0,Nat.zero_le _,rfl,rfl,rfl,apP.mk hI.draw _ _ _ _⟩⟩,⟨?_,?_,?_,?_,?_,?_,?_,?_,?_,trivial⟩,?_⟩
    all_goals (intro D bX; intros; rename_i IQ JW Jr KO JX MS MR LI w_ hA_; obtain ⟨ax,ay,az,aA,aF,aH,aE,aM,aN,⟨n_,ln_,e1_,e2_,e3_,hS⟩⟩:=hA_)
    ·obtain rfl:n_=0:=vo e1_ bX
     refine Mi hS dC fun v w_ hS=>?_
     exact ⟨fun _=>by first|assumption|trivial,ay,az,aA,aF,aH,aE,aM,aN,⟨1,by decide,rfl,(by first|exact e2_|rfl),(by first|exact e3_|rfl),hS⟩⟩
    ·refine aI cQ ?_
     exact ⟨ax,fun _=>rfl,az,aA,aF,aH,aE,aM,aN,⟨n_,ln_,e1_,e2_,e3_,hS⟩⟩
    ·obtain rfl:=ay ‹_›
     obtain ⟨S5,cv,R,hE5,hI⟩:=hS.inv; refine aX hI 0 cP e4 rfl ?_
     exact ⟨ax,ay,fun _=>rfl,aA,aF,aH,aE,aM,aN,⟨n_,ln_,e1_,e2_,e3_,hS⟩⟩
    ·have Ol:=ax ‹_›
     obtain rfl:=az ‹_›
     obtain rfl:n_=1:=gf e1_ ‹D 0=true› e2_ bX
     refine LP chM hS dC (by omega) hsc4 chL chO (by omega) (by omega) fun v w_ hS=>?_
     exact ⟨ax,ay,az,fun _=>by first|assumption|trivial,aF,aH,aE,aM,aN,⟨2,by decide,(by first|exact e1_|rfl),rfl,(by first|exact e3_|rfl),hS⟩⟩
    ·obtain ⟨S5,cv,R,hE5,hI⟩:=hS.inv; refine aL hI 4 cR e14 rfl ?_
     exact ⟨ax,ay,az,aA,fun _=>rfl,aH,aE,aM,aN,⟨n_,ln_,e1_,e2_,e3_,hS⟩⟩
    ·obtain rfl:=aF ‹_›
     refine Me chM hS dC (by omega) (by omega) rfl hmr chL fun v w_ hS=>?_
     exact ⟨ax,ay,az,aA,aF,fun _=>by first|assumption|trivial,aE,aM,aN,⟨n_,ln_,e1_,e2_,e3_,hS⟩⟩
    ·have Gu:=aA ‹_›
     have Kz:=aH ‹_›
     obtain rfl:n_=2:=gf e2_ ‹D 3=true› e3_ bX
     refine LY chM hS ‹D 5=true› dC (by omega) chL chO (by omega) (by omega) fun v w_ hS=>?_
     exact ⟨ax,ay,az,aA,aF,aH,fun _=>by first|assumption|trivial,aM,aN,⟨3,by decide,(by first|exact e1_|rfl),(by first|exact e2_|rfl),rfl,hS⟩⟩
    ·refine aI cQ ?_
     exact ⟨ax,ay,az,aA,aF,aH,aE,fun _=>rfl,aN,⟨n_,ln_,e1_,e2_,e3_,hS⟩⟩
    ·obtain rfl:=aM ‹_›
     have JC:=aE ‹_›
     have hn3:=kq ln_ e3_ ‹D 6=true›
     have hS3:=hS
     rw [hn3] at hS3
     rw [bX] at hS3
     refine LX (C:=fun cv=>#[gv,kvU g (c.binds.length+m) cap,cv]) (fun _=>rfl) hS3 cP (fun _ _=>rfl) (fun _=>show 2<3 by decide) fun w_ hS4=>?_
     have hS:apP w [] (fun cv=>[B4,B5,B6,B9,B14]++[.blk b13 (.cells #[gv,kvU g (c.binds.length+m) cap,cv] bU)]) (.slice sca s.chs.length scc) cn 7 RdCh s.chs mc S4 (ah D 8 5) (ah D 8 8) LI JX Jr JW w_ n_:=by rw [hn3]; exact hS4
     exact ⟨ax,ay,az,aA,aF,aH,aE,aM,fun _=>trivial,⟨n_,ln_,e1_,e2_,e3_,hS⟩⟩
    obtain rfl:n_=3:=kq ln_ e3_ ‹D 6=true›
    have zn:D 8=true:=by assumption
    clear e1_ e2_ e3_
    rw [zn] at hS
    obtain ⟨S5,cv,hE5,hcv,hI⟩:=hS.fin
    exact ⟨S5,cv,hE5,hcv,hI.pick [true,true,true,true,false,true]⟩
   ·have hnil:c.left.drop (j+1)=[]:=List.eq_nil_of_length_eq_zero (by rw [List.length_drop]; omega)
    rw [if_pos hnil,List.append_nil]
    exact ⟨S4,_,Ext.refl _ _ _,hsc.monoCh hE04.1,hI⟩
  intro _ _ _ _ _ _ _ _ _ _ _ _ _ _ _ _ _ _ _ _ _ _ _ _ _ _ _ w'
  rintro ⟨S5,cv,hE5,hcv,hI⟩
  refine aL hI 4 cb rfl rfl ?_
  have hones:∀ x∈([gv,kvU g (c.binds.length+m) cap,cv]:List Value),x.oneCell'=true:=by
   intro x hx
   simp only [List.mem_cons,List.not_mem_nil,or_false] at hx
   rcases hx with rfl|rfl|rfl
   ·exact hgv.sl
   ·rfl
   ·exact hcv.sl
  refine aG (cs:=#[gv,kvU g (c.binds.length+m) cap,cv]) hI 2 e6 cb rfl rfl hones fun w' hI=>?_
  refine bE hI 2 cb rfl rfl ?_
  refine ⟨_,[],S5,rfl,hI.nil,hE04.trans hE5,rfl,_,rfl,gv,_,cv,rfl,?_,htb.monoO (hE4.trans hE5).1,hcv⟩
  simp only [Option.getD_some,jq]
  rw [hgle] at hgv
  exact hgv.monoG hE5.1
 ·have:j=c.left.length:=by omega
  subst this
  rw [List.drop_length] at hT
  cases hT
  refine aL hI 0 cb e4 rfl ?_
  refine aG (cs:=#[gs,sb,.slice sca s.chs.length scc]) hI 2 e6 cb rfl rfl (by simpa using hs.one) fun w' hI=>?_
  refine bE hI 2 cb rfl rfl ?_
  exact ⟨_,[],S1,rfl,hI.nil,hE,rfl,_,rfl,(hs.mono hE.1)⟩
end
end Go.Proofs.YtfcbhfjomgopbaaGreat
