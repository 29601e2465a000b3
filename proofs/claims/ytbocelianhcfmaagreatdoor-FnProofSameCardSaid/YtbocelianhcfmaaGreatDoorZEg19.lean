/- spec: the variables of a proof (l13Vars). -/
import Derived.Test.YtbocelianhcfmaaGreatDoorZEg17
import Derived.Test.YtbocelianhcfmaaGreatDoorZEg13
import Derived.Test.YtbocelianhcfmaaGreatDoorZEg18
import Derived.Test.YtbocelianhcfmaaGreatDoorZEg14
import Derived.Test.YtbocelianhcfmaaGreatDoorZEg15
namespace Go.Proofs.YtbocelianhcfmaaGreatDoor
section
open Go Go.RowKit
mutual
def pvT:PF->List Int->List Int
 | .mk g _ ks,l=>pvL ks (dZ g l)
def pvL:List PF->List Int->List Int
 | [],l=>l
 | p::ps,l=>pvL ps (pvT p l)
end
mutual
def pcT:PF->Int
 | .mk g _ ks=>dl g+pcL ks
def pcL:List PF->Int
 | []=>0
 | p::ps=>pcT p+pcL ps
end
mutual
theorem JI:∀ p:PF,0<=pcT p
 | .mk g _ ks=>by
  have:=fG g
  have:=xR ks
  rw [pcT]; omega
theorem xR:∀ ps:List PF,0<=pcL ps
 | []=>by rw [pcL]; omega
 | p::ps=>by
  have:=JI p
  have:=xR ps
  rw [pcL]; omega
end
mutual
theorem H6:∀ (p:PF) (l:List Int),((pvT p l).length:Int)<=l.length+pcT p
 | .mk g _ ks,l=>by
  have h1:=lS g l
  have h2:=MJ ks (dZ g l)
  rw [pvT,pcT]; omega
theorem MJ:∀ (ps:List PF) (l:List Int),((pvL ps l).length:Int)<=l.length+pcL ps
 | [],l=>by rw [pvL,pcL]; omega
 | p::ps,l=>by
  have h1:=H6 p l
  have h2:=MJ ps (pvT p l)
  rw [pvL,pcL]; omega
end
theorem KH (ps:List PF) (j:Nat) (h:j<ps.length) (l:List Int):pvL (ps.drop j) l=pvL (ps.drop (j+1)) (pvT ps[j] l):=by
 rw [List.drop_eq_getElem_cons h,pvL]
theorem KT (ps:List PF) (j:Nat) (h:j<ps.length):pcL (ps.drop j)=pcT ps[j]+pcL (ps.drop (j+1)):=by
 rw [List.drop_eq_getElem_cons h,pcL]
section
attribute [local irreducible] Run CondV ar aI
theorem Am:∀ (p:PF) (S:ae) (cs:List Value) (v:Value) (l:List Int),RdF S cs p->l.length+pcT p<=1000000000->Tri Tryz.prog FE [v,.agg cs.toArray] [fY v l] S (EY S (pvT p l)):=by
 refine PF.ind fun g c ks ih S cs v l h hl=>?_
 intro w hI
 obtain ⟨kv,kp,rfl,hg,_,hks⟩:=RdF.iff.1 h
 simp only [PF.goal,PF.clause,PF.kids] at hg hks ⊢
 have hlen:=hks.le
 simp only [maxLen] at hlen
 rw [pcT] at hl
 have hcp:=xR ks
 refine sr.2 ?_
 dsimp only[sr,aY]
 refine be hI fun b3 w' hI=>?_
 have hI:Inv w (bz [fY v l]) [.blk b3 (.cells #[.int .i64 g.kind,.int .i64 g.n,.string g.name,kv,.int .i64 c,kp] af),fY v l] S w':=hI.perm (List.Perm.swap _ _ _)
 refine ao cZ ?_
 refine b0 hI 0 [.int .i64 g.kind,.int .i64 g.n,.string g.name,kv] ac rfl rfl nu ?_
 refine Run.call (A:=[_]) iy ir hI (ja g S _ v l hg (by omega)) fun v' I' S' w'=>?_
 rintro ⟨rfl,rfl⟩ _ hI
 have hl1:=lS g l
 refine ⟨fun i t w'=>∃ (j:Nat) (r:List Int),j<=ks.length/\i=.int .i64 j/\pvL (ks.drop j) r=pvT (.mk g c ks) l/\r.length+pcL (ks.drop j)<=1000000000/\
   Inv w (bz [fY v l]) [.blk b3 (.cells #[.int .i64 g.kind,.int .i64 g.n,.string g.name,kv,.int .i64 c,kp] af),fY t r] S' w',
  fun i _ _=>ks.length - (intOf i).toNat,⟨0,_,Nat.zero_le _,rfl,by rw [List.drop_zero,pvT],by rw [List.drop_zero]; omega,hI⟩,?_⟩
 intro t5 _ _ t0 _ _ _ _ _ _ _ _ _ _ _ _ w'
 rintro ⟨j,r,hj,rfl,hvs,hr,hI⟩
 refine ad hI 0 rfl aW aZ rfl ?_
 refine aK hks bl ?_
 refine bD ?_
 refine aN (fun hji=>?_) (fun hji=>?_)
 ·have hj':j<ks.length:=by omega
  rw [KH ks j hj'] at hvs
  rw [KT ks j hj'] at hr
  have hp1:=xR (ks.drop (j+1))
  have hp2:=H6 ks[j] r
  refine ad hI 0 rfl aW aZ rfl ?_
  refine bP hI hks bl aq hj' (fun _ _=>RdF.length) fun cs' hcs'=>?_
  refine Run.call (A:=[_]) ud td hI (ih _ (List.getElem_mem hj') S' cs' t0 r hcs' (by omega)) fun v' I' S2 w'=>?_
  rintro ⟨rfl,rfl⟩ _ hI
  refine bm (by omega) ?_
  exact ⟨⟨j+1,_,hj',rfl,hvs,by omega,hI⟩,by simp [intOf]; omega⟩
 have:j=ks.length:=by omega
 subst this
 rw [List.drop_length,pvL] at hvs
 subst hvs
 exact ⟨_,_,_,rfl,hI.pick [false,true],Ext.refl _ _ _,rfl,rfl⟩
end
end
section
open Go Go.RowKit
inductive BKd where
 | one
 | many (n:Nat)
inductive BldR (st:aG):BKd->List Sp->Option (List PF × List Sp)->Prop
 | big {x:Sp} {l:List Sp} {u:T}:Res st (.one x.goal u)->ch u=false->BldR st .one (x::l) none
 | bad {x:Sp} {l:List Sp} {u:T}:Res st (.one x.goal u)->ch u=true->BldR st (.many x.body.toNat) l none->BldR st .one (x::l) none
 | node {x:Sp} {l l1:List Sp} {u:T} {ks:List PF}:Res st (.one x.goal u)->ch u=true->BldR st (.many x.body.toNat) l (some (ks,l1))->BldR st .one (x::l) (some ([.mk u x.clause ks],l1))
 | nil {l:List Sp}:BldR st (.many 0) l (some ([],l))
 | stop {n:Nat} {l:List Sp}:BldR st .one l none->BldR st (.many (n+1)) l none
 | next {n:Nat} {l l1:List Sp} {k:PF}:BldR st .one l (some ([k],l1))->BldR st (.many n) l1 none->BldR st (.many (n+1)) l none
 | cons {n:Nat} {l l1 l2:List Sp} {k:PF} {ks:List PF}:BldR st .one l (some ([k],l1))->BldR st (.many n) l1 (some (ks,l2))->BldR st (.many (n+1)) l (some (k::ks,l2))
theorem BldR.suf {st:aG} {j:BKd} {l:List Sp} {o:Option (List PF × List Sp)} (h:BldR st j l o):∀ ks l2,o=some (ks,l2)->∃ a,l=a++l2:=by
 induction h with
 | big=>intro ks l2 h; cases h
 | bad=>intro ks l2 h; cases h
 | stop=>intro ks l2 h; cases h
 | next=>intro ks l2 h; cases h
 | nil=>
  intro ks l2 h
  simp only [Option.some.injEq,Prod.mk.injEq] at h
  obtain ⟨rfl,rfl⟩:=h
  exact ⟨[],rfl⟩
 | @node x _ _ _ _ _ _ _ ih=>
  intro ks l2 h
  simp only [Option.some.injEq,Prod.mk.injEq] at h
  obtain ⟨rfl,rfl⟩:=h
  obtain ⟨a,rfl⟩:=ih _ _ rfl
  exact ⟨x::a,rfl⟩
 | cons _ _ ih1 ih2=>
  intro ks l2 h
  simp only [Option.some.injEq,Prod.mk.injEq] at h
  obtain ⟨rfl,rfl⟩:=h
  obtain ⟨a,rfl⟩:=ih1 _ _ rfl
  obtain ⟨b,rfl⟩:=ih2 _ _ rfl
  exact ⟨a++b,by rw [List.append_assoc]⟩
def oN:Nat->List Sp->Prop
 | 0,_=>True
 | _+1,[]=>False
 | k+1,x::l=>oN (k+x.body.toNat) l
theorem Jd:∀ (b a:List Sp) (k:Nat),openP (a++b)->lw (a++b)=0->lw a=k->(∀ x∈b,0<=x.body)->oN k b
 | [],a,k,_,h0,hk,_=>by
  rw [List.append_nil] at h0
  have:k=0:=by omega
  subst this
  trivial
 | x::b,a,k,ho,h0,hk,hb=>by
  have h1:=ho a (x::b) rfl (by simp)
  obtain ⟨m,rfl⟩:∃ m:Nat,k=m+1:=⟨k - 1,by omega⟩
  have hx:=hb x (List.mem_cons_self ..)
  rw [oN]
  refine Jd b (a++[x]) _ ?_ ?_ ?_ fun y hy=>hb y (List.mem_cons_of_mem _ hy)
  ·rw [List.append_assoc]; exact ho
  ·rw [List.append_assoc]; exact h0
  ·rw [uB]; omega
theorem M2 {N:Nat} {st:aG} (hg:Good N st):∀ (L:Nat) (l:List Sp),l.length<=L->okLp N l->
  (∀ m,oN (m+1) l->∃ o,BldR st .one l o/\∀ ks l2,o=some (ks,l2)->∃ k,ks=[k]/\oN m l2)/\
  (∀ n m,oN (m+n) l->∃ o,BldR st (.many n) l o/\∀ ks l2,o=some (ks,l2)->ks.length=n/\oN m l2):=by
 intro L
 induction L with
 | zero=>
  intro l hl _
  have:=List.eq_nil_of_length_eq_zero (Nat.le_zero.1 hl)
  subst this
  refine ⟨fun m h=>h.elim,fun n m h=>?_⟩
  cases n with
  | zero=>
   refine ⟨_,.nil,fun ks l2 e=>?_⟩
   simp only [Option.some.injEq,Prod.mk.injEq] at e
   obtain ⟨rfl,rfl⟩:=e
   exact ⟨rfl,h⟩
  | succ n=>exact h.elim
 | succ L ih=>
  intro l hl hok
  have hone:∀ (l:List Sp),l.length<=L+1->okLp N l->∀ m,oN (m+1) l->∃ o,BldR st .one l o/\∀ ks l2,o=some (ks,l2)->∃ k,ks=[k]/\oN m l2:=by
   intro l hl hok m hm
   cases l with
   | nil=>exact hm.elim
   | cons x l=>
    obtain ⟨⟨ho,_⟩,_⟩:=hok x (List.mem_cons_self ..)
    obtain ⟨u,hu⟩:=Lj hg x.goal ho
    cases hsm:ch u with
    | false=>exact ⟨_,.big hu hsm,fun _ _ e=>by cases e⟩
    | true=>
     rw [oN] at hm
     obtain ⟨o,h1,h2⟩:=(ih l (by simpa using hl) fun y hy=>hok y (List.mem_cons_of_mem _ hy)).2 x.body.toNat m hm
     match o,h1,h2 with
     | none,h1,_=>exact ⟨_,.bad hu hsm h1,fun _ _ e=>by cases e⟩
     | some (ks,l1),h1,h2=>
      refine ⟨_,.node hu hsm h1,fun ks' l2 e=>?_⟩
      simp only [Option.some.injEq,Prod.mk.injEq] at e
      obtain ⟨rfl,rfl⟩:=e
      exact ⟨_,rfl,(h2 _ _ rfl).2⟩
  refine ⟨hone l hl hok,?_⟩
  intro n
  induction n generalizing l with
  | zero=>
   intro m hm
   refine ⟨_,.nil,fun ks l2 e=>?_⟩
   simp only [Option.some.injEq,Prod.mk.injEq] at e
   obtain ⟨rfl,rfl⟩:=e
   exact ⟨rfl,hm⟩
  | succ n ihn=>
   intro m hm
   obtain ⟨o,h1,h2⟩:=hone l hl hok (m+n) hm
   match o,h1,h2 with
   | none,h1,_=>exact ⟨_,.stop h1,fun _ _ e=>by cases e⟩
   | some (ks,l1),h1,h2=>
    obtain ⟨k,rfl,hk⟩:=h2 _ _ rfl
    obtain ⟨a,rfl⟩:=h1.suf _ _ rfl
    have hl1:l1.length<=L+1:=by rw [List.length_append] at hl; omega
    obtain ⟨o,h3,h4⟩:=ihn l1 hl1 (fun y hy=>hok y (List.mem_append_right _ hy)) m hk
    match o,h3,h4 with
    | none,h3,_=>exact ⟨_,.next h1 h3,fun _ _ e=>by cases e⟩
    | some (ks,l2),h3,h4=>
     refine ⟨_,.cons h1 h3,fun ks' l2' e=>?_⟩
     simp only [Option.some.injEq,Prod.mk.injEq] at e
     obtain ⟨rfl,rfl⟩:=e
     exact ⟨by rw [List.length_cons,(h4 _ _ rfl).1],(h4 _ _ rfl).2⟩
theorem O0 {n k:Nat} {s:Se} (hs:kT n s) (hp:okP s) (hg:s.st.goals=[]) (hx:okXk k s):∃ o,BldR s.st.binds .one s.steps o/\∀ ks l2,o=some (ks,l2)->∃ x,ks=[x]:=by
 have hn:oN 1 s.steps:=by
  refine Jd s.steps [] 1 hp.openP ?_ rfl fun x hx'=>(hx.steps x hx').2.1
  have:=hp.goals
  rw [hg] at this
  simpa using this.symm
 obtain ⟨o,h1,h2⟩:=(M2 hs.st.good _ s.steps (Nat.le_refl _) hx.steps).1 0 hn
 exact ⟨o,h1,fun ks l2 e=>(h2 ks l2 e).imp fun _ h=>h.1⟩
mutual
def pwT:PF->Prop
 | .mk g _ ks=>wT g<=840/\pwL ks
def pwL:List PF->Prop
 | []=>True
 | p::ps=>pwT p/\pwL ps
end
theorem JB:∀ {ps:List PF},pwL ps->∀ p∈ps,pwT p
 | p::ps,h,x,hx=>by
  rw [pwL] at h
  rcases List.mem_cons.1 hx with rfl|hx
  ·exact h.1
  ·exact JB h.2 x hx
theorem BldR.size {N:Nat} {st:aG} (hg:Good N st) {j:BKd} {l:List Sp} {o:Option (List PF × List Sp)} (h:BldR st j l o):okLp N l->∀ ks l2,o=some (ks,l2)->pcL ks+120 * (l2.length:Int)<=120 * (l.length:Int)/\pwL ks:=by
 induction h with
 | big=>intro _ ks l2 h; cases h
 | bad=>intro _ ks l2 h; cases h
 | stop=>intro _ ks l2 h; cases h
 | next=>intro _ ks l2 h; cases h
 | nil=>
  intro _ ks l2 h
  simp only [Option.some.injEq,Prod.mk.injEq] at h
  obtain ⟨rfl,rfl⟩:=h
  exact ⟨by rw [pcL]; omega,trivial⟩
 | @node x l _ u _ hu hsm _ ih=>
  intro ho ks l2 h
  simp only [Option.some.injEq,Prod.mk.injEq] at h
  obtain ⟨rfl,rfl⟩:=h
  obtain ⟨h1,h2⟩:=ih (fun y hy=>ho y (List.mem_cons_of_mem _ hy)) _ _ rfl
  have hou:okU N u:=jX hg hu (ho x (List.mem_cons_self ..)).1.1
  have hw:=j5 hsm hou
  rw [ch,Bool.and_eq_true] at hsm
  have hc:=of_decide_eq_true hsm.1
  refine ⟨?_,?_⟩
  ·rw [pcL,pcL,pcT,List.length_cons]; omega
  ·rw [pwL,pwT,pwL]; exact ⟨⟨hw,h2⟩,trivial⟩
 | @cons _ l l1 l2 k ks' h1 _ ih1 ih2=>
  intro ho ks l3 h
  simp only [Option.some.injEq,Prod.mk.injEq] at h
  obtain ⟨rfl,rfl⟩:=h
  obtain ⟨a,e⟩:=h1.suf _ _ rfl
  obtain ⟨q1,q2⟩:=ih1 ho _ _ rfl
  obtain ⟨q3,q4⟩:=ih2 (fun y hy=>ho y (by rw [e]; exact List.mem_append_right _ hy)) _ _ rfl
  rw [pcL,pcL] at q1
  rw [pwL] at q2
  refine ⟨?_,?_⟩
  ·rw [pcL]; omega
  ·rw [pwL]; exact ⟨q2.1,q4⟩
end
section
open Go Go.RowKit
section
attribute [local irreducible] Run CondV ar aI
theorem MQ {N:Nat} {st:aG} (hg:Good N st) {t v:T} (hw:dk st t v) (ht:okU N t) {S:ae} {cs:List Value} {v0:Value} (h:RdT S cs t) (hk:RdSl S 4 (RdO S) v0 st) (h0:0<N) :
  Tri Tryz.prog yv [.agg cs.toArray,v0] [] S fun r I' S'=>S'=S/\I'=[]/\∃ cs',r=.agg cs'.toArray/\RdT S cs' v:=by
 intro w hI
 obtain ⟨X,hX⟩:∃ X,X=bz []:=⟨_,rfl⟩
 rw [<- hX] at hI ⊢
 have hlN:=hg.len
 obtain ⟨r,hr⟩:=hg.rk
 obtain ⟨kb,o,kp,kc,E,fz,rfl,hSb,hT⟩:=hk.ptr (by omega)
 rw [hlN]
 refine j0.2 ?_
 dsimp only[j0,aY]
 refine be hI fun b2 w' hI=>?_
 refine aA hI aU fun b4 w' hI=>?_
 have hI:Inv w X [.blk b2 (.cells cs.toArray ab),.blk b4 (.cells #[.int .i64 0,.int .i64 0,.string ⟨#[]⟩,.slice none 0 0] ab)] S w':=hI
 refine ⟨fun w'=>∃ (t':T) (cs':List Value),dk st t' v/\okU N t'/\RdT S cs' t'/\Inv w X [.blk b2 (.cells cs'.toArray ab),.blk b4 (.cells #[.int .i64 0,.int .i64 0,.string ⟨#[]⟩,.slice none 0 0] ab)] S w',
  fun w'=>xh b2 r st w',⟨t,cs,hw,ht,h,hI⟩,?_⟩
 intro _ _ _ _ _ _ _ _ _ _ _ _ _ _ _ _ _ _ _ _ _ _ _ _ w'
 rintro ⟨t',cs',hw',ht',hcs',hI⟩
 have hrank:=um hI (i:=0) rfl hcs' r st
 have hcs0:=hcs'
 obtain ⟨kv,rfl,_⟩:=RdT.iff.1 hcs'
 refine ⟨fun q w'=>q=.bool (look st t').isSome/\Inv w X [.blk b2 (.cells #[.int .i64 t'.kind,.int .i64 t'.n,.string t'.name,kv] ab),.blk b4 (.cells #[.int .i64 0,.int .i64 0,.string ⟨#[]⟩,.slice none 0 0] ab)] S w',?_,?_⟩
 ·refine ad hI 0 rfl aM aw rfl ?_
  refine bh ?_
  by_cases hk1:t'.kind=1
  ·rw [decide_eq_true hk1]
   obtain ⟨hn0,hnN,_⟩:=ht'.var hk1
   obtain ⟨j,hj⟩:∃ j:Nat,t'.n=j:=⟨t'.n.toNat,by omega⟩
   have hjN:j<N:=by omega
   have hjs:j<st.length:=by omega
   refine rpG ?_
   refine ad hI 0 rfl aR aw rfl ?_
   refine dL ah ?_
   refine bD ?_
   rw [decide_eq_true hnN]
   refine rpG ?_
   refine ad hI 0 rfl aR aw rfl ?_
   rw [hj]
   refine ay ah hjN ?_
   refine ao aM ?_
   rw [Nat.add_zero]
   have hTj:=hT j hjs
   rw [hj] at hI
   have hlk:look st t'=st[j]:=by
    rw [look,if_pos hk1,hj,Int.toNat_natCast,List.getElem?_eq_getElem hjs]; rfl
   rw [hlk]
   cases hst2:st[j] with
   | none=>
    rw [hst2] at hTj
    have hcell:aL kc (o+j * 4) 4=j3:=hTj
    refine dd aw (by rw [hI.cellS hSb]; exact aD hcell 0 _ rfl) ?_
    refine dt ?_
    refine rpG ?_
    refine ⟨by simp,hI⟩
   | some t0=>
    rw [hst2] at hTj
    have hR:RdT S (aL kc (o+j * 4) 4) t0:=hTj
    have hk0:t0.kind≠0:=(hg.ok t0 (by rw [<- hst2]; exact List.getElem_mem hjs)).kind
    obtain ⟨kv0',hcell,_,_,_,_⟩:=RdT.iff.1 hR
    refine dd aw (by rw [hI.cellS hSb]; exact aD hcell 0 _ rfl) ?_
    refine dt ?_
    rw [decide_eq_false hk0]
    refine rpG ?_
    refine ⟨rfl,hI⟩
  ·rw [decide_eq_false hk1]
   refine rpG ?_
   refine ⟨?_,hI⟩
   rw [look,if_neg hk1]; rfl
 intro q _ _ _ _ _ _ _ _ _ _ _ _ _ _ _ _ _ _ w'
 rintro ⟨rfl,hI⟩
 refine av (fun hb=>?_) (fun hb=>?_)
 ·obtain ⟨u,hl⟩:=Option.isSome_iff_exists.1 hb
  obtain ⟨hk1,hs⟩:=eT.1 hl
  obtain ⟨hn0,hnN,_⟩:=ht'.var hk1
  obtain ⟨j,hj⟩:∃ j:Nat,t'.n=j:=⟨t'.n.toNat,by omega⟩
  have hjN:j<N:=by omega
  have hjs:j<st.length:=by omega
  rw [hj,Int.toNat_natCast] at hs
  have hst2:st[j]=some u:=by rw [List.getElem?_eq_getElem hjs,Option.some.injEq] at hs; exact hs
  have hR:RdT S (aL kc (o+j * 4) 4) u:=by
   have hTj:=hT j hjs
   rw [hst2] at hTj
   exact hTj
  have hwu:dk st u v:=by
   cases hw' with
   | stop h0=>rw [hl] at h0; cases h0
   | step h1 h2=>rw [hl,Option.some.injEq] at h1; rw [h1]; exact h2
  have hu:=(hg.look_ok hl).1
  refine ad hI 0 rfl aR aw rfl ?_
  rw [hj]
  refine ay ah hjN ?_
  refine ci ac hR.length (fun i v hi=>by rw [hI.cellS hSb]; exact aD rfl i v hi) ?_
  refine aj hI 0 rfl ac (by simpa using hR.length) rfl (by simpa using hR.one) fun w' hI=>?_
  have hI:Inv w X [.blk b2 (.cells (aL kc (o+j * 4) 4).toArray ab),.blk b4 (.cells #[.int .i64 0,.int .i64 0,.string ⟨#[]⟩,.slice none 0 0] ab)] S w':=hI
  refine ⟨⟨u,_,hwu,hu,hR,hI⟩,?_⟩
  have hrank2:=um hI (i:=0) rfl hR r st
  show xh b2 r st w'<xh b2 r st _
  rw [hrank,hrank2,if_pos hb,hj,Int.toNat_natCast]
  split
  ·rename_i hl2
   obtain ⟨u2,hl2⟩:=Option.isSome_iff_exists.1 hl2
   have:=hr j u hs u.n.toNat (by rw [yk (eT.1 hl2).1]; exact List.mem_singleton.2 rfl)
   omega
  ·omega
 ·have hv:v=t':=by
   cases hw' with
   | stop _=>rfl
   | step h1 _=>rw [h1] at hb; cases hb
  subst hv
  refine ag hI 0 ac rfl rfl ?_
  refine aj hI 1 rfl ac rfl rfl (by simpa using hcs0.one) fun w' hI=>?_
  refine aS hI 1 ac rfl rfl ?_
  exact ⟨_,_,_,rfl,hI.pick [false,false],Ext.refl _ _ _,rfl,rfl,_,rfl,hcs0⟩
def OG (u:T) (room:Int):Value->List Item->ae->Prop:=fun q I' S'=>I'=[]/\
 ∃ cs':List Value,cs'.length=4/\(∀ x∈cs',x.oneCell'=true)/\q=.tuple #[.agg cs'.toArray,.int .i64 (if dl u<=room then room - dl u else -1)]/\(dl u<=room->RdT S' cs' u)
def FCT (st:aG) (t u:T):Prop:=∀ (S:ae) (cs:List Value) (v0:Value) (room:Int),RdT S cs t->RdSl S 4 (RdO S) v0 st->-1<=room->room<=1000000->
 Tri Tryz.prog Ik [.agg cs.toArray,v0,.int .i64 room] [] S (OG u room)
theorem CN {N:Nat} {st:aG} (hN0:0<N) {t v:T} {us:List T} (hg:Good N st) (hwv:dk st t v) (hot:okU N t/\wT t<=1048576) (hlu:us.length=v.kids.length)
  (hk:∀ i (h:i<us.length) (h':i<v.kids.length),FCT st v.kids[i] us[i]):FCT st t (.mk v.kind v.n v.name us):=by
 intro S cs v0 room h hkc hr0 hr1 w hI
 have hlc:=h.length
 have hov:=eJ hg hwv hot
 obtain ⟨X,hX⟩:∃ X,X=bz []:=⟨_,rfl⟩
 rw [<- hX] at hI ⊢
 have hcu:=dS us
 refine xm.2 ?_
 dsimp only[xm,cM]
 refine be hI fun b3 w' hI=>?_
 refine aA hI aU fun b6 w' hI=>?_
 have hI:Inv w X ([.blk b3 (.cells cs.toArray ab),.blk b6 (.cells #[.int .i64 0,.int .i64 0,.string ⟨#[]⟩,.slice none 0 0] ab)]++[]) S w':=hI
 refine bD ?_
 refine aN (fun hlt=>?_) (fun hlt=>?_)
 ·refine iX ?_
  refine aj hI 1 rfl ac rfl rfl EG fun w' hI=>?_
  refine aS hI 1 ac rfl rfl ?_
  refine ⟨_,_,_,rfl,hI.pick [false,false],Ext.refl _ _ _,rfl,_,rfl,EG,?_,fun h=>?_⟩
  ·rw [oU,if_neg (by omega)]
  ·rw [oU] at h; omega
 refine ag hI 0 ac rfl (by simpa using hlc) ?_
 refine Run.call nn ov hI (MQ hg hwv hot.1 h hkc hN0) fun v' I' S' w'=>?_
 rintro ⟨eS,rfl,cs',rfl,hcs'⟩ _ hI
 rw [eS] at hI
 clear eS
 refine aj hI 0 rfl ac (by simpa using hcs'.length) (by simpa using hlc) (by simpa using hcs'.one) fun w' hI=>?_
 obtain ⟨kv,rfl,hi1,hi2,hs,hks⟩:=RdT.iff.1 hcs'
 have hI:Inv w X [.blk b3 (.cells #[.int .i64 v.kind,.int .i64 v.n,.string v.name,kv] ab),.blk b6 (.cells #[.int .i64 0,.int .i64 0,.string ⟨#[]⟩,.slice none 0 0] ab)] S w':=hI
 have hlen:=hks.le
 have hkl:v.kids.length<=1048576:=by
  have:=hov.2
  cases v
  simp only [wT] at this
  simp only [T.kids]
  omega
 refine ad hI 0 rfl aM aw rfl ?_
 refine ad hI 0 rfl aR aw rfl ?_
 refine ad hI 0 rfl aH aC rfl ?_
 refine ip ?_
 refine aA hI aU fun b8 w' hI=>?_
 have hI:Inv w X [.blk b3 (.cells #[.int .i64 v.kind,.int .i64 v.n,.string v.name,kv] ab),.blk b6 (.cells #[.int .i64 0,.int .i64 0,.string ⟨#[]⟩,.slice none 0 0] ab),.blk b8 _] S w':=hI
 refine aj hI 2 rfl ac rfl rfl (by simp [Value.oneCell']) fun w' hI=>?_
 refine gy (by omega) ?_
 have hI:=hI.rowNil ab 4
 have hI:Inv w X [.blk b3 (.cells #[.int .i64 v.kind,.int .i64 v.n,.string v.name,kv] ab),.blk b6 (.cells #[.int .i64 0,.int .i64 0,.string ⟨#[]⟩,.slice none 0 0] ab),.blk b8 (.cells #[.int .i64 v.kind,.int .i64 v.n,.string v.name,.slice none 0 0] ab),aP (.slice none 0 0) ab 4 []] S w':=hI
 refine ⟨fun i l w'=>∃ (j:Nat) (left:Int) (kvc:Value) (css:List (List Value)) (S1:ae),j<=us.length/\i=.int .i64 j/\l=.int .i64 left/\Ext w.heap.size X S S1/\css.length=j/\
   ((left=room - 1 - cL (us.take j)/\0<=left/\Rows 4 (RdT S1) css (us.take j)) ∨ (left=-1/\room - 1<cL us))/\
   Inv w X [.blk b3 (.cells #[.int .i64 v.kind,.int .i64 v.n,.string v.name,kv] ab),.blk b6 (.cells #[.int .i64 0,.int .i64 0,.string ⟨#[]⟩,.slice none 0 0] ab),.blk b8 (.cells #[.int .i64 v.kind,.int .i64 v.n,.string v.name,kvc] ab),aP kvc ab 4 css] S1 w',
  fun i _ _=>us.length - (intOf i).toNat,⟨0,room - 1,_,[],S,Nat.zero_le _,rfl,rfl,Ext.refl _ _ _,rfl,.inl ⟨by simp [cL],by omega,Rows.nil _ _⟩,hI⟩,?_⟩
 intro t10 _ _ t9 _ _ _ _ _ _ _ _ _ _ _ _ _ _ _ _ _ _ _ _ _ _ _ _ _ _ _ _ _ w'
 rintro ⟨j,left,kvc,css,S1,hj,rfl,rfl,hE,hcl,hst,hI⟩
 refine ⟨fun q w'=>q=.bool (decide (j<us.length/\0<=left))/\Inv w X [.blk b3 (.cells #[.int .i64 v.kind,.int .i64 v.n,.string v.name,kv] ab),.blk b6 (.cells #[.int .i64 0,.int .i64 0,.string ⟨#[]⟩,.slice none 0 0] ab),.blk b8 (.cells #[.int .i64 v.kind,.int .i64 v.n,.string v.name,kvc] ab),aP kvc ab 4 css] S1 w',?_,?_⟩
 ·refine ad hI 0 rfl ak al rfl ?_
  refine aK hks ah ?_
  refine bD ?_
  by_cases e1:(j:Int)<(v.kids.length:Nat)
  ·rw [decide_eq_true e1]
   refine rpG ?_
   refine iu ?_
   refine rpG ?_
   refine ⟨?_,hI⟩
   congr 1
   rw [Bool.eq_iff_iff,decide_eq_true_eq,decide_eq_true_eq]
   omega
  ·rw [decide_eq_false e1]
   refine rpG ?_
   refine ⟨?_,hI⟩
   rw [decide_eq_false (by omega)]
 intro q _ _ _ _ _ _ _ _ w'
 rintro ⟨rfl,hI⟩
 refine aN (fun hgo=>?_) (fun hgo=>?_)
 ·obtain ⟨hj1,hl0⟩:=hgo
  have hj2:j<v.kids.length:=by omega
  obtain ⟨hleft,_,hR⟩:left=room - 1 - cL (us.take j)/\0<=left/\Rows 4 (RdT S1) css (us.take j):=by
   rcases hst with h1|⟨h1,_⟩
   ·exact h1
   ·omega
  have hpos:=dS (us.take j)
  refine ad hI 0 rfl ak al rfl ?_
  refine bP hI (hks.monoT hE.1) ah ac hj2 (fun _ _=>RdT.length) fun cs0 hcs0=>?_
  have hI:Inv w X ([.blk b3 (.cells #[.int .i64 v.kind,.int .i64 v.n,.string v.name,kv] ab),.blk b6 (.cells #[.int .i64 0,.int .i64 0,.string ⟨#[]⟩,.slice none 0 0] ab),.blk b8 (.cells #[.int .i64 v.kind,.int .i64 v.n,.string v.name,kvc] ab),aP kvc ab 4 css]++[]) S1 _:=hI
  refine Run.callE vX ww hI (hk j hj1 hj2 S1 cs0 v0 left hcs0 (hkc.mono hE.1 fun _ _ h=>RdO.mono hE.1 h) (by omega) (by omega)) fun v' I' S2 w'=>?_
  rintro ⟨rfl,cs2,hl4,ho4,rfl,hrd⟩ hE2 hI
  refine ai rfl ?_
  refine ai rfl ?_
  refine aA hI aU fun b11 w' hI=>?_
  have hI:=hI.perm (M:=.blk b11 _::[.blk b3 (.cells #[.int .i64 v.kind,.int .i64 v.n,.string v.name,kv] ab),.blk b6 (.cells #[.int .i64 0,.int .i64 0,.string ⟨#[]⟩,.slice none 0 0] ab),.blk b8 (.cells #[.int .i64 v.kind,.int .i64 v.n,.string v.name,kvc] ab),aP kvc ab 4 css]) (List.perm_append_comm (l₁:=[_]))
  refine aj hI 0 rfl ac (by simpa using hl4) rfl (by simpa using ho4) fun w' hI=>?_
  refine ad (b:=b8) (c:=#[.int .i64 v.kind,.int .i64 v.n,.string v.name,kvc]) hI 3 rfl ak al rfl ?_
  refine ag hI 0 ac rfl (by simpa using hl4) ?_
  refine fU hI 4 cs2 bj (by omega) (by omega) rfl hl4 ho4 (by omega) (by omega) fun kvc2 w' hI=>?_
  have hkv2:=yy (hI.its (aP kvc2 ab 4 (css++[cs2])) (by simp))
  refine cP (b:=b8) (c:=#[.int .i64 v.kind,.int .i64 v.n,.string v.name,kvc]) hI 3 rfl ak al rfl hkv2.1 hkv2.2 fun w' hI=>?_
  have hI:Inv w X [.blk b3 (.cells #[.int .i64 v.kind,.int .i64 v.n,.string v.name,kv] ab),.blk b6 (.cells #[.int .i64 0,.int .i64 0,.string ⟨#[]⟩,.slice none 0 0] ab),.blk b8 (.cells #[.int .i64 v.kind,.int .i64 v.n,.string v.name,kvc2] ab),aP kvc2 ab 4 (css++[cs2])] S2 w':=hI.pick [false,true,true,true,true]
  refine bm (by omega) ?_
  have hct:=Kg us j hj1
  have hcle:=CD us (j+1)
  have hc0:=fG us[j]
  refine ⟨⟨j+1,_,kvc2,css++[cs2],S2,hj1,rfl,rfl,hE.trans hE2,by simp [hcl],?_,hI⟩,by simp [intOf]; omega⟩
  by_cases hfit:dl us[j]<=left
  ·left
   rw [if_pos hfit]
   refine ⟨by omega,by omega,?_⟩
   rw [List.take_succ_eq_append_getElem hj1]
   exact (hR.monoR fun _ _ h=>RdT.mono hE2.1 h).snoc (hrd hfit) hl4
  ·right
   rw [if_neg hfit]
   exact ⟨rfl,by omega⟩
 ·refine ag (b:=b8) (c:=#[.int .i64 v.kind,.int .i64 v.n,.string v.name,kvc]) hI 2 ac rfl rfl ?_
  have hkv2:=yy (hI.its (aP kvc ab 4 css) (by simp))
  have hone:∀ x∈([.int .i64 v.kind,.int .i64 v.n,.string v.name,kvc]:List Value),x.oneCell'=true:=by
   intro x hx
   simp at hx
   rcases hx with rfl|rfl|rfl|rfl <;> first|rfl|exact hkv2.2
  refine aj hI 1 rfl ac rfl rfl hone fun w' hI=>?_
  refine aS (c:=#[.int .i64 v.kind,.int .i64 v.n,.string v.name,kvc]) hI 1 ac rfl rfl ?_
  have hI:Inv w X ([]++[aP kvc ab 4 css]) S1 w':=hI.pick [false,false,false,true]
  rcases hst with ⟨h1,h2,hR⟩|⟨h1,h2⟩
  ·have hje:j=us.length:=by omega
   rw [hje,List.take_length] at h1 hR
   obtain ⟨S3,hE3,hrd,hI⟩:=hI.lendExt
   have hrr:=RowRd.rows (hR.monoR fun _ _ h=>RdT.mono hE3.1 h) hrd
   refine ⟨_,_,_,rfl,hI,hE.trans hE3,rfl,[.int .i64 v.kind,.int .i64 v.n,.string v.name,kvc],rfl,hone,?_,fun _=>RdT.iff.2 ⟨kvc,rfl,hi1,hi2,hs,hrr⟩⟩
   rw [oU,if_pos (by omega),show left=room - (1+cL us) by omega]
  ·refine ⟨_,_,_,rfl,hI.sub (List.sublist_append_left _ _),hE,rfl,[.int .i64 v.kind,.int .i64 v.n,.string v.name,kvc],rfl,hone,?_,fun h=>?_⟩
   ·rw [oU,if_neg (by omega),h1]
   ·rw [oU] at h; omega
theorem Oc {N:Nat} {st:aG} (hN0:0<N) (hg:Good N st) {j:N2} (hr:Res st j):match j with
  | .one t u=>(okU N t/\wT t<=1048576)->FCT st t u
  | .list ts us=>(∀ t∈ts,okU N t/\wT t<=1048576)->us.length=ts.length/\∀ i (h:i<us.length) (h':i<ts.length),FCT st ts[i] us[i]:=by
 induction hr with
 | one hw _ ih=>
  intro ho
  have h1:=ih (j8 (eJ hg hw ho))
  exact CN hN0 hg hw ho h1.1 h1.2
 | nil=>exact fun _=>⟨rfl,fun i h _=>by simp at h⟩
 | cons _ _ ih1 ih2=>
  intro ho
  obtain ⟨h1,h2⟩:=ih2 fun t ht=>ho t (List.mem_cons_of_mem _ ht)
  refine ⟨by simp [h1],fun i h h'=>?_⟩
  cases i with
  | zero=>exact ih1 (ho _ (List.mem_cons_self ..))
  | succ i=>exact h2 i (by simpa using h) (by simpa using h')
def N5 (u:T):Value->List Item->ae->Prop:=fun q I' S'=>I'=[]/\
 ∃ cs':List Value,cs'.length=4/\(∀ x∈cs',x.oneCell'=true)/\q=.tuple #[.agg cs'.toArray,.bool (ch u)]/\(ch u=true->RdT S' cs' u)
theorem GF {N:Nat} {st:aG} (hN0:0<N) (hg:Good N st) {t u:T} (hr:Res st (.one t u)) (ho:okU N t/\wT t<=1048576) {S:ae} {cs:List Value} {v0:Value} (h:RdT S cs t) (hkc:RdSl S 4 (RdO S) v0 st) :
  Tri Tryz.prog FZ [.agg cs.toArray,v0] [] S (N5 u):=by
 intro w hI
 have hlc:=h.length
 obtain ⟨X,hX⟩:∃ X,X=bz []:=⟨_,rfl⟩
 rw [<- hX] at hI ⊢
 have hfull:FCT st t u:=Oc hN0 hg hr ho
 refine sI.2 ?_
 dsimp only[sI,aY]
 refine be hI fun b2 w' hI=>?_
 refine aA hI aU fun b4 w' hI=>?_
 have hI:Inv w X ([.blk b2 (.cells cs.toArray ab),.blk b4 (.cells #[.int .i64 0,.int .i64 0,.string ⟨#[]⟩,.slice none 0 0] ab)]++[]) S w':=hI
 refine ag hI 0 ac rfl (by simpa using hlc) ?_
 refine Run.callE vX ww hI (hfull S cs v0 120 h hkc (by omega) (by omega)) fun v' I' S1 w'=>?_
 rintro ⟨rfl,cs',hl4,ho4,rfl,hrd⟩ hE hI
 refine ai rfl ?_
 refine ai rfl ?_
 refine aA hI aU fun b6 w' hI=>?_
 have hI:Inv w X [.blk b2 (.cells cs.toArray ab),.blk b4 (.cells #[.int .i64 0,.int .i64 0,.string ⟨#[]⟩,.slice none 0 0] ab),.blk b6 _] S1 w':=hI
 refine aj hI 2 rfl ac (by simpa using hl4) rfl (by simpa using ho4) fun w' hI=>?_
 have hI:Inv w X [.blk b2 (.cells cs.toArray ab),.blk b4 (.cells #[.int .i64 0,.int .i64 0,.string ⟨#[]⟩,.slice none 0 0] ab),.blk b6 (.cells cs'.toArray ab)] S1 w':=hI
 by_cases hc:dl u<=120
 ·rw [if_pos hc]
  have hc0:=fG u
  have hru:=hrd hc
  refine ⟨fun D x5 i6 lQ pJ mX Ca Dv xP w_=>Fx D 0 [xP=.agg cs'.toArray,Dv=.int .i64 (120 - dl u),Ca=.bool true,mX=.bool true,pJ=.agg cs'.toArray,lQ=.bool (rD u 30),i6=.bool (rD u 30),True,x5=.bool (rD u 30)]/\Inv w X [.blk b2 (.cells cs.toArray ab),.blk b4 (.cells (cond (D 7) cs'.toArray #[.int .i64 0,.int .i64 0,.string ⟨#[]⟩,.slice none 0 0]) ab),.blk b6 (.cells cs'.toArray ab)] S1 w_,⟨Fx.nil _ _,hI.draw⟩,⟨?_,?_,?_,?_,?_,?_,?_,?_,?_,trivial⟩,?_⟩
  all_goals (intro D bw; intros; rename_i x5 i6 lQ pJ mX Ca Dv xP w_ hA_; have hF_:=hA_.1; obtain ⟨⟨bQ,bS,bU,bR,bY,bZ,bO,cG,cS,_⟩,hI⟩:=hA_)
  ·refine ag hI 2 ac rfl (by simpa using hl4) ?_
   exact ⟨hF_.set 0 rfl,hI⟩
  ·exact ⟨hF_.set 1 rfl,hI⟩
  ·obtain rfl:=bS ‹_›
   refine iu ?_
   rw [decide_eq_true (by omega)]
   exact ⟨hF_.set 2 rfl,hI⟩
  ·obtain rfl:=bU ‹_›
   exact ⟨hF_.set 3 rfl,hI⟩
  ·obtain rfl:=bR ‹_›
   refine rpG ?_
   refine ag hI 2 ac rfl (by simpa using hl4) ?_
   exact ⟨hF_.set 4 rfl,hI⟩
  ·obtain rfl:=bY ‹_›
   obtain rfl:=bR ‹_›
   refine rpG ?_
   refine Run.callPure wK wJ hI (DX u 30 S1 cs' hru (by omega) (by omega)) fun w_ hI=>?_
   exact ⟨hF_.set 5 rfl,hI⟩
  ·obtain rfl:=bR ‹_›
   obtain rfl:=bZ ‹_›
   refine rpG ?_
   exact ⟨hF_.set 6 rfl,hI⟩
  ·obtain rfl:=bQ ‹_›
   rw [bw] at hI
   refine aj hI 1 rfl ac (by simpa using hl4) rfl (by simpa using ho4) fun w_ hI=>?_
   exact ⟨hF_.set 7 trivial,hI⟩
  ·obtain rfl:=bO ‹_›
   exact ⟨hF_.set 8 rfl,hI⟩
  obtain ⟨rfl,rfl,rfl,rfl,rfl,rfl,rfl,_,rfl,_⟩:=hF_.all
  have Cs:D 7=true:=by assumption
  clear hF_ bQ bS bU bR bY bZ bO cG cS
  rw [Cs] at hI
  refine aS hI 1 ac rfl (by simpa using hl4) ?_
  have e:ch u=rD u 30:=by rw [ch,decide_eq_true hc,Bool.true_and]
  exact ⟨_,_,_,rfl,hI.pick [false,false,false],hE,rfl,cs',hl4,ho4,by rw [e]; rfl,fun _=>hru⟩
 ·rw [if_neg hc]
  refine ⟨fun D x5 i6 lQ pJ mX Ca Dv xP w_=>Fx D 0 [xP=.agg cs'.toArray,Dv=.int .i64 (-1),Ca=.bool false,mX=.bool false,pJ=undef,lQ=undef,i6=.bool false,True,x5=.bool false]/\Inv w X [.blk b2 (.cells cs.toArray ab),.blk b4 (.cells (cond (D 7) cs'.toArray #[.int .i64 0,.int .i64 0,.string ⟨#[]⟩,.slice none 0 0]) ab),.blk b6 (.cells cs'.toArray ab)] S1 w_,⟨Fx.nil _ _,hI.draw⟩,⟨?_,?_,?_,?_,?_,?_,?_,?_,?_,trivial⟩,?_⟩
  all_goals (intro D bw; intros; rename_i x5 i6 lQ pJ mX Ca Dv xP w_ hA_; have hF_:=hA_.1; obtain ⟨⟨bQ,bS,bU,bR,bY,bZ,bO,cG,cS,_⟩,hI⟩:=hA_)
  ·refine ag hI 2 ac rfl (by simpa using hl4) ?_
   exact ⟨hF_.set 0 rfl,hI⟩
  ·exact ⟨hF_.set 1 rfl,hI⟩
  ·obtain rfl:=bS ‹_›
   refine iu ?_
   rw [decide_eq_false (by omega)]
   exact ⟨hF_.set 2 rfl,hI⟩
  ·obtain rfl:=bU ‹_›
   exact ⟨hF_.set 3 rfl,hI⟩
  ·obtain rfl:=bR ‹_›
   refine rpG ?_
   exact ⟨hF_.set 4 rfl,hI⟩
  ·obtain rfl:=bY ‹_›
   obtain rfl:=bR ‹_›
   refine rpG ?_
   exact ⟨hF_.set 5 rfl,hI⟩
  ·obtain rfl:=bR ‹_›
   obtain rfl:=bZ ‹_›
   refine rpG ?_
   exact ⟨hF_.set 6 rfl,hI⟩
  ·obtain rfl:=bQ ‹_›
   rw [bw] at hI
   refine aj hI 1 rfl ac (by simpa using hl4) rfl (by simpa using ho4) fun w_ hI=>?_
   exact ⟨hF_.set 7 trivial,hI⟩
  ·obtain rfl:=bO ‹_›
   exact ⟨hF_.set 8 rfl,hI⟩
  obtain ⟨rfl,rfl,rfl,rfl,rfl,rfl,rfl,_,rfl,_⟩:=hF_.all
  have Cs:D 7=true:=by assumption
  clear hF_ bQ bS bU bR bY bZ bO cG cS
  rw [Cs] at hI
  refine aS hI 1 ac rfl (by simpa using hl4) ?_
  have e:ch u=false:=by rw [ch,decide_eq_false hc,Bool.false_and]
  exact ⟨_,_,_,rfl,hI.pick [false,false,false],hE,rfl,cs',hl4,ho4,by rw [e]; rfl,fun h=>by rw [e] at h; cases h⟩
end
end
section
open Go Go.RowKit
def RdSp (S:ae) (cs:List Value) (x:Sp):Prop:=∃ hd,cs=hd++[.int .i64 x.clause,.int .i64 x.body]/\RdT S hd x.goal
theorem RdSp.length {S:ae} {cs:List Value} {x:Sp} (h:RdSp S cs x):cs.length=6:=by
 obtain ⟨hd,rfl,h⟩:=h; simp [h.length]
theorem RdSp.one {S:ae} {cs:List Value} {x:Sp} (h:RdSp S cs x):∀ u∈cs,u.oneCell'=true:=by
 obtain ⟨hd,rfl,h⟩:=h
 intro u hu
 rcases List.mem_append.1 hu with hu|hu
 ·exact h.one u hu
 ·simp only [List.mem_cons,List.not_mem_nil,or_false] at hu
  rcases hu with rfl|rfl <;> rfl
theorem RdSp.mono {S S':ae} {cs:List Value} {x:Sp} (hs:Sle S S') (h:RdSp S cs x):RdSp S' cs x:=by
 obtain ⟨hd,rfl,h⟩:=h; exact ⟨hd,rfl,h.mono hs⟩
theorem RdSl.monoSp {S S':ae} {v:Value} {xs:List Sp} (hs:Sle S S') (h:RdSl S 6 (RdSp S) v xs):RdSl S' 6 (RdSp S') v xs:=h.mono hs fun _ _=>RdSp.mono hs
def RdVS (S:ae) (cs:List Value) (l:List Sp):Prop:=∃ v,cs=[v]/\RdSl S 6 (RdSp S) v l
theorem RdVS.length {S:ae} {cs:List Value} {l:List Sp} (h:RdVS S cs l):cs.length=1:=by
 obtain ⟨v,rfl,h⟩:=h; rfl
theorem RdVS.one {S:ae} {cs:List Value} {l:List Sp} (h:RdVS S cs l):∀ u∈cs,u.oneCell'=true:=by
 obtain ⟨v,rfl,h⟩:=h
 intro u hu
 rw [List.mem_singleton] at hu
 subst hu
 exact h.sl
theorem RdVS.mono {S S':ae} {cs:List Value} {l:List Sp} (hs:Sle S S') (h:RdVS S cs l):RdVS S' cs l:=by
 obtain ⟨v,rfl,h⟩:=h; exact ⟨v,rfl,h.monoSp hs⟩
theorem RdSl.monoVS {S S':ae} {v:Value} {xs:List (List Sp)} (hs:Sle S S') (h:RdSl S 1 (RdVS S) v xs):RdSl S' 1 (RdVS S') v xs:=h.mono hs fun _ _=>RdVS.mono hs
def RdSe (S:ae) (cs:List Value) (s:Se):Prop:=∃ g b c t v,cs=[g,b,c,t,v]/\RdSl S 5 (RdG S) g s.st.goals/\RdSl S 4 (RdO S) b s.st.binds/\RdSl S 7 (RdCh S) c s.st.chs/\RdSl S 6 (RdSp S) t s.steps/\RdSl S 1 (RdVS S) v s.saved
theorem RdSe.length {S:ae} {cs:List Value} {s:Se} (h:RdSe S cs s):cs.length=5:=by
 obtain ⟨g,b,c,t,v,rfl,_⟩:=h; rfl
theorem RdSe.one {S:ae} {cs:List Value} {s:Se} (h:RdSe S cs s):∀ u∈cs,u.oneCell'=true:=by
 obtain ⟨g,b,c,t,v,rfl,h1,h2,h3,h4,h5⟩:=h
 intro u hu
 simp only [List.mem_cons,List.not_mem_nil,or_false] at hu
 rcases hu with rfl|rfl|rfl|rfl|rfl
 ·exact h1.sl
 ·exact h2.sl
 ·exact h3.sl
 ·exact h4.sl
 ·exact h5.sl
theorem RdSe.mono {S S':ae} {cs:List Value} {s:Se} (hs:Sle S S') (h:RdSe S cs s):RdSe S' cs s:=by
 obtain ⟨g,b,c,t,v,rfl,h1,h2,h3,h4,h5⟩:=h
 exact ⟨g,b,c,t,v,rfl,h1.monoG hs,h2.monoO hs,h3.monoCh hs,h4.monoSp hs,h5.monoVS hs⟩
theorem Mk {a b c d e f g:Value}:∀ (j:Nat) (v:Value),([a,b,c,d]:List Value)[j]?=some v->(#[a,b,c,d,e,f,g]:Array Value)[0+j]?=some v
 | 0,v,h=>by simpa using h
 | 1,v,h=>by simpa using h
 | 2,v,h=>by simpa using h
 | 3,v,h=>by simpa using h
 | n+4,v,h=>by simp at h
theorem chM (S S':ae) (cs:List Value) (x:Ch) (hs:Sle S S') (h:RdCh S cs x):RdCh S' cs x:=h.mono hs
theorem chL (S:ae) (cs:List Value) (x:Ch) (h:RdCh S cs x):cs.length=7:=h.length
theorem chO (S:ae) (cs:List Value) (x:Ch) (h:RdCh S cs x):∀ u∈cs,u.oneCell'=true:=h.one
theorem spM (S S':ae) (cs:List Value) (x:Sp) (hs:Sle S S') (h:RdSp S cs x):RdSp S' cs x:=h.mono hs
theorem spL (S:ae) (cs:List Value) (x:Sp) (h:RdSp S cs x):cs.length=6:=h.length
theorem spO (S:ae) (cs:List Value) (x:Sp) (h:RdSp S cs x):∀ u∈cs,u.oneCell'=true:=h.one
theorem vsM (S S':ae) (cs:List Value) (x:List Sp) (hs:Sle S S') (h:RdVS S cs x):RdVS S' cs x:=h.mono hs
theorem vsL (S:ae) (cs:List Value) (x:List Sp) (h:RdVS S cs x):cs.length=1:=h.length
theorem vsO (S:ae) (cs:List Value) (x:List Sp) (h:RdVS S cs x):∀ u∈cs,u.oneCell'=true:=h.one
theorem RdSl.single {α:Type} {S:ae} {k b:Nat} {R:List Value->α->Prop} {cs:List Value} {x:α} {E:TypeId} {fz:Nat × Nat} (hb:S b=some (.cells cs.toArray E fz)) (hl:cs.length=k) (h:R cs x):RdSl S k R (.slice (some ⟨b,0,none⟩) 1 1) [x]:=by
 refine ⟨some ⟨b,0,none⟩,1,rfl,Nat.le_refl _,by simp [maxLen],.inr ⟨b,0,cs.toArray,E,fz,rfl,hb,fun i hi=>?_⟩⟩
 have:i=0:=by simp at hi; omega
 subst this
 have e:aL cs.toArray (0+0 * k) k=cs:=by
  rw [aL,Nat.zero_mul,Nat.zero_add,List.drop_zero,<- hl,List.take_length]
 rw [e]
 exact h
def apC {α:Type} (w0:World) (X:List Nat) (A:List Item) (T:TypeId) (k:Nat) (R:ae->List Value->α->Prop) (xs:List α) (y:α) (S:ae) (v0 v1 v2:Value) (w:World):Nat->Prop
 | 0=>Inv w0 X A S w
 | 1=>Inv w0 X (A++[aP v0 T k []]) S w
 | 2=>∃ css,Rows k (R S) css xs/\Inv w0 X (A++[aP v1 T k css]) S w
 | _=>RdSl S k (R S) v2 (xs++[y])/\Inv w0 X A S w
section
variable {α:Type} {w0 w:World} {X:List Nat} {A:List Item} {T:TypeId} {k n:Nat} {R:ae->List Value->α->Prop} {xs:List α} {y:α} {S:ae} {v0 v1 v2:Value}
theorem apC.ex (hR:∀ S S' cs x,Sle S S'->R S cs x->R S' cs x) (h:apC w0 X A T k R xs y S v0 v1 v2 w n) :
  ∃ B,Inv w0 X (A++B) S w/\∀ A' S1 w1,Sle S S1->Inv w0 X (A'++B) S1 w1->apC w0 X A' T k R xs y S1 v0 v1 v2 w1 n:=by
 match n,h with
 | 0,h=>exact ⟨[],by rw [List.append_nil]; exact h,fun A' S1 w1 _ hI=>by rw [List.append_nil] at hI; exact hI⟩
 | 1,h=>exact ⟨_,h,fun A' S1 w1 _ hI=>hI⟩
 | 2,⟨css,h1,h2⟩=>exact ⟨_,h2,fun A' S1 w1 hs hI=>⟨css,h1.monoR fun _ _ h=>hR _ _ _ _ hs h,hI⟩⟩
 | n+3,⟨h1,h2⟩=>exact ⟨[],by rw [List.append_nil]; exact h2,fun A' S1 w1 hs hI=>⟨h1.mono hs fun _ _ h=>hR _ _ _ _ hs h,by rw [List.append_nil] at hI; exact hI⟩⟩
theorem apC.inv (h:apC w0 X A T k R xs y S v0 v1 v2 w n):∃ B,Inv w0 X (A++B) S w:=by
 match n,h with
 | 0,h=>exact ⟨[],by rw [List.append_nil]; exact h⟩
 | 1,h=>exact ⟨_,h⟩
 | 2,⟨css,h1,h2⟩=>exact ⟨_,h2⟩
 | n+3,⟨h1,h2⟩=>exact ⟨[],by rw [List.append_nil]; exact h2⟩
end
section
variable {α:Type} {P:Program} {w0 w:World} {X:List Nat} {A:List Item} {k:Nat} {R:ae->List Value->α->Prop} {xs:List α} {y:α} {S:ae} {v0 v1 v2:Value} {K:Value->World->Prop}
attribute [local irreducible] Run
theorem Qg {T e:TypeId} {by_:Nat} {z:Value} (h:apC w0 X A e k R xs y S v0 v1 v2 w 0) (hT:fb P T=some (e,k,by_,z))
  (hk:∀ v w',apC w0 X A e k R xs y S v v1 v2 w' 1->K v w'):Run P (bi T 0 []) w K:=by
 have h:Inv w0 X A S w:=h
 exact dG h hT fun v w' hI=>hk v w' hI
theorem PM {T ty e:TypeId} {by_:Nat} {z u:Value} {cs:List Bool} (h:apC w0 X A e k R xs y S v0 v1 v2 w 1) (hT:fb P T=some (e,k,by_,z)) (hk0:0<k) (hu:RdSl S k (R S) u xs)
  (hlen:∀ cs y,R S cs y->cs.length=k) (h1:∀ cs y,R S cs y->∀ c∈cs,c.oneCell'=true) (hl:xs.length<=4294967296) (hby:by_<=32768)
  (hk:∀ v w',apC w0 X A e k R xs y S v0 v v2 w' 2->K v w'):Run P (bx .append #[T,T] ty cs [v0,u]) w K:=by
 have h:Inv w0 X (A++[aP v0 e k []]) S w:=h
 refine dI (css:=[]) h A.length hT hk0 (by simp) hu hlen h1 (by simpa using hl) hby fun v w' css hR hI=>?_
 refine hk v w' ⟨css,hR,?_⟩
 have e:(A++[aP v0 e k []]).set A.length (aP v e k ([]++css))=A++[aP v e k css]:=by simp
 rw [e] at hI
 exact hI
theorem P7 {T ty e:TypeId} {by_:Nat} {z u:Value} {cs:List Bool} (hR:∀ S S' cs x,Sle S S'->R S cs x->R S' cs x) (h:apC w0 X A e k R xs y S v0 v1 v2 w 2) (hT:fb P T=some (e,k,by_,z)) (hk0:0<k) (hu:RdSl S k (R S) u [y])
  (hlen:∀ cs y,R S cs y->cs.length=k) (h1:∀ cs y,R S cs y->∀ c∈cs,c.oneCell'=true) (hl:xs.length+1<=4294967296) (hby:by_<=32768)
  (hk:∀ v S' w',Ext w0.heap.size X S S'->apC w0 X A e k R xs y S' v0 v1 v w' 3->K v w'):Run P (bx .append #[T,T] ty cs [v1,u]) w K:=by
 obtain ⟨css,hRs,h⟩:=h
 have hcl:=hRs.hc
 refine dI (css:=css) h A.length hT hk0 (by simp) hu hlen h1 (by simp; omega) hby fun v w' css2 hR2 hI=>?_
 have e:(A++[aP v1 e k css]).set A.length (aP v e k (css++css2))=A++[aP v e k (css++css2)]:=by simp
 rw [e] at hI
 obtain ⟨S',hE,hrd,hI⟩:=Inv.lendExt hI
 exact hk v S' w' hE ⟨RowRd.rows ((hRs.append hR2).monoR fun _ _ h=>hR _ _ _ _ hE.1 h) hrd,hI⟩
end
section
variable {w:World} {K:Value->World->Prop}
attribute [local irreducible] Run
theorem Kh {x1:Option Addr} {x2 x3:Nat} {y1:Option Addr} {y2 y3:Nat} {z1:Option Addr} {z2 z3:Nat} (hk:K (.agg #[.slice x1 x2 x3,.slice y1 y2 y3,.slice z1 z2 z3]) w):Run Tryz.prog (bI bt [(1,.slice y1 y2 y3),(2,.slice z1 z2 z3),(0,.slice x1 x2 x3)]) w K:=by
 refine Run.of (v:=.agg #[.slice x1 x2 x3,.slice y1 y2 y3,.slice z1 z2 z3]) (w':=w) ?_ hk
 unfold bI
 rw [Sem.run_bind,run_build w bt _ #[.slice x1 x2 x3,.slice y1 y2 y3,.slice z1 z2 z3] (by kernel_rfl),Result.andThen_ok]
 rfl
theorem Hf {x1:Option Addr} {x2 x3:Nat} {y1:Option Addr} {y2 y3:Nat} {z1:Option Addr} {z2 z3:Nat} (hk:K (.agg #[.slice x1 x2 x3,.slice y1 y2 y3,.slice z1 z2 z3]) w):Run Tryz.prog (bI bt [(0,.slice x1 x2 x3),(1,.slice y1 y2 y3),(2,.slice z1 z2 z3)]) w K:=by
 refine Run.of (v:=.agg #[.slice x1 x2 x3,.slice y1 y2 y3,.slice z1 z2 z3]) (w':=w) ?_ hk
 unfold bI
 rw [Sem.run_bind,run_build w bt _ #[.slice x1 x2 x3,.slice y1 y2 y3,.slice z1 z2 z3] (by kernel_rfl),Result.andThen_ok]
 rfl
theorem GW {z1:Option Addr} {z2 z3:Nat} (hk:K (.agg #[.slice none 0 0,.slice none 0 0,.slice z1 z2 z3]) w):Run Tryz.prog (bI bt [(2,.slice z1 z2 z3)]) w K:=by
 refine Run.of (v:=.agg #[.slice none 0 0,.slice none 0 0,.slice z1 z2 z3]) (w':=w) ?_ hk
 unfold bI
 rw [Sem.run_bind,run_build w bt _ #[.slice none 0 0,.slice none 0 0,.slice z1 z2 z3] (by kernel_rfl),Result.andThen_ok]
 rfl
theorem Cm {a b c d:Value} {x1:Option Addr} {x2 x3:Nat} {y1:Option Addr} {y2 y3:Nat} {z1:Option Addr} {z2 z3:Nat} (hk:K (.agg #[a,b,c,d,.slice x1 x2 x3,.slice y1 y2 y3,.slice z1 z2 z3]) w):Run Tryz.prog (bI bM [(0,.agg #[a,b,c,d]),(1,.slice x1 x2 x3),(2,.slice y1 y2 y3),(3,.slice z1 z2 z3)]) w K:=by
 refine Run.of (v:=.agg #[a,b,c,d,.slice x1 x2 x3,.slice y1 y2 y3,.slice z1 z2 z3]) (w':=w) ?_ hk
 unfold bI
 rw [Sem.run_bind,run_build w bM _ #[a,b,c,d,.slice x1 x2 x3,.slice y1 y2 y3,.slice z1 z2 z3] (by kernel_rfl),Result.andThen_ok]
 rfl
theorem BA {a b c:Value} {x1:Option Addr} {x2 x3:Nat} {y1:Option Addr} {y2 y3:Nat} (hk:K (.agg #[a,b,c,.slice x1 x2 x3,.slice y1 y2 y3]) w):Run Tryz.prog (bI az [(0,.agg #[a,b,c]),(1,.slice x1 x2 x3),(2,.slice y1 y2 y3)]) w K:=by
 refine Run.of (v:=.agg #[a,b,c,.slice x1 x2 x3,.slice y1 y2 y3]) (w':=w) ?_ hk
 unfold bI
 rw [Sem.run_bind,run_build w az _ #[a,b,c,.slice x1 x2 x3,.slice y1 y2 y3] (by kernel_rfl),Result.andThen_ok]
 rfl
theorem HJ {a b c:Value} (hk:K (.agg #[a,b,c,.slice none 0 0,.slice none 0 0]) w):Run Tryz.prog (bI az [(0,.agg #[a,b,c])]) w K:=by
 refine Run.of (v:=.agg #[a,b,c,.slice none 0 0,.slice none 0 0]) (w':=w) ?_ hk
 unfold bI
 rw [Sem.run_bind,run_build w az _ #[a,b,c,.slice none 0 0,.slice none 0 0] (by kernel_rfl),Result.andThen_ok]
 rfl
theorem KR {a b c d:Value} {i j:Int} (hk:K (.agg #[a,b,c,d,.int .i64 i,.int .i64 j]) w):Run Tryz.prog (bI fO [(0,.agg #[a,b,c,d]),(1,.int .i64 i),(2,.int .i64 j)]) w K:=by
 refine Run.of (v:=.agg #[a,b,c,d,.int .i64 i,.int .i64 j]) (w':=w) ?_ hk
 unfold bI
 rw [Sem.run_bind,run_build w fO _ #[a,b,c,d,.int .i64 i,.int .i64 j] (by kernel_rfl),Result.andThen_ok]
 rfl
theorem HM {a b c d:Value} {i:Int} (hk:K (.agg #[a,b,c,d,.int .i64 i,.int .i64 0]) w):Run Tryz.prog (bI fO [(0,.agg #[a,b,c,d]),(1,.int .i64 i)]) w K:=by
 refine Run.of (v:=.agg #[a,b,c,d,.int .i64 i,.int .i64 0]) (w':=w) ?_ hk
 unfold bI
 rw [Sem.run_bind,run_build w fO _ #[a,b,c,d,.int .i64 i,.int .i64 0] (by kernel_rfl),Result.andThen_ok]
 rfl
theorem o5 {a b c d:Value} {i:Int} (hk:K (.agg #[a,b,c,d,.int .i64 i,.slice none 0 0]) w):Run Tryz.prog (bI af [(0,.agg #[a,b,c,d]),(1,.int .i64 i)]) w K:=by
 refine Run.of (v:=.agg #[a,b,c,d,.int .i64 i,.slice none 0 0]) (w':=w) ?_ hk
 unfold bI
 rw [Sem.run_bind,run_build w af _ #[a,b,c,d,.int .i64 i,.slice none 0 0] (by kernel_rfl),Result.andThen_ok]
 rfl
theorem GU  (hk:K (.agg #[.int .i64 0,.int .i64 0,.string ⟨#[]⟩,.slice none 0 0,.int .i64 0,.slice none 0 0]) w):Run Tryz.prog (bI af []) w K:=by
 refine Run.of (v:=.agg #[.int .i64 0,.int .i64 0,.string ⟨#[]⟩,.slice none 0 0,.int .i64 0,.slice none 0 0]) (w':=w) ?_ hk
 unfold bI
 rw [Sem.run_bind,run_build w af _ #[.int .i64 0,.int .i64 0,.string ⟨#[]⟩,.slice none 0 0,.int .i64 0,.slice none 0 0] (by kernel_rfl),Result.andThen_ok]
 rfl
theorem Hl {a b c d:Value} {i:Int} {x1:Option Addr} {x2 x3:Nat} (hk:K (.agg #[a,b,c,d,.int .i64 i,.slice x1 x2 x3]) w):Run Tryz.prog (bI af [(0,.agg #[a,b,c,d]),(1,.int .i64 i),(2,.slice x1 x2 x3)]) w K:=by
 refine Run.of (v:=.agg #[a,b,c,d,.int .i64 i,.slice x1 x2 x3]) (w':=w) ?_ hk
 unfold bI
 rw [Sem.run_bind,run_build w af _ #[a,b,c,d,.int .i64 i,.slice x1 x2 x3] (by kernel_rfl),Result.andThen_ok]
 rfl
end
end
end Go.Proofs.YtbocelianhcfmaaGreatDoor
