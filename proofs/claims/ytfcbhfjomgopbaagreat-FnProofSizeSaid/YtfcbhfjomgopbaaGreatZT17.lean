/- spec.l3Unify. -/
import Derived.Test.YtfcbhfjomgopbaaGreatZT16
import Derived.Test.YtfcbhfjomgopbaaGreatZT12
import Derived.Test.YtfcbhfjomgopbaaGreatZT11
import Derived.Test.YtfcbhfjomgopbaaGreatZT13
namespace Go.Proofs.YtfcbhfjomgopbaaGreat
open Go Go.RowKit
/- the calls of a loop over two lists -/
inductive Chain (Call:bf->T->T->Bool->bf->Prop):bf->List T->List T->Bool->bf->Prop
 | nil {st:bf}:Chain Call st [] [] true st
 | stop {st st':bf} {a b:T} {xs ys:List T}:Call st a b false st'->Chain Call st (a::xs) (b::ys) false st'
 | go {st st1 st':bf} {a b:T} {xs ys:List T} {r:Bool}:Call st a b true st1->Chain Call st1 xs ys r st'->Chain Call st (a::xs) (b::ys) r st'
theorem Chain.head {Call:bf->T->T->Bool->bf->Prop} {st st':bf} {a b:T} {xs ys:List T} {r:Bool} (h:Chain Call st (a::xs) (b::ys) r st') :
  ∃ r1 st1,Call st a b r1 st1/\(r1=false->r=false/\st'=st1)/\(r1=true->Chain Call st1 xs ys r st'):=by
 cases h with
 | stop h=>exact ⟨false,_,h,fun _=>⟨rfl,rfl⟩,fun e=>(by cases e)⟩
 | go h h'=>exact ⟨true,_,h,fun e=>(by cases e),fun _=>h'⟩
theorem Chain.done {Call:bf->T->T->Bool->bf->Prop} {st st':bf} {r:Bool} (h:Chain Call st [] [] r st'):r=true/\st'=st:=by
 cases h
 exact ⟨rfl,rfl⟩
/- how a unification of walked terms ends -/
def Ns (Call:bf->T->T->Bool->bf->Prop) (st:bf) (a' b':T) (r:Bool) (st':bf):Prop:=
 (a'.kind=1/\b'.kind=1/\a'.n=b'.n/\r=true/\st'=st) ∨
 (a'.kind=1/\¬ (b'.kind=1/\a'.n=b'.n)/\((¬ kl st a'.n.toNat b'/\r=true/\st'=st.set a'.n.toNat (some b')) ∨ (kl st a'.n.toNat b'/\r=false/\st'=st))) ∨
 (a'.kind≠1/\b'.kind=1/\((¬ kl st b'.n.toNat a'/\r=true/\st'=st.set b'.n.toNat (some a')) ∨ (kl st b'.n.toNat a'/\r=false/\st'=st))) ∨
 (a'.kind≠1/\b'.kind≠1/\((nN a' b'=false/\r=false/\st'=st) ∨ (nN a' b'=true/\Chain Call st a'.kids b'.kids r st')))
theorem Uni.calls {N:Nat} {Call:bf->T->T->Bool->bf->Prop} (hcall:∀ st a b a' b' r st',Good N st->okJ N (.one a b)->dp st a a'->dp st b b'->Ns Call st a' b' r st'->Call st a b r st') {st st':bf} {j:Job} {r:Bool} (hu:Uni st j r st') :
  Good N st->okJ N j->match j with
   | .one a b=>Call st a b r st'
   | .list xs ys=>Chain Call st xs ys r st':=by
 induction hu with
 | same h1 h2 h3 h4 h5=>exact fun hg hj=>hcall _ _ _ _ _ _ _ hg hj h1 h2 (.inl ⟨h3,h4,h5,rfl,rfl⟩)
 | bindA h1 h2 h3 h4 h5=>exact fun hg hj=>hcall _ _ _ _ _ _ _ hg hj h1 h2 (.inr (.inl ⟨h3,h4,.inl ⟨h5,rfl,rfl⟩⟩))
 | occA h1 h2 h3 h4 h5=>exact fun hg hj=>hcall _ _ _ _ _ _ _ hg hj h1 h2 (.inr (.inl ⟨h3,h4,.inr ⟨h5,rfl,rfl⟩⟩))
 | bindB h1 h2 h3 h4 h5=>exact fun hg hj=>hcall _ _ _ _ _ _ _ hg hj h1 h2 (.inr (.inr (.inl ⟨h3,h4,.inl ⟨h5,rfl,rfl⟩⟩)))
 | occB h1 h2 h3 h4 h5=>exact fun hg hj=>hcall _ _ _ _ _ _ _ hg hj h1 h2 (.inr (.inr (.inl ⟨h3,h4,.inr ⟨h5,rfl,rfl⟩⟩)))
 | clash h1 h2 h3 h4 h5=>exact fun hg hj=>hcall _ _ _ _ _ _ _ hg hj h1 h2 (.inr (.inr (.inr ⟨h3,h4,.inl ⟨h5,rfl,rfl⟩⟩)))
 | kids h1 h2 h3 h4 h5 _ ih=>
  exact fun hg hj=>hcall _ _ _ _ _ _ _ hg hj h1 h2 (.inr (.inr (.inr ⟨h3,h4,.inr ⟨h5,ih hg ⟨ju (eP hg h1 hj.1),ju (eP hg h2 hj.2),qv h5⟩⟩⟩)))
 | nil=>exact fun _ _=>.nil
 | stop _ ih=>exact fun hg hj=>.stop (ih hg ⟨hj.1 _ (List.mem_cons_self ..),hj.2.1 _ (List.mem_cons_self ..)⟩)
 | go h1 _ ih1 ih2=>
  intro hg hj
  have hj1:okJ N (.one _ _):=⟨hj.1 _ (List.mem_cons_self ..),hj.2.1 _ (List.mem_cons_self ..)⟩
  exact .go (ih1 hg hj1) (ih2 (h1.good hg hj1).1 ⟨fun a ha=>hj.1 a (List.mem_cons_of_mem _ ha),fun b hb=>hj.2.1 b (List.mem_cons_of_mem _ hb),by have:=hj.2.2; simpa using this⟩)
def UC (N kp:Nat) (st:bf) (a b:T) (r:Bool) (st':bf):Prop:=∀ (S:al) (cs ds:List Value) (kb:Nat) (kc:Array Value),RdT S cs a->RdT S ds b->KnU S kc st->
 Tri Tryz.prog DN [.agg cs.toArray,.agg ds.toArray,kvU kb N kp] [.blk kb (.cells kc ab)] S fun q I' S'=>S'=S/\q=.bool r/\∃ kc',I'=[.blk kb (.cells kc' ab)]/\KnU S kc' st'
section
attribute [local irreducible] Run CondV ag aO
set_option maxHeartbeats 1000000 in
/- the case that a nonvariable meets a variable is handed on, so it comes with a contract -/
theorem sI {N kp:Nat} (hN:N<=1000000) {st st':bf} {a b a' b':T} {r:Bool} (hg:Good N st) (hj:okJ N (.one a b)) (hwa:dp st a a') (hwb:dp st b b')
  (hsw:a'.kind≠1->b'.kind=1->UC N kp st b' a' r st') (he:Ns (UC N kp) st a' b' r st'):UC N kp st a b r st':=by
 intro S cs ds kb kc h h' hkc w hI
 have hlc:=h.length
 have hld:=h'.length
 have hoa:=eP hg hwa hj.1
 have hob:=eP hg hwb hj.2
 have hlN:=hg.len
 obtain ⟨X,hX⟩:∃ X,X=bW [Item.blk kb (.cells kc ab)]:=⟨_,rfl⟩
 rw [<- hX] at hI ⊢
 refine vL ?_
 unfold qj;dsimp only
 refine bS hI fun b1 w' hI=>?_
 refine bS hI fun b2 w' hI=>?_
 have hI:Inv w X ([.blk b1 (.cells cs.toArray ab),.blk b2 (.cells ds.toArray ab)]++[.blk kb (.cells kc ab)]) S w':=hI.perm (List.perm_append_comm (l₁:=[_,_]) (l₂:=[_]))
 refine aL hI 0 ai rfl (by simpa using hlc) ?_
 refine Run.call mK mO hI (rn hg hwa hj.1.1 h hkc) fun v' I' S' w'=>?_
 rintro ⟨eS,rfl,cs',rfl,hcs'⟩ _ hI
 rw [eS] at hI
 clear eS
 refine aG hI 0 rfl ai (by simpa using hcs'.length) (by simpa using hlc) (by simpa using hcs'.one) fun w' hI=>?_
 have hI:Inv w X ([.blk b1 (.cells cs'.toArray ab),.blk b2 (.cells ds.toArray ab)]++[.blk kb (.cells kc ab)]) S w':=hI
 refine aL hI 1 ai rfl (by simpa using hld) ?_
 refine Run.call mK mO hI (rn hg hwb hj.2.1 h' hkc) fun v' I' S' w'=>?_
 rintro ⟨eS,rfl,ds',rfl,hds'⟩ _ hI
 rw [eS] at hI
 clear eS
 refine aG hI 1 rfl ai (by simpa using hds'.length) (by simpa using hld) (by simpa using hds'.one) fun w' hI=>?_
 have hI:Inv w X [.blk b1 (.cells cs'.toArray ab),.blk b2 (.cells ds'.toArray ab),.blk kb (.cells kc ab)] S w':=hI
 have hcs:=hcs'
 have hds:=hds'
 obtain ⟨kv,rfl,_,_,_,hks⟩:=RdT.iff.1 hcs'
 obtain ⟨kv',rfl,_,_,_,hks'⟩:=RdT.iff.1 hds'
 obtain ⟨k,n,s,ks⟩:=a'
 obtain ⟨k',n',s',ks'⟩:=b'
 unfold Ns at he
 simp only [T.name,T.kids,T.kind,T.n] at hks hks' hI he hsw ⊢
 have hlen:=hks.le
 simp only [maxLen] at hlen
 refine ⟨fun q w'=>q=.bool (decide (k=1/\k'=1/\n=n'))/\Inv w X [.blk b1 (.cells #[.int .i64 k,.int .i64 n,.string s,kv] ab),.blk b2 (.cells #[.int .i64 k',.int .i64 n',.string s',kv'] ab),.blk kb (.cells kc ab)] S w',?_,?_⟩
 ·refine ao hI 0 rfl bC aY rfl ?_
  refine bP ?_
  by_cases e1:k=1
  ·rw [decide_eq_true e1]
   repeat (first|refine ad ?_|refine af (by decide) ?_|refine ae ?_|refine ak ?_|refine aj ?_)
   refine ao hI 1 rfl bC aY rfl ?_
   refine bP ?_
   by_cases e2:k'=1
   ·rw [decide_eq_true e2]
    repeat (first|refine ad ?_|refine af (by decide) ?_|refine ae ?_|refine ak ?_|refine aj ?_)
    refine ao hI 0 rfl bF aY rfl ?_
    refine ao hI 1 rfl bF aY rfl ?_
    refine bP ?_
    repeat (first|refine ad ?_|refine af (by decide) ?_|refine ae ?_|refine ak ?_|refine aj ?_)
    exact ⟨by simp [e1,e2],hI⟩
   ·rw [decide_eq_false e2]
    repeat (first|refine ad ?_|refine af (by decide) ?_|refine ae ?_|refine ak ?_|refine aj ?_)
    exact ⟨by simp [e2],hI⟩
  ·rw [decide_eq_false e1]
   repeat (first|refine ad ?_|refine af (by decide) ?_|refine ae ?_|refine ak ?_|refine aj ?_)
   exact ⟨by simp [e1],hI⟩
 intro q _ _ _ _ _ _ _ _ _ _ _ _ _ _ w'
 rintro ⟨rfl,hI⟩
 refine bz (fun hsame=>?_) (fun hsame=>?_)
 ·have:r=true/\st'=st:=by
   rcases he with ⟨_,_,_,h1,h2⟩|⟨_,h1,_⟩|⟨h1,_,_⟩|⟨h1,_,_⟩
   ·exact ⟨h1,h2⟩
   ·exact absurd hsame.2 h1
   ·exact absurd hsame.1 h1
   ·exact absurd hsame.1 h1
  obtain ⟨rfl,rfl⟩:=this
  exact ⟨_,_,_,rfl,hI.pick [false,false,true],Ext.refl _ _ _,rfl,rfl,_,rfl,hkc⟩
 refine ao hI 0 rfl bC aY rfl ?_
 refine bP ?_
 refine bz (fun hk1=>?_) (fun hk1=>?_)
 ·have hend:(¬ kl st n.toNat (.mk k' n' s' ks')/\r=true/\st'=st.set n.toNat (some (.mk k' n' s' ks'))) ∨ (kl st n.toNat (.mk k' n' s' ks')/\r=false/\st'=st):=by
   rcases he with ⟨h1,h2,h3,_⟩|⟨_,_,h1⟩|⟨h1,_,_⟩|⟨h1,_,_⟩
   ·exact absurd ⟨h1,h2,h3⟩ hsame
   ·exact h1
   ·exact absurd hk1 h1
   ·exact absurd hk1 h1
  obtain ⟨hn0,hnN,_⟩:=hoa.1.var hk1
  simp only [T.n] at hn0 hnN
  obtain ⟨j,rfl⟩:∃ j:Nat,n=j:=⟨n.toNat,by omega⟩
  refine ao hI 0 rfl bF aY rfl ?_
  refine aL hI 1 ai rfl rfl ?_
  refine Run.call (A:=[_,_]) zz Ae hI (xP hN hg hob.1 hob.2 j (by omega) hds hkc) fun v' I' S' w'=>?_
  rintro ⟨eS,rfl,rfl⟩ _ hI
  rw [eS] at hI
  clear eS
  have hI:Inv w X [.blk b1 (.cells #[.int .i64 k,.int .i64 j,.string s,kv] ab),.blk b2 (.cells #[.int .i64 k',.int .i64 n',.string s',kv'] ab),.blk kb (.cells kc ab)] S w':=hI
  refine aS (fun hb=>?_) (fun hb=>?_)
  ·have hocc:kl st (Int.toNat j) (.mk k' n' s' ks'):=@of_decide_eq_true _ (Classical.propDecidable _) hb
   have:r=false/\st'=st:=by
    rcases hend with ⟨h1,_⟩|⟨_,h1⟩
    ·exact absurd hocc h1
    ·exact h1
   obtain ⟨rfl,rfl⟩:=this
   exact ⟨_,_,_,rfl,hI.pick [false,false,true],Ext.refl _ _ _,rfl,rfl,_,rfl,hkc⟩
  ·have hocc:¬ kl st (Int.toNat j) (.mk k' n' s' ks'):=@of_decide_eq_false _ (Classical.propDecidable _) hb
   have:r=true/\st'=st.set (Int.toNat j) (some (.mk k' n' s' ks')):=by
    rcases hend with ⟨_,h1⟩|⟨h1,_⟩
    ·exact h1
    ·exact absurd h1 hocc
   obtain ⟨rfl,rfl⟩:=this
   rw [Int.toNat_natCast]
   refine ao hI 0 rfl bF aY rfl ?_
   refine aL hI 1 ai rfl rfl ?_
   refine be aC (by omega) ?_
   rw [Nat.zero_add]
   refine lV hI 2 rfl ai rfl (by have:=hkc.1; exact Nat.ble_eq_true_of_le (by omega)) hds.one fun w' hI=>?_
   exact ⟨_,_,_,rfl,hI.pick [false,false,true],Ext.refl _ _ _,rfl,rfl,_,rfl,hkc.set (by omega) hds⟩
 refine ao hI 1 rfl bC aY rfl ?_
 refine bP ?_
 refine bz (fun hk2=>?_) (fun hk2=>?_)
 ·refine aL hI 1 ai rfl rfl ?_
  refine aL hI 0 ai rfl rfl ?_
  refine Run.call (A:=[_,_]) eQ eO hI (hsw hk1 hk2 S _ _ kb kc hds hcs hkc) fun v' I' S' w'=>?_
  rintro ⟨eS,rfl,kc',rfl,hkc'⟩ _ hI
  rw [eS] at hI
  clear eS
  exact ⟨_,_,_,rfl,hI.pick [false,false,true],Ext.refl _ _ _,rfl,rfl,_,rfl,hkc'⟩
 have hend:(nN (.mk k n s ks) (.mk k' n' s' ks')=false/\r=false/\st'=st) ∨ (nN (.mk k n s ks) (.mk k' n' s' ks')=true/\Chain (UC N kp) st ks ks' r st'):=by
  rcases he with ⟨h1,_⟩|⟨h1,_,_⟩|⟨_,h1,_⟩|⟨_,_,h1⟩
  ·exact absurd h1 hk1
  ·exact absurd h1 hk1
  ·exact absurd h1 hk2
  ·exact h1
 refine ⟨fun q w'=>q=.bool (!nN (.mk k n s ks) (.mk k' n' s' ks'))/\Inv w X [.blk b1 (.cells #[.int .i64 k,.int .i64 n,.string s,kv] ab),.blk b2 (.cells #[.int .i64 k',.int .i64 n',.string s',kv'] ab),.blk kb (.cells kc ab)] S w',?_,?_⟩
 ·refine ao hI 0 rfl bC aY rfl ?_
  refine ao hI 1 rfl bC aY rfl ?_
  refine dB ?_
  by_cases e1:k=k'
  ·rw [decide_eq_true e1]
   repeat (first|refine ad ?_|refine af (by decide) ?_|refine ae ?_|refine ak ?_|refine aj ?_)
   refine ao hI 0 rfl bF aY rfl ?_
   refine ao hI 1 rfl bF aY rfl ?_
   refine dB ?_
   by_cases e2:n=n'
   ·rw [decide_eq_true e2]
    repeat (first|refine ad ?_|refine af (by decide) ?_|refine ae ?_|refine ak ?_|refine aj ?_)
    refine ao hI 0 rfl bB bn rfl ?_
    refine ao hI 1 rfl bB bn rfl ?_
    refine Gh ?_
    by_cases e3:s=s'
    ·rw [decide_eq_true e3]
     repeat (first|refine ad ?_|refine af (by decide) ?_|refine ae ?_|refine ak ?_|refine aj ?_)
     refine ao hI 0 rfl aK aJ rfl ?_
     refine bp hks aC ?_
     refine ao hI 1 rfl aK aJ rfl ?_
     refine bp hks' aC ?_
     refine dB ?_
     repeat (first|refine ad ?_|refine af (by decide) ?_|refine ae ?_|refine ak ?_|refine aj ?_)
     exact ⟨by rw [gR,decide_eq_true e1,decide_eq_true e2,decide_eq_true e3,MU]; rfl,hI⟩
    ·rw [decide_eq_false e3]
     repeat (first|refine ad ?_|refine af (by decide) ?_|refine ae ?_|refine ak ?_|refine aj ?_)
     exact ⟨by rw [gR,decide_eq_true e1,decide_eq_true e2,decide_eq_false e3]; rfl,hI⟩
   ·rw [decide_eq_false e2]
    repeat (first|refine ad ?_|refine af (by decide) ?_|refine ae ?_|refine ak ?_|refine aj ?_)
    exact ⟨by rw [gR,decide_eq_true e1,decide_eq_false e2]; rfl,hI⟩
  ·rw [decide_eq_false e1]
   repeat (first|refine ad ?_|refine af (by decide) ?_|refine ae ?_|refine ak ?_|refine aj ?_)
   exact ⟨by rw [gR,decide_eq_false e1]; rfl,hI⟩
 intro q _ _ _ _ _ _ _ _ _ _ _ _ _ _ _ _ _ _ _ _ _ _ _ _ _ _ _ w'
 rintro ⟨rfl,hI⟩
 cases hd:nN (.mk k n s ks) (.mk k' n' s' ks')
 ·refine aS (fun _=>?_) (fun hb=>by cases hb)
  have:r=false/\st'=st:=by
   rcases hend with ⟨_,h1⟩|⟨h1,_⟩
   ·exact h1
   ·rw [hd] at h1; cases h1
  obtain ⟨rfl,rfl⟩:=this
  exact ⟨_,_,_,rfl,hI.pick [false,false,true],Ext.refl _ _ _,rfl,rfl,_,rfl,hkc⟩
 refine aS (fun hb=>by cases hb) (fun _=>?_)
 have hle:ks.length=ks'.length:=qv hd
 have hch:Chain (UC N kp) st ks ks' r st':=by
  rcases hend with ⟨h1,_⟩|⟨_,h1⟩
  ·rw [hd] at h1; cases h1
  ·exact h1
 refine ⟨fun i w'=>∃ (j:Nat) (st1:bf) (kc1:Array Value),j<=ks.length/\i=.int .i64 j/\Chain (UC N kp) st1 (ks.drop j) (ks'.drop j) r st'/\KnU S kc1 st1/\Inv w X [.blk b1 (.cells #[.int .i64 k,.int .i64 n,.string s,kv] ab),.blk b2 (.cells #[.int .i64 k',.int .i64 n',.string s',kv'] ab),.blk kb (.cells kc1 ab)] S w',fun i _=>ks.length - (intOf i).toNat,⟨0,st,kc,Nat.zero_le _,rfl,hch,hkc,hI⟩,?_⟩
 intro t7 _ _ _ t96 t95 t94 t93 t92 t91 t90 t89 t88 t87 t86 t85 t84 _ _ _ _ _ w'
 rintro ⟨j,st1,kc1,hj,rfl,hrel,hkc1,hI⟩
 refine ao hI 0 rfl aK aJ rfl ?_
 refine bp hks aC ?_
 refine cg ?_
 refine bz (fun hji=>?_) (fun hji=>?_)
 ·have hj1:j<ks.length:=by omega
  have hj2:j<ks'.length:=by omega
  obtain ⟨c1,o1,cap1,a1,E1,fz1,rfl,hS1,hR1⟩:=hks.at_ hj1
  obtain ⟨c2,o2,cap2,a2,E2,fz2,rfl,hS2,hR2⟩:=hks'.at_ hj2
  rw [List.drop_eq_getElem_cons hj1,List.drop_eq_getElem_cons hj2] at hrel
  obtain ⟨r1,st2,hcall,hno,hyes⟩:=hrel.head
  have hcall:=hcall S _ _ kb kc1 hR1 hR2 hkc1
  refine ⟨fun D ON Oj M0 MC Mo KV Kl JV IQ JW Jr KO JX w_=>(D 0=true->JX=.pointer (some ⟨b1,3,none⟩))/\(D 1=true->KO=.slice (some ⟨c1,o1,none⟩) ks.length cap1)/\(D 2=true->Jr=.int .i64 j)/\(D 3=true->JW=.pointer (some ⟨c1,o1+j * 4,none⟩))/\(D 4=true->IQ=.agg (bm a1 (o1+j * 4) 4).toArray)/\(D 5=true->JV=.pointer (some ⟨b2,3,none⟩))/\(D 6=true->Kl=.slice (some ⟨c2,o2,none⟩) ks'.length cap2)/\(D 7=true->KV=.int .i64 j)/\(D 8=true->Mo=.pointer (some ⟨c2,o2+j * 4,none⟩))/\(D 9=true->MC=.agg (bm a2 (o2+j * 4) 4).toArray)/\(D 10=true->M0=kvU kb N kp)/\(D 11=true->Oj=.bool r1)/\(D 12=true->ON=.bool (!r1))/\(D 11=false->Inv w X [.blk b1 (.cells #[.int .i64 k,.int .i64 n,.string s,.slice (some ⟨c1,o1,none⟩) ks.length cap1] ab),.blk b2 (.cells #[.int .i64 k',.int .i64 n',.string s',.slice (some ⟨c2,o2,none⟩) ks'.length cap2] ab),.blk kb (.cells kc1 ab)] S w_)/\(D 11=true->∃ kc2,KnU S kc2 st2/\Inv w X [.blk b1 (.cells #[.int .i64 k,.int .i64 n,.string s,.slice (some ⟨c1,o1,none⟩) ks.length cap1] ab),.blk b2 (.cells #[.int .i64 k',.int .i64 n',.string s',.slice (some ⟨c2,o2,none⟩) ks'.length cap2] ab),.blk kb (.cells kc2 ab)] S w_)/\∃ kc3,Inv w X [.blk b1 (.cells #[.int .i64 k,.int .i64 n,.string s,.slice (some ⟨c1,o1,none⟩) ks.length cap1] ab),.blk b2 (.cells #[.int .i64 k',.int .i64 n',.string s',.slice (some ⟨c2,o2,none⟩) ks'.length cap2] ab),.blk kb (.cells kc3 ab)] S w_,⟨ac,ac,ac,ac,ac,ac,ac,ac,ac,ac,ac,ac,ac,⟨fun _=>hI.draw,ac,kc1,hI.draw⟩⟩,⟨?_,?_,?_,?_,?_,?_,?_,?_,?_,?_,?_,?_,?_,trivial⟩,?_⟩
  all_goals (intro D bX; intros; rename_i ON Oj M0 MC Mo KV Kl JV IQ JW Jr KO JX w_ hA_; obtain ⟨ax,ay,az,aA,aF,aH,aE,aM,aN,aR,aq,ar,aD,⟨hI0,hI1,kc3,hI⟩⟩:=hA_)
  ·refine aI aK ?_
   exact ⟨fun _=>rfl,ay,az,aA,aF,aH,aE,aM,aN,aR,aq,ar,aD,⟨hI0,hI1,kc3,hI⟩⟩
  ·obtain rfl:=ax ‹_›
   refine aX hI 0 aJ rfl rfl ?_
   exact ⟨ax,fun _=>rfl,az,aA,aF,aH,aE,aM,aN,aR,aq,ar,aD,⟨hI0,hI1,kc3,hI⟩⟩
  ·exact ⟨ax,ay,fun _=>rfl,aA,aF,aH,aE,aM,aN,aR,aq,ar,aD,⟨hI0,hI1,kc3,hI⟩⟩
  ·obtain rfl:=ay ‹_›
   obtain rfl:=az ‹_›
   refine be aC hj1 ?_
   exact ⟨ax,ay,az,fun _=>rfl,aF,aH,aE,aM,aN,aR,aq,ar,aD,⟨hI0,hI1,kc3,hI⟩⟩
  ·obtain rfl:=aA ‹_›
   refine cL ai hR1.length (fun j v hj=>by rw [hI.cellS hS1]; exact bh rfl j v hj) ?_
   exact ⟨ax,ay,az,aA,fun _=>rfl,aH,aE,aM,aN,aR,aq,ar,aD,⟨hI0,hI1,kc3,hI⟩⟩
  ·refine aI aK ?_
   exact ⟨ax,ay,az,aA,aF,fun _=>rfl,aE,aM,aN,aR,aq,ar,aD,⟨hI0,hI1,kc3,hI⟩⟩
  ·obtain rfl:=aH ‹_›
   refine aX hI 1 aJ rfl rfl ?_
   exact ⟨ax,ay,az,aA,aF,aH,fun _=>rfl,aM,aN,aR,aq,ar,aD,⟨hI0,hI1,kc3,hI⟩⟩
  ·exact ⟨ax,ay,az,aA,aF,aH,aE,fun _=>rfl,aN,aR,aq,ar,aD,⟨hI0,hI1,kc3,hI⟩⟩
  ·obtain rfl:=aE ‹_›
   obtain rfl:=aM ‹_›
   refine be aC hj2 ?_
   exact ⟨ax,ay,az,aA,aF,aH,aE,aM,fun _=>rfl,aR,aq,ar,aD,⟨hI0,hI1,kc3,hI⟩⟩
  ·obtain rfl:=aN ‹_›
   refine cL ai hR2.length (fun j v hj=>by rw [hI.cellS hS2]; exact bh rfl j v hj) ?_
   exact ⟨ax,ay,az,aA,aF,aH,aE,aM,aN,fun _=>rfl,aq,ar,aD,⟨hI0,hI1,kc3,hI⟩⟩
  ·exact ⟨ax,ay,az,aA,aF,aH,aE,aM,aN,aR,fun _=>rfl,ar,aD,⟨hI0,hI1,kc3,hI⟩⟩
  ·obtain rfl:=aF ‹_›
   obtain rfl:=aR ‹_›
   obtain rfl:=aq ‹_›
   refine Run.call (A:=[_,_]) eQ eO (hI0 bX) hcall fun v' I' S' w_=>?_
   rintro ⟨eS,rfl,kc2,rfl,hk2⟩ _ hI
   rw [eS] at hI
   have hI0:=fun (h:ah D 11 11=false)=>(Bool.noConfusion h:Inv w X [.blk b1 (.cells #[.int .i64 k,.int .i64 n,.string s,.slice (some ⟨c1,o1,none⟩) ks.length cap1] ab),.blk b2 (.cells #[.int .i64 k',.int .i64 n',.string s',.slice (some ⟨c2,o2,none⟩) ks'.length cap2] ab),.blk kb (.cells kc1 ab)] S w_)
   have hI1:=fun (_:ah D 11 11=true)=>(⟨kc2,hk2,hI⟩:∃ kc2,KnU S kc2 st2/\Inv w X [.blk b1 (.cells #[.int .i64 k,.int .i64 n,.string s,.slice (some ⟨c1,o1,none⟩) ks.length cap1] ab),.blk b2 (.cells #[.int .i64 k',.int .i64 n',.string s',.slice (some ⟨c2,o2,none⟩) ks'.length cap2] ab),.blk kb (.cells kc2 ab)] S w_)
   obtain ⟨kc3,hI⟩:∃ kc3,Inv w X [.blk b1 (.cells #[.int .i64 k,.int .i64 n,.string s,.slice (some ⟨c1,o1,none⟩) ks.length cap1] ab),.blk b2 (.cells #[.int .i64 k',.int .i64 n',.string s',.slice (some ⟨c2,o2,none⟩) ks'.length cap2] ab),.blk kb (.cells kc3 ab)] S w_:=⟨kc2,hI⟩
   exact ⟨ax,ay,az,aA,aF,aH,aE,aM,aN,aR,aq,fun _=>rfl,aD,⟨hI0,hI1,kc3,hI⟩⟩
  ·obtain rfl:=ar ‹_›
   refine cK ?_
   exact ⟨ax,ay,az,aA,aF,aH,aE,aM,aN,aR,aq,ar,fun _=>rfl,⟨hI0,hI1,kc3,hI⟩⟩
  obtain rfl:=aD ‹_›
  obtain rfl:=ar ‹_›
  obtain rfl:=aq ‹_›
  obtain rfl:=aR ‹_›
  obtain rfl:=aN ‹_›
  obtain rfl:=aM ‹_›
  obtain rfl:=aE ‹_›
  obtain rfl:=aH ‹_›
  obtain rfl:=aF ‹_›
  obtain rfl:=aA ‹_›
  obtain rfl:=az ‹_›
  obtain rfl:=ay ‹_›
  obtain rfl:=ax ‹_›
  have sR:D 11=true:=by assumption
  clear ax ay az aA aF aH aE aM aN aR aq ar aD
  obtain ⟨kc2,hk2,hI⟩:=hI1 sR
  clear hI0 hI1
  refine aS (fun hne=>?_) (fun he'=>?_)
  ·simp only [Bool.not_eq_true'] at hne
   obtain ⟨rfl,rfl⟩:=hno hne
   exact ⟨_,_,_,rfl,hI.pick [false,false,true],Ext.refl _ _ _,rfl,rfl,_,rfl,hk2⟩
  ·simp only [Bool.not_eq_false'] at he'
   refine bT (by omega) ?_
   exact ⟨⟨j+1,st2,kc2,hj1,rfl,hyes he',hk2,hI⟩,by simp [intOf]; omega⟩
 ·have:j=ks.length:=by omega
  subst this
  rw [List.drop_length,hle,List.drop_length] at hrel
  obtain ⟨rfl,rfl⟩:=hrel.done
  exact ⟨_,_,_,rfl,hI.pick [false,false,true],Ext.refl _ _ _,rfl,rfl,_,rfl,hkc1⟩
theorem fP {N kp:Nat} (hN:N<=1000000) {st st':bf} {a b:T} {r:Bool} (hg:Good N st) (hj:okJ N (.one a b)) (hu:Uni st (.one a b) r st'):UC N kp st a b r st':=by
 refine Uni.calls (N:=N) (Call:=UC N kp) (fun st a b a' b' r st' hg hj hwa hwb he=>?_) hu hg hj
 refine sI hN hg hj hwa hwb (fun h1 h2=>?_) he
 have hoa:=eP hg hwa hj.1
 have hob:=eP hg hwb hj.2
 have hend:(¬ kl st b'.n.toNat a'/\r=true/\st'=st.set b'.n.toNat (some a')) ∨ (kl st b'.n.toNat a'/\r=false/\st'=st):=by
  rcases he with ⟨h3,_⟩|⟨h3,_,_⟩|⟨_,_,h3⟩|⟨_,h3,_⟩
  ·exact absurd h3 h1
  ·exact absurd h3 h1
  ·exact h3
  ·exact absurd h2 h3
 refine sI hN hg ⟨hob,hoa⟩ (.stop (nF hwb)) (.stop (nF hwa)) (fun h3 _=>absurd h2 h3) (.inr (.inl ⟨h2,fun h3=>h1 h3.1,hend⟩))
end

end Go.Proofs.YtfcbhfjomgopbaaGreat

/- slices.Delete on a tree of the function's own. -/
namespace Go.Proofs.YtfcbhfjomgopbaaGreat
open Go Go.RowKit
section
variable {P:Program} {w w0:World} {X:List Nat} {L:List Item} {S:al} {K:Value->World->Prop}
attribute [local irreducible] Run CondV ag aO
/- append within the room of a block -/
end
end Go.Proofs.YtfcbhfjomgopbaaGreat

/- DropClause: both sides. -/
namespace Go.Proofs.YtfcbhfjomgopbaaGreat
open Go Go.RowKit
attribute [local irreducible] Run CondV ag aO

end Go.Proofs.YtfcbhfjomgopbaaGreat

/- DropClause: both sides. -/
namespace Go.Proofs.YtfcbhfjomgopbaaGreat
open Go Go.RowKit
attribute [local irreducible] Run CondV ag aO

end Go.Proofs.YtfcbhfjomgopbaaGreat

/- spec.RenumberClause. -/
namespace Go.Proofs.YtfcbhfjomgopbaaGreat
open Go Go.RowKit
section
attribute [local irreducible] Run CondV ag aO
theorem Kd {vs:List Int} {n:Int} (hn:inI n) (hl:vs.length<=1000000000):inI (oY vs n n 0):=by
 rcases AS vs n n 0 with h|h
 ·rw [h]; exact hn
 ·simp only [inI] at hn ⊢; omega
theorem xf (vs:List Int) (hvl:vs.length<=1000000000):∀ (t:T) (S:al) (cs:List Value) (v:Value),RdT S cs t->RdSl S 1 gt v vs->wT t<=1048576->Tri Tryz.prog Do [.agg cs.toArray,v] [] S (Bg S (fH vs t)):=by
 refine T.ind fun k n s ks ih S cs v h hv hw=>?_
 intro w hI
 obtain ⟨kv,rfl,h1,h2,hs,hks⟩:=RdT.iff.1 h
 simp only [T.name,T.kids,T.kind,T.n] at h1 h2 hs hks ⊢
 simp only [wT] at hw
 obtain ⟨N,hN⟩:∃ N,N=if k=1 then oY vs n n 0 else n:=⟨_,rfl⟩
 have hNi:inI N:=by
  rw [hN]
  split
  ·exact Kd h2 hvl
  ·exact h2
 refine sO ?_
 unfold o0
 refine bS hI fun b1 w' hI=>?_
 refine bi hI bH fun b2 w' hI=>?_
 refine ao hI 0 rfl bC aY rfl ?_
 refine ao hI 0 rfl bF aY rfl ?_
 refine ao hI 0 rfl bB bn rfl ?_
 refine ia ?_
 refine bi hI bH fun b3 w' hI=>?_
 refine aG hI 2 rfl ai rfl rfl (by simp [Value.oneCell']) fun w' hI=>?_
 refine ⟨fun i w'=>∃ (j:Nat) (cur:Int),j<=vs.length/\i=.int .i64 j/\(if k=1 then oY (vs.drop j) n cur j else cur)=N/\
   Inv w [] [.blk b1 (.cells #[.int .i64 k,.int .i64 n,.string s,kv] ab),.blk b2 (.cells #[.int .i64 0,.int .i64 0,.string ⟨#[]⟩,.slice none 0 0] ab),.blk b3 (.cells #[.int .i64 k,.int .i64 cur,.string s,.slice none 0 0] ab)] S w',
  fun i _=>vs.length - (intOf i).toNat,⟨0,n,Nat.zero_le _,rfl,hN.symm,hI⟩,?_⟩
 intro t6 _ _ _ _ _ _ _ _ _ _ _ _ _ _ _ _ _ _ _ _ w'
 rintro ⟨j,cur,hj,rfl,hrel,hI⟩
 refine ⟨fun t w'=>t=.bool (decide (j<vs.length) && decide (k=1))/\Inv w [] [.blk b1 (.cells #[.int .i64 k,.int .i64 n,.string s,kv] ab),.blk b2 (.cells #[.int .i64 0,.int .i64 0,.string ⟨#[]⟩,.slice none 0 0] ab),.blk b3 (.cells #[.int .i64 k,.int .i64 cur,.string s,.slice none 0 0] ab)] S w',?_,?_⟩
 ·refine bp hv cX ?_
  refine cg ?_
  by_cases hji:j<vs.length
  ·rw [decide_eq_true (show (j:Int)<(vs.length:Int) by omega)]
   repeat (first|refine ad ?_|refine af (by decide) ?_|refine ae ?_|refine ak ?_|refine aj ?_)
   refine ao hI 0 rfl bC aY rfl ?_
   refine bP ?_
   repeat (first|refine ad ?_|refine af (by decide) ?_|refine ae ?_|refine ak ?_|refine aj ?_)
   exact ⟨by rw [decide_eq_true hji]; rfl,hI⟩
  ·rw [decide_eq_false (show ¬ (j:Int)<(vs.length:Int) by omega)]
   repeat (first|refine ad ?_|refine af (by decide) ?_|refine ae ?_|refine ak ?_|refine aj ?_)
   exact ⟨by rw [decide_eq_false hji]; rfl,hI⟩
 intro t _ _ _ _ _ _ _ _ w'
 rintro ⟨rfl,hI⟩
 refine aS (fun hb=>?_) (fun hb=>?_)
 ·simp only [Bool.and_eq_true,decide_eq_true_eq] at hb
  obtain ⟨hji,hk⟩:=hb
  rw [if_pos hk,List.drop_eq_getElem_cons hji,oY] at hrel
  refine ⟨fun w'=>Inv w [] [.blk b1 (.cells #[.int .i64 k,.int .i64 n,.string s,kv] ab),.blk b2 (.cells #[.int .i64 0,.int .i64 0,.string ⟨#[]⟩,.slice none 0 0] ab),.blk b3 (.cells #[.int .i64 k,.int .i64 (if vs[j]=n then (j:Int) else cur),.string s,.slice none 0 0] ab)] S w',?_,?_⟩
  ·obtain ⟨b,o,cap,c,E,fz,rfl,hS,hR⟩:=hv.at_ hji
   refine ⟨fun D rN jP jc jK gC mz oA w_=>(D 0=true->oA=.slice (some ⟨b,o,none⟩) vs.length cap)/\(D 1=true->mz=.int .i64 j)/\(D 2=true->gC=.pointer (some ⟨b,o+j * 1,none⟩))/\(D 3=true->jK=.int .i64 vs[j])/\(D 4=true->jc=.pointer (some ⟨b1,1,none⟩))/\(D 5=true->jP=.int .i64 n)/\(D 6=true->rN=.bool (decide (vs[j]=n)))/\Inv w [] [.blk b1 (.cells #[.int .i64 k,.int .i64 n,.string s,kv] ab),.blk b2 (.cells #[.int .i64 0,.int .i64 0,.string ⟨#[]⟩,.slice none 0 0] ab),.blk b3 (.cells #[.int .i64 k,.int .i64 cur,.string s,.slice none 0 0] ab)] S w_,⟨ac,ac,ac,ac,ac,ac,ac,hI.draw⟩,⟨?_,?_,?_,?_,?_,?_,?_,trivial⟩,?_⟩
   all_goals (intro D bX; intros; rename_i rN jP jc jK gC mz oA w_ hA_; obtain ⟨ax,ay,az,aA,aF,aH,aE,hI⟩:=hA_)
   ·exact ⟨fun _=>rfl,ay,az,aA,aF,aH,aE,hI⟩
   ·exact ⟨ax,fun _=>rfl,az,aA,aF,aH,aE,hI⟩
   ·obtain rfl:=ax ‹_›
    obtain rfl:=ay ‹_›
    refine be cX hji ?_
    exact ⟨ax,ay,fun _=>rfl,aA,aF,aH,aE,hI⟩
   ·obtain rfl:=az ‹_›
    refine dc aY (by rw [hI.cellS hS]; exact bh hR 0 _ rfl) ?_
    exact ⟨ax,ay,az,fun _=>rfl,aF,aH,aE,hI⟩
   ·refine aI bF ?_
    exact ⟨ax,ay,az,aA,fun _=>rfl,aH,aE,hI⟩
   ·obtain rfl:=aF ‹_›
    refine aX hI 0 aY rfl rfl ?_
    exact ⟨ax,ay,az,aA,aF,fun _=>rfl,aE,hI⟩
   ·obtain rfl:=aA ‹_›
    obtain rfl:=aH ‹_›
    refine bP ?_
    exact ⟨ax,ay,az,aA,aF,aH,fun _=>rfl,hI⟩
   obtain rfl:=aE ‹_›
   obtain rfl:=aH ‹_›
   obtain rfl:=aF ‹_›
   obtain rfl:=aA ‹_›
   obtain rfl:=az ‹_›
   obtain rfl:=ay ‹_›
   obtain rfl:=ax ‹_›
   clear ax ay az aA aF aH aE
   refine bz (fun he=>?_) (fun he=>?_)
   ·rw [if_pos he]
    exact cM hI 2 rfl bF aY rfl rfl rfl fun w' hI=>hI
   ·rw [if_neg he]
    exact hI
  intro _ _ _ _ _ _ _ _ _ w' hI
  refine bT (by omega) ?_
  exact ⟨⟨j+1,_,hji,rfl,by rw [if_pos hk]; exact hrel,hI⟩,by simp [intOf]; omega⟩
 have hcur:cur=N:=by
  by_cases hk:k=1
  ·rw [if_pos hk] at hrel
   have:j=vs.length:=by
    have:decide (j<vs.length)=false:=by
     rw [decide_eq_true hk,Bool.and_true] at hb
     exact hb
    have:=of_decide_eq_false this
    omega
   rw [this,List.drop_length] at hrel
   exact hrel
  ·rw [if_neg hk] at hrel
   exact hrel
 clear hrel hb
 subst hcur
 have hI:=hI.rowNil ab 4
 refine ⟨fun i w'=>∃ (j:Nat) (kvc:Value) (Ls:List bG) (css:List (List Value)),j<=ks.length/\i=.int .i64 j/\Grown 4 TrT Ls css (jv vs (ks.take j))/\
   Inv w [] (.blk b1 (.cells #[.int .i64 k,.int .i64 n,.string s,kv] ab)::.blk b2 (.cells #[.int .i64 0,.int .i64 0,.string ⟨#[]⟩,.slice none 0 0] ab)::.blk b3 (.cells #[.int .i64 k,.int .i64 cur,.string s,kvc] ab)::bq kvc ab 4 css::bV Ls.flatten) S w',
  fun i _=>ks.length - (intOf i).toNat,⟨0,_,[],[],Nat.zero_le _,rfl,Grown.nil _ _,hI⟩,?_⟩
 intro t7 _ _ _ _ _ _ _ _ _ _ _ _ _ _ _ _ _ _ _ w'
 rintro ⟨j,kvc,Ls,css,hj,rfl,hg,hI⟩
 refine ao hI 0 rfl aK aJ rfl ?_
 refine bp hks aC ?_
 refine cg ?_
 refine bz (fun hji=>?_) (fun hji=>?_)
 ·have hj':j<ks.length:=by omega
  have hjl:(ks.take j).length=j:=by simp; omega
  have hcl:=hg.hc
  rw [tR] at hcl
  have hm:=List.getElem_mem hj'
  have hwm:=jO hm
  obtain ⟨b,o,cap,c,E,fz,rfl,hS,hR⟩:=hks.at_ hj'
  refine ⟨fun D pK jS sS tS uY pL lH sA nV rX lM ni w_=>(D 0=true->ni=.pointer (some ⟨b3,3,none⟩))/\(D 1=true->lM=kvc)/\(D 2=true->rX=.pointer (some ⟨b1,3,none⟩))/\(D 3=true->nV=.slice (some ⟨b,o,none⟩) ks.length cap)/\(D 4=true->sA=.int .i64 j)/\(D 5=true->lH=.pointer (some ⟨b,o+j * 4,none⟩))/\(D 6=true->pL=.agg (bm c (o+j * 4) 4).toArray)/\(D 7=true->uY=v)/\(D 8=true->True)/\(D 9=true->True)/\(D 10=true->True)/\(D 11=true->pK=.pointer (some ⟨b3,3,none⟩))/\(D 12=true->True)/\∃ M cs7 b8,(D 8=true->tS=.agg cs7.toArray/\TrT M cs7 (fH vs ks[j]))/\(D 9=true->sS=.slice (some ⟨b8,0,none⟩) 1 1)/\(D 9=true->D 8=true)/\(D 10=true->D 9=true)/\(D 12=true->D 10=true)/\(D 12=true->D 1=true)/\Inv w [] (bI (.blk b1 (.cells #[.int .i64 k,.int .i64 n,.string s,.slice (some ⟨b,o,none⟩) ks.length cap] ab)) (.blk b2 (.cells #[.int .i64 0,.int .i64 0,.string ⟨#[]⟩,.slice none 0 0] ab)) (.blk b3 (.cells #[.int .i64 k,.int .i64 cur,.string s,kvc] ab)) (.blk b3 (.cells #[.int .i64 k,.int .i64 cur,.string s,jS] ab)) (bq kvc ab 4 css) (bq jS ab 4 (css++[cs7])) (bV Ls.flatten) M (.blk b8 (.cells cs7.toArray ab)) (D 8) (D 9) (D 10) (D 12)) S w_,⟨ac,ac,ac,ac,ac,ac,ac,ac,ac,ac,ac,ac,ac,⟨[],[],0,ac,ac,ac,ac,ac,ac,by simpa [bI,bV] using hI.draw⟩⟩,⟨?_,?_,?_,?_,?_,?_,?_,?_,?_,?_,?_,?_,?_,trivial⟩,?_⟩
  all_goals (intro D bX; intros; rename_i pK jS sS tS uY pL lH sA nV rX lM ni w_ hA_; obtain ⟨ax,ay,az,aA,aF,aH,aE,aM,aN,aR,aq,ar,aD,⟨M,cs7,b8,e7,e8,k8,k9,k11,k1,hI⟩⟩:=hA_)
  ·refine aI aK ?_
   exact ⟨fun _=>rfl,ay,az,aA,aF,aH,aE,aM,aN,aR,aq,ar,aD,⟨M,cs7,b8,e7,e8,k8,k9,k11,k1,hI⟩⟩
  ·obtain rfl:=ax ‹_›
   have f11:D 12=false:=Bool.eq_false_iff.2 fun h=>by rw [k1 h] at bX; cases bX
   refine aX (b:=b3) hI 2 (c:=(#[.int .i64 k,.int .i64 cur,.string s,kvc])) aJ (by rw [f11]; rfl) rfl ?_
   have k1:=fun (_:ah D 1 12=true)=>(rfl:ah D 1 1=true)
   exact ⟨ax,fun _=>rfl,az,aA,aF,aH,aE,aM,aN,aR,aq,ar,aD,⟨M,cs7,b8,e7,e8,k8,k9,k11,k1,hI⟩⟩
  ·refine aI aK ?_
   exact ⟨ax,ay,fun _=>rfl,aA,aF,aH,aE,aM,aN,aR,aq,ar,aD,⟨M,cs7,b8,e7,e8,k8,k9,k11,k1,hI⟩⟩
  ·obtain rfl:=az ‹_›
   refine aX hI 0 aJ rfl rfl ?_
   exact ⟨ax,ay,az,fun _=>rfl,aF,aH,aE,aM,aN,aR,aq,ar,aD,⟨M,cs7,b8,e7,e8,k8,k9,k11,k1,hI⟩⟩
  ·exact ⟨ax,ay,az,aA,fun _=>rfl,aH,aE,aM,aN,aR,aq,ar,aD,⟨M,cs7,b8,e7,e8,k8,k9,k11,k1,hI⟩⟩
  ·obtain rfl:=aA ‹_›
   obtain rfl:=aF ‹_›
   refine be aC hj' ?_
   exact ⟨ax,ay,az,aA,aF,fun _=>rfl,aE,aM,aN,aR,aq,ar,aD,⟨M,cs7,b8,e7,e8,k8,k9,k11,k1,hI⟩⟩
  ·obtain rfl:=aH ‹_›
   refine cL ai hR.length (fun j v hj=>by rw [hI.cellS hS]; exact bh rfl j v hj) ?_
   exact ⟨ax,ay,az,aA,aF,aH,fun _=>rfl,aM,aN,aR,aq,ar,aD,⟨M,cs7,b8,e7,e8,k8,k9,k11,k1,hI⟩⟩
  ·exact ⟨ax,ay,az,aA,aF,aH,aE,fun _=>rfl,aN,aR,aq,ar,aD,⟨M,cs7,b8,e7,e8,k8,k9,k11,k1,hI⟩⟩
  ·obtain rfl:=aE ‹_›
   obtain rfl:=aM ‹_›
   have f8:D 9=false:=Bool.eq_false_iff.2 fun h=>by rw [k8 h] at bX; cases bX
   have f9:D 10=false:=Bool.eq_false_iff.2 fun h=>by rw [k9 h] at f8; cases f8
   have f11:D 12=false:=Bool.eq_false_iff.2 fun h=>by rw [k11 h] at f9; cases f9
   rw [bX,f8,f9,f11] at hI
   refine Run.call0 oB oX hI (ih _ (List.getElem_mem hj') S _ _ hR hv (by omega)) fun v' I' S w_=>?_
   rintro ⟨rfl,cs7,M,rfl,rfl,hT⟩ _ hI
   have e7:ah D 8 8=true->Value.agg cs7.toArray=Value.agg cs7.toArray/\TrT M cs7 (fH vs ks[j]):=fun _=>⟨rfl,hT⟩
   have k8:=fun (_:ah D 8 9=true)=>(rfl:ah D 8 8=true)
   have hI:Inv w [] (bI (.blk b1 (.cells #[.int .i64 k,.int .i64 n,.string s,.slice (some ⟨b,o,none⟩) ks.length cap] ab)) (.blk b2 (.cells #[.int .i64 0,.int .i64 0,.string ⟨#[]⟩,.slice none 0 0] ab)) (.blk b3 (.cells #[.int .i64 k,.int .i64 cur,.string s,kvc] ab)) (.blk b3 (.cells #[.int .i64 k,.int .i64 cur,.string s,jS] ab)) (bq kvc ab 4 css) (bq jS ab 4 (css++[cs7])) (bV Ls.flatten) M (.blk b8 (.cells cs7.toArray ab)) true (D 9) (D 10) (D 12)) S w_:=by
    rw [f8,f9,f11]
    simpa [bI] using hI
   exact ⟨ax,ay,az,aA,aF,aH,aE,aM,fun _=>by first|assumption|trivial,aR,aq,ar,aD,⟨M,cs7,b8,e7,e8,k8,k9,k11,k1,hI⟩⟩
  ·have BL:=aN ‹_›
   have f9:D 10=false:=Bool.eq_false_iff.2 fun h=>by rw [k9 h] at bX; cases bX
   have f11:D 12=false:=Bool.eq_false_iff.2 fun h=>by rw [k11 h] at f9; cases f9
   obtain ⟨q7,hT⟩:=e7 ‹D 8=true›
   subst q7
   rw [‹D 8=true›,bX,f9,f11] at hI
   refine dh hI bO (by simp [Value.cells,hT.length]) (by omega) (by omega) fun b8 w_ hI=>?_
   have e7:ah D 9 8=true->Value.agg cs7.toArray=Value.agg cs7.toArray/\TrT M cs7 (fH vs ks[j]):=fun _=>⟨rfl,hT⟩
   have e8:=fun (_:ah D 9 9=true)=>(rfl:Value.slice (some ⟨b8,0,none⟩) 1 1=_)
   have k8:=fun (_:ah D 9 9=true)=>‹D 8=true›
   have k9:=fun (_:ah D 9 10=true)=>(rfl:ah D 9 9=true)
   have hI:Inv w [] (bI (.blk b1 (.cells #[.int .i64 k,.int .i64 n,.string s,.slice (some ⟨b,o,none⟩) ks.length cap] ab)) (.blk b2 (.cells #[.int .i64 0,.int .i64 0,.string ⟨#[]⟩,.slice none 0 0] ab)) (.blk b3 (.cells #[.int .i64 k,.int .i64 cur,.string s,kvc] ab)) (.blk b3 (.cells #[.int .i64 k,.int .i64 cur,.string s,jS] ab)) (bq kvc ab 4 css) (bq jS ab 4 (css++[cs7])) (bV Ls.flatten) M (.blk b8 (.cells cs7.toArray ab)) (D 8) true (D 10) (D 12)) S w_:=by
    rw [‹D 8=true›,f9,f11]
    simpa [bI,Value.cells] using hI
   exact ⟨ax,ay,az,aA,aF,aH,aE,aM,aN,fun _=>by first|assumption|trivial,aq,ar,aD,⟨M,cs7,b8,e7,e8,k8,k9,k11,k1,hI⟩⟩
  ·obtain rfl:=ay ‹_›
   have Ge:=aR ‹_›
   have f11:D 12=false:=Bool.eq_false_iff.2 fun h=>by rw [k11 h] at bX; cases bX
   have q8:=e8 ‹D 9=true›
   subst q8
   obtain ⟨_,hT⟩:=e7 ‹D 8=true›
   rw [‹D 8=true›,‹D 9=true›,bX,f11] at hI
   have hblk:((bI (.blk b1 (.cells #[.int .i64 k,.int .i64 n,.string s,.slice (some ⟨b,o,none⟩) ks.length cap] ab)) (.blk b2 (.cells #[.int .i64 0,.int .i64 0,.string ⟨#[]⟩,.slice none 0 0] ab)) (.blk b3 (.cells #[.int .i64 k,.int .i64 cur,.string s,lM] ab)) (.blk b3 (.cells #[.int .i64 k,.int .i64 cur,.string s,jS] ab)) (bq lM ab 4 css) (bq jS ab 4 (css++[cs7])) (bV Ls.flatten) M (.blk b8 (.cells cs7.toArray ab)) true true false false))[4+(bV Ls.flatten).length+(bV M).length]?=some (.blk b8 (.cells cs7.toArray ab)):=by
    have e4:4+(bV Ls.flatten).length+(bV M).length=((bV Ls.flatten).length+(bV M).length)+1+1+1+1:=by omega
    rw [e4]
    simp only [bI,List.getElem?_cons_succ]
    rw [List.getElem?_append_right (by omega),Nat.add_sub_cancel_left,List.getElem?_append_right (Nat.le_refl _),Nat.sub_self]; rfl
   refine fm hI 3 cs7 bO (by omega) rfl (by rw [hT.length]) (m:=1) (o:=0) ?_ hT.one (by omega) (by omega) fun v' w_ hI=>?_
   ·intro i u hi
    rw [hI.cellL hblk,Nat.zero_add]
    simpa using hi
   rw [f1] at hI
   have k9:=fun (_:ah D 10 10=true)=>‹D 9=true›
   have k11:=fun (_:ah D 10 12=true)=>(rfl:ah D 10 10=true)
   have hI:Inv w [] (bI (.blk b1 (.cells #[.int .i64 k,.int .i64 n,.string s,.slice (some ⟨b,o,none⟩) ks.length cap] ab)) (.blk b2 (.cells #[.int .i64 0,.int .i64 0,.string ⟨#[]⟩,.slice none 0 0] ab)) (.blk b3 (.cells #[.int .i64 k,.int .i64 cur,.string s,lM] ab)) (.blk b3 (.cells #[.int .i64 k,.int .i64 cur,.string s,v'] ab)) (bq lM ab 4 css) (bq v' ab 4 (css++[cs7])) (bV Ls.flatten) M (.blk b8 (.cells cs7.toArray ab)) (D 8) (D 9) true (D 12)) S w_:=by
    rw [‹D 8=true›,‹D 9=true›,f11]
    exact hI
   exact ⟨ax,ay,az,aA,aF,aH,aE,aM,aN,aR,fun _=>by first|assumption|trivial,ar,aD,⟨M,cs7,b8,e7,e8,k8,k9,k11,k1,hI⟩⟩
  ·refine aI aK ?_
   exact ⟨ax,ay,az,aA,aF,aH,aE,aM,aN,aR,aq,fun _=>rfl,aD,⟨M,cs7,b8,e7,e8,k8,k9,k11,k1,hI⟩⟩
  ·obtain rfl:=ar ‹_›
   have wv:=aq ‹_›
   rw [‹D 8=true›,‹D 9=true›,‹D 10=true›,bX] at hI
   obtain ⟨va,vn,vc,hv9⟩:=Inv.rowSlice hI 3 rfl
   refine dy hI 2 (n:=1) (by rw [hv9]; rfl) (by decide +kernel) rfl (by simp) (by rw [hv9]; simp [Value.cells,Value.oneCell']) fun w_ hI=>?_
   have hcl9:Value.cells jS=#[jS]:=by rw [hv9]; rfl
   rw [hcl9] at hI
   have k1:=fun (_:ah D 12 12=true)=>‹D 1=true›
   have k11:=fun (_:ah D 12 12=true)=>‹D 10=true›
   have hI:Inv w [] (bI (.blk b1 (.cells #[.int .i64 k,.int .i64 n,.string s,.slice (some ⟨b,o,none⟩) ks.length cap] ab)) (.blk b2 (.cells #[.int .i64 0,.int .i64 0,.string ⟨#[]⟩,.slice none 0 0] ab)) (.blk b3 (.cells #[.int .i64 k,.int .i64 cur,.string s,kvc] ab)) (.blk b3 (.cells #[.int .i64 k,.int .i64 cur,.string s,jS] ab)) (bq kvc ab 4 css) (bq jS ab 4 (css++[cs7])) (bV Ls.flatten) M (.blk b8 (.cells cs7.toArray ab)) (D 8) (D 9) (D 10) true) S w_:=by
    rw [‹D 8=true›,‹D 9=true›,‹D 10=true›]
    exact hI
   exact ⟨ax,ay,az,aA,aF,aH,aE,aM,aN,aR,aq,ar,fun _=>trivial,⟨M,cs7,b8,e7,e8,k8,k9,k11,k1,hI⟩⟩
  obtain rfl:=ar ‹_›
  have wv:=aq ‹_›
  have Ge:=aR ‹_›
  have BL:=aN ‹_›
  obtain rfl:=aM ‹_›
  obtain rfl:=aE ‹_›
  obtain rfl:=aH ‹_›
  obtain rfl:=aF ‹_›
  obtain rfl:=aA ‹_›
  obtain rfl:=az ‹_›
  obtain rfl:=ay ‹_›
  obtain rfl:=ax ‹_›
  have zn:D 8=true:=by assumption
  have ES:D 9=true:=by assumption
  have zr:D 10=true:=by assumption
  have HJ:D 12=true:=by assumption
  clear ax ay az aA aF aH aE aM aN aR aq ar aD
  obtain ⟨_,hT⟩:=e7 zn
  rw [zn,ES,zr,HJ] at hI
  refine bT (by omega) ?_
  refine ⟨⟨j+1,jS,Ls++[M],css++[cs7],hj',rfl,?_,?_⟩,by simp [intOf]; omega⟩
  ·rw [Hs vs ks j hj']
   exact hg.snoc hT hT.length
  ·simp only [List.flatten_append,List.flatten_cons,List.flatten_nil,List.append_nil,eF]
   refine hI.sub ?_
   simp only [bI]
   rw [<- List.append_assoc]
   exact (((List.sublist_append_left _ _).cons_cons _).cons_cons _).cons_cons _ |>.cons_cons _
 ·have:j=ks.length:=by omega
  subst this
  rw [List.take_length] at hg
  obtain ⟨va,vn,vc,hvk⟩:=hI.rowSlice 3 rfl
  have hv1:kvc.oneCell'=true:=by rw [hvk]; rfl
  refine aL hI 2 ai rfl rfl ?_
  refine aG hI 1 rfl ai rfl rfl ?_ fun w' hI=>?_
  ·intro u hu
   have hu':u∈([.int .i64 k,.int .i64 cur,.string s,kvc]:List Value):=hu
   simp at hu'
   rcases hu' with rfl|rfl|rfl|rfl <;> first|rfl|exact hv1
  refine bE hI 1 ai rfl rfl ?_
  have hI:Inv w [] ([]++(bq kvc ab 4 css::bV Ls.flatten)) S w':=hI.sub (List.sublist_append_right [_,_,_] _)
  obtain ⟨L,hT,hI⟩:=Inv.rowTree hI hg
  exact ⟨_,_,_,rfl,hI,Ext.refl _ _ _,rfl,_,L,rfl,rfl,TrT.iff.2 ⟨kvc,by rw [fH,<- hN]; rfl,by rw [fH]; exact h1,by rw [fH,<- hN]; exact hNi,by rw [fH]; exact hs,by rw [fH]; exact hT⟩⟩
end

end Go.Proofs.YtfcbhfjomgopbaaGreat

/- spec.RenumberClause: lists and clauses. -/
namespace Go.Proofs.YtfcbhfjomgopbaaGreat
open Go Go.RowKit
section
variable {w:World} {K:Value->World->Prop}
attribute [local irreducible] Run
end
theorem FM (ts:List T) (j:Nat) (h:j<ts.length) (l:List Int):cI (ts.drop j) l=cI (ts.drop (j+1)) (eD ts[j] l):=by
 rw [List.drop_eq_getElem_cons h,cI]
section
attribute [local irreducible] Run CondV ag aO
theorem RdC.zero (S:al):RdC S [.int .i64 0,.int .i64 0,.string ⟨#[]⟩,.slice none 0 0,.slice none 0 0] ⟨⟨0,0,⟨#[]⟩,[]⟩,[]⟩:=
 ⟨[.int .i64 0,.int .i64 0,.string ⟨#[]⟩,.slice none 0 0],.slice none 0 0,rfl,RdT.iff.2 ⟨_,rfl,by simp [inI,T.kind],by simp [inI,T.n],by rw [T.name]; decide +kernel,⟨none,0,rfl,Nat.le_refl _,Nat.zero_le _,.inl rfl⟩⟩,⟨none,0,rfl,Nat.le_refl _,Nat.zero_le _,.inl rfl⟩⟩
end

end Go.Proofs.YtfcbhfjomgopbaaGreat

/- spec: resolved terms, if they are small. -/
namespace Go.Proofs.YtfcbhfjomgopbaaGreat
open Go Go.RowKit
mutual
def rz:T->Int->Bool
 | .mk _ _ _ ks,d=>if d<1 then false else MM ks (d - 1)
def MM:List T->Int->Bool
 | [],_=>true
 | t::ts,d=>rz t d && MM ts d
end
theorem FU:∀ (ts:List T) (d:Int),MM ts d=ts.all fun t=>rz t d
 | [],_=>rfl
 | t::ts,d=>by rw [MM,FU ts d]; rfl
def cB (u:T):Bool:=decide (dw u<=120) && rz u 30
theorem JE (us:List T) (j:Nat) (h:j<us.length):cU (us.take (j+1))=cU (us.take j)+dw us[j]:=by
 induction us generalizing j with
 | nil=>simp at h
 | cons u us ih=>
  cases j with
  | zero=>simp only [List.take_succ_cons,List.take_zero,List.getElem_cons_zero,cU]; omega
  | succ j=>
   have:=ih j (by simpa using h)
   simp only [List.take_succ_cons,List.getElem_cons_succ,cU] at *
   omega
theorem CH (us:List T) (j:Nat):cU (us.take j)<=cU us:=by
 induction us generalizing j with
 | nil=>simp
 | cons u us ih=>
  cases j with
  | zero=>simp only [List.take_zero]; exact eE _
  | succ j=>
   have:=ih j
   simp only [List.take_succ_cons,cU]
   omega
theorem nH (k n:Int) (s:ByteArray) (ks:List T):dw (.mk k n s ks)=1+cU ks:=rfl
theorem yM {w:World} {v:Value} {e:TypeId} {k n:Nat} {xs:List Value} (h:(Item.row v e k n xs).holds w):v.cells=#[v]/\v.oneCell'=true:=by
 have h:w.ownsRow 0 e k v n xs:=h
 rcases h.2 with ⟨rfl,_⟩|⟨g,cap,cur,rfl,_⟩ <;> exact ⟨rfl,rfl⟩
section
attribute [local irreducible] Run CondV ag aO
theorem iB {K:Value->World->Prop} {w:World} (hk:K (.agg #[.int .i64 0,.int .i64 0,.string ⟨#[]⟩,.slice none 0 0]) w):Run Tryz.prog (bD ab []) w K:=by
 refine Run.of ?_ hk
 kernel_rfl
theorem Cj:∀ (t:T) (d:Int) (S:al) (cs:List Value),RdT S cs t->-1000000<=d->d<=1000000->Pure Tryz.prog Gz [.agg cs.toArray,.int .i64 d] S (.bool (rz t d)):=by
 refine T.ind fun k n s ks ih d S cs h hd0 hd1=>?_
 intro w hI
 obtain ⟨kv,rfl,_,_,_,hks⟩:=RdT.iff.1 h
 simp only [T.name,T.kids,T.kind,T.n] at hks ⊢
 have hlen:=hks.le
 simp only [maxLen] at hlen
 refine xr ?_
 unfold tT
 refine bS hI fun b2 w' hI=>?_
 rw [rz]
 refine cg ?_
 refine bz (fun hd=>?_) (fun hd=>?_)
 ·rw [if_pos hd]
  exact done hI rfl
 rw [if_neg hd,FU]
 refine ⟨fun i w'=>∃ j:Nat,j<=ks.length/\i=.int .i64 j/\((ks.drop j).all fun t=>rz t (d - 1))=(ks.all fun t=>rz t (d - 1))/\Inv w [] [.blk b2 (.cells #[.int .i64 k,.int .i64 n,.string s,kv] ab)] S w',
  fun i _=>ks.length - (intOf i).toNat,⟨0,Nat.zero_le _,rfl,rfl,hI⟩,?_⟩
 intro t5 _ _ _ _ _ _ _ _ _ _ _ _ _ _ _ _ _ w'
 rintro ⟨j,hj,rfl,hrel,hI⟩
 refine ao hI 0 rfl aK aJ rfl ?_
 refine bp hks aC ?_
 refine cg ?_
 refine bz (fun hji=>?_) (fun hji=>?_)
 ·have hj':j<ks.length:=by omega
  have hstep:=zb (fun t=>rz t (d - 1)) ks j hj'
  refine ao hI 0 rfl aK aJ rfl ?_
  refine cJ hI hks aC ai hj' (fun _ _=>RdT.length) fun cs hcs=>?_
  refine ic (by omega) ?_
  refine Run.callPure vj u9 hI (ih _ (List.getElem_mem hj') (d - 1) S cs hcs (by omega) (by omega)) fun w' hI=>?_
  refine cK ?_
  refine aS (fun hne=>done hI ?_) (fun he=>?_)
  ·have hne':rz ks[j] (d - 1)=false:=by simpa using hne
   rw [<- hrel,hstep,hne']; rfl
  ·have he':rz ks[j] (d - 1)=true:=by simpa using he
   refine bT (by omega) ?_
   exact ⟨⟨j+1,hj',rfl,by rw [<- hrel,hstep,he']; rfl,hI⟩,by simp [intOf]; omega⟩
 ·have:j=ks.length:=by omega
  subst this
  exact done hI (by rw [<- hrel,List.drop_length]; rfl)
/- a tuple of a term and of how many nodes are left -/
theorem Eb:∀ x∈([.int .i64 0,.int .i64 0,.string ⟨#[]⟩,.slice none 0 0]:List Value),x.oneCell'=true:=by simp [Value.oneCell']
end

end Go.Proofs.YtfcbhfjomgopbaaGreat

/- spec: shifted terms and clauses. -/
namespace Go.Proofs.YtfcbhfjomgopbaaGreat
open Go Go.RowKit
mutual
def ct (m:Int):T->T
 | .mk k n s ks=>.mk k (if k=1 then n+m else n) s (fy m ks)
def fy (m:Int):List T->List T
 | []=>[]
 | t::ts=>ct m t::fy m ts
end
theorem i0 (m:Int):∀ ts:List T,fy m ts=ts.map (ct m)
 | []=>rfl
 | t::ts=>by rw [fy,i0 m ts]; rfl
theorem FR (m:Int) (ks:List T) (j:Nat) (h:j<ks.length):fy m (ks.take (j+1))=fy m (ks.take j)++[ct m ks[j]]:=by
 rw [i0,i0,List.take_succ_eq_append_getElem h,List.map_append]; rfl
section
attribute [local irreducible] Run CondV ag aO
theorem oT {N:Nat} (hN:N<=1000000) (m:Int) (hm0:0<=m) (hm1:m<=1000000):∀ (t:T) (S:al) (cs:List Value),RdT S cs t->okU N t->wT t<=1048576->Tri Tryz.prog FX [.agg cs.toArray,.int .i64 m] [] S (Bg S (ct m t)):=by
 refine T.ind fun k n s ks ih S cs h hou hw=>?_
 intro w hI
 obtain ⟨kv,rfl,h1,h2,hs,hks⟩:=RdT.iff.1 h
 simp only [T.name,T.kids,T.kind,T.n] at h1 h2 hs hks ⊢
 simp only [wT] at hw
 rw [okU] at hou
 obtain ⟨_,hvar,hou,_⟩:=hou
 obtain ⟨cur,hcur⟩:∃ cur,cur=if k=1 then n+m else n:=⟨_,rfl⟩
 have hci:inI cur:=by
  rw [hcur]
  split
  ·have:=hvar (by assumption)
   simp only [inI]
   omega
  ·exact h2
 refine vA ?_
 unfold qK
 refine bS hI fun b1 w' hI=>?_
 refine bi hI bH fun b2 w' hI=>?_
 refine ao hI 0 rfl bC aY rfl ?_
 refine ao hI 0 rfl bF aY rfl ?_
 refine ao hI 0 rfl bB bn rfl ?_
 refine ia ?_
 refine bi hI bH fun b3 w' hI=>?_
 refine aG hI 2 rfl ai rfl rfl (by simp [Value.oneCell']) fun w' hI=>?_
 have hI:Inv w [] [.blk b1 (.cells #[.int .i64 k,.int .i64 n,.string s,kv] ab),.blk b2 (.cells #[.int .i64 0,.int .i64 0,.string ⟨#[]⟩,.slice none 0 0] ab),.blk b3 (.cells #[.int .i64 k,.int .i64 n,.string s,.slice none 0 0] ab)] S w':=hI
 refine ⟨fun w'=>Inv w [] [.blk b1 (.cells #[.int .i64 k,.int .i64 n,.string s,kv] ab),.blk b2 (.cells #[.int .i64 0,.int .i64 0,.string ⟨#[]⟩,.slice none 0 0] ab),.blk b3 (.cells #[.int .i64 k,.int .i64 cur,.string s,.slice none 0 0] ab)] S w',?_,?_⟩
 ·refine ao hI 0 rfl bC aY rfl ?_
  refine bP ?_
  refine bz (fun he=>?_) (fun he=>?_)
  ·have hv:=hvar he
   refine ao hI 0 rfl bF aY rfl ?_
   refine bT (by omega) ?_
   rw [if_pos he] at hcur
   rw [hcur]
   exact cM hI 2 rfl bF aY rfl rfl rfl fun w' hI=>hI
  ·rw [if_neg he] at hcur
   rw [hcur]
   exact hI
 intro _ _ _ _ _ _ _ _ w' hI
 have hI:=hI.rowNil ab 4
 refine ⟨fun i w'=>∃ (j:Nat) (kvc:Value) (Ls:List bG) (css:List (List Value)),j<=ks.length/\i=.int .i64 j/\Grown 4 TrT Ls css (fy m (ks.take j))/\
   Inv w [] (.blk b1 (.cells #[.int .i64 k,.int .i64 n,.string s,kv] ab)::.blk b2 (.cells #[.int .i64 0,.int .i64 0,.string ⟨#[]⟩,.slice none 0 0] ab)::.blk b3 (.cells #[.int .i64 k,.int .i64 cur,.string s,kvc] ab)::bq kvc ab 4 css::bV Ls.flatten) S w',
  fun i _=>ks.length - (intOf i).toNat,⟨0,_,[],[],Nat.zero_le _,rfl,Grown.nil _ _,hI⟩,?_⟩
 intro t7 _ _ _ _ _ _ _ _ _ _ _ _ _ _ _ _ _ _ _ w'
 rintro ⟨j,kvc,Ls,css,hj,rfl,hg,hI⟩
 refine ao hI 0 rfl aK aJ rfl ?_
 refine bp hks aC ?_
 refine cg ?_
 refine bz (fun hji=>?_) (fun hji=>?_)
 ·have hj':j<ks.length:=by omega
  have hjl:(ks.take j).length=j:=by simp; omega
  have hcl:=hg.hc
  rw [i0,List.length_map] at hcl
  have hm:=List.getElem_mem hj'
  have hwm:=jO hm
  obtain ⟨b,o,cap,c,E,fz,rfl,hS,hR⟩:=hks.at_ hj'
  refine ⟨fun D tV jf iz ow jI kP ul lI rN jP jc jK w_=>(D 0=true->jK=.pointer (some ⟨b3,3,none⟩))/\(D 1=true->jc=kvc)/\(D 2=true->jP=.pointer (some ⟨b1,3,none⟩))/\(D 3=true->rN=.slice (some ⟨b,o,none⟩) ks.length cap)/\(D 4=true->lI=.int .i64 j)/\(D 5=true->ul=.pointer (some ⟨b,o+j * 4,none⟩))/\(D 6=true->kP=.agg (bm c (o+j * 4) 4).toArray)/\(D 7=true->jI=.int .i64 m)/\(D 8=true->True)/\(D 9=true->True)/\(D 10=true->True)/\(D 11=true->tV=.pointer (some ⟨b3,3,none⟩))/\(D 12=true->True)/\∃ M cs7 b8,(D 8=true->ow=.agg cs7.toArray/\TrT M cs7 (ct m ks[j]))/\(D 9=true->iz=.slice (some ⟨b8,0,none⟩) 1 1)/\(D 9=true->D 8=true)/\(D 10=true->D 9=true)/\(D 12=true->D 10=true)/\(D 12=true->D 1=true)/\Inv w [] (bI (.blk b1 (.cells #[.int .i64 k,.int .i64 n,.string s,.slice (some ⟨b,o,none⟩) ks.length cap] ab)) (.blk b2 (.cells #[.int .i64 0,.int .i64 0,.string ⟨#[]⟩,.slice none 0 0] ab)) (.blk b3 (.cells #[.int .i64 k,.int .i64 cur,.string s,kvc] ab)) (.blk b3 (.cells #[.int .i64 k,.int .i64 cur,.string s,jf] ab)) (bq kvc ab 4 css) (bq jf ab 4 (css++[cs7])) (bV Ls.flatten) M (.blk b8 (.cells cs7.toArray ab)) (D 8) (D 9) (D 10) (D 12)) S w_,⟨ac,ac,ac,ac,ac,ac,ac,ac,ac,ac,ac,ac,ac,⟨[],[],0,ac,ac,ac,ac,ac,ac,by simpa [bI,bV] using hI.draw⟩⟩,⟨?_,?_,?_,?_,?_,?_,?_,?_,?_,?_,?_,?_,?_,trivial⟩,?_⟩
  all_goals (intro D bX; intros; rename_i tV jf iz ow jI kP ul lI rN jP jc jK w_ hA_; obtain ⟨ax,ay,az,aA,aF,aH,aE,aM,aN,aR,aq,ar,aD,⟨M,cs7,b8,e7,e8,k8,k9,k11,k1,hI⟩⟩:=hA_)
  ·refine aI aK ?_
   exact ⟨fun _=>rfl,ay,az,aA,aF,aH,aE,aM,aN,aR,aq,ar,aD,⟨M,cs7,b8,e7,e8,k8,k9,k11,k1,hI⟩⟩
  ·obtain rfl:=ax ‹_›
   have f11:D 12=false:=Bool.eq_false_iff.2 fun h=>by rw [k1 h] at bX; cases bX
   refine aX (b:=b3) hI 2 (c:=(#[.int .i64 k,.int .i64 cur,.string s,kvc])) aJ (by rw [f11]; rfl) rfl ?_
   have k1:=fun (_:ah D 1 12=true)=>(rfl:ah D 1 1=true)
   exact ⟨ax,fun _=>rfl,az,aA,aF,aH,aE,aM,aN,aR,aq,ar,aD,⟨M,cs7,b8,e7,e8,k8,k9,k11,k1,hI⟩⟩
  ·refine aI aK ?_
   exact ⟨ax,ay,fun _=>rfl,aA,aF,aH,aE,aM,aN,aR,aq,ar,aD,⟨M,cs7,b8,e7,e8,k8,k9,k11,k1,hI⟩⟩
  ·obtain rfl:=az ‹_›
   refine aX hI 0 aJ rfl rfl ?_
   exact ⟨ax,ay,az,fun _=>rfl,aF,aH,aE,aM,aN,aR,aq,ar,aD,⟨M,cs7,b8,e7,e8,k8,k9,k11,k1,hI⟩⟩
  ·exact ⟨ax,ay,az,aA,fun _=>rfl,aH,aE,aM,aN,aR,aq,ar,aD,⟨M,cs7,b8,e7,e8,k8,k9,k11,k1,hI⟩⟩
  ·obtain rfl:=aA ‹_›
   obtain rfl:=aF ‹_›
   refine be aC hj' ?_
   exact ⟨ax,ay,az,aA,aF,fun _=>rfl,aE,aM,aN,aR,aq,ar,aD,⟨M,cs7,b8,e7,e8,k8,k9,k11,k1,hI⟩⟩
  ·obtain rfl:=aH ‹_›
   refine cL ai hR.length (fun j v hj=>by rw [hI.cellS hS]; exact bh rfl j v hj) ?_
   exact ⟨ax,ay,az,aA,aF,aH,fun _=>rfl,aM,aN,aR,aq,ar,aD,⟨M,cs7,b8,e7,e8,k8,k9,k11,k1,hI⟩⟩
  ·exact ⟨ax,ay,az,aA,aF,aH,aE,fun _=>rfl,aN,aR,aq,ar,aD,⟨M,cs7,b8,e7,e8,k8,k9,k11,k1,hI⟩⟩
  ·obtain rfl:=aE ‹_›
   obtain rfl:=aM ‹_›
   have f8:D 9=false:=Bool.eq_false_iff.2 fun h=>by rw [k8 h] at bX; cases bX
   have f9:D 10=false:=Bool.eq_false_iff.2 fun h=>by rw [k9 h] at f8; cases f8
   have f11:D 12=false:=Bool.eq_false_iff.2 fun h=>by rw [k11 h] at f9; cases f9
   rw [bX,f8,f9,f11] at hI
   refine Run.call0 kT kN hI (ih _ (List.getElem_mem hj') S _ hR (nt hou _ (List.getElem_mem hj')) (by omega)) fun v' I' S w_=>?_
   rintro ⟨rfl,cs7,M,rfl,rfl,hT⟩ _ hI
   have e7:ah D 8 8=true->Value.agg cs7.toArray=Value.agg cs7.toArray/\TrT M cs7 (ct m ks[j]):=fun _=>⟨rfl,hT⟩
   have k8:=fun (_:ah D 8 9=true)=>(rfl:ah D 8 8=true)
   have hI:Inv w [] (bI (.blk b1 (.cells #[.int .i64 k,.int .i64 n,.string s,.slice (some ⟨b,o,none⟩) ks.length cap] ab)) (.blk b2 (.cells #[.int .i64 0,.int .i64 0,.string ⟨#[]⟩,.slice none 0 0] ab)) (.blk b3 (.cells #[.int .i64 k,.int .i64 cur,.string s,kvc] ab)) (.blk b3 (.cells #[.int .i64 k,.int .i64 cur,.string s,jf] ab)) (bq kvc ab 4 css) (bq jf ab 4 (css++[cs7])) (bV Ls.flatten) M (.blk b8 (.cells cs7.toArray ab)) true (D 9) (D 10) (D 12)) S w_:=by
    rw [f8,f9,f11]
    simpa [bI] using hI
   exact ⟨ax,ay,az,aA,aF,aH,aE,aM,fun _=>by first|assumption|trivial,aR,aq,ar,aD,⟨M,cs7,b8,e7,e8,k8,k9,k11,k1,hI⟩⟩
  ·have BL:=aN ‹_›
   have f9:D 10=false:=Bool.eq_false_iff.2 fun h=>by rw [k9 h] at bX; cases bX
   have f11:D 12=false:=Bool.eq_false_iff.2 fun h=>by rw [k11 h] at f9; cases f9
   obtain ⟨q7,hT⟩:=e7 ‹D 8=true›
   subst q7
   rw [‹D 8=true›,bX,f9,f11] at hI
   refine dh hI bO (by simp [Value.cells,hT.length]) (by omega) (by omega) fun b8 w_ hI=>?_
   have e7:ah D 9 8=true->Value.agg cs7.toArray=Value.agg cs7.toArray/\TrT M cs7 (ct m ks[j]):=fun _=>⟨rfl,hT⟩
   have e8:=fun (_:ah D 9 9=true)=>(rfl:Value.slice (some ⟨b8,0,none⟩) 1 1=_)
   have k8:=fun (_:ah D 9 9=true)=>‹D 8=true›
   have k9:=fun (_:ah D 9 10=true)=>(rfl:ah D 9 9=true)
   have hI:Inv w [] (bI (.blk b1 (.cells #[.int .i64 k,.int .i64 n,.string s,.slice (some ⟨b,o,none⟩) ks.length cap] ab)) (.blk b2 (.cells #[.int .i64 0,.int .i64 0,.string ⟨#[]⟩,.slice none 0 0] ab)) (.blk b3 (.cells #[.int .i64 k,.int .i64 cur,.string s,kvc] ab)) (.blk b3 (.cells #[.int .i64 k,.int .i64 cur,.string s,jf] ab)) (bq kvc ab 4 css) (bq jf ab 4 (css++[cs7])) (bV Ls.flatten) M (.blk b8 (.cells cs7.toArray ab)) (D 8) true (D 10) (D 12)) S w_:=by
    rw [‹D 8=true›,f9,f11]
    simpa [bI,Value.cells] using hI
   exact ⟨ax,ay,az,aA,aF,aH,aE,aM,aN,fun _=>by first|assumption|trivial,aq,ar,aD,⟨M,cs7,b8,e7,e8,k8,k9,k11,k1,hI⟩⟩
  ·obtain rfl:=ay ‹_›
   have Ge:=aR ‹_›
   have f11:D 12=false:=Bool.eq_false_iff.2 fun h=>by rw [k11 h] at bX; cases bX
   have q8:=e8 ‹D 9=true›
   subst q8
   obtain ⟨_,hT⟩:=e7 ‹D 8=true›
   rw [‹D 8=true›,‹D 9=true›,bX,f11] at hI
   have hblk:((bI (.blk b1 (.cells #[.int .i64 k,.int .i64 n,.string s,.slice (some ⟨b,o,none⟩) ks.length cap] ab)) (.blk b2 (.cells #[.int .i64 0,.int .i64 0,.string ⟨#[]⟩,.slice none 0 0] ab)) (.blk b3 (.cells #[.int .i64 k,.int .i64 cur,.string s,jc] ab)) (.blk b3 (.cells #[.int .i64 k,.int .i64 cur,.string s,jf] ab)) (bq jc ab 4 css) (bq jf ab 4 (css++[cs7])) (bV Ls.flatten) M (.blk b8 (.cells cs7.toArray ab)) true true false false))[4+(bV Ls.flatten).length+(bV M).length]?=some (.blk b8 (.cells cs7.toArray ab)):=by
    have e4:4+(bV Ls.flatten).length+(bV M).length=((bV Ls.flatten).length+(bV M).length)+1+1+1+1:=by omega
    rw [e4]
    simp only [bI,List.getElem?_cons_succ]
    rw [List.getElem?_append_right (by omega),Nat.add_sub_cancel_left,List.getElem?_append_right (Nat.le_refl _),Nat.sub_self]; rfl
   refine fm hI 3 cs7 bO (by omega) rfl (by rw [hT.length]) (m:=1) (o:=0) ?_ hT.one (by omega) (by omega) fun v' w_ hI=>?_
   ·intro i u hi
    rw [hI.cellL hblk,Nat.zero_add]
    simpa using hi
   rw [f1] at hI
   have k9:=fun (_:ah D 10 10=true)=>‹D 9=true›
   have k11:=fun (_:ah D 10 12=true)=>(rfl:ah D 10 10=true)
   have hI:Inv w [] (bI (.blk b1 (.cells #[.int .i64 k,.int .i64 n,.string s,.slice (some ⟨b,o,none⟩) ks.length cap] ab)) (.blk b2 (.cells #[.int .i64 0,.int .i64 0,.string ⟨#[]⟩,.slice none 0 0] ab)) (.blk b3 (.cells #[.int .i64 k,.int .i64 cur,.string s,jc] ab)) (.blk b3 (.cells #[.int .i64 k,.int .i64 cur,.string s,v'] ab)) (bq jc ab 4 css) (bq v' ab 4 (css++[cs7])) (bV Ls.flatten) M (.blk b8 (.cells cs7.toArray ab)) (D 8) (D 9) true (D 12)) S w_:=by
    rw [‹D 8=true›,‹D 9=true›,f11]
    exact hI
   exact ⟨ax,ay,az,aA,aF,aH,aE,aM,aN,aR,fun _=>by first|assumption|trivial,ar,aD,⟨M,cs7,b8,e7,e8,k8,k9,k11,k1,hI⟩⟩
  ·refine aI aK ?_
   exact ⟨ax,ay,az,aA,aF,aH,aE,aM,aN,aR,aq,fun _=>rfl,aD,⟨M,cs7,b8,e7,e8,k8,k9,k11,k1,hI⟩⟩
  ·obtain rfl:=ar ‹_›
   have wv:=aq ‹_›
   rw [‹D 8=true›,‹D 9=true›,‹D 10=true›,bX] at hI
   obtain ⟨va,vn,vc,hv9⟩:=Inv.rowSlice hI 3 rfl
   refine dy hI 2 (n:=1) (by rw [hv9]; rfl) (by decide +kernel) rfl (by simp) (by rw [hv9]; simp [Value.cells,Value.oneCell']) fun w_ hI=>?_
   have hcl9:Value.cells jf=#[jf]:=by rw [hv9]; rfl
   rw [hcl9] at hI
   have k1:=fun (_:ah D 12 12=true)=>‹D 1=true›
   have k11:=fun (_:ah D 12 12=true)=>‹D 10=true›
   have hI:Inv w [] (bI (.blk b1 (.cells #[.int .i64 k,.int .i64 n,.string s,.slice (some ⟨b,o,none⟩) ks.length cap] ab)) (.blk b2 (.cells #[.int .i64 0,.int .i64 0,.string ⟨#[]⟩,.slice none 0 0] ab)) (.blk b3 (.cells #[.int .i64 k,.int .i64 cur,.string s,kvc] ab)) (.blk b3 (.cells #[.int .i64 k,.int .i64 cur,.string s,jf] ab)) (bq kvc ab 4 css) (bq jf ab 4 (css++[cs7])) (bV Ls.flatten) M (.blk b8 (.cells cs7.toArray ab)) (D 8) (D 9) (D 10) true) S w_:=by
    rw [‹D 8=true›,‹D 9=true›,‹D 10=true›]
    exact hI
   exact ⟨ax,ay,az,aA,aF,aH,aE,aM,aN,aR,aq,ar,fun _=>trivial,⟨M,cs7,b8,e7,e8,k8,k9,k11,k1,hI⟩⟩
  obtain rfl:=ar ‹_›
  have wv:=aq ‹_›
  have Ge:=aR ‹_›
  have BL:=aN ‹_›
  obtain rfl:=aM ‹_›
  obtain rfl:=aE ‹_›
  obtain rfl:=aH ‹_›
  obtain rfl:=aF ‹_›
  obtain rfl:=aA ‹_›
  obtain rfl:=az ‹_›
  obtain rfl:=ay ‹_›
  obtain rfl:=ax ‹_›
  have zn:D 8=true:=by assumption
  have ES:D 9=true:=by assumption
  have zr:D 10=true:=by assumption
  have HJ:D 12=true:=by assumption
  clear ax ay az aA aF aH aE aM aN aR aq ar aD
  obtain ⟨_,hT⟩:=e7 zn
  rw [zn,ES,zr,HJ] at hI
  refine bT (by omega) ?_
  refine ⟨⟨j+1,jf,Ls++[M],css++[cs7],hj',rfl,?_,?_⟩,by simp [intOf]; omega⟩
  ·rw [FR m ks j hj']
   exact hg.snoc hT hT.length
  ·simp only [List.flatten_append,List.flatten_cons,List.flatten_nil,List.append_nil,eF]
   refine hI.sub ?_
   simp only [bI]
   rw [<- List.append_assoc]
   exact (((List.sublist_append_left _ _).cons_cons _).cons_cons _).cons_cons _ |>.cons_cons _
 ·have:j=ks.length:=by omega
  subst this
  rw [List.take_length] at hg
  obtain ⟨va,vn,vc,hvk⟩:=hI.rowSlice 3 rfl
  have hv1:kvc.oneCell'=true:=by rw [hvk]; rfl
  refine aL hI 2 ai rfl rfl ?_
  refine aG hI 1 rfl ai rfl rfl ?_ fun w' hI=>?_
  ·intro u hu
   have hu':u∈([.int .i64 k,.int .i64 cur,.string s,kvc]:List Value):=hu
   simp at hu'
   rcases hu' with rfl|rfl|rfl|rfl <;> first|rfl|exact hv1
  refine bE hI 1 ai rfl rfl ?_
  have hI:Inv w [] ([]++(bq kvc ab 4 css::bV Ls.flatten)) S w':=hI.sub (List.sublist_append_right [_,_,_] _)
  obtain ⟨L,hT,hI⟩:=Inv.rowTree hI hg
  exact ⟨_,_,_,rfl,hI,Ext.refl _ _ _,rfl,_,L,rfl,rfl,TrT.iff.2 ⟨kvc,by rw [ct,<- hcur]; rfl,by rw [ct]; exact h1,by rw [ct,<- hcur]; exact hci,by rw [ct]; exact hs,by rw [ct]; exact hT⟩⟩
end

end Go.Proofs.YtfcbhfjomgopbaaGreat

/- Resolvents: the plain form. -/
namespace Go.Proofs.YtfcbhfjomgopbaaGreat
open Go Go.RowKit
theorem E7 {s:ByteArray} (h:ji s=true):s.size<=6:=by
 rw [ji,Bool.or_eq_true] at h
 rcases h with h|h
 ·rw [jC] at h
  simp only [Bool.and_eq_true,decide_eq_true_eq] at h
  exact h.2.2
 ·simp only [List.any_eq_true,decide_eq_true_eq] at h
  obtain ⟨x,hx,rfl⟩:=h
  have:∀ y∈signs,y.size<=6:=by decide +kernel
  exact this x hx
theorem Gl {t:T} (h:eB t=true):t.name.size<=6:=by
 unfold eB at h
 have he:emptyB.size=0:=by decide +kernel
 by_cases e1:t.kind=1
 ·rw [if_pos e1] at h
  simp only [Bool.and_eq_true,decide_eq_true_eq] at h
  rw [h.2.2.1]; omega
 ·rw [if_neg e1] at h
  by_cases e2:t.kind=2
  ·rw [if_pos e2] at h
   simp only [Bool.and_eq_true,decide_eq_true_eq] at h
   rw [h.2.2.1]; omega
  ·rw [if_neg e2] at h
   by_cases e3:t.kind=3
   ·rw [if_pos e3] at h
    simp only [Bool.and_eq_true,decide_eq_true_eq] at h
    exact E7 h.2.1
   ·rw [if_neg e3] at h
    cases h
mutual
theorem Bo:∀ (t:T) (d:Int),fI t d=true->okU 26 t
 | .mk k n s ks,d,h=>by
  rw [fI] at h
  split at h
  ·cases h
  ·rw [Bool.and_eq_true] at h
   have h1:=NE h.1
   have h2:=fun hk=>Kx h.1 hk
   have h3:=Gl h.1
   rw [okU]
   refine ⟨h1.2,fun hk=>?_,yd ks _ h.2,h3⟩
   have h4:=h1.1 hk
   have h5:=h2 hk
   simp only [T.n] at h4
   simp only [T.name,T.kids] at h5
   exact ⟨h4.1,by omega,h5.1,List.eq_nil_of_length_eq_zero h5.2⟩
theorem yd:∀ (ts:List T) (d:Int),fJ ts d=true->df 26 ts
 | [],_,_=>by rw [df]; trivial
 | t::ts,d,h=>by
  rw [fJ,Bool.and_eq_true] at h
  rw [df]
  exact ⟨Bo t d h.1,yd ts d h.2⟩
end
theorem kt {t:T} (h:dA t=true):okU 26 t:=Bo t 30 (uz h)
theorem iW {c:C} (h:dg c=true):okU 26 c.head/\(∀ t∈c.body,okU 26 t)/\c.body.length<=6:=by
 rw [dg] at h
 simp only [Bool.and_eq_true,List.all_eq_true,decide_eq_true_eq] at h
 refine ⟨kt h.2.2.1,fun t ht=>?_,h.1⟩
 have:=h.2.1 t ht
 rw [fh,Bool.and_eq_true] at this
 exact kt this.1
mutual
theorem iO {N M:Nat} (h:N<=M):∀ t:T,okU N t->okU M t
 | .mk k n s ks,ht=>by
  rw [okU] at ht ⊢
  refine ⟨ht.1,fun hk=>?_,IP h ks ht.2.2.1,ht.2.2.2⟩
  have:=ht.2.1 hk
  exact ⟨this.1,by omega,this.2.2⟩
theorem IP {N M:Nat} (h:N<=M):∀ ts:List T,df N ts->df M ts
 | [],_=>by rw [df]; trivial
 | t::ts,ht=>by
  rw [df] at ht ⊢
  exact ⟨iO h t ht.1,IP h ts ht.2⟩
end
mutual
theorem j7 {N:Nat} (m:Nat):∀ t:T,okU N t->okU (N+m) (ct m t)
 | .mk k n s ks,ht=>by
  rw [okU] at ht
  rw [ct,okU]
  refine ⟨ht.1,fun hk=>?_,pq m ks ht.2.2.1,ht.2.2.2⟩
  have:=ht.2.1 hk
  rw [if_pos hk]
  refine ⟨by omega,by omega,this.2.2.1,?_⟩
  rw [this.2.2.2,fy]
theorem pq {N:Nat} (m:Nat):∀ ts:List T,df N ts->df (N+m) (fy m ts)
 | [],_=>by rw [fy,df]; trivial
 | t::ts,ht=>by
  rw [df] at ht
  rw [fy,df]
  exact ⟨j7 m t ht.1,pq m ts ht.2⟩
end
mutual
theorem l4 (m:Int):∀ t:T,wT (ct m t)=wT t
 | .mk k n s ks=>by
  rw [ct,wT,wT,Er m ks]
  rw [i0,List.length_map]
theorem Er (m:Int):∀ ts:List T,wL (fy m ts)=wL ts
 | []=>rfl
 | t::ts=>by rw [fy,wL,wL,l4 m t,Er m ts]
end
/- weights by nodes -/
mutual
theorem HT {N:Nat}:∀ t:T,okU N t->(wT t:Int)+1<=7 * dw t
 | .mk k n s ks,h=>by
  rw [okU] at h
  have h1:=Lh ks h.2.2.1
  rw [wT,nH]
  omega
theorem Lh {N:Nat}:∀ ts:List T,df N ts->(wL ts:Int)+ts.length<=7 * cU ts
 | [],_=>by simp [wL,cU]
 | t::ts,h=>by
  rw [df] at h
  have h1:=HT t h.1
  have h2:=Lh ts h.2
  rw [wL,cU,List.length_cons]
  omega
end
theorem H0 {N:Nat} {st:bf} {t v:T} (h:Good N st) (hw:dp st t v) (ht:okU N t):okU N v:=by
 induction hw with
 | stop=>exact ht
 | step hl _ ih=>exact ih (h.look_ok hl).1
theorem jt {N:Nat} {st:bf} (hg:Good N st) {j:Lt} (hr:Res st j):match j with
  | .one t u=>okU N t->okU N u
  | .list ts us=>df N ts->df N us/\us.length=ts.length:=by
 induction hr with
 | one hw hl ih=>
  rename_i t v us
  intro ho
  have hv:=H0 hg hw ho
  obtain ⟨h1,h2⟩:=ih hv.kids
  obtain ⟨k,n,s,ks⟩:=v
  have hv2:=hv
  rw [okU] at hv2
  show okU N (.mk k n s us)
  rw [okU]
  refine ⟨hv2.1,fun hk=>?_,h1,hv2.2.2.2⟩
  have h3:=hv2.2.1 hk
  refine ⟨h3.1,h3.2.1,h3.2.2.1,?_⟩
  simp only [T.kids] at h2
  exact List.eq_nil_of_length_eq_zero (by rw [h2,h3.2.2.2]; rfl)
 | nil=>exact fun h=>⟨h,rfl⟩
 | cons _ _ ih1 ih2=>
  intro ho
  rw [df] at ho
  obtain ⟨h1,h2⟩:=ih2 ho.2
  rw [df]
  exact ⟨⟨ih1 ho.1,h1⟩,by simp [h2]⟩
theorem ym {N:Nat} {st:bf} (h:Good N st):∀ ts:List T,df N ts->∃ us,Res st (.list ts us)
 | [],_=>⟨[],.nil⟩
 | t::ts,ho=>by
  rw [df] at ho
  obtain ⟨u,hu⟩:=KW h t ho.1
  obtain ⟨us,hus⟩:=ym h ts ho.2
  exact ⟨u::us,.cons hu hus⟩
/- numbered anew -/
/- the resolvent -/
def stU:bf:=List.replicate 52 none
theorem FN:Good 52 stU:=⟨by simp [stU],fun t ht=>by simp [stU] at ht,fun t ht=>by simp [stU] at ht,fun n=>n,fun n u hu=>by
 have:=List.mem_of_getElem? hu
 simp [stU] at this⟩
def Ii (c d:C):List T:=c.head::(fy 26 d.body++c.body.drop 1)
def ofL:List T->C
 | []=>⟨⟨0,0,⟨#[]⟩,[]⟩,[]⟩
 | t::ts=>⟨t,ts⟩
def RO (c d:C) (o:Option (Option C)):Prop:=∃ r st,Uni stU (.one (c.body.headD ⟨0,0,⟨#[]⟩,[]⟩) (ct 26 d.head)) r st/\
 ((r=false/\o=none) ∨ (r=true/\∃ us,Res st (.list (Ii c d) us)/\((us.all cB=false/\o=some none) ∨ (us.all cB=true/\o=some (some (Ox (NY (ofL us)) (ofL us)))))))
theorem KM {c d:C} (hc:dg c=true) (hd:dg d=true):df 52 (Ii c d):=by
 obtain ⟨c1,c2,_⟩:=iW hc
 obtain ⟨d1,d2,_⟩:=iW hd
 rw [Ii,df]
 exact ⟨iO (by decide) _ c1,xg (pq 26 _ (wM d2)) (wM fun t ht=>iO (by decide) _ (c2 t (List.mem_of_mem_drop ht)))⟩
theorem Jd {c d:C} (hc:dg c=true) (hd:dg d=true) (hwc:wC c<=1048576) (hwd:wC d<=1048576) (hb:c.body≠[]):okJ 52 (.one (c.body.headD ⟨0,0,⟨#[]⟩,[]⟩) (ct 26 d.head)):=by
 obtain ⟨c1,c2,_⟩:=iW hc
 obtain ⟨d1,d2,_⟩:=iW hd
 unfold wC at hwc hwd
 cases hcb:c.body with
 | nil=>exact absurd hcb hb
 | cons t ts=>
  rw [List.headD_cons]
  have hm:t∈c.body:=by rw [hcb]; exact List.mem_cons_self ..
  have:=C8 hm
  exact ⟨⟨iO (by decide) _ (c2 t hm),by omega⟩,⟨j7 26 _ d1,by rw [l4]; omega⟩⟩
theorem RO.ex {c d:C} (hc:dg c=true) (hd:dg d=true) (hwc:wC c<=1048576) (hwd:wC d<=1048576) (hb:c.body≠[]):∃ o,RO c d o:=by
 have hj:=Jd hc hd hwc hwd hb
 obtain ⟨r,st,hu⟩:=Cz (unb stU) stU FN (Nat.le_refl _) _ hj
 cases r with
 | false=>exact ⟨none,false,st,hu,.inl ⟨rfl,rfl⟩⟩
 | true=>
  obtain ⟨us,hus⟩:=ym (hu.good FN hj).1 (Ii c d) (KM hc hd)
  cases hs:us.all cB with
  | false=>exact ⟨some none,true,st,hu,.inr ⟨rfl,us,hus,.inl ⟨hs,rfl⟩⟩⟩
  | true=>exact ⟨_,true,st,hu,.inr ⟨rfl,us,hus,.inr ⟨hs,rfl⟩⟩⟩
/- small terms have small weights -/
theorem jg {N:Nat} {u:T} (h:cB u=true) (ho:okU N u):wT u<=840:=by
 rw [cB,Bool.and_eq_true,decide_eq_true_eq] at h
 have:=HT u ho
 omega
end Go.Proofs.YtfcbhfjomgopbaaGreat

/- spec.l4Clause. -/
namespace Go.Proofs.YtfcbhfjomgopbaaGreat
open Go Go.RowKit
section
variable {br:Nat} {sl:Value} {ys:List Nat}
attribute [local irreducible] Run CondV ag aO
theorem KD:dW 2=54:=rfl
end
end Go.Proofs.YtfcbhfjomgopbaaGreat

/- Queries parsed and drawn: spec.ParseQuery, l6Query, l6Pair, l6MutateAll, DrawReachOf. (printed by gen_drawq.py) -/
namespace Go.Proofs.YtfcbhfjomgopbaaGreat
open Go Go.RowKit
theorem Hm {q:List T} (h:kW q=true):q.length<=6:=by
 rw [kW,Bool.and_eq_true] at h
 have:=h.1
 simp at this
 omega
def LightT (n m:Nat) (q:List T):Prop:=q.length<=n/\∀ t∈q,wT t<=m
theorem LightT.le {n m:Nat} {q:List T} (h:LightT n m q):q.length+wL q<=n+n * m:=by
 have:∀ q:List T,(∀ c∈q,wT c<=m)->wL q<=q.length * m:=by
  intro q
  induction q with
  | nil=>intro _; simp [wL]
  | cons c q ih=>
   intro h
   have h1:=h c (List.mem_cons_self ..)
   have h2:=ih fun d hd=>h d (List.mem_cons_of_mem _ hd)
   simp only [wL,List.length_cons,Nat.succ_mul]
   omega
 have h1:=this q h.2
 have h2:q.length * m<=n * m:=Nat.mul_le_mul_right _ h.1
 have:=h.1
 omega
section
variable {w0 w:World} {X:List Nat} {L A:List Item} {S:al}
theorem JF {v:Value} {css:List (List Value)} {q:List T} (hI:Inv w0 X (bq v ab 4 css::A) S w) (hR:Rows 4 (RdT S) css q) :
  ∃ S',Ext w0.heap.size X S S'/\Inv w0 X A S' w/\RdSl S' 4 (RdT S') v q:=by
 have hI:Inv w0 X (A++[bq v ab 4 css]) S w:=hI.last 0 rfl
 obtain ⟨S',hE,hrd,hI⟩:=Inv.lendExt hI
 exact ⟨S',hE,hI,RowRd.rows (hR.monoR fun _ _ h=>RdT.mono hE.1 h) hrd⟩
end
section
variable {br:Nat} {sl:Value} {ys:List Nat} {S:al}
attribute [local irreducible] Run CondV ag aO
/- a program and a query: published -/
end
end Go.Proofs.YtfcbhfjomgopbaaGreat

/- Queries parsed and drawn, with what is known of them: spec.ParseQuery, l6Query, l6Pair. (printed by gen_drawg.py) -/
namespace Go.Proofs.YtfcbhfjomgopbaaGreat
open Go Go.RowKit
def Vq (q:List T):Prop:=kW q=true/\0<q.length
def K3 (s:ByteArray):Bool:=match kG 60 8 (bs s) 0 [] with
 | some (q,n)=>decide (n=s.size) && (kW q && (decide (wL q<=300) && (decide (s.size<=1000) && decide (0<q.length))))
 | none=>false
theorem Jl {s:ByteArray} (h:K3 s=true):∃ q,kG 60 8 (bs s) 0 []=some (q,s.size)/\kW q=true/\wL q<=300/\s.size<=1000/\0<q.length:=by
 unfold K3 at h
 split at h
 ·rename_i q n hq
  simp only [Bool.and_eq_true,decide_eq_true_eq] at h
  obtain ⟨rfl,h2,h3,h4,h5⟩:=h
  exact ⟨q,hq,h2,h3,h4,h5⟩
 ·cases h
abbrev MP (br:Nat) (sl:Value) (p k n m:Nat):Value->List Item->al->Prop:=fun v I' S'=>∃ p',p'<=p+k/\I'=[rdI br sl p']/\∃ q,RdSl S' 4 (RdT S') v q/\LightT n m q/\Vq q
section
variable {br:Nat} {sl:Value} {ys:List Nat} {S:al}
attribute [local irreducible] Run CondV ag aO
theorem jB {s:ByteArray} (h:K3 s=true):Tri Tryz.prog yG [.string s] [] S fun v I' S'=>I'=[]/\∃ u q,v=.tuple #[u,.bool true]/\RdSl S' 4 (RdT S') u q/\LightT 6 300 q/\Vq q:=by
 intro w hI
 obtain ⟨q,hq,hqv,hqw,hs,hq0⟩:=Jl h
 have hql:=Hm hqv
 have hbs:(bs s).length=s.size:=(iv (bs s)).symm
 refine pe ?_
 unfold lh
 refine fj bl ?_
 refine ik (by omega) ?_
 refine aS (fun hb=>by cases hb) (fun _=>?_)
 refine Run.call0E rF r8 hI (oa (i:=0) hq (Nat.le_trans (Nat.le_of_eq hbs) (by omega)) (Nat.zero_le _)) fun v I' S1 w'=>?_
 rintro ⟨rfl,u,rfl,hu⟩ hE1 hI
 have hI:Inv w [] [] S1 w':=hI
 refine aB (v:=u) rfl ?_
 refine aB (v:=.int .i64 (s.size:Int)) rfl ?_
 refine ⟨fun t w'=>t=.bool false/\Inv w [] [] S1 w',?_,?_⟩
 ·refine fj bl ?_
  refine dB ?_
  rw [decide_eq_true rfl]
  repeat (first|refine ad ?_|refine af (by decide) ?_|refine ae ?_|refine ak ?_|refine aj ?_)
  refine Run.callPure wb vR hI (pw hu (by omega)) fun w' hI=>?_
  rw [hqv]
  refine cK ?_
  repeat (first|refine ad ?_|refine af (by decide) ?_|refine ae ?_|refine ak ?_|refine aj ?_)
  exact ⟨rfl,hI⟩
 intro t25 _ _ _ _ _ _ _ _ w'
 rintro ⟨rfl,hI⟩
 refine aS (fun hb=>by cases hb) (fun _=>?_)
 refine eh hI bO fun v0 w' hI=>?_
 refine ⟨fun a b w'=>∃ (j:Nat) (S2:al) (css:List (List Value)),a=.int .i64 (j:Int)/\j<=q.length/\Ext w.heap.size [] S S2/\Sle S1 S2/\Rows 4 (RdT S2) css (q.take j)/\Inv w [] [bq b ab 4 css] S2 w',
  fun a _ _=>q.length - (intOf a).toNat,⟨0,S1,[],rfl,Nat.zero_le _,hE1,Sle.refl _,Rows.nil _ _,hI⟩,?_⟩
 intro t7 _ _ t6 _ _ _ _ _ _ _ _ _ _ _ _ w'
 rintro ⟨j,S2,css,rfl,hj,hE2,hle,hR,hI⟩
 have hu:=hu.monoT hle
 have hcl:=hR.hc
 refine bp hu aC ?_
 refine cg ?_
 refine bz (fun hji=>?_) (fun hji=>?_)
 ·have hj':j<q.length:=by omega
  have hm:=jO (List.getElem_mem hj')
  have htk:(q.take j).length=j:=by rw [List.length_take]; omega
  refine cJ hI hu aC ai hj' (fun _ _=>RdT.length) fun cs hcs=>?_
  refine Run.call0E eK eH hI (fE _ S2 cs hcs (by omega)) fun v' I' S3 w'=>?_
  rintro ⟨rfl,ds,M,rfl,rfl,hT⟩ hE3 hI
  obtain ⟨S3,hI,hE3,hins⟩:=hI.pubExt
  have hr3:=hT.rd hins
  refine f0 (css:=css) hI 0 ds bO (by omega) (by omega) rfl hr3.length hr3.one (by omega) (by omega) fun v' w' hI=>?_
  refine bT (by omega) ?_
  exact ⟨⟨j+1,S3,_,rfl,hj',hE2.trans hE3,hle.trans hE3.1,by rw [List.take_succ_eq_append_getElem hj']; exact (hR.monoR fun _ _ h=>RdT.mono hE3.1 h).snoc hr3 hr3.length,hI⟩,by simp [intOf]; omega⟩
 ·have:j=q.length:=by omega
  subst this
  rw [List.take_length] at hR
  obtain ⟨S3,hE3,hI,hr⟩:=JF hI hR
  exact ⟨_,[],S3,rfl,hI,hE2.trans hE3,rfl,_,q,rfl,hr,⟨hql,fun t ht=>by have:=jO ht; omega⟩,hqv,hq0⟩
theorem tL (S:al):Tri Tryz.prog zw [] [] S fun v I' S'=>I'=[]/\∃ l,RdSl S' 1 j8 v l/\0<l.length/\l.all K3=true:=by
 intro w hI
 refine pY ?_
 unfold mW
 refine fk hI (by kernel_rfl) rfl (by omega) fun v S1 w' hE1 hv hI=>?_
 exact ⟨_,[],S1,rfl,hI,hE1,rfl,_,hv,by decide,by decide +kernel⟩
theorem xQ {p:Nat} (hrd:RdSl S 1 jd sl ys) (hp:p<=100000000):Tri Tryz.prog EE [rdP br] [rdI br sl p] S (MP br sl p 1 6 300):=by
 intro w hI
 refine vG ?_
 unfold rR
 refine Run.call0E xm yf hI (tL S) fun v' I' S1 w'=>?_
 rintro ⟨rfl,l,hl,hl0,hok⟩ hE1 hI
 have hI:Inv w [br] [rdI br sl p] S1 w':=hI
 refine bp hl ce ?_
 refine Run.callL ch ci hI (cW (n:=l.length) (hrd.monoU hE1.1) (by omega) hl0) rfl fun v' I' S1 w'=>?_
 rintro ⟨rfl,rfl,k,hk,rfl⟩ _ hI
 have hI:Inv w [br] [rdI br sl (p+1)] S1 w':=hI
 refine fg hI hl ce bn hk (fun cs hcs=>hcs) ?_
 rw [List.all_eq_true] at hok
 refine Run.call0E lf lw hI (jB (hok _ (List.getElem_mem hk))) fun v I' S2 w'=>?_
 rintro ⟨rfl,u,q,rfl,hu,hq⟩ hE2 hI
 refine aB (v:=u) rfl ?_
 refine aB (v:=.bool true) rfl ?_
 exact ⟨_,_,S2,rfl,hI,hE1.trans hE2,p+1,Nat.le_refl _,rfl,q,hu,hq⟩
/- a program and a query: published -/
abbrev LQ (br:Nat) (sl:Value) (p k:Nat):Value->List Item->al->Prop:=fun v I' S'=>∃ p',p'<=p+k/\I'=[rdI br sl p']/\∃ u g ps q,v=.tuple #[u,g]/\RdSl S' 5 (RdC S') u ps/\Light 8 200 ps/\0<ps.length/\(∀ c∈ps,dg c=true)/\RdSl S' 4 (RdT S') g q/\LightT 6 300 q/\Vq q
theorem zP {p:Nat} (hrd:RdSl S 1 jd sl ys) (hp:p<=10000000):Tri Tryz.prog HE [rdP br] [rdI br sl p] S (LQ br sl p 5):=by
 intro w hI
 refine xq ?_
 unfold uB
 refine Run.call0E qd qU hI (om S) fun v' I' S1 w'=>?_
 rintro ⟨rfl,l,hl,hl11,hok⟩ hE1 hI
 have hI:Inv w [br] [rdI br sl p] S1 w':=hI
 refine bp hl ce ?_
 refine Run.callL ch ci hI (cW (n:=l.length) (hrd.monoU hE1.1) (by omega) (by omega)) rfl fun v' I' S1 w'=>?_
 rintro ⟨rfl,rfl,k,hk,rfl⟩ _ hI
 have hI:Inv w [br] [rdI br sl (p+1)] S1 w':=hI
 refine fg hI hl ce bn hk (fun cs hcs=>hcs) ?_
 rw [List.all_eq_true] at hok
 refine Run.call0E jx jh hI (Bm (hok _ (List.getElem_mem hk))) fun v I' S2 w'=>?_
 rintro ⟨u,css,ps,rfl,rfl,hR,h0,hps,hpv⟩ hE2 hI
 have hI:Inv w [br] [bq u bw 5 css,rdI br sl (p+1)] S2 w':=hI.last 0 rfl
 obtain ⟨T0,hE3,hI,hr⟩:=DR hI hR
 refine aB (v:=u) rfl ?_
 refine aB (v:=.bool true) rfl ?_
 have F0:Ext w.heap.size [br] S T0:=(hE1.trans hE2).trans hE3
 refine fk hI (by kernel_rfl) rfl (by omega) fun v1 T1 w' G1 h1 hI=>?_
 have F1:=F0.trans G1
 refine fk hI (by kernel_rfl) rfl (by omega) fun v2 T2 w' G2 h2 hI=>?_
 have F2:=F1.trans G2
 refine fk hI (by kernel_rfl) rfl (by omega) fun v3 T3 w' G3 h3 hI=>?_
 have F3:=F2.trans G3
 refine fk hI (by kernel_rfl) rfl (by omega) fun v4 T4 w' G4 h4 hI=>?_
 have F4:=F3.trans G4
 refine fk hI (by kernel_rfl) rfl (by omega) fun v5 T5 w' G5 h5 hI=>?_
 have F5:=F4.trans G5
 refine fk hI (by kernel_rfl) rfl (by omega) fun v6 T6 w' G6 h6 hI=>?_
 have F6:=F5.trans G6
 refine fk hI (by kernel_rfl) rfl (by omega) fun v7 T7 w' G7 h7 hI=>?_
 have F7:=F6.trans G7
 refine fk hI (by kernel_rfl) rfl (by omega) fun v8 T8 w' G8 h8 hI=>?_
 have F8:=F7.trans G8
 refine fk hI (by kernel_rfl) rfl (by omega) fun v9 T9 w' G9 h9 hI=>?_
 have F9:=F8.trans G9
 refine fk hI (by kernel_rfl) rfl (by omega) fun v10 T10 w' G10 h10 hI=>?_
 have F10:=F9.trans G10
 refine fk hI (by kernel_rfl) rfl (by omega) fun v11 T11 w' G11 h11 hI=>?_
 have F11:=F10.trans G11
 refine lW (v:=fun b=>.slice (some ⟨b,0,none⟩) 11 11) (o:=.cells #[v1,v2,v3,v4,v5,v6,v7,v8,v9,v10,v11] tQ) hI ?_ fun b w' hI=>?_
 ·obtain ⟨a1,c1,rfl,_⟩:=id h1; obtain ⟨a2,c2,rfl,_⟩:=id h2; obtain ⟨a3,c3,rfl,_⟩:=id h3; obtain ⟨a4,c4,rfl,_⟩:=id h4; obtain ⟨a5,c5,rfl,_⟩:=id h5; obtain ⟨a6,c6,rfl,_⟩:=id h6; obtain ⟨a7,c7,rfl,_⟩:=id h7; obtain ⟨a8,c8,rfl,_⟩:=id h8; obtain ⟨a9,c9,rfl,_⟩:=id h9; obtain ⟨a10,c10,rfl,_⟩:=id h10; obtain ⟨a11,c11,rfl,_⟩:=id h11; kernel_rfl
 obtain ⟨T12,hI,G12,hS⟩:=Inv.pub1 (A:=[rdI br sl (p+1)]) hI
 have F12:=F11.trans G12
 have L11:=G12.1
 have L10:=G11.1.trans L11
 have L9:=G10.1.trans L10
 have L8:=G9.1.trans L9
 have L7:=G8.1.trans L8
 have L6:=G7.1.trans L7
 have L5:=G6.1.trans L6
 have L4:=G5.1.trans L5
 have L3:=G4.1.trans L4
 have L2:=G3.1.trans L3
 have L1:=G2.1.trans L2
 have hsel:∃ v l,(#[v1,v2,v3,v4,v5,v6,v7,v8,v9,v10,v11]:Array Value)[0+k * 1]?=some v/\RdSl T12 1 j8 v l/\0<l.length/\l.all K3=true:=by
  have hk:k<11:=by omega
  match k,hk with
  | 0,_=>exact ⟨v1,_,rfl,h1.monoS L1,by decide,by decide +kernel⟩
  | 1,_=>exact ⟨v2,_,rfl,h2.monoS L2,by decide,by decide +kernel⟩
  | 2,_=>exact ⟨v3,_,rfl,h3.monoS L3,by decide,by decide +kernel⟩
  | 3,_=>exact ⟨v4,_,rfl,h4.monoS L4,by decide,by decide +kernel⟩
  | 4,_=>exact ⟨v5,_,rfl,h5.monoS L5,by decide,by decide +kernel⟩
  | 5,_=>exact ⟨v6,_,rfl,h6.monoS L6,by decide,by decide +kernel⟩
  | 6,_=>exact ⟨v7,_,rfl,h7.monoS L7,by decide,by decide +kernel⟩
  | 7,_=>exact ⟨v8,_,rfl,h8.monoS L8,by decide,by decide +kernel⟩
  | 8,_=>exact ⟨v9,_,rfl,h9.monoS L9,by decide,by decide +kernel⟩
  | 9,_=>exact ⟨v10,_,rfl,h10.monoS L10,by decide,by decide +kernel⟩
  | 10,_=>exact ⟨v11,_,rfl,h11.monoS L11,by decide,by decide +kernel⟩
 obtain ⟨vk,lk,hcell,hlk,hlk0,hokq⟩:=hsel
 refine be (k:=1) FP (by omega) ?_
 refine dc GF ((hI.cellS hS).trans hcell) ?_
 refine Run.callL ch ci hI (cW (n:=5) (hrd.monoU F12.1) (by omega) (by omega)) rfl fun v' I' S3 w'=>?_
 rintro ⟨rfl,rfl,k5,hk5,rfl⟩ _ hI
 have hI:Inv w [br] [rdI br sl (p+2)] S3 w':=hI
 have hr:=hr.monoC (G1.1.trans L1)
 refine bP ?_
 refine bz (fun _=>?_) (fun _=>?_)
 ·refine Run.callL C2 Cn hI (xQ (hrd.monoU F12.1) (by omega)) rfl fun v' I' S4 w'=>?_
  rintro ⟨p3,hp3,rfl,q,hq,hlq⟩ hE4 hI
  exact ⟨_,_,S4,rfl,hI,F12.trans hE4,p3,by omega,rfl,_,_,ps,q,rfl,hr.monoC hE4.1,hps,h0,hpv,hq,hlq⟩
 ·refine bp hlk ce ?_
  refine Run.callL ch ci hI (cW (n:=lk.length) (hrd.monoU F12.1) (by omega) hlk0) rfl fun v' I' S3 w'=>?_
  rintro ⟨rfl,rfl,k6,hk6,rfl⟩ _ hI
  have hI:Inv w [br] [rdI br sl (p+3)] S3 w':=hI
  refine fg hI hlk ce bn hk6 (fun cs hcs=>hcs) ?_
  rw [List.all_eq_true] at hokq
  refine Run.call0E lf lw hI (jB (hokq _ (List.getElem_mem hk6))) fun v I' S4 w'=>?_
  rintro ⟨rfl,g,q,rfl,hg,hlq⟩ hE4 hI
  refine aB (v:=g) rfl ?_
  refine aB (v:=.bool true) rfl ?_
  exact ⟨_,_,S4,rfl,hI,F12.trans hE4,p+3,by omega,rfl,u,g,ps,q,rfl,hr.monoC hE4.1,hps,h0,hpv,hg,hlq⟩
end
end Go.Proofs.YtfcbhfjomgopbaaGreat

/- Tables of bindings as rows: published tables, copies of tables. -/
namespace Go.Proofs.YtfcbhfjomgopbaaGreat
open Go Go.RowKit
def RdO (S:al) (cs:List Value):Option T->Prop
 | none=>cs=jE
 | some t=>RdT S cs t
theorem RdO.length {S:al} {cs:List Value}:∀ {x:Option T},RdO S cs x->cs.length=4
 | none,h=>by rw [h]; rfl
 | some _,h=>RdT.length h
theorem RdO.one {S:al} {cs:List Value}:∀ {x:Option T},RdO S cs x->∀ u∈cs,u.oneCell'=true
 | none,h=>by rw [h]; simp [jE,Value.oneCell']
 | some _,h=>RdT.one h
theorem RdO.mono {S S':al} {cs:List Value} (hs:Sle S S'):∀ {x:Option T},RdO S cs x->RdO S' cs x
 | none,h=>h
 | some _,h=>RdT.mono hs h
theorem KnU.rdO {S:al} {c:Array Value} {st:bf} (h:KnU S c st) (i:Nat) (hi:i<st.length):RdO S (bm c (i * 4) 4) st[i]:=by
 cases hs:st[i] with
 | none=>exact (h.2 i hi).1 hs
 | some t=>exact (h.2 i hi).2 t hs
theorem KnU.of {S:al} {c:Array Value} {st:bf} (hs:st.length * 4<=c.size) (h:∀ i (hi:i<st.length),RdO S (bm c (i * 4) 4) st[i]):KnU S c st:=
 ⟨hs,fun i hi=>⟨fun e=>by have:=h i hi; rw [e] at this; exact this,fun t e=>by have:=h i hi; rw [e] at this; exact this⟩⟩
theorem KnU.rd {S S':al} {c:Array Value} {st:bf} {b cap:Nat} {E:TypeId} {fz:Nat × Nat} (h:KnU S c st) (hS:S' b=some (.cells c E fz)) (h1:st.length<=cap) (h2:cap<=maxLen):RdSl S' 4 (RdO S) (.slice (some ⟨b,0,none⟩) st.length cap) st:=
 ⟨_,cap,rfl,h1,h2,.inr ⟨b,0,c,E,fz,rfl,hS,fun i hi=>by rw [Nat.zero_add]; exact h.rdO i hi⟩⟩
theorem Rows.knu {S:al} {css:List (List Value)} {st:bf} {c:Array Value} (h:Rows 4 (RdO S) css st) (hs:st.length * 4<=c.size) (hc:c.toList.take (css.length * 4)=css.flatten):KnU S c st:=by
 refine KnU.of hs fun i hi=>?_
 have hcy:=h.hc
 have:=fT 4 css i h.hk (by omega)
 rw [<- hc,List.drop_take,List.take_take,Nat.min_eq_left (by omega)] at this
 rw [bm,this]
 exact h.hR i hi (by omega)
section
variable {w w0:World} {X:List Nat} {A:List Item} {S:al}
theorem Inv.tab {v:Value} {e:TypeId} {css:List (List Value)} {S1:al} {st:bf} (h:Inv w0 X (A++[bq v e 4 css]) S w) (hR:Rows 4 (RdO S1) css st) (h0:0<st.length) :
  ∃ g cap cur,v=kvU g st.length cap/\st.length<=cap/\cap<=maxLen/\KnU S1 cur st/\Inv w0 X (A++[.blk g (.cells cur e)]) S w:=by
 have hcy:=hR.hc
 obtain ⟨hl,ho⟩:=Inv.openRow h
 rcases ho with ⟨rfl,h1⟩|⟨g,cap,cur,rfl,hnc,hcm,hcs,ht,hI⟩
 ·omega
 ·rw [hcy] at hnc
  exact ⟨g,cap,cur,by rw [hcy],hnc,hcm,hR.knu (by rw [hcs]; exact Nat.mul_le_mul_right 4 hnc) ht,hI⟩
end
end Go.Proofs.YtfcbhfjomgopbaaGreat

/- spec: the variables of terms, how many variables a clause has (l6Vars, l6Fresh). -/
namespace Go.Proofs.YtfcbhfjomgopbaaGreat
open Go Go.RowKit
def iU:List Int->Int->Int
 | [],m=>m
 | x::xs,m=>iU xs (if m<=x then x+1 else m)
def gL (c:C):Int:=iU (cI (c.head::c.body) []) 0
theorem tw:∀ (l:List Int) (m:Int),m<=iU l m/\∀ x∈l,x<iU l m
 | [],m=>⟨Int.le_refl _,fun _ h=>by cases h⟩
 | y::l,m=>by
  have hm:m<=(if m<=y then y+1 else m)/\y<(if m<=y then y+1 else m):=by split <;> omega
  rw [iU]
  generalize (if m<=y then y+1 else m)=m' at hm ⊢
  obtain ⟨h1,h2⟩:=tw l m'
  refine ⟨by omega,fun x hx=>?_⟩
  rcases List.mem_cons.1 hx with rfl|hx
  ·omega
  ·exact h2 x hx
theorem Bz (N:Int):∀ (l:List Int) (m:Int),m<=N->(∀ x∈l,x<N)->iU l m<=N
 | [],m,h,_=>h
 | y::l,m,h,hx=>by
  rw [iU]
  refine Bz N l _ ?_ fun x h=>hx x (List.mem_cons_of_mem _ h)
  have:=hx y (List.mem_cons_self ..)
  split <;> omega
section
attribute [local irreducible] Run CondV ag aO
theorem C0 {ts:List T} {S:al} {v:Value} (h:RdSl S 4 (RdT S) v ts) (hw:ts.length+wL ts<=1048577):Tri Tryz.prog GA [v] [] S (Ea S (cI ts [])):=by
 intro w hI
 have hlen:=h.le
 simp only [maxLen] at hlen
 have hcl:=Dn ts
 refine xI ?_
 unfold ur
 refine eh hI nL fun v0 w' hI=>?_
 refine ⟨fun i t w'=>∃ (j:Nat) (l:List Int),j<=ts.length/\i=.int .i64 j/\cI (ts.drop j) l=cI ts []/\l.length+cU (ts.drop j)<=3000000/\Inv w [] [ge t l] S w',
  fun i _ _=>ts.length - (intOf i).toNat,⟨0,[],Nat.zero_le _,rfl,rfl,by simp only [List.drop_zero,List.length_nil]; omega,hI⟩,?_⟩
 intro t4 _ _ t3 _ _ _ _ _ _ _ _ _ _ w'
 rintro ⟨j,l,hj,rfl,hvs,hl,hI⟩
 refine bp h aC ?_
 refine cg ?_
 refine bz (fun hji=>?_) (fun hji=>?_)
 ·have hj':j<ts.length:=by omega
  rw [pl ts j hj'] at hl
  rw [FM ts j hj'] at hvs
  have hc1:=eE (ts.drop (j+1))
  have hc2:=kr ts[j] l
  refine cJ hI h aC ai hj' (fun _ _=>RdT.length) fun cs' hcs'=>?_
  refine Run.call (A:=[]) ie g9 hI (ip _ S cs' t3 l hcs' (by omega)) fun v' I' S' w'=>?_
  rintro ⟨rfl,rfl⟩ _ hI
  refine bT (by omega) ?_
  exact ⟨⟨j+1,_,hj',rfl,hvs,by omega,hI⟩,by simp [intOf]; omega⟩
 have:j=ts.length:=by omega
 subst this
 rw [List.drop_length,cI] at hvs
 subst hvs
 exact ⟨_,_,_,rfl,hI,Ext.refl _ _ _,rfl,rfl⟩
theorem zX {c:C} {S:al} {cs:List Value} (h:RdC S cs c) (hw:wC c<=1048576) (hx:∀ x∈cI (c.head::c.body) [],0<=x/\x<1000000) :
  Pure Tryz.prog FB [.agg cs.toArray] S (.int .i64 (gL c)):=by
 intro w hI
 obtain ⟨hd,ks,rfl,h1,h2⟩:=h
 have h1':=h1
 obtain ⟨kv,rfl,g1,g2,g3,g4⟩:=RdT.iff.1 h1
 have hlen:=h2.le
 simp only [maxLen] at hlen
 unfold wC at hw
 refine wy ?_
 unfold rE
 refine bS hI fun b1 w' hI=>?_
 refine aI dt ?_
 refine cN hI 0 [.int .i64 c.head.kind,.int .i64 c.head.n,.string c.head.name,kv] ai rfl rfl KL ?_
 refine dh hI bO (by simp [Value.cells]) (by omega) (by omega) fun b7 w' hI=>?_
 refine ao hI 0 rfl cD aJ rfl ?_
 have hI:=Inv.closeRow (A:=[_]) (cap:=1) (k:=4) (n:=1) hI (by omega) (by simp [maxLen]) (by simp [Value.cells])
 refine ed hI 1 (css:=[[.int .i64 c.head.kind,.int .i64 c.head.n,.string c.head.name,kv]]) bO (by omega) rfl h2 (fun _ _=>RdT.length) (fun _ _=>RdT.one) (by simp; omega) (by omega) fun v' w' css2 hR hI=>?_
 have hR:=(Rows.one h1' h1'.length).append hR
 obtain ⟨S1,hle1,hrd,hI,_⟩:=Inv.lend (A:=[_]) hI
 have hts:RdSl S1 4 (RdT S1) v' (c.head::c.body):=(RowRd.rows hR hrd).mono (Sle.refl _) fun _ _ h=>h.mono hle1
 refine Run.call0 Fb FW hI (C0 hts (by simp only [wL,List.length_cons]; omega)) fun v11 I' S' w'=>?_
 rintro ⟨rfl,rfl⟩ _ hI
 rw [gL]
 generalize cI (c.head::c.body) []=vs at hI hx ⊢
 obtain ⟨S2,hle2,hrd,hI,_⟩:=Inv.lend (A:=[_]) hI
 have hrd:=hrd.ints
 have hvl:=hrd.le
 simp only [maxLen] at hvl
 refine ⟨fun i t w'=>∃ (j:Nat) (m:Int),j<=vs.length/\i=.int .i64 j/\t=.int .i64 m/\iU (vs.drop j) m=iU vs 0/\Inv w [] [.blk b1 (.cells #[.int .i64 c.head.kind,.int .i64 c.head.n,.string c.head.name,kv,ks] bw)] S2 w',
  fun i _ _=>vs.length - (intOf i).toNat,⟨0,0,Nat.zero_le _,rfl,rfl,rfl,hI⟩,?_⟩
 intro t5 _ _ t4 _ _ _ _ _ _ _ _ _ _ _ _ _ _ _ w'
 rintro ⟨j,m,hj,rfl,rfl,hvs,hI⟩
 refine bp hrd cX ?_
 refine cg ?_
 refine bz (fun hji=>?_) (fun hji=>?_)
 ·have hj':j<vs.length:=by omega
  obtain ⟨hx0,hx1⟩:=hx _ (List.getElem_mem hj')
  rw [List.drop_eq_getElem_cons hj',iU] at hvs
  refine ⟨fun t w'=>t=.int .i64 (if m<=vs[j] then vs[j]+1 else m)/\Inv w [] [.blk b1 (.cells #[.int .i64 c.head.kind,.int .i64 c.head.n,.string c.head.name,kv,ks] bw)] S2 w',?_,?_⟩
  ·refine fg hI hrd cX aY hj' (fun cs hcs=>hcs) ?_
   refine ja ?_
   refine bz (fun he=>?_) (fun he=>?_)
   ·refine fg hI hrd cX aY hj' (fun cs hcs=>hcs) ?_
    refine bT (by omega) ?_
    exact ⟨by rw [if_pos (by omega)],hI⟩
   ·exact ⟨by rw [if_neg (by omega)],hI⟩
  intro t4' _ _ _ _ _ _ _ _ _ _ _ w'
  rintro ⟨rfl,hI⟩
  refine bT (by omega) ?_
  exact ⟨⟨j+1,_,hj',rfl,rfl,hvs,hI⟩,by simp [intOf]; omega⟩
 have:j=vs.length:=by omega
 subst this
 rw [List.drop_length,iU] at hvs
 subst hvs
 exact ⟨rfl,((hI.less hle2).less hle1).pick [false]⟩
end
end Go.Proofs.YtfcbhfjomgopbaaGreat

/- spec: rows of goals (l6Goals). -/
namespace Go.Proofs.YtfcbhfjomgopbaaGreat
open Go Go.RowKit
/- a goal and what it keeps of the choices -/
def RdG (S:al) (cs:List Value) (g:T × Int):Prop:=∃ hd,cs=hd++[.int .i64 g.2]/\RdT S hd g.1
theorem RdG.length {S:al} {cs:List Value} {g:T × Int} (h:RdG S cs g):cs.length=5:=by
 obtain ⟨hd,rfl,h⟩:=h; simp [h.length]
theorem RdG.one {S:al} {cs:List Value} {g:T × Int} (h:RdG S cs g):∀ u∈cs,u.oneCell'=true:=by
 obtain ⟨hd,rfl,h⟩:=h
 intro u hu
 rcases List.mem_append.1 hu with hu|hu
 ·exact h.one u hu
 ·rw [List.mem_singleton] at hu; subst hu; rfl
theorem RdG.mono {S S':al} {cs:List Value} {g:T × Int} (hs:Sle S S') (h:RdG S cs g):RdG S' cs g:=by
 obtain ⟨hd,rfl,h⟩:=h; exact ⟨hd,rfl,h.mono hs⟩
theorem RdSl.monoG {S S':al} {v:Value} {gs:List (T × Int)} (hs:Sle S S') (h:RdSl S 5 (RdG S) v gs):RdSl S' 5 (RdG S') v gs:=h.mono hs fun _ _=>RdG.mono hs
section
variable {w:World} {K:Value->World->Prop}
attribute [local irreducible] Run
theorem Ej {a b k:Int} {s:ByteArray} {x:Value} (hk:K (.agg #[.int .i64 a,.int .i64 b,.string s,x,.int .i64 k]) w) :
  Run Tryz.prog (bD gG [(0,.agg #[.int .i64 a,.int .i64 b,.string s,x]),(1,.int .i64 k)]) w K:=by
 refine Run.of (v:=.agg #[.int .i64 a,.int .i64 b,.string s,x,.int .i64 k]) (w':=w) ?_ hk
 unfold bD
 rw [Sem.run_bind,run_build w gG _ #[.int .i64 a,.int .i64 b,.string s,x,.int .i64 k] (by kernel_rfl),Result.andThen_ok]
 rfl
end
section
attribute [local irreducible] Run CondV ag aO
abbrev Lr (gs:List (T × Int)):Value->List Item->al->Prop:=fun q I' S'=>I'=[]/\RdSl S' 5 (RdG S') q gs
theorem oV {N:Nat} (hN:N<=1000000) (m:Int) (hm0:0<=m) (hm1:m<=1000000) (k:Int) {ts:List T} {rest:List (T × Int)} {S:al} {v vr:Value} (h:RdSl S 4 (RdT S) v ts) (hr:RdSl S 5 (RdG S) vr rest)
  (ho:∀ t∈ts,okU N t/\wT t<=1048576) (hl:ts.length<=1000000) (hlr:rest.length<=1000000000) :
  Tri Tryz.prog uS [v,.int .i64 m,.int .i64 k,vr] [] S (Lr (ts.map (fun t=>(ct m t,k))++rest)):=by
 intro w hI
 refine wD ?_
 unfold qG
 refine eh hI mD fun v0 w' hI=>?_
 refine ⟨fun i t w'=>∃ (j:Nat) (css:List (List Value)) (S1:al),j<=ts.length/\i=.int .i64 j/\Ext w.heap.size [] S S1/\Rows 5 (RdG S1) css ((ts.take j).map (fun t=>(ct m t,k)))/\Inv w [] [bq t gG 5 css] S1 w',
  fun i _ _=>ts.length - (intOf i).toNat,⟨0,[],S,Nat.zero_le _,rfl,Ext.refl _ _ _,Rows.nil _ _,hI⟩,?_⟩
 intro t10 _ _ t9 _ _ _ _ _ _ _ _ _ _ _ _ _ _ _ w'
 rintro ⟨j,css,S1,hj,rfl,hE,hR,hI⟩
 have hcl:=hR.hc
 rw [List.length_map,List.length_take,Nat.min_eq_left hj] at hcl
 refine bp h aC ?_
 refine cg ?_
 refine bz (fun hji=>?_) (fun hji=>?_)
 ·have hj':j<ts.length:=by omega
  obtain ⟨ho1,ho2⟩:=ho _ (List.getElem_mem hj')
  refine cJ hI (h.monoT hE.1) aC ai hj' (fun _ _=>RdT.length) fun cs hcs=>?_
  refine Run.call0E kT kN hI (oT hN m hm0 hm1 _ S1 cs hcs ho1 ho2) fun v' I' S' w'=>?_
  rintro ⟨eS,cs',L,rfl,rfl,hT⟩ _ hI
  rw [eS] at hI
  obtain ⟨S2,hI,hE2,hins⟩:=hI.pubExt
  have hrd:=hT.rd hins
  have hrd0:=hrd
  obtain ⟨kv,rfl,_⟩:=RdT.iff.1 hrd
  refine Ej ?_
  have hG:RdG S2 [.int .i64 (ct m ts[j]).kind,.int .i64 (ct m ts[j]).n,.string (ct m ts[j]).name,kv,.int .i64 k] (ct m ts[j],k):=⟨_,rfl,hrd0⟩
  refine f0 hI 0 [.int .i64 (ct m ts[j]).kind,.int .i64 (ct m ts[j]).n,.string (ct m ts[j]).name,kv,.int .i64 k] mD (by omega) (by omega) rfl rfl hG.one (by omega) (by omega) fun v' w' hI=>?_
  refine bT (by omega) ?_
  refine ⟨⟨j+1,_,S2,hj',rfl,hE.trans hE2,?_,hI⟩,by simp [intOf]; omega⟩
  rw [List.take_succ_eq_append_getElem hj',List.map_append]
  exact (hR.monoR fun _ _ h=>h.mono hE2.1).snoc hG rfl
 have:j=ts.length:=by omega
 subst this
 rw [List.take_length] at hR
 refine ed hI 0 (css:=css) mD (by omega) rfl (hr.monoG hE.1) (fun _ _=>RdG.length) (fun _ _=>RdG.one) (by omega) (by omega) fun v' w' css2 hR2 hI=>?_
 obtain ⟨S3,hE3,hrd,hI⟩:=Inv.lendExt (A:=[]) hI
 exact ⟨_,_,_,rfl,hI,hE.trans hE3,rfl,RowRd.rows ((hR.append hR2).monoR fun _ _ h=>h.mono hE3.1) hrd⟩
end
end Go.Proofs.YtfcbhfjomgopbaaGreat
