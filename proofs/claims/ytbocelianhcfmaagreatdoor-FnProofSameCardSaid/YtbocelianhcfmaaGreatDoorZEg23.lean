/- spec.l13Build. -/
import Derived.Test.YtbocelianhcfmaaGreatDoorZEg20
import Derived.Test.YtbocelianhcfmaaGreatDoorZEg3
import Derived.Test.YtbocelianhcfmaaGreatDoorZEg14
namespace Go.Proofs.YtbocelianhcfmaaGreatDoor
section
open Go Go.RowKit
theorem BldR.inv1 {st:aG} {l0:List Sp} {o:Option (List PF × List Sp)} (h:BldR st .one l0 o):∃ x l u,l0=x::l/\Res st (.one x.goal u)/\((ch u=false/\o=none) ∨
  (ch u=true/\∃ o',BldR st (.many x.body.toNat) l o'/\((o'=none/\o=none) ∨ ∃ ks l1,o'=some (ks,l1)/\o=some ([.mk u x.clause ks],l1)))):=by
 cases h with
 | big h1 h2=>exact ⟨_,_,_,rfl,h1,.inl ⟨h2,rfl⟩⟩
 | bad h1 h2 h3=>exact ⟨_,_,_,rfl,h1,.inr ⟨h2,_,h3,.inl ⟨rfl,rfl⟩⟩⟩
 | node h1 h2 h3=>exact ⟨_,_,_,rfl,h1,.inr ⟨h2,_,h3,.inr ⟨_,_,rfl,rfl⟩⟩⟩
theorem BldR.inv0 {st:aG} {l:List Sp} {o:Option (List PF × List Sp)} (h:BldR st (.many 0) l o):o=some ([],l):=by
 cases h with
 | nil=>rfl
theorem BldR.invS {st:aG} {n:Nat} {l:List Sp} {o:Option (List PF × List Sp)} (h:BldR st (.many (n+1)) l o):∃ o1,BldR st .one l o1/\((o1=none/\o=none) ∨
  ∃ k l1 o2,o1=some ([k],l1)/\BldR st (.many n) l1 o2/\((o2=none/\o=none) ∨ ∃ ks l2,o2=some (ks,l2)/\o=some (k::ks,l2))):=by
 cases h with
 | stop h=>exact ⟨_,h,.inl ⟨rfl,rfl⟩⟩
 | next h1 h2=>exact ⟨_,h1,.inr ⟨_,_,_,rfl,h2,.inl ⟨rfl,rfl⟩⟩⟩
 | cons h1 h2=>exact ⟨_,h1,.inr ⟨_,_,_,rfl,h2,.inr ⟨_,_,rfl,rfl⟩⟩⟩
theorem RowRd.one {S:ae} {v:Value} {e:TypeId} {k n:Nat} {xs:List Value} (h:RowRd S v e k n xs):v.oneCell'=true:=by
 obtain ⟨_,⟨rfl,_⟩|⟨g,cap,cur,rfl,_⟩⟩:=h <;> rfl
theorem Inv.rowOne {w0 w:World} {X:List Nat} {L:List Item} {S:ae} {v:Value} {e:TypeId} {k n i:Nat} {xs:List Value} (h:Inv w0 X L S w) (hi:L[i]?=some (.row v e k n xs)):v.cells=#[v]/\v.oneCell'=true:=by
 have hm:w.ownsRow 0 e k v n xs:=h.its _ (List.mem_of_getElem? hi)
 obtain ⟨_,hm⟩:=hm
 rcases hm with ⟨rfl,_⟩|⟨g,cap,cur,rfl,_⟩ <;> exact ⟨rfl,rfl⟩
theorem oI {l:List Value} (h:l.length=4):∃ a b c d,l=[a,b,c,d]:=by
 match l,h with
 | [a,b,c,d],_=>exact ⟨a,b,c,d,rfl⟩
theorem Nl {l:List Value} (h:l.length=6):∃ a b c d e f,l=[a,b,c,d,e,f]:=by
 match l,h with
 | [a,b,c,d,e,f],_=>exact ⟨a,b,c,d,e,f,rfl⟩
theorem BF {a b c d:Value} {i:Int} {v:Value} (h:∀ x∈[a,b,c,d],x.oneCell'=true) (hv:v.oneCell'=true):∀ x∈(#[a,b,c,d,.int .i64 i,v]:Array Value).toList,x.oneCell'=true:=by
 intro x hx
 simp only [List.mem_cons,List.not_mem_nil,or_false] at hx h
 rcases hx with rfl|rfl|rfl|rfl|rfl|rfl
 ·exact h _ (.inl rfl)
 ·exact h _ (.inr (.inl rfl))
 ·exact h _ (.inr (.inr (.inl rfl)))
 ·exact h _ (.inr (.inr (.inr rfl)))
 ·rfl
 ·exact hv
abbrev zP6:Array Value:=#[.int .i64 0,.int .i64 0,.string ⟨#[]⟩,.slice none 0 0,.int .i64 0,.slice none 0 0]
def Pj (steps:List Sp) (o:Option (List PF × List Sp)):Value->List Item->ae->Prop:=fun q I' S'=>I'=[]/\∃ (cs:List Value) (a:Nat),q=.tuple #[.agg cs.toArray,.int .i64 (a:Int),.bool o.isSome]/\cs.length=6/\(∀ u∈cs,u.oneCell'=true)/\
 ∀ ks l2,o=some (ks,l2)->a<=steps.length/\l2=steps.drop a/\∃ x,ks=[x]/\RdF S' cs x
section
attribute [local irreducible] Run CondV ar aI
set_option maxHeartbeats 2000000 in
theorem yL {N:Nat} (hN0:0<N) {st:aG} (hg:Good N st) {steps:List Sp} (hok:okLp N steps) (hlen:steps.length<=100000):∀ (L a:Nat),steps.length - a<=L->∀ o,BldR st .one (steps.drop a) o->
  ∀ (S:ae) (v vb:Value),RdSl S 6 (RdSp S) v steps->RdSl S 4 (RdO S) vb st->Tri Tryz.prog D7 [v,.int .i64 (a:Int),vb] [] S (Pj steps o):=by
 intro L
 induction L with
 | zero=>
  intro a ha o h
  obtain ⟨x,l,u,hl,_⟩:=h.inv1
  have:=congrArg List.length hl
  rw [List.length_drop] at this
  simp at this
  omega
 | succ L ih=>
 intro a ha o h S v vb hv hvb w hI
 obtain ⟨x,l,t,hl,hres,hcase⟩:=h.inv1
 have hal:a<steps.length:=by
  have:=congrArg List.length hl
  rw [List.length_drop] at this
  simp at this
  omega
 rw [List.drop_eq_getElem_cons hal,List.cons.injEq] at hl
 obtain ⟨hx,rfl⟩:=hl
 have hxm:x∈steps:=by rw [<- hx]; exact List.getElem_mem hal
 obtain ⟨⟨hxo,hxw⟩,hxb0,hxb6,hxc0,hxc1⟩:=hok x hxm
 obtain ⟨n,hn⟩:∃ n:Nat,x.body=n:=⟨x.body.toNat,by omega⟩
 rw [hn,Int.toNat_natCast] at hcase
 obtain ⟨va,vcap,rfl,_⟩:=id hv
 obtain ⟨sb,so,sc2,sc,sE,sfz,hve,hsS,hsR⟩:=hv.at_ hal
 rw [hx] at hsR
 have hva:va=some ⟨sb,so,none⟩:=by
  simp only [Value.slice.injEq] at hve
  exact hve.1
 obtain ⟨xhd,hxce,hxt⟩:=hsR
 have hxt0:=hxt
 obtain ⟨xkv,rfl,_⟩:=RdT.iff.1 hxt
 have hcc:sc[so+a * 6+4]?=some (.int .i64 x.clause):=aD hxce 4 _ rfl
 have hcb:sc[so+a * 6+5]?=some (.int .i64 x.body):=aD hxce 5 _ rfl
 have hix:∀ {ty:TypeId} {K:Value->World->Prop} {w':World},K (.pointer (some ⟨sb,so+a * 6,none⟩)) w'->Run Tryz.prog (sOp (.indexAddr oi (.const (.slice va steps.length vcap)) (.const (.int .i64 (a:Int)))) ty) w' K:=
  fun hk=>by rw [hva]; exact ay DC hal hk
 refine pP.2 ?_
 dsimp only[pP,cM]
 refine aA hI bV fun b6 w' hI=>?_
 obtain ⟨B6,hB6⟩:∃ B:Item,B=.blk b6 (.cells zP6 af):=⟨_,rfl⟩
 have e6:=congrArg some hB6
 have hI:Inv w [] [B6] S w':=by rw [hB6]; exact hI
 refine hix ?_
 refine ao AV ?_
 refine ci ac (cs:=[.int .i64 x.goal.kind,.int .i64 x.goal.n,.string x.goal.name,xkv]) rfl (fun j v hj=>by
  rw [hI.cellS hsS,Nat.add_zero]
  refine aD hxce j v ?_
  rw [List.getElem?_append_left (List.getElem?_eq_some_iff.1 hj).1]
  exact hj) ?_
 refine Run.call0E sy tg hI (GF hN0 hg hres ⟨hxo,hxw⟩ hxt0 hvb) fun v' I' S1 w'=>?_
 rintro ⟨rfl,ts,hl4,ho4,rfl,hrd⟩ hE hI
 have hI:Inv w [] [B6] S1 w':=hI
 obtain ⟨a1,a2,a3,a4,rfl⟩:=oI hl4
 refine ai (v:=.agg [a1,a2,a3,a4].toArray) rfl ?_
 refine ai (v:=.bool (ch t)) rfl ?_
 refine aA hI aU fun b9 w' hI=>?_
 have hI:Inv w [] [B6,.blk b9 (.cells #[.int .i64 0,.int .i64 0,.string ⟨#[]⟩,.slice none 0 0] ab)] S1 w':=hI
 refine aj hI 1 rfl ac rfl rfl (by simpa using ho4) fun w' hI=>?_
 obtain ⟨B9,hB9⟩:∃ B:Item,B=.blk b9 (.cells #[a1,a2,a3,a4] ab):=⟨_,rfl⟩
 have e9:=congrArg some hB9
 have hI:Inv w [] [B6,B9] S1 w':=by rw [hB9]; exact hI
 have hsS1:=hE.1 _ _ hsS
 refine ⟨fun D z6 jT mP iM ia iF fC kl w_=>Fx D 0 [kl=.agg #[a1,a2,a3,a4],fC=.slice va steps.length vcap,iF=.int .i64 (a:Int),ia=.pointer (some ⟨sb,so+a * 6,none⟩),iM=.pointer (some ⟨sb,so+a * 6+4,none⟩),mP=.int .i64 x.clause,jT=.agg #[a1,a2,a3,a4,.int .i64 x.clause,.slice none 0 0],True,True]/\nwP w [] [B6,B9] af zP6 (fun _ q=>q=#[a1,a2,a3,a4,.int .i64 x.clause,.slice none 0 0]) (D 7) (D 8) z6 S1 w_,⟨Fx.nil _ _,nwP.mk hI.draw _⟩,⟨?_,?_,?_,?_,?_,?_,?_,?_,?_,trivial⟩,?_⟩
 all_goals (intro D bw; intros; rename_i z6 jT mP iM ia iF fC kl w_ hA_; have hF_:=hA_.1; obtain ⟨⟨bQ,bS,bU,bR,bY,bZ,bO,cG,cS,_⟩,hN⟩:=hA_)
 ·obtain ⟨R,hI⟩:=hN.inv; refine ag hI 1 ac e9 rfl ?_
  exact ⟨hF_.set 0 rfl,hN⟩
 ·exact ⟨hF_.set 1 rfl,hN⟩
 ·exact ⟨hF_.set 2 rfl,hN⟩
 ·obtain rfl:=bS ‹_›
  obtain rfl:=bU ‹_›
  refine hix ?_
  exact ⟨hF_.set 3 rfl,hN⟩
 ·obtain rfl:=bR ‹_›
  refine ao Az ?_
  exact ⟨hF_.set 4 rfl,hN⟩
 ·obtain rfl:=bY ‹_›
  obtain ⟨R,hI⟩:=hN.inv; refine dd aw ((hI.cellS hsS1).trans hcc) ?_
  exact ⟨hF_.set 5 rfl,hN⟩
 ·obtain rfl:=bQ ‹_›
  obtain rfl:=bZ ‹_›
  refine o5 ?_
  exact ⟨hF_.set 6 rfl,hN⟩
 ·refine nwP.alloc hN bw bV rfl fun v w_ hN=>?_
  exact ⟨hF_.set 7 (by first|assumption|trivial),hN⟩
 ·have GO:=cG ‹_›
  obtain rfl:=bO ‹_›
  refine nwP.store hN ‹D 7=true› bw aq rfl rfl (BF ho4 rfl) rfl fun w_ hN=>?_
  exact ⟨hF_.set 8 trivial,hN⟩
 obtain ⟨rfl,rfl,rfl,rfl,rfl,rfl,rfl,GO,_,_⟩:=hF_.all
 have Cs:D 7=true:=by assumption
 have z8:D 8=true:=by assumption
 clear hF_ bQ bS bU bR bY bZ bO cG cS
 rw [Cs,z8] at hN
 obtain ⟨b11,q11,rfl,rfl,hI⟩:=hN.fin
 have hI:Inv w [] [B6,B9,.blk b11 (.cells #[a1,a2,a3,a4,.int .i64 x.clause,.slice none 0 0] af)] S1 w_:=hI
 refine hix ?_
 refine ao Ay ?_
 refine dd aw ((hI.cellS hsS1).trans hcb) ?_
 rw [hn]
 refine bm (by omega) ?_
 rw [show ((a:Int)+1)=((a+1:Nat):Int) by omega]
 obtain ⟨oM,hoM⟩:∃ oM:Option (List PF × List Sp),(ch t=true->BldR st (.many n) (steps.drop (a+1)) oM)/\(ch t=false->oM=none)/\((oM=none/\o=none) ∨ ∃ ks l1,oM=some (ks,l1)/\o=some ([.mk t x.clause ks],l1))/\(oM≠none->ch t=true):=by
  rcases hcase with ⟨h1,h2⟩|⟨h1,o',h2,h3⟩
  ·exact ⟨none,fun e=>(by rw [h1] at e; cases e),fun _=>rfl,.inl ⟨rfl,h2⟩,fun e=>absurd rfl e⟩
  ·exact ⟨o',fun _=>h2,fun e=>(by rw [h1] at e; cases e),h3,fun _=>h1⟩
 obtain ⟨hoM1,hoM2,hoM3,hoM4⟩:=hoM
 have hI:=hI.rowNil af 6
 have hI:Inv w [] [B6,.blk b11 (.cells #[a1,a2,a3,a4,.int .i64 x.clause,.slice none 0 0] af),aP (.slice none 0 0) af 6 []] S1 w_:=hI.pick [true,false,true,true]
 refine ⟨fun i k1 q1 w'=>∃ (j aa:Nat) (okb:Bool) (S2:ae) (kv:Value) (css:List (List Value)),i=.int .i64 (j:Int)/\k1=.bool okb/\q1=.int .i64 (aa:Int)/\j<=n/\css.length<=j/\Ext w.heap.size [] S1 S2/\(okb=false->oM=none)/\
   (okb=true->ch t=true/\aa<=steps.length/\a+1<=aa/\∃ dn o',Rows 6 (RdF S2) css dn/\BldR st (.many (n - j)) (steps.drop aa) o'/\(∀ ks l2,o'=some (ks,l2)->oM=some (dn++ks,l2))/\(o'=none->oM=none))/\
   Inv w [] [B6,.blk b11 (.cells #[a1,a2,a3,a4,.int .i64 x.clause,kv] af),aP kv af 6 css] S2 w',fun i _ _ _=>n - (intOf i).toNat,
  ⟨0,a+1,ch t,S1,_,[],rfl,rfl,rfl,Nat.zero_le _,Nat.le_refl _,Ext.refl _ _ _,hoM2,fun hs=>⟨hs,by omega,Nat.le_refl _,[],oM,Rows.nil _ _,hoM1 hs,fun ks l2 e=>e,fun e=>e⟩,hI⟩,?_⟩
 intro t13 _ _ t10 _ t1 _ _ _ _ _ _ _ _ _ _ _ _ _ _ _ _ _ _ _ _ _ _ _ _ w'
 rintro ⟨j,aa,okb,S2,kv,css,rfl,rfl,rfl,hj,hcl,hE2,hf,ht,hI⟩
 refine ⟨fun q w'=>q=.bool (decide ((j:Int)<(n:Int)) && okb)/\Inv w [] [B6,.blk b11 (.cells #[a1,a2,a3,a4,.int .i64 x.clause,kv] af),aP kv af 6 css] S2 w',?_,?_⟩
 ·refine bD ?_
  cases hd:decide ((j:Int)<(n:Int)) with
  | true=>
   refine rpG ?_
   exact ⟨rfl,hI⟩
  | false=>
   refine rpG ?_
   exact ⟨rfl,hI⟩
 intro q _ _ _ _ _ w'
 rintro ⟨rfl,hI⟩
 refine av (fun hb=>?_) (fun hb=>?_)
 ·rw [Bool.and_eq_true,decide_eq_true_eq] at hb
  obtain ⟨hjn,hok1⟩:=hb
  obtain ⟨hsm,ha1,ha2,dn,o',hR,hB,hs1,hs2⟩:=ht hok1
  obtain ⟨m,hm⟩:∃ m,n - j=m+1:=⟨n - j - 1,by omega⟩
  rw [hm] at hB
  obtain ⟨o1,hB1,hB2⟩:=hB.invS
  refine Run.call0E p5 pw hI (ih aa (by omega) o1 hB1 S2 _ vb (hv.monoSp (hE.trans hE2).1) (hvb.monoO (hE.trans hE2).1)) fun v' I' S3 w'=>?_
  rintro ⟨rfl,c6,a',rfl,hk6,ko6,hpost⟩ hE3 hI
  obtain ⟨c1,c2,c3,c4,c5,c6,rfl⟩:=Nl hk6
  have hI:Inv w [] [B6,.blk b11 (.cells #[a1,a2,a3,a4,.int .i64 x.clause,kv] af),aP kv af 6 css] S3 w':=hI
  refine ai (v:=.agg [c1,c2,c3,c4,c5,c6].toArray) rfl ?_
  refine ai (v:=.int .i64 (a':Int)) rfl ?_
  refine ai (v:=.bool o1.isSome) rfl ?_
  refine aA hI bV fun b14 w' hI=>?_
  have hI:Inv w [] ([B6,.blk b11 (.cells #[a1,a2,a3,a4,.int .i64 x.clause,kv] af),aP kv af 6 css]++[.blk b14 (.cells zP6 af)]) S3 w':=hI
  refine aj hI 3 rfl aq rfl rfl (by simpa using ko6) fun w' hI=>?_
  have hI:Inv w [] ([B6,.blk b11 (.cells #[a1,a2,a3,a4,.int .i64 x.clause,kv] af),aP kv af 6 css]++[.blk b14 (.cells #[c1,c2,c3,c4,c5,c6] af)]) S3 w':=hI
  refine ad hI 1 rfl aW aZ rfl ?_
  refine ag hI 3 aq rfl rfl ?_
  refine fU (css:=css) hI 2 [c1,c2,c3,c4,c5,c6] fQ (by omega) (by omega) rfl rfl ko6 (by omega) (by omega) fun v' w' hI=>?_
  have hI:Inv w [] [B6,.blk b11 (.cells #[a1,a2,a3,a4,.int .i64 x.clause,kv] af),aP v' af 6 (css++[[c1,c2,c3,c4,c5,c6]])] S3 w':=hI.pick [true,true,true]
  obtain ⟨hvc,hv1⟩:=hI.rowOne (i:=2) rfl
  refine cP hI 1 rfl aW aZ rfl hvc hv1 fun w' hI=>?_
  refine bm (by omega) ?_
  rw [show ((j:Int)+1)=((j+1:Nat):Int) by omega]
  refine ⟨⟨j+1,a',o1.isSome,S3,v',_,rfl,rfl,rfl,by omega,by simp; omega,hE2.trans hE3,fun e1=>?_,fun e1=>?_,hI⟩,by simp only [intOf,Int.toNat_natCast]; omega⟩
  ·rcases hB2 with ⟨_,ho⟩|⟨k,l1,o2,rfl,_⟩
   ·exact hs2 ho
   ·cases e1
  ·rcases hB2 with ⟨rfl,ho⟩|⟨k,l1,o2,rfl,hB3,hB4⟩
   ·cases e1
   ·obtain ⟨p1,p2,x',hx',hrx⟩:=hpost _ _ rfl
    simp only [List.cons.injEq,and_true] at hx'
    subst hx'
    obtain ⟨pre,has⟩:=hB1.suf _ _ rfl
    have hle:aa<=a':=by
     have:=congrArg List.length has
     rw [p2,List.length_append,List.length_drop,List.length_drop] at this
     omega
    refine ⟨hsm,p1,by omega,dn++[k],o2,(hR.monoR fun _ _ h=>h.mono hE3.1).snoc hrx rfl,?_,fun ks l2 e=>?_,fun e=>?_⟩
    ·rw [show n - (j+1)=m by omega,<- p2]
     exact hB3
    ·rcases hB4 with ⟨h1,_⟩|⟨ks',l2',h1,h2⟩
     ·rw [h1] at e; cases e
     ·rw [h1] at e
      simp only [Option.some.injEq,Prod.mk.injEq] at e
      obtain ⟨rfl,rfl⟩:=e
      rw [hs1 _ _ h2,List.append_assoc]
      rfl
    ·rcases hB4 with ⟨_,h1⟩|⟨ks',l2',h1,h2⟩
     ·exact hs2 h1
     ·rw [h1] at e; cases e
 ·obtain ⟨S3,hE3,hrw,hI⟩:=Inv.lendExt (A:=[B6,.blk b11 (.cells #[a1,a2,a3,a4,.int .i64 x.clause,kv] af)]) hI
  have hkv:=hrw.one
  refine ag hI 1 aq rfl rfl ?_
  refine aj (cs:=#[a1,a2,a3,a4,.int .i64 x.clause,kv]) hI 0 e6 aq rfl rfl (BF ho4 hkv) fun w' hI=>?_
  refine aS hI 0 aq rfl rfl ?_
  have hend:okb=o.isSome/\∀ ks l2,o=some (ks,l2)->aa<=steps.length/\l2=steps.drop aa/\∃ x',ks=[x']/\RdF S3 [a1,a2,a3,a4,.int .i64 x.clause,kv] x':=by
   cases hkb:okb with
   | false=>
    have h0:=hf hkb
    rcases hoM3 with ⟨_,h2⟩|⟨_,_,h1,_⟩
    ·subst h2
     exact ⟨rfl,fun ks l2 e=>by cases e⟩
    ·rw [h0] at h1; cases h1
   | true=>
    obtain ⟨hsm,ha1,ha2,dn,o',hR,hB,hs1,hs2⟩:=ht hkb
    rw [hkb,Bool.and_true,decide_eq_false_iff_not] at hb
    rw [show n - j=0 by omega] at hB
    have h1:=hs1 _ _ hB.inv0
    rcases hoM3 with ⟨h2,_⟩|⟨ks,l1,h2,h3⟩
    ·rw [h1] at h2; cases h2
    ·rw [h1] at h2
     simp only [List.append_nil,Option.some.injEq,Prod.mk.injEq] at h2
     obtain ⟨rfl,rfl⟩:=h2
     subst h3
     refine ⟨rfl,fun ks l2 e=>?_⟩
     simp only [Option.some.injEq,Prod.mk.injEq] at e
     obtain ⟨rfl,rfl⟩:=e
     refine ⟨ha1,rfl,_,rfl,RdF.iff.2 ?_⟩
     have htr:=(hrd hsm).mono (hE2.trans hE3).1
     obtain ⟨tkv,hte,_⟩:=RdT.iff.1 htr
     simp only [List.cons.injEq,and_true] at hte
     obtain ⟨rfl,rfl,rfl,rfl⟩:=hte
     exact ⟨_,_,rfl,htr,⟨by simp only [PF.clause]; omega,by simp only [PF.clause]; omega⟩,RowRd.rows (hR.monoR fun _ _ h=>h.mono hE3.1) hrw⟩
  obtain ⟨hk1,hk2⟩:=hend
  refine ⟨_,[],S3,rfl,hI.nil,(hE.trans hE2).trans hE3,rfl,[a1,a2,a3,a4,.int .i64 x.clause,kv],aa,by rw [hk1],rfl,BF ho4 hkv,hk2⟩
end
end
section
open Go Go.RowKit
mutual
def prF (vs:List Int):PF->PF
 | .mk g c ks=>.mk (fw vs g) c (prL vs ks)
def prL (vs:List Int):List PF->List PF
 | []=>[]
 | p::ps=>prF vs p::prL vs ps
end
theorem DV (vs:List Int):∀ ps:List PF,prL vs ps=ps.map (prF vs)
 | []=>rfl
 | p::ps=>by rw [prL,DV vs ps]; rfl
mutual
theorem Jp (vs:List Int):∀ p:PF,wF (prF vs p)=wF p
 | .mk g c ks=>by rw [prF,wF,wF,Jq,LX vs ks,DV,List.length_map]
theorem LX (vs:List Int):∀ ps:List PF,wFL (prL vs ps)=wFL ps
 | []=>rfl
 | p::ps=>by rw [prL,wFL,wFL,Jp vs p,LX vs ps]
end
theorem BldR.wsize {N:Nat} {st:aG} (hg:Good N st) {j:BKd} {l:List Sp} {o:Option (List PF × List Sp)} (h:BldR st j l o):okLp N l->∀ ks l2,o=some (ks,l2)->wFL ks+ks.length+842 * l2.length<=842 * l.length:=by
 induction h with
 | big=>intro _ ks l2 h; cases h
 | bad=>intro _ ks l2 h; cases h
 | stop=>intro _ ks l2 h; cases h
 | next=>intro _ ks l2 h; cases h
 | nil=>
  intro _ ks l2 h
  simp only [Option.some.injEq,Prod.mk.injEq] at h
  obtain ⟨rfl,rfl⟩:=h
  simp [wFL]
 | @node x l _ u _ hu hsm _ ih=>
  intro ho ks l2 h
  simp only [Option.some.injEq,Prod.mk.injEq] at h
  obtain ⟨rfl,rfl⟩:=h
  have h1:=ih (fun y hy=>ho y (List.mem_cons_of_mem _ hy)) _ _ rfl
  have hou:okU N u:=jX hg hu (ho x (List.mem_cons_self ..)).1.1
  have hw:=j5 hsm hou
  simp only [wFL,wF,List.length_cons,List.length_nil]
  omega
 | @cons _ l l1 l2 k ks' h1 _ ih1 ih2=>
  intro ho ks l3 h
  simp only [Option.some.injEq,Prod.mk.injEq] at h
  obtain ⟨rfl,rfl⟩:=h
  obtain ⟨a,e⟩:=h1.suf _ _ rfl
  have q1:=ih1 ho _ _ rfl
  have q3:=ih2 (fun y hy=>ho y (by rw [e]; exact List.mem_append_right _ hy)) _ _ rfl
  simp only [wFL,List.length_cons,List.length_nil] at q1 ⊢
  omega
theorem Inv.rowSl {w0 w:World} {X:List Nat} {L:List Item} {S:ae} {v:Value} {e:TypeId} {k n i:Nat} {xs:List Value} (h:Inv w0 X L S w) (hi:L[i]?=some (.row v e k n xs)):∃ a n m,v=.slice a n m:=by
 have hm:w.ownsRow 0 e k v n xs:=h.its _ (List.mem_of_getElem? hi)
 obtain ⟨_,hm⟩:=hm
 rcases hm with ⟨rfl,_⟩|⟨g,cap,cur,rfl,_⟩ <;> exact ⟨_,_,_,rfl⟩
def rnC (w0:World) (X:List Nat) (b5:Nat) (F:Value->Array Value) (B:List Item) (kv:Value) (css:List (List Value)) (y:PF) (S:ae) (iF ia iM:Value) (w:World):Nat->Prop
 | 0=>Inv w0 X (B++[.blk b5 (.cells (F kv) af),aP kv af 6 css]) S w
 | 1=>∃ S1 cs,iF=.agg cs.toArray/\Ext w0.heap.size X S S1/\RdF S1 cs y/\Inv w0 X (B++[.blk b5 (.cells (F kv) af),aP kv af 6 css]) S1 w
 | 2=>∃ S1,Ext w0.heap.size X S S1/\RdSl S1 6 (RdF S1) ia [y]/\Inv w0 X (B++[.blk b5 (.cells (F kv) af),aP kv af 6 css]) S1 w
 | 3=>∃ S1 cs,Ext w0.heap.size X S S1/\RdF S1 cs y/\Inv w0 X (B++[.blk b5 (.cells (F kv) af),aP iM af 6 (css++[cs])]) S1 w
 | _=>∃ S1 kv' cs,Ext w0.heap.size X S S1/\RdF S1 cs y/\Inv w0 X (B++[.blk b5 (.cells (F kv') af),aP kv' af 6 (css++[cs])]) S1 w
theorem rnC.inv {w0 w:World} {X:List Nat} {b5:Nat} {F:Value->Array Value} {B:List Item} {kv:Value} {css:List (List Value)} {y:PF} {S:ae} {iF ia iM:Value}:∀ {n:Nat},rnC w0 X b5 F B kv css y S iF ia iM w n->∃ R S1,Ext w0.heap.size X S S1/\Inv w0 X (B++R) S1 w
 | 0,h=>⟨_,_,Ext.refl _ _ _,h⟩
 | 1,⟨S1,_,_,hE,_,h⟩=>⟨_,S1,hE,h⟩
 | 2,⟨S1,hE,_,h⟩=>⟨_,S1,hE,h⟩
 | 3,⟨S1,_,hE,_,h⟩=>⟨_,S1,hE,h⟩
 | _+4,⟨S1,_,_,hE,_,h⟩=>⟨_,S1,hE,h⟩
theorem rnC.low {w0 w:World} {X:List Nat} {b5:Nat} {F:Value->Array Value} {B:List Item} {kv:Value} {css:List (List Value)} {y:PF} {S:ae} {iF ia iM:Value}:∀ {n:Nat},rnC w0 X b5 F B kv css y S iF ia iM w n->n<4->∃ R S1,Inv w0 X (B++.blk b5 (.cells (F kv) af)::R) S1 w
 | 0,h,_=>⟨_,_,h⟩
 | 1,⟨S1,_,_,_,_,h⟩,_=>⟨_,S1,h⟩
 | 2,⟨S1,_,_,h⟩,_=>⟨_,S1,h⟩
 | 3,⟨S1,_,_,_,h⟩,_=>⟨_,S1,h⟩
 | n+4,_,h=>by omega
abbrev Mz (x:PF):Value->List Item->ae->Prop:=fun q I' S'=>I'=[]/\∃ cs:List Value,q=.agg cs.toArray/\RdF S' cs x
section
attribute [local irreducible] Run CondV ar aI
set_option maxHeartbeats 2000000 in
theorem xE {vs:List Int} (hvl:vs.length<=1000000000):∀ (x:PF) (S:ae) (cs:List Value) (v:Value),RdF S cs x->RdSl S 1 gz v vs->pwT x->wF x<=1048576->Tri Tryz.prog qv [.agg cs.toArray,v] [] S (Mz (prF vs x)):=by
 refine PF.ind fun g c ks ih S cs v h hv hpw hwf=>?_
 intro w hI
 obtain ⟨gkv,kp,rfl,hg,hci,hks⟩:=RdF.iff.1 h
 simp only [PF.goal,PF.clause,PF.kids] at hg hci hks ⊢
 rw [pwT] at hpw
 rw [wF] at hwf
 have hlen:=hks.le
 simp only [maxLen] at hlen
 obtain ⟨ka,kc,rfl,_⟩:=id hks
 obtain ⟨va,vc,rfl,_⟩:=id hv
 refine nI.2 ?_
 dsimp only[nI,aY]
 refine be hI fun b2 w' hI=>?_
 refine aA hI bV fun b4 w' hI=>?_
 obtain ⟨B2,hB2⟩:∃ B:Item,B=.blk b2 (.cells #[.int .i64 g.kind,.int .i64 g.n,.string g.name,gkv,.int .i64 c,.slice ka ks.length kc] af):=⟨_,rfl⟩
 obtain ⟨B4,hB4⟩:∃ B:Item,B=.blk b4 (.cells zP6 af):=⟨_,rfl⟩
 have e2:=congrArg some hB2
 have e4:=congrArg some hB4
 have hI:Inv w [] [B2,B4] S w':=by rw [hB2,hB4]; exact hI
 refine ⟨fun D x5 NG Oy z6 OB x9 x8 x7 w_=>Fx D 0 [x7=.pointer (some ⟨b2,0,none⟩),x8=.agg #[.int .i64 g.kind,.int .i64 g.n,.string g.name,gkv],x9=.slice va vs.length vc,True,z6=.pointer (some ⟨b2,4,none⟩),Oy=.int .i64 c,True,True,True]/\∃ S1,Ext w.heap.size [] S S1/\(D 3=true->∃ a1 a2 a3 a4,OB=.agg #[a1,a2,a3,a4]/\RdT S1 [a1,a2,a3,a4] (fw vs g))/\(D 6=true->∃ a1 a2 a3 a4,NG=.agg #[a1,a2,a3,a4,.int .i64 c,.slice none 0 0]/\RdT S1 [a1,a2,a3,a4] (fw vs g))/\nwP w [] [B2,B4] af zP6 (fun S q=>∃ a1 a2 a3 a4,q=#[a1,a2,a3,a4,.int .i64 c,.slice none 0 0]/\RdT S [a1,a2,a3,a4] (fw vs g)) (D 7) (D 8) x5 S1 w_,⟨Fx.nil _ _,⟨S,Ext.refl _ _ _,aT,aT,nwP.mk hI.draw _⟩⟩,⟨?_,?_,?_,?_,?_,?_,?_,?_,?_,trivial⟩,?_⟩
 all_goals (intro D bw; intros; rename_i x5 NG Oy z6 OB x9 x8 x7 w_ hA_; have hF_:=hA_.1; obtain ⟨⟨bQ,bS,bU,bR,bY,bZ,bO,cG,cS,_⟩,⟨S1,hE1,f3,f6,hN⟩⟩:=hA_)
 ·refine ao cZ ?_
  exact ⟨hF_.set 0 rfl,⟨S1,hE1,f3,f6,hN⟩⟩
 ·obtain rfl:=bQ ‹_›
  obtain ⟨R,hI⟩:=hN.inv; refine b0 hI 0 [.int .i64 g.kind,.int .i64 g.n,.string g.name,gkv] ac e2 rfl nu ?_
  exact ⟨hF_.set 1 rfl,⟨S1,hE1,f3,f6,hN⟩⟩
 ·exact ⟨hF_.set 2 rfl,⟨S1,hE1,f3,f6,hN⟩⟩
 ·obtain rfl:=bS ‹_›
  obtain rfl:=bU ‹_›
  obtain ⟨R,hI,hback⟩:=nwP.ex (Q:=fun S q=>∃ a1 a2 a3 a4,q=#[a1,a2,a3,a4,.int .i64 c,.slice none 0 0]/\RdT S [a1,a2,a3,a4] (fw vs g)) (fun _ _ _ hs ⟨a1,a2,a3,a4,e,h⟩=>⟨a1,a2,a3,a4,e,h.mono hs⟩) hN
  refine Run.call0E p7 qh hI (zU vs hvl g S1 _ _ (hg.mono hE1.1) (hv.mono hE1.1 fun _ _ h=>h) (by omega)) fun v I' S2 w_=>?_
  rintro ⟨eS,cs',L,rfl,rfl,hT⟩ _ hI
  rw [eS] at hI
  obtain ⟨S2,hI,hE2,hins⟩:=hI.pubExt
  have hrt:=hT.rd hins
  obtain ⟨a1,a2,a3,a4,rfl⟩:=oI hrt.length
  have hN:=hback S2 _ hE2.1 hI
  have f3:aB D 3 3=true->∃ b1 b2 b3 b4,Value.agg [a1,a2,a3,a4].toArray=.agg #[b1,b2,b3,b4]/\RdT S2 [b1,b2,b3,b4] (fw vs g):=fun _=>⟨a1,a2,a3,a4,rfl,hrt⟩
  have f6:aB D 3 6=true->∃ a1 a2 a3 a4,NG=.agg #[a1,a2,a3,a4,.int .i64 c,.slice none 0 0]/\RdT S2 [a1,a2,a3,a4] (fw vs g):=fun h=>by
   obtain ⟨b1,b2,b3,b4,e,h⟩:=f6 h
   exact ⟨b1,b2,b3,b4,e,h.mono hE2.1⟩
  obtain ⟨S1,rfl,hE1⟩:∃ S1,S1=S2/\Ext w.heap.size [] S S1:=⟨S2,rfl,hE1.trans hE2⟩
  exact ⟨hF_.set 3 (by first|assumption|trivial),⟨S1,hE1,f3,f6,hN⟩⟩
 ·refine ao cF ?_
  exact ⟨hF_.set 4 rfl,⟨S1,hE1,f3,f6,hN⟩⟩
 ·obtain rfl:=bY ‹_›
  obtain ⟨R,hI⟩:=hN.inv; refine ax hI 0 aw e2 rfl ?_
  exact ⟨hF_.set 5 rfl,⟨S1,hE1,f3,f6,hN⟩⟩
 ·have HG:=bR ‹_›
  obtain rfl:=bZ ‹_›
  obtain ⟨a1,a2,a3,a4,rfl,hrt⟩:=f3 ‹D 3=true›
  refine o5 ?_
  have f6:aB D 6 6=true->∃ b1 b2 b3 b4,Value.agg #[a1,a2,a3,a4,.int .i64 c,.slice none 0 0]=.agg #[b1,b2,b3,b4,.int .i64 c,.slice none 0 0]/\RdT S1 [b1,b2,b3,b4] (fw vs g):=fun _=>⟨a1,a2,a3,a4,rfl,hrt⟩
  exact ⟨hF_.set 6 (by first|assumption|trivial),⟨S1,hE1,f3,f6,hN⟩⟩
 ·refine nwP.alloc hN bw bV rfl fun v w_ hN=>?_
  exact ⟨hF_.set 7 (by first|assumption|trivial),⟨S1,hE1,f3,f6,hN⟩⟩
 ·have GO:=cG ‹_›
  have JZ:=bO ‹_›
  obtain ⟨a1,a2,a3,a4,rfl,hrt⟩:=f6 ‹D 6=true›
  refine nwP.store hN ‹D 7=true› bw aq rfl rfl (BF hrt.one rfl) ⟨a1,a2,a3,a4,rfl,hrt⟩ fun w_ hN=>?_
  exact ⟨hF_.set 8 trivial,⟨S1,hE1,f3,f6,hN⟩⟩
 obtain ⟨rfl,rfl,rfl,HG,rfl,rfl,JZ,GO,_,_⟩:=hF_.all
 have Cs:D 7=true:=by assumption
 have z8:D 8=true:=by assumption
 clear hF_ bQ bS bU bR bY bZ bO cG cS
 rw [Cs,z8] at hN
 obtain ⟨b5,q5,rfl,⟨a1,a2,a3,a4,rfl,hrt⟩,hI⟩:=hN.fin
 obtain ⟨F,hF⟩:∃ F:Value->Array Value,F=fun kv=>#[a1,a2,a3,a4,.int .i64 c,kv]:=⟨_,rfl⟩
 have hFv:∀ kv,F kv=#[a1,a2,a3,a4,.int .i64 c,kv]:=fun kv=>by rw [hF]
 have hI:=hI.rowNil af 6
 have hI:Inv w [] ([B2,B4]++[.blk b5 (.cells (F (.slice none 0 0)) af),aP (.slice none 0 0) af 6 []]) S1 w_:=by rw [hFv]; exact hI
 refine ⟨fun i w'=>∃ (j:Nat) (S2:ae) (kv:Value) (css:List (List Value)),i=.int .i64 (j:Int)/\j<=ks.length/\Ext w.heap.size [] S1 S2/\Rows 6 (RdF S2) css ((ks.take j).map (prF vs))/\
   Inv w [] ([B2,B4]++[.blk b5 (.cells (F kv) af),aP kv af 6 css]) S2 w',fun i _=>ks.length - (intOf i).toNat,⟨0,S1,_,[],rfl,Nat.zero_le _,Ext.refl _ _ _,Rows.nil _ _,hI⟩,?_⟩
 intro t6 _ _ t32 t31 t30 t29 t28 t27 t26 t25 t24 t23 t22 t21 _ _ _ _ _ w'
 rintro ⟨j,S2,kv,css,rfl,hj,hE2,hR,hI⟩
 have hcl:=hR.hc
 rw [List.length_map,List.length_take,Nat.min_eq_left hj] at hcl
 have hE02:=hE1.trans hE2
 refine ad hI 0 e2 aW aZ rfl ?_
 refine dL bl ?_
 refine bD ?_
 refine aN (fun hji=>?_) (fun hji=>?_)
 ·have hj':j<ks.length:=by omega
  obtain ⟨kb,ko,kc2,kcs,kE,kfz,hke,hkS,hkR⟩:=hks.at_ hj'
  have hka:ka=some ⟨kb,ko,none⟩:=by
   simp only [Value.slice.injEq] at hke
   exact hke.1
  have hix:∀ {ty:TypeId} {K:Value->World->Prop} {w':World},K (.pointer (some ⟨kb,ko+j * 6,none⟩)) w'->Run Tryz.prog (sOp (.indexAddr Ck (.const (.slice ka ks.length kc)) (.const (.int .i64 (j:Int)))) ty) w' K:=
   fun hk=>by rw [hka]; exact ay bl hj' hk
  have hkl:=hkR.length
  have hkS2:=hE02.1 _ _ hkS
  obtain ⟨qa,qn,qc,rfl⟩:=hI.rowSl (i:=3) rfl
  have hvS:=hv.mono hE02.1 fun _ _ h=>h
  have hcall:∀ S3,Sle S S3->Tri Tryz.prog qv [.agg (aL kcs (ko+j * 6) 6).toArray,.slice va vs.length vc] [] S3 (Mz (prF vs ks[j])):=fun S3 h3=>
   ih _ (List.getElem_mem hj') S3 _ _ (hkR.mono h3) (hv.mono h3 fun _ _ h=>h) (JB hpw.2 _ (List.getElem_mem hj')) (by have:=xT (List.getElem_mem hj'); omega)
  refine ⟨fun D mP iM ia iF fC kl lf iT lY ni mD kX w_=>Fx D 0 [kX=.pointer (some ⟨b5,5,none⟩),mD=.slice qa qn qc,ni=.pointer (some ⟨b2,5,none⟩),lY=.slice ka ks.length kc,iT=.int .i64 (j:Int),lf=.pointer (some ⟨kb,ko+j * 6,none⟩),kl=.agg (aL kcs (ko+j * 6) 6).toArray,fC=.slice va vs.length vc,True,True,True,mP=.pointer (some ⟨b5,5,none⟩),True]/\∃ n_:Nat,n_<=4/\D 8=decide (1<=n_)/\D 9=decide (2<=n_)/\D 10=decide (3<=n_)/\D 12=decide (4<=n_)/\(D 12=true->D 1=true)/\(rnC w [] b5 F [B2,B4] (.slice qa qn qc) css (prF vs ks[j]) S2 iF ia iM w_ n_),⟨Fx.nil _ _,⟨0,Nat.zero_le _,rfl,rfl,rfl,rfl,(aT),hI.draw⟩⟩,⟨?_,?_,?_,?_,?_,?_,?_,?_,?_,?_,?_,?_,?_,trivial⟩,?_⟩
  all_goals (intro D bw; intros; rename_i mP iM ia iF fC kl lf iT lY ni mD kX w_ hA_; have hF_:=hA_.1; obtain ⟨⟨bQ,bS,bU,bR,bY,bZ,bO,cG,cS,cT,bL,co,cO,_⟩,⟨n_,ln_,e1_,e2_,e3_,e4_,kp_,hS⟩⟩:=hA_)
  ·refine ao aW ?_
   exact ⟨hF_.set 0 rfl,⟨n_,ln_,e1_,e2_,e3_,e4_,kp_,hS⟩⟩
  ·obtain rfl:=bQ ‹_›
   have ln2_:=M4 e4_ kp_ bw
   obtain ⟨R,S3,hI⟩:=hS.low ln2_
   rw [hFv] at hI
   refine ax hI 2 aZ rfl rfl ?_
   exact ⟨hF_.set 1 rfl,⟨n_,ln_,e1_,e2_,e3_,e4_,(fun _=>rfl),hS⟩⟩
  ·refine ao aW ?_
   exact ⟨hF_.set 2 rfl,⟨n_,ln_,e1_,e2_,e3_,e4_,kp_,hS⟩⟩
  ·obtain rfl:=bU ‹_›
   obtain ⟨R,S3,_,hI⟩:=hS.inv; refine ax hI 0 aZ e2 rfl ?_
   exact ⟨hF_.set 3 rfl,⟨n_,ln_,e1_,e2_,e3_,e4_,kp_,hS⟩⟩
  ·exact ⟨hF_.set 4 rfl,⟨n_,ln_,e1_,e2_,e3_,e4_,kp_,hS⟩⟩
  ·obtain rfl:=bR ‹_›
   obtain rfl:=bY ‹_›
   refine hix ?_
   exact ⟨hF_.set 5 rfl,⟨n_,ln_,e1_,e2_,e3_,e4_,kp_,hS⟩⟩
  ·obtain rfl:=bZ ‹_›
   obtain ⟨R,S3,hE3,hI⟩:=hS.inv; refine ci aq hkl (fun j v hj=>by rw [hI.cellS (hE3.1 _ _ hkS2)]; exact aD rfl j v hj) ?_
   exact ⟨hF_.set 6 rfl,⟨n_,ln_,e1_,e2_,e3_,e4_,kp_,hS⟩⟩
  ·exact ⟨hF_.set 7 rfl,⟨n_,ln_,e1_,e2_,e3_,e4_,kp_,hS⟩⟩
  ·obtain rfl:=bO ‹_›
   obtain rfl:=cG ‹_›
   obtain rfl:n_=0:=xr e1_ bw
   refine Run.call0E og oo hS (hcall S2 hE02.1) fun v I' S3 w_=>?_
   rintro ⟨rfl,cs,rfl,hcs⟩ hE3 hI
   rw [List.append_nil] at hI
   have hS:rnC w [] b5 F [B2,B4] (.slice qa qn qc) css (prF vs ks[j]) S2 (.agg cs.toArray) ia iM w_ 1:=⟨S3,cs,rfl,hE3,hcs,hI⟩
   exact ⟨hF_.set 8 (by first|assumption|trivial),⟨1,by decide,rfl,(by first|exact e2_|rfl),(by first|exact e3_|rfl),(by first|exact e4_|rfl),kp_,hS⟩⟩
  ·have Bo:=cS ‹_›
   obtain rfl:n_=1:=fZ e1_ ‹D 8=true› e2_ bw
   obtain ⟨S3,cs,rfl,hE3,hcs,hI⟩:=hS
   refine dH hI fQ (by simpa [Value.cells] using hcs.length) (by omega) (by omega) fun b w_ hI=>?_
   obtain ⟨S4,hI,hE4,hb⟩:=Inv.pub1 hI
   have hS:rnC w [] b5 F [B2,B4] (.slice qa qn qc) css (prF vs ks[j]) S2 (.agg cs.toArray) (.slice (some ⟨b,0,none⟩) 1 1) iM w_ 2:=⟨S4,hE3.trans hE4,RdSl.single hb hcs.length (hcs.mono hE4.1),hI⟩
   exact ⟨hF_.set 9 (by first|assumption|trivial),⟨2,by decide,(by first|exact e1_|rfl),rfl,(by first|exact e3_|rfl),(by first|exact e4_|rfl),kp_,hS⟩⟩
  ·obtain rfl:=bS ‹_›
   have GP:=cT ‹_›
   obtain rfl:n_=2:=fZ e2_ ‹D 9=true› e3_ bw
   obtain ⟨S3,hE3,hrd,hI⟩:=hS
   refine dI (css:=css) hI 3 fQ (by omega) rfl hrd (fun _ _=>RdF.length) (fun _ _=>RdF.one) (by simp; omega) (by omega) fun v w_ css2 hR2 hI=>?_
   obtain ⟨c0,hc0⟩:∃ c0,css2=[c0]:=List.length_eq_one_iff.1 hR2.hc
   subst hc0
   have hc0:RdF S3 c0 (prF vs ks[j]):=hR2.hR 0 (by simp) (by simp)
   have hS:rnC w [] b5 F [B2,B4] (.slice qa qn qc) css (prF vs ks[j]) S2 iF ia v w_ 3:=⟨S3,c0,hE3,hc0,hI⟩
   exact ⟨hF_.set 10 (by first|assumption|trivial),⟨3,by decide,(by first|exact e1_|rfl),(by first|exact e2_|rfl),rfl,(by first|exact e4_|rfl),kp_,hS⟩⟩
  ·refine ao aW ?_
   exact ⟨hF_.set 11 rfl,⟨n_,ln_,e1_,e2_,e3_,e4_,kp_,hS⟩⟩
  ·obtain rfl:=co ‹_›
   have xG:=bL ‹_›
   obtain rfl:n_=3:=fZ e3_ ‹D 10=true› e4_ bw
   obtain ⟨S3,cs,hE3,hcs,hI⟩:=hS
   obtain ⟨hv1,hv2⟩:=hI.rowOne (i:=3) rfl
   rw [hFv] at hI
   refine dB hI 2 (b:=b5) (o:=5) (n:=1) (by rw [hv1]; rfl) (by rw [aZ]; rfl) rfl (by simp) (by rw [hv1]; simpa using hv2) fun w_ hI=>?_
   have hS:rnC w [] b5 F [B2,B4] (.slice qa qn qc) css (prF vs ks[j]) S2 iF ia iM w_ 4:=⟨S3,iM,cs,hE3,hcs,by rw [hFv]; rw [hv1] at hI; exact hI⟩
   exact ⟨hF_.set 12 trivial,⟨4,by decide,(by first|exact e1_|rfl),(by first|exact e2_|rfl),(by first|exact e3_|rfl),rfl,(fun _=>‹D 1=true›),hS⟩⟩
  obtain rfl:n_=4:=lU ln_ e4_ ‹D 12=true›
  clear e1_ e2_ e3_ e4_
  obtain ⟨S3,kv',cs,hE3,hcs,hI⟩:=hS
  refine bm (by omega) ?_
  refine ⟨⟨j+1,S3,kv',_,rfl,hj',hE2.trans hE3,?_,hI⟩,by simp only [intOf,Int.toNat_natCast]; omega⟩
  rw [List.take_succ_eq_append_getElem hj',List.map_append]
  exact (hR.monoR fun _ _ h=>h.mono hE3.1).snoc hcs hcs.length
 ·have:j=ks.length:=by omega
  subst this
  rw [List.take_length] at hR
  obtain ⟨S3,hE3,hrw,hI⟩:=Inv.lendExt (A:=[B2,B4,.blk b5 (.cells (F kv) af)]) hI
  rw [hFv] at hI
  have hfin:RdF S3 [a1,a2,a3,a4,.int .i64 c,kv] (prF vs (.mk g c ks)):=by
   rw [prF,DV]
   refine RdF.iff.2 ?_
   have htr:=hrt.mono (hE2.trans hE3).1
   obtain ⟨tkv,hte,_⟩:=RdT.iff.1 htr
   simp only [List.cons.injEq,and_true] at hte
   obtain ⟨rfl,rfl,rfl,rfl⟩:=hte
   exact ⟨_,_,rfl,htr,hci,RowRd.rows (hR.monoR fun _ _ h=>h.mono hE3.1) hrw⟩
  refine ag hI 2 aq rfl rfl ?_
  refine aj (cs:=#[a1,a2,a3,a4,.int .i64 c,kv]) hI 1 e4 aq rfl rfl (by simpa using hfin.one) fun w' hI=>?_
  refine aS hI 1 aq rfl rfl ?_
  exact ⟨_,[],S3,rfl,hI.nil,hE02.trans hE3,rfl,_,rfl,hfin⟩
end
end
end Go.Proofs.YtbocelianhcfmaaGreatDoor
