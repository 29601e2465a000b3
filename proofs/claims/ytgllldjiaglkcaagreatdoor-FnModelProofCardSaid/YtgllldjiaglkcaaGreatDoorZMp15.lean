/- impl.mapVars with a function that only reads: the result is published. -/
import Derived.Test.YtgllldjiaglkcaaGreatDoorZMp14
import Derived.Test.YtgllldjiaglkcaaGreatDoorZMp5
import Derived.Test.YtgllldjiaglkcaaGreatDoorZMp13
import Derived.Test.YtgllldjiaglkcaaGreatDoorZMp11
import Derived.Test.YtgllldjiaglkcaaGreatDoorZMp2
namespace Go.Proofs.YtgllldjiaglkcaaGreatDoor
section
open Go Go.RowKit
mutual
def Bk (φ:Int->T):T->T
 | .mk k n s ks=>if k=1 then φ n else .mk k n s (vR φ ks)
def vR (φ:Int->T):List T->List T
 | []=>[]
 | t::ts=>Bk φ t::vR φ ts
end
theorem pJ (φ:Int->T):∀ ts:List T,vR φ ts=ts.map (Bk φ)
 | []=>rfl
 | t::ts=>by rw [vR,pJ φ ts]; rfl
theorem Rd (φ:Int->T) (ks:List T) (j:Nat) (h:j<ks.length):vR φ (ks.take (j+1))=vR φ (ks.take j)++[Bk φ ks[j]]:=by
 rw [pJ,pJ,fl h,Ue]; rfl
def Fun (f:FuncId) (cap:List Value) (S:ae) (φ:Int->T):Prop:=∀ S',Sle S S'->∀ n:Int,0<=n->n<=25->∃ cs,RdT S' cs (φ n)/\Pure Tryz.prog f (.int .i64 n::cap) S' (.agg cs.toArray)
theorem Fun.mono {f:FuncId} {cap:List Value} {S S':ae} {φ:Int->T} (h:Fun f cap S φ) (hs:Sle S S'):Fun f cap S' φ:=fun S2 h2=>h S2 (hs.trans h2)
abbrev abq (t:T):Value->List Item->ae->Prop:=fun v I' S'=>I'=[]/\∃ cs,v=.agg cs.toArray/\RdT S' cs t
section
attribute [local irreducible] Run CondV az aO
theorem xo {f:FuncId} {fn:Func} (cap:List Value) (φ:Int->T) (hf:Tryz.prog.funcs[f]?=some fn) (hn:(fn.name == "runtime.NumGoroutine" || fn.body.isNone)=false) :
  ∀ (t:T) (S:ae) (cs:List Value),RdT S cs t->okV t->wT t<=1048576->Fun f cap S φ->Tri Tryz.prog uy [.agg cs.toArray,fv f cap] [] S (abq (Bk φ t)):=by
 refine T.ind fun k n s ks ih S cs h hv hw hφ=>?_
 intro w hI
 obtain ⟨kv,rfl,h1,h2,hs,hks⟩:=RdT.iff.1 h
 simp only [T.name,T.kids,T.kind,T.n] at h1 h2 hs hks ⊢
 simp only [wT] at hw
 rw [okV] at hv
 have hvk:=hv.2
 refine l0.2 ?_
 dsimp only[l0,aY]
 refine bq hI fun b2 w' hI=>?_
 refine aT hI aZ fun b4 w' hI=>?_
 refine af hI 0 rfl aR aG rfl ?_
 refine bl ?_
 rw [Bk]
 refine aL (fun hk1=>?_) (fun hk1=>?_)
 ·rw [ai hk1]
  obtain ⟨hn0,hn25⟩:=hv.1 hk1
  refine af hI 0 rfl bf aG rfl ?_
  obtain ⟨ds,hds,hp⟩:=hφ S (Sle.refl S) n hn0 hn25
  refine Run.callVPure hf hn hI hp fun w' hI=>?_
  refine aC hI 1 rfl ad (by simpa using hds.length) rfl (by simpa using hds.one) fun w' hI=>?_
  refine bJ hI 1 ad rfl (by simpa using hds.length) ?_
  exact ⟨_,_,_,rfl,hI.pick [false,false],Ext.refl _ _ _,rfl,ds,rfl,hds⟩
 rw [ah hk1]
 refine af hI 0 rfl ao aj rfl ?_
 refine du hI 0 rfl ao aj rfl rfl rfl fun w' hI=>?_
 refine aF hks ag ?_
 have hI:Inv w [] [.blk b4 (.cells #[.int .i64 0,.int .i64 0,.string ⟨#[]⟩,.slice none 0 0] ab),.blk b2 (.cells #[.int .i64 k,.int .i64 n,.string s,.slice none 0 0] ab)] S w':=hI.perm (List.Perm.swap _ _ _)
 have hI:=hI.rowNil ab 4
 refine ⟨fun i w'=>∃ (j:Nat) (kvc:Value) (css:List (List Value)) (S1:ae),j<=ks.length/\i=.int .i64 j/\Ext w.heap.size [] S S1/\Rows 4 (RdT S1) css (vR φ (ks.take j))/\
   Inv w [] [.blk b4 (.cells #[.int .i64 0,.int .i64 0,.string ⟨#[]⟩,.slice none 0 0] ab),.blk b2 (.cells #[.int .i64 k,.int .i64 n,.string s,kvc] ab),aJ kvc ab 4 css] S1 w',
  fun i _=>ks.length - (intOf i).toNat,⟨0,_,[],S,be _,rfl,Ext.refl _ _ _,Rows.nil _ _,hI⟩,?_⟩
 intro t20 _ _ _ _ _ _ _ _ _ _ _ _ _ w'
 rintro ⟨j,kvc,css,S1,hj,rfl,hE,hg,hI⟩
 refine bH ?_
 refine aL (fun hji=>?_) (fun hji=>?_)
 ·have hj':j<ks.length:=by omega
  have hjl:(ks.take j).length=j:=by simp; omega
  have hcl:=hg.hc
  rw [pJ,kR] at hcl
  have hm:=bz hj'
  have hwm:=js hm
  refine cL hI (hks.monoT hE.1) ag ad hj' (fun _ _=>RdT.length) fun cs0 hcs0=>?_
  refine aT hI aZ fun b7 w' hI=>?_
  have hI:=hI.perm (M:=.blk b7 _::[.blk b4 (.cells #[.int .i64 0,.int .i64 0,.string ⟨#[]⟩,.slice none 0 0] ab),.blk b2 (.cells #[.int .i64 k,.int .i64 n,.string s,kvc] ab),aJ kvc ab 4 css]) (cu (l₁:=[_]))
  refine aC hI 0 rfl ad (by simpa using hcs0.length) rfl (by simpa using hcs0.one) fun w' hI=>?_
  refine ⟨fun D zY lj su jO uk mM gk lK w_=>Fx D 0 [lK=.pointer (some ⟨b2,3,none⟩),gk=kvc,mM=.agg cs0.toArray,uk=fv f cap,True,True,True,zY=.pointer (some ⟨b2,3,none⟩),True]/\∃ SN cs7 b8,Ext w.heap.size [] S1 SN/\(D 4=true->jO=.agg cs7.toArray/\RdT SN cs7 (Bk φ ks[j]))/\(D 5=true->su=.slice (some ⟨b8,0,none⟩) 1 1)/\(D 5=true->D 4=true)/\(D 6=true->D 5=true)/\(D 8=true->D 6=true)/\(D 8=true->D 1=true)/\Inv w [] (bi (.blk b7 (.cells cs0.toArray ab)) (.blk b4 (.cells #[.int .i64 0,.int .i64 0,.string ⟨#[]⟩,.slice none 0 0] ab)) (.blk b2 (.cells #[.int .i64 k,.int .i64 n,.string s,kvc] ab)) (.blk b2 (.cells #[.int .i64 k,.int .i64 n,.string s,lj] ab)) (aJ kvc ab 4 css) (aJ lj ab 4 (css++[cs7])) [] [] (.blk b8 (.cells cs7.toArray ab)) false (D 5) (D 6) (D 8)) SN w_,⟨Fx.nil _ _,⟨S1,[],0,Ext.refl _ _ _,aQ,aQ,aQ,aQ,aQ,aQ,by simpa [bi] using hI.draw⟩⟩,⟨?_,?_,?_,?_,?_,?_,?_,?_,?_,trivial⟩,?_⟩
  all_goals (intro D bF; intros; rename_i zY lj su jO uk mM gk lK w_ hA_; have hF_:=hA_.1; obtain ⟨⟨cj,ci,bR,ce,bP,bY,bZ,cH,c5,_⟩,⟨SN,cs7,b8,hN,e7,e8,k8,k9,k11,k1,hI⟩⟩:=hA_)
  ·refine au ao ?_
   exact ⟨hF_.set 0 rfl,⟨SN,cs7,b8,hN,e7,e8,k8,k9,k11,k1,hI⟩⟩
  ·obtain rfl:=cj ‹_›
   have f11:D 8=false:=bB.2 fun h=>by rw [k1 h] at bF; cases bF
   refine aN (b:=b2) hI 2 (c:=(#[.int .i64 k,.int .i64 n,.string s,kvc])) aj (by rw [f11]; rfl) rfl ?_
   have k1:=fun (_:aD D 1 8=true)=>(rfl:aD D 1 1=true)
   exact ⟨hF_.set 1 rfl,⟨SN,cs7,b8,hN,e7,e8,k8,k9,k11,k1,hI⟩⟩
  ·refine av hI 0 ad rfl (by simpa using hcs0.length) ?_
   exact ⟨hF_.set 2 rfl,⟨SN,cs7,b8,hN,e7,e8,k8,k9,k11,k1,hI⟩⟩
  ·exact ⟨hF_.set 3 rfl,⟨SN,cs7,b8,hN,e7,e8,k8,k9,k11,k1,hI⟩⟩
  ·obtain rfl:=bR ‹_›
   obtain rfl:=ce ‹_›
   have f8:D 5=false:=bB.2 fun h=>by rw [k8 h] at bF; cases bF
   have f9:D 6=false:=bB.2 fun h=>by rw [k9 h] at f8; cases f8
   have f11:D 8=false:=bB.2 fun h=>by rw [k11 h] at f9; cases f9
   rw [f8,f9,f11] at hI
   refine Run.callE (I:=[]) im ie (by simpa using hI) (ih _ (bz hj') SN cs0 (hcs0.mono hN.1) (me hvk _ (bz hj')) (by omega) ((hφ.mono hE.1).mono hN.1)) fun v' I' SN w_=>?_
   rintro ⟨rfl,cs7,rfl,hT⟩ hE2 hI
   have hN:=hN.trans hE2
   have e7:aD D 4 4=true->Value.agg cs7.toArray=Value.agg cs7.toArray/\RdT SN cs7 (Bk φ ks[j]):=fun _=>⟨rfl,hT⟩
   have k8:=fun (_:aD D 4 5=true)=>(rfl:aD D 4 4=true)
   have hI:Inv w [] (bi (.blk b7 (.cells cs0.toArray ab)) (.blk b4 (.cells #[.int .i64 0,.int .i64 0,.string ⟨#[]⟩,.slice none 0 0] ab)) (.blk b2 (.cells #[.int .i64 k,.int .i64 n,.string s,kvc] ab)) (.blk b2 (.cells #[.int .i64 k,.int .i64 n,.string s,lj] ab)) (aJ kvc ab 4 css) (aJ lj ab 4 (css++[cs7])) [] [] (.blk b8 (.cells cs7.toArray ab)) false (D 5) (D 6) (D 8)) SN w_:=by
    rw [f8,f9,f11]
    simpa [bi] using hI
   exact ⟨hF_.set 4 (by first|assumption|trivial),⟨SN,cs7,b8,hN,e7,e8,k8,k9,k11,k1,hI⟩⟩
  ·have QG:=bP ‹_›
   have f9:D 6=false:=bB.2 fun h=>by rw [k9 h] at bF; cases bF
   have f11:D 8=false:=bB.2 fun h=>by rw [k11 h] at f9; cases f9
   obtain ⟨q7,hT⟩:=e7 ‹D 4=true›
   subst q7
   rw [bF,f9,f11] at hI
   refine er hI bo (by simp [Value.cells,hT.length]) (by omega) (by omega) fun b8 w_ hI=>?_
   have e7:aD D 5 4=true->Value.agg cs7.toArray=Value.agg cs7.toArray/\RdT SN cs7 (Bk φ ks[j]):=fun _=>⟨rfl,hT⟩
   have e8:=fun (_:aD D 5 5=true)=>(rfl:Value.slice (some ⟨b8,0,none⟩) 1 1=_)
   have k8:=fun (_:aD D 5 5=true)=>‹D 4=true›
   have k9:=fun (_:aD D 5 6=true)=>(rfl:aD D 5 5=true)
   have hI:Inv w [] (bi (.blk b7 (.cells cs0.toArray ab)) (.blk b4 (.cells #[.int .i64 0,.int .i64 0,.string ⟨#[]⟩,.slice none 0 0] ab)) (.blk b2 (.cells #[.int .i64 k,.int .i64 n,.string s,kvc] ab)) (.blk b2 (.cells #[.int .i64 k,.int .i64 n,.string s,lj] ab)) (aJ kvc ab 4 css) (aJ lj ab 4 (css++[cs7])) [] [] (.blk b8 (.cells cs7.toArray ab)) false true (D 6) (D 8)) SN w_:=by
    rw [f9,f11]
    simpa [bi,Value.cells] using hI
   exact ⟨hF_.set 5 (by first|assumption|trivial),⟨SN,cs7,b8,hN,e7,e8,k8,k9,k11,k1,hI⟩⟩
  ·obtain rfl:=ci ‹_›
   have Ro:=bY ‹_›
   have f11:D 8=false:=bB.2 fun h=>by rw [k11 h] at bF; cases bF
   have q8:=e8 ‹D 5=true›
   subst q8
   obtain ⟨_,hT⟩:=e7 ‹D 4=true›
   rw [‹D 5=true›,bF,f11] at hI
   have hblk:((bi (.blk b7 (.cells cs0.toArray ab)) (.blk b4 (.cells #[.int .i64 0,.int .i64 0,.string ⟨#[]⟩,.slice none 0 0] ab)) (.blk b2 (.cells #[.int .i64 k,.int .i64 n,.string s,gk] ab)) (.blk b2 (.cells #[.int .i64 k,.int .i64 n,.string s,lj] ab)) (aJ gk ab 4 css) (aJ lj ab 4 (css++[cs7])) [] [] (.blk b8 (.cells cs7.toArray ab)) false true false false))[4]?=some (.blk b8 (.cells cs7.toArray ab)):=rfl
   refine dZ hI 3 cs7 bo (by omega) rfl (by rw [hT.length]) (m:=1) (o:=0) ?_ hT.one (by omega) (by omega) fun v' w_ hI=>?_
   ·intro i u hi
    rw [hI.cellL hblk,cq]
    simpa using hi
   rw [eF] at hI
   have k9:=fun (_:aD D 6 6=true)=>‹D 5=true›
   have k11:=fun (_:aD D 6 8=true)=>(rfl:aD D 6 6=true)
   have hI:Inv w [] (bi (.blk b7 (.cells cs0.toArray ab)) (.blk b4 (.cells #[.int .i64 0,.int .i64 0,.string ⟨#[]⟩,.slice none 0 0] ab)) (.blk b2 (.cells #[.int .i64 k,.int .i64 n,.string s,gk] ab)) (.blk b2 (.cells #[.int .i64 k,.int .i64 n,.string s,v'] ab)) (aJ gk ab 4 css) (aJ v' ab 4 (css++[cs7])) [] [] (.blk b8 (.cells cs7.toArray ab)) false (D 5) true (D 8)) SN w_:=by
    rw [‹D 5=true›,f11]
    exact hI
   exact ⟨hF_.set 6 (by first|assumption|trivial),⟨SN,cs7,b8,hN,e7,e8,k8,k9,k11,k1,hI⟩⟩
  ·refine au ao ?_
   exact ⟨hF_.set 7 rfl,⟨SN,cs7,b8,hN,e7,e8,k8,k9,k11,k1,hI⟩⟩
  ·obtain rfl:=cH ‹_›
   have NF:=bZ ‹_›
   rw [‹D 5=true›,‹D 6=true›,bF] at hI
   obtain ⟨va,vn,vc,hv9⟩:=Inv.rowSlice hI 3 rfl
   refine cW hI 2 (n:=1) (by rw [hv9]; rfl) (by decide +kernel) rfl (by simp) (by rw [hv9]; simp [Value.cells,Value.oneCell']) fun w_ hI=>?_
   have hcl9:Value.cells lj=#[lj]:=by rw [hv9]; rfl
   rw [hcl9] at hI
   have k1:=fun (_:aD D 8 8=true)=>‹D 1=true›
   have k11:=fun (_:aD D 8 8=true)=>‹D 6=true›
   have hI:Inv w [] (bi (.blk b7 (.cells cs0.toArray ab)) (.blk b4 (.cells #[.int .i64 0,.int .i64 0,.string ⟨#[]⟩,.slice none 0 0] ab)) (.blk b2 (.cells #[.int .i64 k,.int .i64 n,.string s,kvc] ab)) (.blk b2 (.cells #[.int .i64 k,.int .i64 n,.string s,lj] ab)) (aJ kvc ab 4 css) (aJ lj ab 4 (css++[cs7])) [] [] (.blk b8 (.cells cs7.toArray ab)) false (D 5) (D 6) true) SN w_:=by
    rw [‹D 5=true›,‹D 6=true›]
    exact hI
   exact ⟨hF_.set 8 trivial,⟨SN,cs7,b8,hN,e7,e8,k8,k9,k11,k1,hI⟩⟩
  obtain ⟨rfl,rfl,rfl,rfl,QG,Ro,NF,rfl,_,_⟩:=hF_.all
  have Zx:D 4=true:=by assumption
  have YN:D 5=true:=by assumption
  have PC:D 6=true:=by assumption
  have MV:D 8=true:=by assumption
  clear hF_ cj ci bR ce bP bY bZ cH c5
  obtain ⟨_,hT⟩:=e7 Zx
  rw [YN,PC,MV] at hI
  refine bp (by omega) ?_
  refine ⟨⟨j+1,lj,css++[cs7],SN,hj',rfl,hE.trans hN,?_,?_⟩,by simp [intOf]; omega⟩
  ·rw [Rd φ ks j hj']
   exact (Rows.monoR hg fun _ _ h=>h.mono hN.1).snoc hT hT.length
  ·refine hI.sub ?_
   simp only [bi]
   exact ((((MI _).cons_cons _).cons_cons _).cons_cons _).cons _
 ·have:j=ks.length:=by omega
  subst this
  rw [fJ] at hg
  obtain ⟨va,vn,vc,hvk'⟩:=hI.rowSlice 2 rfl
  have hv1:kvc.oneCell'=true:=by rw [hvk']; rfl
  refine av hI 1 ad rfl rfl ?_
  refine aC hI 0 rfl ad rfl rfl ?_ fun w' hI=>?_
  ·intro u hu
   have hu':u∈([.int .i64 k,.int .i64 n,.string s,kvc]:List Value):=hu
   simp at hu'
   rcases hu' with rfl|rfl|rfl|rfl <;> first|rfl|exact hv1
  refine bJ hI 0 ad rfl rfl ?_
  have hI:Inv w [] ([]++[aJ kvc ab 4 css]) S1 w':=hI.sub (ei [_,_] _)
  obtain ⟨S2,hE2,hrd,hI⟩:=hI.lendExt
  exact ⟨_,_,_,rfl,hI,hE.trans hE2,rfl,_,rfl,RdT.iff.2 ⟨kvc,rfl,h1,h2,hs,(RowRd.rows hg hrd).mono (Sle.refl _) fun _ _ h=>h.mono hE2.1⟩⟩
end
end
section
open Go Go.RowKit
mutual
theorem Na:∀ t:T,okU 26 t->okV t
 | .mk k n s ks,h=>by
  rw [okU] at h
  rw [okV]
  exact ⟨fun hk=>by have:=h.2.1 hk; omega,Qb ks h.2.2.1⟩
theorem Qb:∀ ts:List T,dw 26 ts->s8 ts
 | [],_=>by rw [s8]; trivial
 | t::ts,h=>by
  rw [dw] at h
  rw [s8]
  exact ⟨Na t h.1,Qb ts h.2⟩
end
section
attribute [local irreducible] Run CondV az aO
theorem M2 {K:Value->World->Prop} {w:World} {mb:Nat} (hk:K (.agg #[.map (some mb),.slice none 0 0]) w):Run Tryz.prog (cB cQ [(0,.map (some mb))]) w K:=by
 refine Run.of (v:=.agg #[.map (some mb),.slice none 0 0]) (w':=w) ?_ hk
 unfold cB
 rw [Sem.run_bind,run_build w cQ _ #[.map (some mb),.slice none 0 0] (by kernel_rfl),Result.andThen_ok]
 rfl
theorem uz (S:ae):Tri Tryz.prog Lv [] [] S fun r I' S'=>S'=S/\∃ sb mb,r=.pointer (some ⟨sb,0,none⟩)/\I'=aA sb mb #[] 0 (.slice none 0 0) []:=by
 intro w hI
 have hI:Inv w [] [] S w:=hI
 refine v9.2 ?_
 dsimp only[v9,rv]
 refine u4 hI fun mb w' hI=>?_
 refine M2 ?_
 refine bq hI fun sb w' hI=>?_
 have hI:=hI.rowNil bV 1
 have hI:Inv w [] (aA sb mb #[] 0 (.slice none 0 0) []) S w':=hI.perm (List.Perm.swap ..)
 exact ⟨_,_,_,rfl,hI,Ext.refl _ _ _,rfl,sb,mb,rfl,rfl⟩
theorem KnownM.none (S:ae) (N:Nat):KnownM S #[] (List.replicate N Option.none):=by
 refine ⟨fun e he=>by simp at he,fun n t h=>?_,by simp⟩
 have:=cz h
 simp at this
end
end
section
open Go Go.RowKit
def abK:al:=List.replicate 26 none
theorem uM:∀ n:Nat,unb (List.replicate n none)=n
 | 0=>rfl
 | n+1=>by rw [List.replicate_succ,unb,uM n]
theorem u3 (N:Nat):Good N (List.replicate N none):=⟨by simp,fun t ht=>by simp at ht,fun t ht=>by simp at ht,fun n=>n,fun n u hu=>by
 have:=cz hu
 simp at this⟩
theorem KnU.zero (z:Array Value) (hz:z=#[.int .i64 0,.int .i64 0,.string ⟨#[]⟩,.slice none 0 0]) (S:ae) (N:Nat):KnU S ((Array.range (N * 4)).map (z[· % z.size]!)) (List.replicate N none):=by
 subst hz
 refine ⟨by simp,fun i hi=>⟨fun _=>?_,fun t ht=>?_⟩⟩
 ·simp only [List.length_replicate] at hi
  apply wD
  intro j
  rw [aX,r4]
  match j with
  | 0|1|2|3=>
   rw [ai (by omega),AD,ZU,Array.getElem?_map,Array.getElem?_range,ai (by omega)]
   simp only [sw,Tj,bw,bU]
   first
    | rw [show (i * 4+0) % 4=0 by omega]; rfl
    | rw [show (i * 4+1) % 4=1 by omega]; rfl
    | rw [show (i * 4+2) % 4=2 by omega]; rfl
    | rw [show (i * 4+3) % 4=3 by omega]; rfl
  | j+4=>
   rw [ah (by omega)]
   rfl
 ·have e:(List.replicate N (none:Option T))[i]=none:=by simp
  rw [e] at ht
  cases ht
def Pq (code:Int) (st:al):Bool:=decide (code=0) && st.all Option.isNone
def YF (f:Bool):Value->List Item->ae->Prop:=fun q _ _=>∃ a n cap c,q=.tuple #[.slice a n cap,.int .i64 c]/\(decide (c=0) && decide (n=0))=f
theorem XJ {st:al} {j:Nat} (h:j<st.length):(st.take (j+1)).all Option.isNone=((st.take j).all Option.isNone && st[j].isNone):=by
 rw [fl h,List.all_append]
 simp
theorem Xu {st:al} {j:Nat} (h:j<st.length) {t:T} (hs:st[j]=some t):st.all Option.isNone=false:=by
 rw [W6]
 exact ⟨st[j],bz h,by rw [hs]; simp⟩
section
variable {w:World} {K:Value->World->Prop}
attribute [local irreducible] Run CondV az aO
theorem P0 {n:Int} {cs:List Value} (h4:cs.length=4) (hk:K (.agg (([Value.int .i64 n]:List Value)++cs).toArray) w):Run Tryz.prog (cB nC [(0,.int .i64 n),(1,.agg cs.toArray)]) w K:=by
 match cs,h4 with
 | [a,b,c,d],_=>
  refine Run.of (v:=.agg #[.int .i64 n,a,b,c,d]) (w':=w) ?_ hk
  unfold cB
  rw [Sem.run_bind,run_build w nC _ #[.int .i64 n,a,b,c,d] (by kernel_rfl),Result.andThen_ok]
  rfl
set_option maxHeartbeats 1000000 in
theorem zu {st:al} (hg:Good 26 st) {S:ae} {sb:Nat} (hst:StS S S sb st):Tri Tryz.prog IW [.pointer (some ⟨sb,0,none⟩)] [] S
  fun q _ _=>∃ a n cap b,q=.tuple #[.slice a n cap,.bool b]/\(b && decide (n=0))=st.all Option.isNone:=by
 intro w hI
 have hI:Inv w [] [] S w:=hI
 have hl26:=hg.len
 refine uo.2 ?_
 dsimp only[uo,aM]
 have hI:=hI.rowNil nC 5
 refine ⟨fun t9 t4 w'=>∃ (j:Nat) (css:List (List Value)) (S2:ae),j<=26/\t9=.int .i64 j/\css.length<=j/\decide (css.length=0)=(st.take j).all Option.isNone/\Ext w.heap.size [] S S2/\Inv w [] [aJ t4 nC 5 css] S2 w',
  fun t9 _ _=>26 - (intOf t9).toNat,⟨0,[],S,be _,rfl,aW _,by simp,Ext.refl _ _ _,hI⟩,?_⟩
 intro t9 _ t4 _ _ _ _ _ _ _ _ _ _ _ _ _ _ _ _ _ _ _ _ _ _ _ _ _ _ _ _ _ _ _ _ _ w'
 rintro ⟨j,css,S2,hj,rfl,hcl,hcs,hE2,hI⟩
 have hstj:=hst.up hE2.1
 obtain ⟨mb,tv,es,ck,E,hsb,hmb,hkm⟩:=id hstj
 refine bH ?_
 refine aL (fun hji=>?_) (fun hji=>?_)
 ·have hj':j<26:=by omega
  have hjl:j<st.length:=by omega
  have hnext:=XJ (st:=st) hjl
  refine ⟨fun t4 w'=>∃ (css:List (List Value)) (S2:ae),css.length<=j+1/\decide (css.length=0)=(st.take (j+1)).all Option.isNone/\Ext w.heap.size [] S S2/\Inv w [] [aJ t4 nC 5 css] S2 w',?_,?_⟩
  ·refine aB ?_
   refine au oH ?_
   refine ct (v:=.map (some mb)) wh (by rw [hI.cellS hsb]; rfl) ?_
   cases hs:st[j] with
   | none=>
    rw [hs] at hnext
    have hf:Instr.findNow (.int .i64) (.int .i64 j) es.toList 0=some none:=by
     rcases hkm.find j with ⟨_,_,u,_,_,_,_,hu⟩|⟨_,hf⟩
     ·rw [gL hjl,hs] at hu; cases hu
     ·exact hf
    refine mn (c:=true) (v:=.agg #[.int .i64 0,.int .i64 0,.string ⟨#[]⟩,.slice none 0 0]) (ok:=false) ((hI.pub _ _ hmb).1) eA fK aZ (.inr ⟨hf,rfl,rfl⟩) ?_
    refine ar (v:=.agg #[.int .i64 0,.int .i64 0,.string ⟨#[]⟩,.slice none 0 0]) rfl ?_
    refine ar (v:=.bool false) rfl ?_
    refine aT hI aZ fun b6 w' hI=>?_
    refine aC hI 1 rfl ad rfl rfl (by simp [Value.oneCell']) fun w' hI=>?_
    refine bQ ?_
    refine aw (fun _=>?_) (fun hb=>by cases hb)
    exact ⟨css,S2,by omega,by rw [hcs,hnext]; simp,hE2,hI.pick [true]⟩
   | some t=>
    rw [hs] at hnext
    have hall:=Xu hjl hs
    have hmem:some t∈st:=by rw [<- hs]; exact bz hjl
    have hto:=hg.ok t hmem
    have htw:=hg.w t hmem
    obtain ⟨cs,hf,hR⟩:∃ cs,(∃ i,Instr.findNow (.int .i64) (.int .i64 j) es.toList 0=some (some (i,.agg (List.toArray cs))))/\RdT S2 cs t:=by
     rcases hkm.find j with ⟨i,v,u,cs,hf,rfl,hR,hu⟩|⟨hno,_⟩
     ·rw [gL hjl,hs] at hu
      cases hu
      exact ⟨cs,⟨i,hf⟩,hR⟩
     ·exact absurd (by rw [gL hjl,hs]) (hno t)
    obtain ⟨i,hf⟩:=hf
    refine mn (c:=true) (v:=.agg cs.toArray) (ok:=true) ((hI.pub _ _ hmb).1) eA fK aZ (.inl ⟨i,hf,rfl⟩) ?_
    refine ar (v:=.agg cs.toArray) rfl ?_
    refine ar (v:=.bool true) rfl ?_
    refine aT hI aZ fun b6 w' hI=>?_
    refine aC hI 1 rfl ad (by simpa using hR.length) rfl (by simpa using hR.one) fun w' hI=>?_
    refine bQ ?_
    refine aw (fun hb=>by cases hb) (fun _=>?_)
    refine av hI 1 ad rfl (by simpa using hR.length) ?_
    obtain ⟨u,hu⟩:=Sf hg t hto
    refine Run.call0E gi gt hI (wd hg hu ⟨hto,htw⟩ hR hstj) fun v' I' S3 w'=>?_
    rintro ⟨rfl,ds,hdl,hd1,rfl,hdr⟩ hE3 hI
    refine ar (v:=.agg ds.toArray) rfl ?_
    refine ar (v:=.bool (bI u)) rfl ?_
    refine aT hI aZ fun b8 w' hI=>?_
    refine aC hI 2 rfl ad (by simpa using hdl) rfl (by simpa using hd1) fun w' hI=>?_
    have hI:Inv w [] [aJ t4 nC 5 css,.blk b6 (.cells cs.toArray ab),.blk b8 (.cells ds.toArray ab)] S3 w':=hI
    refine bQ ?_
    refine aw (fun hb=>?_) (fun hb=>?_)
    ·refine ⟨_,_,_,rfl,hI.nil,hE2.trans hE3,none,0,0,false,rfl,?_⟩
     rw [hall]; rfl
    ·refine av hI 2 ad rfl (by simpa using hdl) ?_
     refine P0 hdl ?_
     obtain ⟨xs,hxs⟩:∃ xs:List Value,xs=[Value.int .i64 (j:Int)]++ds:=⟨_,rfl⟩
     have hxl:xs.length=5:=by rw [hxs]; simp [hdl]
     have hx1:∀ u∈xs,u.oneCell'=true:=by
      intro u hu
      rw [hxs] at hu
      rcases bO.1 hu with hu|hu
      ·simp at hu; subst hu; rfl
      ·exact hd1 u hu
     rw [<- hxs]
     refine d6 (css:=css) hI 0 xs Vv (by omega) (by omega) rfl hxl hx1 (by omega) (by omega) fun v' w' hI=>?_
     refine ⟨css++[xs],S3,by simp; omega,?_,hE2.trans hE3,hI.pick [true]⟩
     rw [hnext]; simp
  intro t4 _ _ _ _ _ _ _ _ _ _ _ _ _ _ _ _ _ _ _ _ _ _ _ _ _ _ _ _ _ _ _ _ w'
  rintro ⟨css,S2,h1,h2,h3,hI⟩
  refine bp (by omega) ?_
  exact ⟨⟨j+1,css,S2,by omega,rfl,h1,h2,h3,hI⟩,by simp [intOf]; omega⟩
 ·have:j=26:=by omega
  subst this
  obtain ⟨a7,n7,c7,hv7⟩:=hI.rowSlice 0 rfl
  have hn7:n7=css.length:=by
   have hm:w'.ownsRow 0 nC 5 t4 css.length css.flatten:=hI.its (aJ t4 nC 5 css) (by simp)
   rcases hm.2 with ⟨e1,e2⟩|⟨g1,c1,u1,e1,_⟩
   ·rw [hv7] at e1; simp only [Value.slice.injEq] at e1; omega
   ·rw [hv7] at e1; simp only [Value.slice.injEq] at e1; omega
  refine ⟨_,_,_,rfl,hI.nil,hE2,a7,n7,c7,true,by rw [hv7],?_⟩
  rw [hn7,hcs,<- hl26,fJ,dg]
set_option maxHeartbeats 1000000 in
theorem vt {g:T} {f:Bool} (hv:dt g=true) (ho:okU 26 g/\wT g<=1048576) (hn:okN g) (hf:(cI g=false/\f=false) ∨ (cI g=true/\∃ code st',Blt abK g code st'/\f=Pq code st')) {S:ae} {cs:List Value} (h:RdT S cs g) :
  Tri Tryz.prog EJ [.agg cs.toArray] [] S (YF f):=by
 intro w hI
 have hI:Inv w [] [] S w:=hI
 have hl4:=h.length
 refine pt.2 ?_
 dsimp only[pt,aM]
 refine bq hI fun b1 w' hI=>?_
 have hI:Inv w [] [.blk b1 (.cells cs.toArray ab)] S w':=hI
 refine ⟨fun q w'=>q=.bool (!cI g)/\Inv w [] [.blk b1 (.cells cs.toArray ab)] S w',?_,?_⟩
 ·refine av hI 0 ad rfl (by simpa using hl4) ?_
  refine Run.callPure mw nl hI (jZ h) fun w' hI=>?_
  rw [hv]
  refine bQ ?_
  refine rpG ?_
  refine av hI 0 ad rfl (by simpa using hl4) ?_
  refine Run.callPure jy jx hI (iS h) fun w' hI=>?_
  refine bQ ?_
  refine rpG ?_
  exact ⟨rfl,hI⟩
 intro q _ _ _ _ _ _ _ w'
 rintro ⟨rfl,hI⟩
 rcases hf with ⟨hb,rfl⟩|⟨hb,code,st',hB,rfl⟩
 ·rw [hb]
  refine aw (fun _=>?_) (fun hb=>by cases hb)
  exact ⟨_,_,_,rfl,hI.nil,Ext.refl _ _ _,none,0,0,6,rfl,rfl⟩
 rw [hb]
 refine aw (fun hb=>by cases hb) (fun _=>?_)
 have hg':=hB.good (u3 26) hb ho
 refine Run.call0E wq wl hI (uz S) fun v' I' S' w'=>?_
 rintro ⟨rfl,sb,mb,rfl,rfl⟩ hE1 hI
 refine av hI 0 ad rfl (by simpa using hl4) ?_
 refine Run.callE (A:=[_]) rq rZ hI (y8 (by omega) (u3 26) ho hn hb hB h (KnownM.none _ 26) (by rw [uM]; simp)) fun v' I' S' w'=>?_
 rintro ⟨rfl,rfl,es,ck,tv,tr,rfl,hkm,_,_⟩ hE2 hI
 refine ef ?_
 refine aw (fun hc=>?_) (fun hc=>?_)
 ·refine ⟨_,_,_,rfl,hI.nil,Ext.refl _ _ _,none,0,0,code,rfl,?_⟩
  have:code≠0:=by simpa using hc
  rw [Pq,aP this]
  rfl
 have hc0:code=0:=by simpa using hc
 subst hc0
 have hI:=hI.perm (M:=[.blk b1 (.cells cs.toArray ab),dz tv tr]++bv [(sb,.cells #[.map (some mb),tv] cQ),(mb,.map es ck)]) (List.Perm.cons _ (cu (l₁:=[dz tv tr]) (l₂:=bv [(sb,.cells #[.map (some mb),tv] cQ),(mb,.map es ck)])))
 obtain ⟨S3,hI,hE3,hins⟩:=Inv.pubExt hI
 have hst:StS S3 S3 sb st':=⟨mb,tv,es,ck,cQ,hins _ (aS ..),hins _ (aV _ (aS ..)),hkm.up hE3.1⟩
 refine Run.call0E Gk FK hI (zu hg' hst) fun v' I' S4 w'=>?_
 rintro ⟨a,n,cap,b,rfl,hbn⟩ hE4 hI
 refine ar (v:=.slice a n cap) rfl ?_
 refine ar (v:=.bool b) rfl ?_
 refine bQ ?_
 refine aw (fun hb=>?_) (fun hb=>?_)
 ·have hb:b=false:=by simpa using hb
  refine ⟨_,_,_,rfl,hI.nil,hE3.trans hE4,none,0,0,5,rfl,?_⟩
  rw [hb,iG] at hbn
  rw [Pq,<- hbn]
  rfl
 ·have hb:b=true:=by simpa using hb
  refine ⟨_,_,_,rfl,hI.nil,hE3.trans hE4,a,n,cap,0,rfl,?_⟩
  rw [hb,dg] at hbn
  rw [Pq,<- hbn]
end
end
section
open Go Go.RowKit
structure Ch where
 goal:T
 rest:List (T × Int)
 left:List Int
 binds:al
structure St6 where
 goals:List (T × Int)
 binds:al
 chs:List Ch
def RdCh (S:ae) (cs:List Value) (c:Ch):Prop:=∃ hd g l b,cs=hd++[g,l,b]/\RdT S hd c.goal/\RdSl S 5 (RdG S) g c.rest/\RdSl S 1 jz l c.left/\RdSl S 4 (RdO S) b c.binds
theorem RdSl.sl {α:Type} {S:ae} {k:Nat} {R:List Value->α->Prop} {v:Value} {xs:List α} (h:RdSl S k R v xs):v.oneCell'=true:=by
 obtain ⟨a,m,rfl,_⟩:=h; rfl
theorem RdSl.monoO {S S':ae} {v:Value} {st:al} (hs:Sle S S') (h:RdSl S 4 (RdO S) v st):RdSl S' 4 (RdO S') v st:=h.mono hs fun _ _=>RdO.mono hs
theorem RdCh.length {S:ae} {cs:List Value} {c:Ch} (h:RdCh S cs c):cs.length=7:=by
 obtain ⟨hd,g,l,b,rfl,h,_⟩:=h; simp [h.length]
theorem RdCh.one {S:ae} {cs:List Value} {c:Ch} (h:RdCh S cs c):∀ u∈cs,u.oneCell'=true:=by
 obtain ⟨hd,g,l,b,rfl,h,h1,h2,h3⟩:=h
 intro u hu
 rcases bO.1 hu with hu|hu
 ·exact h.one u hu
 ·simp only [bN,jd,je] at hu
  rcases hu with rfl|rfl|rfl
  ·exact h1.sl
  ·exact h2.sl
  ·exact h3.sl
theorem RdCh.mono {S S':ae} {cs:List Value} {c:Ch} (hs:Sle S S') (h:RdCh S cs c):RdCh S' cs c:=by
 obtain ⟨hd,g,l,b,rfl,h,h1,h2,h3⟩:=h
 exact ⟨hd,g,l,b,rfl,h.mono hs,h1.monoG hs,h2.mono hs fun _ _ h=>h,h3.monoO hs⟩
theorem RdSl.monoCh {S S':ae} {v:Value} {cs:List Ch} (hs:Sle S S') (h:RdSl S 7 (RdCh S) v cs):RdSl S' 7 (RdCh S') v cs:=h.mono hs fun _ _=>RdCh.mono hs
def RdS6 (S:ae) (cs:List Value) (s:St6):Prop:=∃ g b c,cs=[g,b,c]/\RdSl S 5 (RdG S) g s.goals/\RdSl S 4 (RdO S) b s.binds/\RdSl S 7 (RdCh S) c s.chs
theorem RdS6.length {S:ae} {cs:List Value} {s:St6} (h:RdS6 S cs s):cs.length=3:=by
 obtain ⟨g,b,c,rfl,_⟩:=h; rfl
theorem RdS6.one {S:ae} {cs:List Value} {s:St6} (h:RdS6 S cs s):∀ u∈cs,u.oneCell'=true:=by
 obtain ⟨g,b,c,rfl,h1,h2,h3⟩:=h
 intro u hu
 simp only [bN,jd,je] at hu
 rcases hu with rfl|rfl|rfl
 ·exact h1.sl
 ·exact h2.sl
 ·exact h3.sl
theorem RdS6.mono {S S':ae} {cs:List Value} {s:St6} (hs:Sle S S') (h:RdS6 S cs s):RdS6 S' cs s:=by
 obtain ⟨g,b,c,rfl,h1,h2,h3⟩:=h
 exact ⟨g,b,c,rfl,h1.monoG hs,h2.monoO hs,h3.monoCh hs⟩
theorem RdSl.nil0 {α:Type} (S:ae) (k:Nat) (R:List Value->α->Prop):RdSl S k R (.slice none 0 0) []:=⟨none,0,rfl,aW _,be _,.inl rfl⟩
section
variable {w:World} {K:Value->World->Prop}
attribute [local irreducible] Run
end
section
attribute [local irreducible] Run CondV az aO
end
end
section
open Go Go.RowKit
theorem Good.grow {N:Nat} {st:al} (h:Good N st) (k:Nat):Good (N+k) (st++List.replicate k none):=by
 have hm:∀ t,some t∈st++List.replicate k none->some t∈st:=fun t ht=>by
  rcases bO.1 ht with ht|ht
  ·exact ht
  ·have:=KN ht
   cases this
 obtain ⟨r,hr⟩:=h.rk
 refine ⟨by simp [h.len],fun t ht=>iC (wN ..) t (h.ok t (hm t ht)),fun t ht=>h.w t (hm t ht),r,fun n u hu=>?_⟩
 refine hr n u ?_
 rw [List.getElem?_append] at hu
 split at hu
 ·exact hu
 ·have:=KN (cz hu)
  cases this
def VX (b:al) (cl:C):al:=b++List.replicate (tZ cl).toNat none
def zI (cl:C):Prop:=(okU (tZ cl).toNat cl.head/\wT cl.head<=1048576)/\∀ t∈cl.body,okU (tZ cl).toNat t/\wT t<=1048576
def rH (chs:List Ch) (c:Ch) (cl:C) (l:List Int) (st:al):St6:=
 ⟨cl.body.map (fun t=>(dx c.binds.length t,(chs.length:Int)))++c.rest,st,chs++(if l=[] then [] else [⟨c.goal,c.rest,l,c.binds⟩])⟩
inductive TryL (p:List C) (chs:List Ch) (c:Ch):List Int->Option St6->Prop
 | nil:TryL p chs c [] none
 | hit {i:Nat} {l:List Int} {cl:C} {st:al}:p[i]?=some cl->Uni (VX c.binds cl) (.one c.goal (dx c.binds.length cl.head)) true st->TryL p chs c ((i:Int)::l) (some (rH chs c cl l st))
 | miss {i:Nat} {l:List Int} {cl:C} {st:al} {o:Option St6}:p[i]?=some cl->Uni (VX c.binds cl) (.one c.goal (dx c.binds.length cl.head)) false st->TryL p chs c l o->TryL p chs c ((i:Int)::l) o
theorem TryL.inv {p:List C} {chs:List Ch} {c:Ch} {x:Int} {l:List Int} {o:Option St6} (h:TryL p chs c (x::l) o) :
  ∃ (i:Nat) (cl:C) (r:Bool) (st:al),x=i/\p[i]?=some cl/\Uni (VX c.binds cl) (.one c.goal (dx c.binds.length cl.head)) r st/\((r=true/\o=some (rH chs c cl l st)) ∨ (r=false/\TryL p chs c l o)):=by
 cases h with
 | hit h1 h2=>exact ⟨_,_,_,_,rfl,h1,h2,.inl ⟨rfl,rfl⟩⟩
 | miss h1 h2 h3=>exact ⟨_,_,_,_,rfl,h1,h2,.inr ⟨rfl,h3⟩⟩
structure sd (c:Ch):Prop where
 good:Good c.binds.length c.binds
 goal:okU c.binds.length c.goal/\wT c.goal<=1048576
 rest:∀ g∈c.rest,okU c.binds.length g.1/\wT g.1<=1048576
structure aaq (s:St6):Prop where
 good:Good s.binds.length s.binds
 goals:∀ g∈s.goals,okU s.binds.length g.1/\wT g.1<=1048576
 chs:∀ c∈s.chs,sd c
theorem B8 {c:Ch} (hc:sd c) (cl:C):Good (c.binds.length+(tZ cl).toNat) (VX c.binds cl):=hc.good.grow _
theorem Mw {c:Ch} {cl:C} (hc:sd c) (hcl:zI cl):okJ (c.binds.length+(tZ cl).toNat) (.one c.goal (dx c.binds.length cl.head)):=by
 refine ⟨⟨iC (wN ..) _ hc.goal.1,hc.goal.2⟩,?_,?_⟩
 ·have:=l7 c.binds.length cl.head hcl.1.1
  rw [qK] at this
  exact this
 ·rw [o8]; exact hcl.1.2
theorem TryL.ex {p:List C} (hp:∀ cl∈p,zI cl) (chs:List Ch) {c:Ch} (hc:sd c):∀ l:List Int,(∀ i∈l,0<=i/\i<p.length)->∃ o,TryL p chs c l o
 | [],_=>⟨none,.nil⟩
 | i::l,hl=>by
  obtain ⟨h0,h1⟩:=hl i (aS ..)
  obtain ⟨n,rfl⟩:∃ n:Nat,i=n:=⟨i.toNat,by omega⟩
  have hn:n<p.length:=by omega
  have hg:p[n]?=some p[n]:=gL hn
  have hcl:=hp _ (bz hn)
  obtain ⟨r,st,hu⟩:=Ft _ _ (B8 hc p[n]) (aW _) _ (Mw hc hcl)
  cases r with
  | true=>exact ⟨_,.hit hg hu⟩
  | false=>
   obtain ⟨o,ho⟩:=TryL.ex hp chs hc l fun i hi=>hl i (aV _ hi)
   exact ⟨o,.miss hg hu ho⟩
theorem TryL.ok {p:List C} (hp:∀ cl∈p,zI cl) {chs:List Ch} (hh:∀ c∈chs,sd c) {c:Ch} (hc:sd c) {l:List Int} {o:Option St6} (h:TryL p chs c l o):∀ s,o=some s->aaq s:=by
 induction h with
 | nil=>intro s h; cases h
 | miss _ _ _ ih=>exact ih
 | @hit i l cl st hi hu=>
  intro s hs
  simp only [bg] at hs
  subst hs
  have hcl:=hp _ (cz hi)
  obtain ⟨hg,_⟩:=hu.good (B8 hc cl) (Mw hc hcl)
  have hlen:=hg.len
  refine ⟨by rw [rH,hlen]; exact hg,fun g hm=>?_,fun d hd=>?_⟩
  ·rw [rH] at hm ⊢
   simp only at hm ⊢
   rw [hlen]
   rcases bO.1 hm with hm|hm
   ·obtain ⟨t,ht,rfl⟩:=eU.1 hm
    obtain ⟨q1,q2⟩:=hcl.2 t ht
    have:=l7 c.binds.length t q1
    rw [qK] at this
    exact ⟨this,by rw [o8]; exact q2⟩
   ·exact ⟨iC (wN ..) _ (hc.rest g hm).1,(hc.rest g hm).2⟩
  ·rw [rH] at hd
   rcases bO.1 hd with hd|hd
   ·exact hh d hd
   ·split at hd
    ·cases hd
    ·rw [cd] at hd
     subst hd
     exact ⟨hc.good,hc.goal,hc.rest⟩
end
section
open Go Go.RowKit
structure Sp where
 goal:T
 clause:Int
 body:Int
structure Se where
 st:St6
 steps:List Sp
 saved:List (List Sp)
inductive FirstL (p:List C) (chs:List Ch) (c:Ch):List Int->Option (St6 × Int × List Int)->Prop
 | nil:FirstL p chs c [] none
 | hit {i:Int} {l:List Int} {s:St6}:TryL p chs c [i] (some s)->FirstL p chs c (i::l) (some (s,i,l))
 | miss {i:Int} {l:List Int} {o:Option (St6 × Int × List Int)}:TryL p chs c [i] none->FirstL p chs c l o->FirstL p chs c (i::l) o
theorem FirstL.ex {p:List C} (hp:∀ cl∈p,zI cl) (chs:List Ch) {c:Ch} (hc:sd c):∀ l:List Int,(∀ i∈l,0<=i/\i<p.length)->∃ o,FirstL p chs c l o
 | [],_=>⟨none,.nil⟩
 | i::l,hl=>by
  obtain ⟨o,ho⟩:=TryL.ex hp chs hc [i] fun j hj=>by
   rw [cd] at hj
   subst hj
   exact hl j (aS ..)
  cases o with
  | some s=>exact ⟨_,.hit ho⟩
  | none=>
   obtain ⟨o,h2⟩:=FirstL.ex hp chs hc l fun j hj=>hl j (aV _ hj)
   exact ⟨o,.miss ho h2⟩
theorem FirstL.ok {p:List C} (hp:∀ cl∈p,zI cl) {chs:List Ch} (hh:∀ c∈chs,sd c) {c:Ch} (hc:sd c) {l:List Int} {o:Option (St6 × Int × List Int)} (h:FirstL p chs c l o) :
  ∀ s i r,o=some (s,i,r)->aaq s/\i∈l/\(∀ j∈r,j∈l):=by
 induction h with
 | nil=>intro s i r h; cases h
 | miss _ _ ih=>
  intro s i r h
  obtain ⟨h1,h2,h3⟩:=ih s i r h
  exact ⟨h1,aV _ h2,fun j hj=>aV _ (h3 j hj)⟩
 | hit ht=>
  intro s i r h
  simp only [bg,cT] at h
  obtain ⟨rfl,rfl,rfl⟩:=h
  exact ⟨ht.ok hp hh hc _ rfl,aS ..,fun j hj=>aV _ hj⟩
def nU (p:List C) (s:Se) (c:Ch) (u:St6) (i:Int) (l:List Int):Se:=
 ⟨⟨u.goals,u.binds,s.st.chs++(if l=[] then [] else [⟨c.goal,c.rest,l,c.binds⟩])⟩,s.steps++[⟨c.goal,i,((p[i.toNat]?).elim 0 fun cl=>(cl.body.length:Int))⟩],s.saved++(if l=[] then [] else [s.steps])⟩
inductive TakeR (p:List C) (s:Se) (c:Ch):Option Se->Prop
 | no:FirstL p s.st.chs c c.left none->TakeR p s c none
 | yes {u:St6} {i:Int} {l:List Int}:FirstL p s.st.chs c c.left (some (u,i,l))->TakeR p s c (some (nU p s c u i l))
structure Bd (n:Nat) (s:Se):Prop where
 st:aaq s.st
 left:∀ c∈s.st.chs,∀ i∈c.left,0<=i/\i<n
 len:s.saved.length=s.st.chs.length
theorem TakeR.ex {p:List C} (hp:∀ cl∈p,zI cl) (s:Se) {c:Ch} (hc:sd c) (hl:∀ i∈c.left,0<=i/\i<p.length):∃ o,TakeR p s c o:=by
 obtain ⟨o,ho⟩:=FirstL.ex hp s.st.chs hc c.left hl
 cases o with
 | none=>exact ⟨_,.no ho⟩
 | some x=>exact ⟨_,.yes (u:=x.1) (i:=x.2.1) (l:=x.2.2) ho⟩
theorem TakeR.ok {p:List C} (hp:∀ cl∈p,zI cl) {s:Se} (hh:∀ c∈s.st.chs,sd c) (hf:∀ c∈s.st.chs,∀ i∈c.left,0<=i/\i<p.length) (hn:s.saved.length=s.st.chs.length) {c:Ch} (hc:sd c)
  (hl:∀ i∈c.left,0<=i/\i<p.length) {o:Option Se} (h:TakeR p s c o):∀ s',o=some s'->Bd p.length s':=by
 intro s' hs
 cases h with
 | no _=>cases hs
 | @yes u i l hF=>
  simp only [bg] at hs
  subst hs
  obtain ⟨h1,h2,h3⟩:=hF.ok hp hh hc u i l rfl
  refine ⟨⟨h1.good,h1.goals,fun d hd=>?_⟩,fun d hd j hj=>?_,?_⟩
  ·rcases bO.1 hd with hd|hd
   ·exact hh d hd
   ·split at hd
    ·cases hd
    ·rw [cd] at hd
     subst hd
     exact ⟨hc.good,hc.goal,hc.rest⟩
  ·rcases bO.1 hd with hd|hd
   ·exact hf d hd j hj
   ·split at hd
    ·cases hd
    ·rw [cd] at hd
     subst hd
     exact hl j (h3 j hj)
  ·simp only [nU,bA]
   split <;> simp [hn]
inductive BackR (p:List C):List Ch->List (List Sp)->Option Se->Prop
 | nil {ss:List (List Sp)}:BackR p [] ss none
 | hit {cs:List Ch} {ss:List (List Sp)} {c:Ch} {t:List Sp} {s:Se}:TakeR p ⟨⟨[],[],cs⟩,t,ss⟩ c (some s)->BackR p (cs++[c]) (ss++[t]) (some s)
 | miss {cs:List Ch} {ss:List (List Sp)} {c:Ch} {t:List Sp} {o:Option Se}:TakeR p ⟨⟨[],[],cs⟩,t,ss⟩ c none->BackR p cs ss o->BackR p (cs++[c]) (ss++[t]) o
theorem BackR.ex {p:List C} (hp:∀ cl∈p,zI cl):∀ (n:Nat) (cs:List Ch) (ss:List (List Sp)),cs.length=n->ss.length=n->(∀ c∈cs,sd c)->(∀ c∈cs,∀ i∈c.left,0<=i/\i<p.length)->
  ∃ o,BackR p cs ss o/\∀ s,o=some s->Bd p.length s:=by
 intro n
 induction n with
 | zero=>
  intro cs ss h _ _ _
  have:=gO h
  subst this
  exact ⟨none,.nil,fun s h=>by cases h⟩
 | succ n ih=>
  intro cs ss h1 h2 hh hf
  obtain ⟨cs,c,rfl⟩:=XT cs |>.resolve_left fun e=>by rw [e] at h1; cases h1
  obtain ⟨ss,t,rfl⟩:=XT ss |>.resolve_left fun e=>by rw [e] at h2; cases h2
  simp only [List.concat_eq_append,bA,n4,xw] at h1 h2 hh hf ⊢
  have hc:=hh c (by simp)
  have hl:=hf c (by simp)
  have hh':∀ c∈cs,sd c:=fun d hd=>hh d (dy _ hd)
  have hf':∀ c∈cs,∀ i∈c.left,0<=i/\i<p.length:=fun d hd=>hf d (dy _ hd)
  obtain ⟨o,ho⟩:=TakeR.ex hp ⟨⟨[],[],cs⟩,t,ss⟩ hc hl
  cases o with
  | some s=>exact ⟨_,.hit ho,fun s' e=>ho.ok hp hh' hf' (by simp only; omega) hc hl s' e⟩
  | none=>
   obtain ⟨o,h3,h4⟩:=ih cs ss h1 h2 hh' hf'
   exact ⟨o,.miss ho h3,h4⟩
end
section
open Go Go.RowKit
def ku (p:List C) (g:T):List Int:=jn (fun c=>o9 (dk c.head) (dk g)) p 0
theorem qQ (p:List C) (g:T):∀ i∈ku p g,0<=i/\i<p.length:=by
 intro i hi
 obtain ⟨j,h0,rfl,hj,_⟩:=FZ _ p 0 i hi
 omega
inductive OneR (p:List C) (s:Se):Se->Int->Prop
 | big {g:T × Int} {rest:List (T × Int)} {u:T}:s.st.goals=g::rest->Res s.st.binds (.one g.1 u)->(bI u=false ∨ fS u=true)->OneR p s s 0
 | took {g:T × Int} {rest:List (T × Int)} {u:T} {s':Se}:s.st.goals=g::rest->Res s.st.binds (.one g.1 u)->bI u=true->fS u=false->cI u=false->
   TakeR p s ⟨u,rest,ku p u,s.st.binds⟩ (some s')->OneR p s s' (-1)
 | stuck {g:T × Int} {rest:List (T × Int)} {u:T}:s.st.goals=g::rest->Res s.st.binds (.one g.1 u)->bI u=true->fS u=false->cI u=false->
   TakeR p s ⟨u,rest,ku p u,s.st.binds⟩ none->OneR p s s (-2)
 | fail {g:T × Int} {rest:List (T × Int)} {u:T} {st:al}:s.st.goals=g::rest->Res s.st.binds (.one g.1 u)->bI u=true->fS u=false->cI u=true->
   Blt s.st.binds u 1 st->OneR p s s (-2)
 | err {g:T × Int} {rest:List (T × Int)} {u:T} {st:al} {c:Int}:s.st.goals=g::rest->Res s.st.binds (.one g.1 u)->bI u=true->fS u=false->cI u=true->
   Blt s.st.binds u c st->c≠0->c≠1->OneR p s s 0
 | solved {g:T × Int} {rest:List (T × Int)} {u:T} {st:al}:s.st.goals=g::rest->Res s.st.binds (.one g.1 u)->bI u=true->fS u=false->cI u=true->
   Blt s.st.binds u 0 st->OneR p s ⟨⟨rest,st,s.st.chs⟩,s.steps++[⟨u,-1,0⟩],s.saved⟩ (-1)
theorem OneR.ex {p:List C} (hp:∀ cl∈p,zI cl) {s:Se} (hs:Bd p.length s) (hg:s.st.goals≠[]):∃ s' k,OneR p s s' k/\Bd p.length s':=by
 obtain ⟨g,rest,hgr⟩:∃ g rest,s.st.goals=g::rest:=by
  cases h:s.st.goals with
  | nil=>exact absurd h hg
  | cons g rest=>exact ⟨g,rest,rfl⟩
 have hgo:=hs.st.goals
 rw [hgr] at hgo
 have hg1:=hgo g (aS ..)
 obtain ⟨us,hus⟩:=tH hs.st.good [g.1] (by simp only [dw]; exact ⟨hg1.1,trivial⟩)
 obtain ⟨u,hu⟩:∃ u,Res s.st.binds (.one g.1 u):=by
  cases hus with
  | cons h _=>exact ⟨_,h⟩
 have hou:okU s.st.binds.length u:=jD hs.st.good hu hg1.1
 cases hsm:bI u with
 | false=>exact ⟨_,_,.big hgr hu (.inl hsm),hs⟩
 | true=>
  have hw:=gj hsm hou
  cases hc:fS u with
  | true=>exact ⟨_,_,.big hgr hu (.inr hc),hs⟩
  | false=>
   cases hb:cI u with
   | false=>
    have hch:sd ⟨u,rest,ku p u,s.st.binds⟩:=⟨hs.st.good,⟨hou,by simp only; omega⟩,fun x hx=>hgo x (aV _ hx)⟩
    obtain ⟨o,ho⟩:=TakeR.ex hp s hch (qQ p u)
    cases o with
    | none=>exact ⟨_,_,.stuck hgr hu hsm hc hb ho,hs⟩
    | some s'=>exact ⟨_,_,.took hgr hu hsm hc hb ho,ho.ok hp hs.st.chs hs.left hs.len hch (qQ p u) _ rfl⟩
   | true=>
    obtain ⟨c,st,hB⟩:=Blt.ex hs.st.good hb ⟨hou,by omega⟩
    by_cases h1:c=1
    ·subst h1
     exact ⟨_,_,.fail hgr hu hsm hc hb hB,hs⟩
    by_cases h0:c=0
    ·subst h0
     refine ⟨_,_,.solved hgr hu hsm hc hb hB,?_⟩
     have hgd:=hB.good hs.st.good hb ⟨hou,by omega⟩
     have hl:=hgd.len
     exact ⟨⟨by simp only [hl]; exact hgd,fun x hx=>by simp only [hl]; exact hgo x (aV _ hx),hs.st.chs⟩,hs.left,hs.len⟩
    ·exact ⟨_,_,.err hgr hu hsm hc hb hB h0 h1,hs⟩
end
section
open Go Go.RowKit
inductive Srch (p:List C):Nat->Se->Option Se->Prop
 | done {n:Nat} {s:Se}:s.st.goals=[]->Srch p n s (some s)
 | out {s:Se}:s.st.goals≠[]->Srch p 0 s none
 | halt {n:Nat} {s s':Se}:s.st.goals≠[]->OneR p s s' 0->Srch p (n+1) s none
 | step {n:Nat} {s s':Se} {o:Option Se}:s.st.goals≠[]->OneR p s s' (-1)->Srch p n s' o->Srch p (n+1) s o
 | stop {n:Nat} {s s':Se}:s.st.goals≠[]->OneR p s s' (-2)->BackR p s'.st.chs s'.saved none->Srch p (n+1) s none
 | back {n:Nat} {s s' t:Se} {o:Option Se}:s.st.goals≠[]->OneR p s s' (-2)->BackR p s'.st.chs s'.saved (some t)->Srch p n t o->Srch p (n+1) s o
theorem OneR.code {p:List C} {s s':Se} {k:Int} (h:OneR p s s' k):k=0 ∨ k=-1 ∨ k=-2:=by
 cases h <;> simp
theorem Srch.ex {p:List C} (hp:∀ cl∈p,zI cl):∀ (n:Nat) (s:Se),Bd p.length s->∃ o,Srch p n s o/\∀ t,o=some t->Bd p.length t:=by
 intro n
 induction n with
 | zero=>
  intro s hs
  by_cases hg:s.st.goals=[]
  ·exact ⟨_,.done hg,fun t h=>by rw [bg] at h; subst h; exact hs⟩
  ·exact ⟨_,.out hg,fun t h=>by cases h⟩
 | succ n ih=>
  intro s hs
  by_cases hg:s.st.goals=[]
  ·exact ⟨_,.done hg,fun t h=>by rw [bg] at h; subst h; exact hs⟩
  obtain ⟨s',k,h1,h2⟩:=OneR.ex hp hs hg
  rcases h1.code with rfl|rfl|rfl
  ·exact ⟨_,.halt hg h1,fun t h=>by cases h⟩
  ·obtain ⟨o,h3,h4⟩:=ih s' h2
   exact ⟨o,.step hg h1 h3,h4⟩
  ·obtain ⟨o,h3,h4⟩:=BackR.ex hp _ s'.st.chs s'.saved rfl h2.len h2.st.chs h2.left
   cases o with
   | none=>exact ⟨_,.stop hg h1 h3,fun t h=>by cases h⟩
   | some t=>
    obtain ⟨o,h5,h6⟩:=ih t (h4 t rfl)
    exact ⟨o,.back hg h1 h3 h5,h6⟩
end
section
open Go Go.RowKit
def sk:List Sp->Int
 | []=>1
 | x::xs=>x.body - 1+sk xs
theorem Dm:∀ (a b:List Sp),sk (a++b)=sk a+sk b - 1
 | [],b=>by rw [rg,sk]; omega
 | x::a,b=>by rw [iR,sk,sk,Dm a b]; omega
theorem K7 (a:List Sp) (x:Sp):sk (a++[x])=sk a+x.body - 1:=by
 rw [Dm]
 simp only [sk]
 omega
def openP (l:List Sp):Prop:=∀ a b,l=a++b->b≠[]->0<sk a
theorem openP.nil:openP []:=by
 intro a b h hb
 have:=congrArg List.length h
 cases b with
 | nil=>exact absurd rfl hb
 | cons y b=>simp at this
theorem openP.snoc {l:List Sp} (h:openP l) (hp:0<sk l) (x:Sp):openP (l++[x]):=by
 intro a b e hb
 obtain ⟨b',y,rfl⟩:=(XT b).resolve_left hb
 rw [List.concat_eq_append,<- eK] at e
 have e2:=List.append_inj_left' e (by simp)
 subst e2
 cases b' with
 | nil=>rw [dh] at hp; exact hp
 | cons z b'=>exact h a (z::b') rfl (by simp)
structure okP (s:Se):Prop where
 goals:(s.st.goals.length:Int)=sk s.steps
 openP:openP s.steps
 saved:∀ i (h:i<s.st.chs.length) (h':i<s.saved.length),(s.st.chs[i].rest.length:Int)+1=sk s.saved[i]/\Go.Proofs.YtgllldjiaglkcaaGreatDoor.openP s.saved[i]
def Ud (p:List C) (i:Int):Int:=(p[i.toNat]?).elim 0 fun cl=>(cl.body.length:Int)
theorem TryL.goals {p:List C} {chs:List Ch} {c:Ch} {i:Int} {s:St6} (h:TryL p chs c [i] (some s)):(s.goals.length:Int)=Ud p i+c.rest.length:=by
 cases h with
 | hit hi _=>simp [rH,Ud,hi]
 | miss _ _ h=>cases h
theorem FirstL.goals {p:List C} {chs:List Ch} {c:Ch} {l:List Int} {o:Option (St6 × Int × List Int)} (h:FirstL p chs c l o):∀ s i r,o=some (s,i,r)->(s.goals.length:Int)=Ud p i+c.rest.length:=by
 induction h with
 | nil=>intro s i r h; cases h
 | miss _ _ ih=>exact ih
 | hit ht=>
  intro s i r h
  simp only [bg,cT] at h
  obtain ⟨rfl,rfl,rfl⟩:=h
  exact ht.goals
theorem TakeR.okP {p:List C} {s s':Se} {c:Ch} (h:TakeR p s c (some s')) (hn:s.saved.length=s.st.chs.length) (hr:(c.rest.length:Int)+1=sk s.steps) (ho:openP s.steps)
  (hs:∀ i (h:i<s.st.chs.length) (h':i<s.saved.length),(s.st.chs[i].rest.length:Int)+1=sk s.saved[i]/\Go.Proofs.YtgllldjiaglkcaaGreatDoor.openP s.saved[i]):okP s':=by
 cases h with
 | @yes u i l hF=>
  have hg:=hF.goals u i l rfl
  refine ⟨?_,?_,?_⟩
  ·simp only [nU,K7]
   rw [hg,Ud]
   omega
  ·exact ho.snoc (by omega) _
  ·intro k h1 h2
   simp only [nU] at h1 h2 ⊢
   by_cases hl:l=[]
   ·subst hl
    simp only [ai,dh] at h1 h2 ⊢
    exact hs k h1 h2
   ·simp only [ah hl,bA,n4] at h1 h2 ⊢
    by_cases hk:k<s.st.chs.length
    ·rw [gJ hk,gJ (by omega)]
     exact hs k hk (by omega)
    ·have hk1:k=s.st.chs.length:=by omega
     subst hk1
     rw [gd (aW _),gd (by omega)]
     simp only [hn,eB,lG]
     exact ⟨hr,ho⟩
end
section
open Go Go.RowKit
def okB (cs:List Ch) (ss:List (List Sp)):Prop:=∀ i (h:i<cs.length) (h':i<ss.length),(cs[i].rest.length:Int)+1=sk ss[i]/\openP ss[i]
theorem okB.last {cs:List Ch} {ss:List (List Sp)} {c:Ch} {t:List Sp} (h:okB (cs++[c]) (ss++[t])) (hl:cs.length=ss.length):okB cs ss/\(c.rest.length:Int)+1=sk t/\openP t:=by
 constructor
 ·intro i h1 h2
  have:=h i (by simp; omega) (by simp; omega)
  rw [gJ h1,gJ h2] at this
  exact this
 ·have:=h cs.length (by simp) (by simp [hl])
  rw [gd (aW _),gd (by omega)] at this
  simp only [hl,eB,lG] at this
  exact this
theorem BackR.okP {p:List C} {cs:List Ch} {ss:List (List Sp)} {o:Option Se} (h:BackR p cs ss o):cs.length=ss.length->okB cs ss->∀ s,o=some s->okP s:=by
 induction h with
 | nil=>intro _ _ s h; cases h
 | hit ht=>
  intro hl hb s h
  simp only [bA,n4,xw] at hl
  obtain ⟨h1,h2,h3⟩:=hb.last hl
  rw [bg] at h
  subst h
  exact ht.okP hl.symm h2 h3 h1
 | miss _ _ ih=>
  intro hl hb
  simp only [bA,n4,xw] at hl
  exact ih hl (hb.last hl).1
theorem OneR.okP {p:List C} {s s':Se} {k:Int} (h:OneR p s s' k) (hn:s.saved.length=s.st.chs.length) (ho:okP s):okP s':=by
 have hgl:=ho.goals
 cases h with
 | big=>exact ho
 | stuck=>exact ho
 | fail=>exact ho
 | err=>exact ho
 | took hg _ _ _ _ ht=>
  rw [hg] at hgl
  refine ht.okP hn ?_ ho.openP ho.saved
  simp only [bw] at hgl ⊢
  omega
 | solved hg _ _ _ _ _=>
  rw [hg] at hgl
  simp only [bw] at hgl
  refine ⟨?_,ho.openP.snoc (by omega) _,ho.saved⟩
  simp only [K7]
  omega
theorem OneR.ok {p:List C} (hp:∀ cl∈p,zI cl) {s s':Se} {k:Int} (h:OneR p s s' k) (hs:Bd p.length s):Bd p.length s':=by
 have hgo:=hs.st.goals
 cases h with
 | big=>exact hs
 | stuck=>exact hs
 | fail=>exact hs
 | err=>exact hs
 | took hg hu hsm _ _ ht=>
  rw [hg] at hgo
  have hou:=jD hs.st.good hu (hgo _ (aS ..)).1
  have hw:=gj hsm hou
  exact ht.ok hp hs.st.chs hs.left hs.len ⟨hs.st.good,⟨hou,by simp only; omega⟩,fun x hx=>hgo x (aV _ hx)⟩ (qQ p _) _ rfl
 | solved hg hu hsm _ hb hB=>
  rw [hg] at hgo
  have hou:=jD hs.st.good hu (hgo _ (aS ..)).1
  have hw:=gj hsm hou
  have hgd:=hB.good hs.st.good hb ⟨hou,by omega⟩
  have hl:=hgd.len
  exact ⟨⟨by simp only [hl]; exact hgd,fun x hx=>by simp only [hl]; exact hgo x (aV _ hx),hs.st.chs⟩,hs.left,hs.len⟩
theorem BackR.ok {p:List C} (hp:∀ cl∈p,zI cl) {cs:List Ch} {ss:List (List Sp)} {o:Option Se} (h:BackR p cs ss o):cs.length=ss.length->(∀ c∈cs,sd c)->(∀ c∈cs,∀ i∈c.left,0<=i/\i<p.length)->∀ s,o=some s->Bd p.length s:=by
 induction h with
 | nil=>intro _ _ _ s h; cases h
 | hit ht=>
  intro hl hh hf s h
  simp only [bA,n4,xw] at hl
  exact ht.ok hp (fun d hd=>hh d (dy _ hd)) (fun d hd=>hf d (dy _ hd)) hl.symm (hh _ (by simp)) (hf _ (by simp)) s h
 | miss _ _ ih=>
  intro hl hh hf
  simp only [bA,n4,xw] at hl
  exact ih hl (fun d hd=>hh d (dy _ hd)) (fun d hd=>hf d (dy _ hd))
theorem Srch.ok {p:List C} (hp:∀ cl∈p,zI cl) {n:Nat} {s:Se} {o:Option Se} (h:Srch p n s o):Bd p.length s->okP s->∀ t,o=some t->Bd p.length t/\okP t/\t.st.goals=[]:=by
 induction h with
 | done hg=>intro h1 h2 t h; rw [bg] at h; subst h; exact ⟨h1,h2,hg⟩
 | out=>intro _ _ t h; cases h
 | halt=>intro _ _ t h; cases h
 | stop=>intro _ _ t h; cases h
 | step hg h1 _ ih=>exact fun hs ho=>ih (h1.ok hp hs) (h1.okP hs.len ho)
 | back hg h1 h2 _ ih=>
  intro hs ho
  have hs':=h1.ok hp hs
  have ho':=h1.okP hs.len ho
  exact ih (h2.ok hp hs'.len.symm hs'.st.chs hs'.left _ rfl) (h2.okP hs'.len.symm ho'.saved _ rfl)
end
section
open Go Go.ChangeShapes Go.WideShapes Go.ChangeAt Go.RowKit

inductive PF where
 | mk (goal:T) (clause:Int) (kids:List PF)
def PF.goal:PF->T
 | .mk g _ _=>g
def PF.clause:PF->Int
 | .mk _ c _=>c
def PF.kids:PF->List PF
 | .mk _ _ ks=>ks
theorem PF.ind {p:PF->Prop} (h:∀ g c ks,(∀ t∈ks,p t)->p (.mk g c ks)) (t:PF):p t:=
 PF.rec (motive_1:=p) (motive_2:=fun l=>∀ t∈l,p t) (fun g c ks ih=>h g c ks ih) (by simp) (fun a l h1 h2 t ht=>by
  rcases bN.1 ht with rfl|ht
  ·exact h1
  ·exact h2 t ht) t
inductive RdF (S:ae):List Value->PF->Prop
 | nil {a0 a1 a2 a3:Value} {g:T} {c:Int} {a:Option Addr} {cap:Nat} (hg:RdT S [a0,a1,a2,a3] g) (hn:inI c) (hc:cap<=maxLen) :
   RdF S [a0,a1,a2,a3,.int .i64 c,.slice a 0 cap] (.mk g c [])
 | cons {a0 a1 a2 a3:Value} {g:T} {n:Int} {kids:List PF} {b o cap:Nat} {c:Array Value} {E:TypeId} {fz:Nat × Nat} (hg:RdT S [a0,a1,a2,a3] g) (hn:inI n) (hl:kids.length<=cap) (hc:cap<=maxLen)
   (hS:S b=some (.cells c E fz)) (h:∀ i (h:i<kids.length),RdF S (aX c (o+i * 6) 6) kids[i]) :
   RdF S [a0,a1,a2,a3,.int .i64 n,.slice (some ⟨b,o,none⟩) kids.length cap] (.mk g n kids)
theorem RdF.iff {S:ae} {cs:List Value} {x:PF}:RdF S cs x ↔
  ∃ kv ks,cs=[.int .i64 x.goal.kind,.int .i64 x.goal.n,.string x.goal.name,kv,.int .i64 x.clause,ks]/\RdT S [.int .i64 x.goal.kind,.int .i64 x.goal.n,.string x.goal.name,kv] x.goal/\inI x.clause/\RdSl S 6 (RdF S) ks x.kids:=by
 constructor
 ·intro h
  cases h with
  | nil hg hn hc=>
   obtain ⟨kv,e,_⟩:=RdT.iff.1 hg
   simp only [lE,mC] at e
   obtain ⟨rfl,rfl,rfl,rfl⟩:=e
   exact ⟨_,_,rfl,hg,hn,_,_,rfl,be _,hc,.inl rfl⟩
  | cons hg hn hl hc hS h=>
   obtain ⟨kv,e,_⟩:=RdT.iff.1 hg
   simp only [lE,mC] at e
   obtain ⟨rfl,rfl,rfl,rfl⟩:=e
   exact ⟨_,_,rfl,hg,hn,_,_,rfl,hl,hc,.inr ⟨_,_,_,_,_,rfl,hS,h⟩⟩
 ·obtain ⟨g,n,kids⟩:=x
  rintro ⟨kv,ks,rfl,hg,hn,a,cap,rfl,hl,hc,h⟩
  rcases h with h|⟨b,o,c,E,fz,rfl,hS,h⟩
  ·simp only [PF.kids] at h
   subst h
   exact RdF.nil hg hn hc
  ·exact RdF.cons hg hn hl hc hS h
theorem RdF.length {S:ae} {cs:List Value} {x:PF} (h:RdF S cs x):cs.length=6:=by
 obtain ⟨_,_,rfl,_⟩:=RdF.iff.1 h; rfl
theorem RdF.one {S:ae} {cs:List Value} {x:PF} (h:RdF S cs x):∀ u∈cs,u.oneCell'=true:=by
 obtain ⟨kv,ks,rfl,hg,_,a,cap,rfl,_⟩:=RdF.iff.1 h
 have:=hg.one kv (by simp)
 intro u hu
 simp at hu
 rcases hu with rfl|rfl|rfl|rfl|rfl|rfl <;> first|rfl|exact this
theorem RdF.mono {S S':ae} (hs:Sle S S') {cs:List Value} {x:PF} (h:RdF S cs x):RdF S' cs x:=by
 induction h with
 | nil hg hn hc=>exact RdF.nil (hg.mono hs) hn hc
 | cons hg hn hl hc hS _ ih=>exact RdF.cons (hg.mono hs) hn hl hc (hs _ _ hS) ih
inductive TrF:bm->List Value->PF->Prop
 | nil {L:bm} {a0 a1 a2 a3:Value} {g:T} {n:Int} {a:Option Addr} {cap:Nat} (hg:TrT L [a0,a1,a2,a3] g) (hn:inI n) (hc:cap<=maxLen) :
   TrF L [a0,a1,a2,a3,.int .i64 n,.slice a 0 cap] (.mk g n [])
 | cons {L:bm} {a0 a1 a2 a3:Value} {g:T} {n:Int} {kids:List PF} {b cap:Nat} {c:Array Value} {E:TypeId} {Ls:List bm} (hg:TrT L [a0,a1,a2,a3] g) (hn:inI n) (hl:kids.length<=cap) (hc:cap<=maxLen)
   (hLs:Ls.length=kids.length) (hsz:cap * 6<=c.size) (h:∀ i (h:i<kids.length) (h':i<Ls.length),TrF Ls[i] (aX c (i * 6) 6) kids[i]) :
   TrF (L++(b,.cells c E)::Ls.flatten) [a0,a1,a2,a3,.int .i64 n,.slice (some ⟨b,0,none⟩) kids.length cap] (.mk g n kids)
theorem TrF.iff {L:bm} {cs:List Value} {x:PF}:TrF L cs x ↔
  ∃ L1 L2 kv ks,L=L1++L2/\cs=[.int .i64 x.goal.kind,.int .i64 x.goal.n,.string x.goal.name,kv,.int .i64 x.clause,ks]/\TrT L1 [.int .i64 x.goal.kind,.int .i64 x.goal.n,.string x.goal.name,kv] x.goal/\inI x.clause/\TrSl 6 TrF L2 ks x.kids:=by
 constructor
 ·intro h
  cases h with
  | nil hg hn hc=>
   obtain ⟨kv,e,_⟩:=TrT.iff.1 hg
   simp only [lE,mC] at e
   obtain ⟨rfl,rfl,rfl,rfl⟩:=e
   exact ⟨_,[],_,_,(dh _).symm,rfl,hg,hn,_,_,rfl,be _,hc,.inl ⟨rfl,rfl⟩⟩
  | cons hg hn hl hc hLs hsz h=>
   obtain ⟨kv,e,_⟩:=TrT.iff.1 hg
   simp only [lE,mC] at e
   obtain ⟨rfl,rfl,rfl,rfl⟩:=e
   exact ⟨_,_,_,_,rfl,rfl,hg,hn,_,_,rfl,hl,hc,.inr ⟨_,_,_,_,rfl,rfl,hLs,hsz,h⟩⟩
 ·obtain ⟨g,n,kids⟩:=x
  rintro ⟨L1,L2,kv,ks,rfl,rfl,hg,hn,a,cap,rfl,hl,hc,h⟩
  rcases h with ⟨h,rfl⟩|⟨b,c,E,Ls,rfl,rfl,hLs,hsz,h⟩
  ·simp only [PF.kids] at h
   subst h
   rw [dh]
   exact TrF.nil hg hn hc
  ·exact TrF.cons hg hn hl hc hLs hsz h
theorem TrF.length {L:bm} {cs:List Value} {x:PF} (h:TrF L cs x):cs.length=6:=by
 obtain ⟨_,_,_,_,_,rfl,_⟩:=TrF.iff.1 h; rfl
theorem TrF.one {L:bm} {cs:List Value} {x:PF} (h:TrF L cs x):∀ u∈cs,u.oneCell'=true:=by
 obtain ⟨_,_,kv,ks,_,rfl,hg,_,a,cap,rfl,_⟩:=TrF.iff.1 h
 have:=hg.one kv (by simp)
 intro u hu
 simp at hu
 rcases hu with rfl|rfl|rfl|rfl|rfl|rfl <;> first|rfl|exact this
theorem TrF.rd {S:ae} {L:bm} {cs:List Value} {x:PF} (h:TrF L cs x) (hi:Ins S L):RdF S cs x:=by
 induction h with
 | nil hg hn hc=>exact RdF.nil (hg.rd hi) hn hc
 | cons hg hn hl hc hLs hsz h ih=>
  refine RdF.cons (hg.rd hi.left) hn hl hc (hi.right _ (aS ..)) (o:=0) fun i h1=>?_
  rw [cq]
  exact ih i h1 (by omega) (E8 (fun p hp=>hi.right p (aV _ hp)) (by omega))
theorem KL {a b c d e f:Value}:∀ (j:Nat) (v:Value),([a,b,c,d]:List Value)[j]?=some v->(#[a,b,c,d,e,f]:Array Value)[0+j]?=some v
 | 0,_,h|1,_,h|2,_,h|3,_,h=>h
 | j+4,_,h=>by simp at h
section
attribute [local irreducible] Run CondV az aO
end
section
variable {H:Type} {enc:TypeId × Value->H} {W:World} {sp:Nat->Bool} {held:Bool}
end
end
end Go.Proofs.YtgllldjiaglkcaaGreatDoor
