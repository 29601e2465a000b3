/- spec.l1Parse and l1Args on texts of one level: variables, names, names with such arguments. -/
import Derived.Test.YtgllldjiaglkcaaGreatDoorZMa9
import Derived.Test.YtgllldjiaglkcaaGreatDoorZMa3
import Derived.Test.YtgllldjiaglkcaaGreatDoorZMa4
import Derived.Test.YtgllldjiaglkcaaGreatDoorZMa24
import Derived.Test.YtgllldjiaglkcaaGreatDoorZMa10
import Derived.Test.YtgllldjiaglkcaaGreatDoorZMa23
import Derived.Test.YtgllldjiaglkcaaGreatDoorZMa16
import Derived.Test.YtgllldjiaglkcaaGreatDoorZMa12
import Derived.Test.YtgllldjiaglkcaaGreatDoorZMa20
import Derived.Test.YtgllldjiaglkcaaGreatDoorRows
import Derived.Test.YtgllldjiaglkcaaGreatDoorTie
import Derived.ProofKit
import Derived.LaidMore
import Derived.LaidLaws
namespace Go.Proofs.YtgllldjiaglkcaaGreatDoor
section
open Go Go.RowKit
def Xn (A:Bs->Nat->Option (List T × Nat)) (s:Bs) (i:Nat):Option (T × Nat):=if s.length<=i then none else if upp s i=true then some (.mk 1 ((s.getD i 0).toNat - 65) emptyB [],i+1)
  else if dig s i=true ∨ (sgn s i 45=true/\dig s (i+1)=true) then none else if sgn s i 91=true then none
  else match rz s i with
   | none=>none
   | some (name,n)=>if sgn s n 40=false then some (Es name [],n) else match A s (n+1) with
    | none=>none
    | some (ts,e)=>some (Es name ts,e)
def Ue:Bs->Nat->Option (T × Nat):=Xn fun _ _=>none
def KL:Nat->Bs->Nat->List T->Option (List T × Nat)
 | 0,_,_,_=>none
 | f+1,s,i,acc=>if 4<acc.length then none else match Ue s i with
  | none=>none
  | some (t,n)=>if sgn s n 41=true then some (acc++[t],n+1) else if sgn s n 44=true then KL f s (n+1) (acc++[t]) else none
def XA:Bs->Nat->Option (T × Nat):=Xn fun s i=>KL 6 s i []
theorem Ya {s:Bs} {i:Nat} {t:T} {n:Nat} (h:Ue s i=some (t,n)):i<n/\n<=s.length:=by
 unfold Ue Xn at h
 split at h
 ·cases h
 rename_i hi
 have hlt:i<s.length:=by omega
 split at h
 ·simp only [bg,cT] at h
  omega
 split at h
 ·cases h
 split at h
 ·cases h
 cases hnm:rz s i with
 | none=>rw [hnm] at h; cases h
 | some q=>
 obtain ⟨name,m⟩:=q
 rw [hnm] at h
 simp only [] at h
 have hnl:=pO hlt hnm
 split at h
 ·simp only [bg,cT] at h
  omega
 ·cases h
section
attribute [local irreducible] Run CondV aw aN
abbrev Rf (t:T) (n:Nat):Value->List Item->af->Prop:=fun v I' S'=>I'=[]/\∃ cs,v=.tuple #[.agg cs.toArray,.int .i64 (n:Int)]/\RdT S' cs t
abbrev Ww (ts:List T) (n:Nat):Value->List Item->af->Prop:=fun v I' S'=>I'=[]/\∃ u,v=.tuple #[u,.int .i64 (n:Int)]/\RdSl S' 4 (RdT S') u ts
theorem GD {A:Bs->Nat->Option (List T × Nat)} {m0:Nat} (hm0:1<=m0) {s:Bs} (hs:s.length<=100000)
  (hA:∀ (i d:Nat) ts e S,A s i=some (ts,e)->i<=s.length->m0<=d->d<=100->Tri Tryz.prog Gd [.string (st s),.int .i64 (i:Int),.int .i64 (d:Int)] [] S (Ww ts e))
  {i d n:Nat} {t:T} {S:af} (h:Xn A s i=some (t,n)) (hd:m0+1<=d) (hd2:d<=100):Tri Tryz.prog tG [.string (st s),.int .i64 (i:Int),.int .i64 (d:Int)] [] S (Rf t n):=by
 intro w hI
 unfold Xn at h
 split at h
 ·cases h
 rename_i hi
 have hlt:i<s.length:=by omega
 refine zY.2 ?_
 dsimp only[zY,dV]
 refine aV hI aY fun b6 w' hI=>?_
 have hI:Inv w [] [.blk b6 (.cells #[.int .i64 0,.int .i64 0,.string ⟨#[]⟩,.slice none 0 0] ac)] S w':=hI
 refine ⟨fun b w'=>b=.bool false/\Inv w [] [.blk b6 (.cells #[.int .i64 0,.int .i64 0,.string ⟨#[]⟩,.slice none 0 0] ac)] S w',?_,?_⟩
 ·refine eT (by omega) ?_
  refine rpG ?_
  refine eT (by omega) ?_
  refine rpG ?_
  refine fR aU ?_
  refine tO (by omega) ?_
  refine rpG ?_
  exact ⟨rfl,hI⟩
 intro t23 _ _ _ _ _ _ _ _ _ _ _ w'
 rintro ⟨rfl,hI⟩
 refine az (fun hb=>by cases hb) (fun _=>?_)
 refine ⟨fun b w'=>b=.bool (upp s i)/\Inv w [] [.blk b6 (.cells #[.int .i64 0,.int .i64 0,.string ⟨#[]⟩,.slice none 0 0] ac)] S w',?_,?_⟩
 ·refine dZ aU hlt ?_
  by_cases h65:65<=s[i].toNat
  ·refine o9 (by omega) ?_
   refine rpG ?_
   refine dZ aU hlt ?_
   refine fU ?_
   refine rpG ?_
   refine ⟨?_,hI⟩
   rw [upp,lo hlt,aM h65,dM]
   congr 1
   rw [fK]
   omega
  ·refine tO (by omega) ?_
   refine rpG ?_
   exact ⟨by rw [upp,lo hlt,aW h65,g6],hI⟩
 intro t34 _ _ _ _ _ _ _ _ _ w'
 rintro ⟨rfl,hI⟩
 split at h
 ·rename_i hup
  simp only [bg,cT] at h
  obtain ⟨rfl,rfl⟩:=h
  rw [hup]
  rw [upp,lo hlt,bw,bk,bk] at hup
  refine az (fun _=>?_) (fun hb=>by cases hb)
  refine dZ aU hlt ?_
  refine Tz (c:=(s[i].toNat:Int) - 65) (IntWalk.u8_in _ (by omega)) ?_
  refine qz gq fQ (IntWalk.i64_in _ (by omega)) ?_
  refine Run.callPure xM xW hI (o8 _ S) fun w' hI=>?_
  refine eB (a:=i) (b:=1) rfl rfl (by omega) ?_
  refine aA hI 0 rfl ad rfl rfl (by simp [Value.oneCell']) fun w' hI=>?_
  refine bC hI 0 ad rfl rfl ?_
  have eg:((s.getD i 0).toNat:Int) - 65=(s[i].toNat:Int) - 65:=by rw [wF,fT hlt]; rfl
  rw [eg]
  exact ⟨_,[],S,rfl,hI.nil,Ext.refl _ _ _,rfl,_,rfl,RdT.nil (by simp [inI]) (by unfold inI; omega) (by decide +kernel) (be _)⟩
 rename_i hup
 rw [bH.2 hup]
 refine az (fun hb=>by cases hb) (fun _=>?_)
 refine ⟨fun b w'=>b=.bool (dig s i || (sgn s i 45 && dig s (i+1)))/\Inv w [] [.blk b6 (.cells #[.int .i64 0,.int .i64 0,.string ⟨#[]⟩,.slice none 0 0] ac)] S w',?_,?_⟩
 ·refine Run.callPure im ia hI (fm s i S) fun w' hI=>?_
  cases hdi:dig s i
  ·refine rpG ?_
   refine dZ aU hlt ?_
   by_cases h45:s[i].toNat=45
   ·refine gk (by omega) ?_
    refine rpG ?_
    refine eB (a:=i) (b:=1) rfl rfl (by omega) ?_
    refine Run.callPure im ia hI (fm s (i+1) S) fun w' hI=>?_
    refine rpG ?_
    exact ⟨by rw [jh hlt,aM h45,dM,fL],hI⟩
   ·refine ew (by omega) ?_
    refine rpG ?_
    exact ⟨by rw [jh hlt,aW h45,g6,fL],hI⟩
  ·refine rpG ?_
   exact ⟨by rw [vJ],hI⟩
 intro t57 _ _ _ _ _ _ _ _ _ _ _ _ _ _ w'
 rintro ⟨rfl,hI⟩
 split at h
 ·cases h
 rename_i hdg
 have:(dig s i || (sgn s i 45 && dig s (i+1)))=false:=by
  rw [bH,ne_eq,jC,bw]; exact hdg
 rw [this]
 refine az (fun hb=>by cases hb) (fun _=>?_)
 split at h
 ·cases h
 rename_i h91
 rw [jh hlt,bk] at h91
 refine ⟨fun b w'=>b=.bool false/\Inv w [] [.blk b6 (.cells #[.int .i64 0,.int .i64 0,.string ⟨#[]⟩,.slice none 0 0] ac)] S w',?_,?_⟩
 ·refine dZ aU hlt ?_
  refine ew (by omega) ?_
  refine rpG ?_
  exact ⟨rfl,hI⟩
 intro t73 _ _ _ _ _ _ _ _ _ _ w'
 rintro ⟨rfl,hI⟩
 refine az (fun hb=>by cases hb) (fun _=>?_)
 refine Run.callPure uT uf hI (qM hlt hs S) fun w' hI=>?_
 cases hnm:rz s i with
 | none=>rw [hnm] at h; cases h
 | some q=>
 obtain ⟨name,m⟩:=q
 rw [hnm] at h
 simp only [] at h
 simp only [PS]
 have hnl:=pO hlt hnm
 refine aq (v:=.string (st name)) rfl ?_
 refine aq (v:=.int .i64 (m:Int)) rfl ?_
 refine ⟨fun b w'=>b=.bool (!sgn s m 40)/\Inv w [] [.blk b6 (.cells #[.int .i64 0,.int .i64 0,.string ⟨#[]⟩,.slice none 0 0] ac)] S w',?_,?_⟩
 ·refine eT (by omega) ?_
  refine rpG ?_
  refine Run.callPure cP cQ hI (cC s m 40 S) fun w' hI=>?_
  refine bX ?_
  refine rpG ?_
  exact ⟨rfl,hI⟩
 intro t95 _ _ _ _ _ _ _ w'
 rintro ⟨rfl,hI⟩
 split at h
 ·rename_i h40'
  simp only [bg,cT] at h
  obtain ⟨rfl,rfl⟩:=h
  rw [h40']
  refine az (fun _=>?_) (fun hb=>by cases hb)
  refine Run.call0E dv dw hI (eo (st name) (zw hnl.2.2.1) (kG S) (by simp)) fun v I' S2 w'=>?_
  rintro ⟨rfl,cs,rfl,hcs⟩ hE2 hI
  obtain ⟨kv,rfl,_,_,_,a,k,rfl,_⟩:=RdT.iff.1 hcs
  refine aA hI 0 rfl ad rfl rfl (by simp [Value.oneCell']) fun w' hI=>?_
  refine bC hI 0 ad rfl rfl ?_
  exact ⟨_,[],S2,rfl,hI.nil,hE2,rfl,_,rfl,hcs⟩
 ·rename_i h40'
  rw [Wf] at h40'
  rw [h40']
  refine az (fun hb=>by cases hb) (fun _=>?_)
  split at h
  ·cases h
  rename_i ts k hts
  simp only [bg,cT] at h
  obtain ⟨rfl,rfl⟩:=h
  have hm:=g8 h40'
  refine eB (a:=m) (b:=1) rfl rfl (by omega) ?_
  refine BX (a:=d) (b:=1) rfl rfl (by omega) (by omega) ?_
  refine Run.call0E QF QL hI (hA (m+1) (d - 1) ts k S hts (by omega) (by omega) (by omega)) fun v I' S2 w'=>?_
  rintro ⟨rfl,u,rfl,hu⟩ hE2 hI
  refine aq (v:=u) rfl ?_
  refine aq (v:=.int .i64 (k:Int)) rfl ?_
  obtain ⟨a,c,rfl,_⟩:=id hu
  refine oY ⟨_,_,_,rfl⟩ ?_
  refine aA hI 0 rfl ad rfl rfl (by simp [Value.oneCell']) fun w' hI=>?_
  refine bC hI 0 ad rfl rfl ?_
  exact ⟨_,[],S2,rfl,hI.nil,hE2,rfl,_,rfl,RdT.iff.2 ⟨_,rfl,by simp [inI,T.kind,Es],by simp [inI,T.n,Es],zw hnl.2.2.1,hu⟩⟩
theorem P1 {s:Bs} (hs:s.length<=100000) {i d n:Nat} {t:T} {S:af} (h:Ue s i=some (t,n)) (hd:2<=d) (hd2:d<=100):Tri Tryz.prog tG [.string (st s),.int .i64 (i:Int),.int .i64 (d:Int)] [] S (Rf t n):=
 GD (m0:=1) (by omega) hs (fun _ _ _ _ _ h=>by cases h) h hd hd2
theorem MZ {f:Nat} {s:Bs} (hs:s.length<=100000) {i d n:Nat} {ts:List T} {S:af} (h:KL f s i []=some (ts,n)) (hi:i<=s.length) (hd:2<=d) (hd2:d<=100) :
  Tri Tryz.prog Gd [.string (st s),.int .i64 (i:Int),.int .i64 (d:Int)] [] S (Ww ts n):=by
 intro w hI
 refine Dk.2 ?_
 dsimp only[Dk,dV]
 refine eQ hI bj fun v0 w' hI=>?_
 refine ⟨fun a b w'=>∃ (f' i':Nat) (acc:List T) (S1:af) (css:List (List Value)),a=.int .i64 (i':Int)/\i'<=s.length/\KL f' s i' acc=some (ts,n)/\Ext w.heap.size [] S S1/\Rows 4 (RdT S1) css acc/\Inv w [] [aJ b ac 4 css] S1 w',
  fun a _ _=>s.length+1 - (intOf a).toNat,⟨f,i,[],S,[],rfl,hi,h,Ext.refl _ _ _,Rows.nil _ _,hI⟩,?_⟩
 intro t1 _ _ _ _ _ _ _ _ _ _ _ _ _ _ t8 _ _ _ _ _ _ _ _ _ _ _ _ _ _ _ _ w'
 rintro ⟨f',i',acc,S1,css,rfl,hi2,hT,hE,hR,hI⟩
 have hcl:=hR.hc
 cases f' with
 | zero=>simp [KL] at hT
 | succ g=>
 rw [KL] at hT
 split at hT
 ·cases hT
 rename_i hacc
 split at hT
 ·cases hT
 rename_i t n' hr
 have hle:=Ya hr
 obtain ⟨Sx,hEx,hrdx,_⟩:=Inv.lendExt (A:=[]) hI
 refine aC (RowRd.rows (hR.monoR fun _ _ h=>RdT.mono hEx.1 h) hrdx) ae ?_
 refine Fu (by omega) ?_
 refine az (fun _=>?_) (fun hb=>by cases hb)
 refine Run.call0E z1 zM hI (P1 hs hr hd hd2) fun v I' S2 w'=>?_
 rintro ⟨rfl,cs,rfl,hcs⟩ hE2 hI
 have hR2:=hR.monoR fun _ _ h=>RdT.mono hE2.1 h
 obtain ⟨kv,rfl,_,_,_,a,m,rfl,_⟩:=RdT.iff.1 hcs
 refine aq (v:=.agg _) rfl ?_
 refine aq (v:=.int .i64 (n':Int)) rfl ?_
 refine aV hI aY fun b13 w' hI=>?_
 refine aA hI 1 rfl ad rfl rfl (by simp [Value.oneCell']) fun w' hI=>?_
 refine ar hI 1 ad rfl rfl ?_
 refine dD (css:=css) hI 0 _ bj (by omega) (by omega) rfl hcs.length hcs.one (by omega) (by omega) fun v' w' hI=>?_
 have hI:Inv w [] [aJ v' ac 4 (css++[[.int .i64 t.kind,.int .i64 t.n,.string t.name,.slice a t.kids.length m]])] S2 w':=hI.pick [true,false]
 have hR3:=hR2.snoc hcs hcs.length
 refine Run.callPure cP cQ hI (cC s n' 41 S2) fun w' hI=>?_
 refine az (fun hb=>?_) (fun hb=>?_)
 ·rw [ai hb] at hT
  simp only [bg,cT] at hT
  obtain ⟨rfl,rfl⟩:=hT
  refine eB (a:=n') (b:=1) rfl rfl (by omega) ?_
  obtain ⟨S3,hE3,hrd,hI⟩:=Inv.lendExt (A:=[]) hI
  have hrs:=RowRd.rows (hR3.monoR fun _ _ h=>RdT.mono hE3.1 h) hrd
  exact ⟨_,[],S3,rfl,hI,(hE.trans hE2).trans hE3,rfl,_,rfl,hrs⟩
 ·rw [ah (by rw [hb]; decide)] at hT
  split at hT
  ·rename_i h44
   refine Run.callPure cP cQ hI (cC s n' 44 S2) fun w' hI=>?_
   refine bX ?_
   rw [h44]
   refine az (fun hb=>by cases hb) (fun _=>?_)
   have:=g8 h44
   refine eB (a:=n') (b:=1) rfl rfl (by omega) ?_
   refine ⟨⟨g,n'+1,acc++[t],S2,css++[[.int .i64 t.kind,.int .i64 t.n,.string t.name,.slice a t.kids.length m]],rfl,by omega,hT,hE.trans hE2,hR3,hI⟩,?_⟩
   simp only [intOf,cV]
   omega
  ·cases hT
theorem Ol {s:Bs} (hs:s.length<=100000) {i n:Nat} {t:T} {S:af} (h:XA s i=some (t,n)):Tri Tryz.prog tG [.string (st s),.int .i64 (i:Int),.int .i64 ((30:Nat):Int)] [] S (Rf t n):=
 GD (m0:=2) (by omega) hs (fun _ _ _ _ _ h hi hd hd2=>MZ hs h hi (by omega) hd2) h (by omega) (by omega)
end
end
section
open Go Go.RowKit
section
variable {w w0:World} {X:List Nat} {L A:List Item} {S:af} {K:Value->World->Prop}
attribute [local irreducible] Run CondV aw aN
end
end
section
open Go Go.RowKit
section
variable {w w0:World} {X:List Nat} {L A:List Item} {S:af} {K:Value->World->Prop}
attribute [local irreducible] Run CondV aw aN
end
end
section
open Go Go.RowKit
section
variable {w w0:World} {X:List Nat} {L:List Item} {S:af} {K:Value->World->Prop}
attribute [local irreducible] Run CondV aw aN
theorem Run.pubTreeB {f:FuncId} {fn:Func} {args:List Value} {ys:List T} {b:Bool} (hf:Tryz.prog.funcs[f]?=some fn) (hn:(fn.name == "runtime.NumGoroutine" || fn.body.isNone)=false) (hI:Inv w0 X L S w)
  (hc:Tri Tryz.prog f args [] S (BP ys b)) (hk:∀ u S' w',Sle S S'->RdSl S' 4 (RdT S') u ys->Inv w0 X L S' w'->K (.tuple #[u,.bool b]) w'):Run Tryz.prog (eO (.func (.func f) #[] #[]) args) w K:=by
 refine Run.call0 hf hn hI hc fun v' I' S' w'=>?_
 rintro ⟨u,M,rfl,rfl,hT⟩ hle hI
 obtain ⟨S1,hle1,hins,hI,_⟩:=Inv.lendAll M hI
 exact hk _ _ _ (hle.trans hle1) (hT.rd hins fun _ _ _ hi h=>h.rd hi) hI
end
section
attribute [local irreducible] Run CondV aw aN
end
end
section
open Go Go.RowKit
def yG:List T->Bool->Bs->Option Bs
 | [],_,out=>some out
 | k::ks,b,out=>if yS k=true then none else match Ud k with
  | none=>none
  | some x=>yG ks false (out++(if b=true then [40] else [44])++x)
def Qb (t:T):Option Bs:=if t.kind=3/\yS t=false then match yG t.kids true (bs t.name) with
  | none=>none
  | some o=>some (if 0<t.kids.length then o++[41] else o)
 else none
theorem KV:∀ (ks:List T) (b:Bool) (out x:Bs),yG ks b out=some x->out.length<=x.length
 | [],_,out,x,h=>by simp only [yG,bg] at h; subst h; exact aR _
 | k::ks,b,out,x,h=>by
  rw [yG] at h
  split at h
  ·cases h
  split at h
  ·cases h
  have:=KV ks _ _ _ h
  simp only [bx] at this
  omega
def okG (s:ByteArray):Bool:=match XA (bs s) 0 with
 | some (t,n)=>decide (n=s.size) && (decide (Qb t=some (bs s)) && (cn t && (decide (0<s.size) && (decide (s.size<=1000) && decide (wT t<=100)))))
 | none=>false
theorem Xg {s:ByteArray} (h:okG s=true):∃ t,XA (bs s) 0=some (t,s.size)/\Qb t=some (bs s)/\cn t=true/\0<s.size/\s.size<=1000/\wT t<=100:=by
 unfold okG at h
 split at h
 ·rename_i t n hq
  simp only [bw,bk] at h
  obtain ⟨rfl,h2,h3,h4,h5,h6⟩:=h
  exact ⟨t,hq,h2,h3,h4,h5,h6⟩
 ·cases h
section
variable {br:Nat} {sl:Value} {ys:List Nat} {S:af}
attribute [local irreducible] Run CondV aw aN
theorem ST {t:T} {cs:List Value} {x:Bs} (h:RdT S cs t) (hx:Qb t=some x) (hl:x.length<=100000):Pure Tryz.prog F4 [.agg cs.toArray] S (.string (st x)):=by
 intro w hI
 have h0:=h
 obtain ⟨kv,rfl,_,_,_,hk⟩:=RdT.iff.1 h
 obtain ⟨ka,kc,rfl,_⟩:=id hk
 unfold Qb at hx
 split at hx
 case isFalse=>cases hx
 rename_i hc
 obtain ⟨h3,hp⟩:=hc
 cases hks:yG t.kids true (bs t.name) with
 | none=>rw [hks] at hx; cases hx
 | some o=>
 rw [hks] at hx
 simp only [bg] at hx
 have hol:o.length<=x.length:=by
  rw [<- hx]
  split
  ·rw [bx]; omega
  ·exact aR _
 refine og.2 ?_
 dsimp only[og,aL]
 refine bt hI fun b1 w' hI=>?_
 refine ag hI 0 rfl aP aH rfl ?_
 refine ew (by omega) ?_
 refine az (fun hb=>by cases hb) (fun _=>?_)
 refine ew (by omega) ?_
 refine az (fun hb=>by cases hb) (fun _=>?_)
 refine ar hI 0 ad rfl rfl ?_
 refine Run.callPure nN nH hI (jK h0) fun w' hI=>?_
 rw [hp]
 refine az (fun hb=>by cases hb) (fun _=>?_)
 refine ag hI 0 rfl bb aQ rfl ?_
 refine ⟨fun a b w'=>∃ (j:Nat) (out:Bs),j<=t.kids.length/\a=.int .i64 (j:Int)/\b=.string (st out)/\yG (t.kids.drop j) (decide (j=0)) out=some o/\Inv w [] [.blk b1 (.cells #[.int .i64 t.kind,.int .i64 t.n,.string t.name,.slice ka t.kids.length kc] ac)] S w',
  fun a _ _=>t.kids.length - (intOf a).toNat,⟨0,bs t.name,be _,rfl,rfl,hks,hI⟩,?_⟩
 intro t4 _ _ _ _ _ _ _ _ _ _ _ _ t3 _ _ _ _ _ _ _ _ _ w'
 rintro ⟨j,out,hj,rfl,rfl,hbf,hI⟩
 refine ag hI 0 rfl al aj rfl ?_
 refine eP ae ?_
 refine bF ?_
 have hkl:=hk.le
 simp only [maxLen] at hkl
 refine aI (fun hji=>?_) (fun hji=>?_)
 ·have hj':j<t.kids.length:=by omega
  rw [cZ hj',yG] at hbf
  split at hbf
  ·cases hbf
  rename_i hpk
  split at hbf
  ·cases hbf
  rename_i u hu
  have hlen:=KV _ _ _ _ hbf
  simp only [bx] at hlen
  obtain ⟨pre,hpre⟩:∃ pre:Bs,pre=if decide (j=0)=true then [40] else [44]:=⟨_,rfl⟩
  rw [<- hpre] at hbf hlen
  refine ⟨fun b w'=>b=.string (st (out++pre))/\Inv w [] [.blk b1 (.cells #[.int .i64 t.kind,.int .i64 t.n,.string t.name,.slice ka t.kids.length kc] ac)] S w',?_,?_⟩
  ·refine bo ?_
   refine aI (fun h0=>?_) (fun h0=>?_)
   ·rw [ai (aM (by omega))] at hpre
    subst hpre
    refine du (b:=[40]) (by omega) ?_
    exact ⟨rfl,hI⟩
   ·rw [ah (by rw [bk]; omega)] at hpre
    subst hpre
    refine du (b:=[44]) (by omega) ?_
    exact ⟨rfl,hI⟩
  intro _ _ t3 _ _ _ _ w'
  rintro ⟨rfl,hI⟩
  refine ag hI 0 rfl al aj rfl ?_
  refine cE hI hk ae ad hj' (fun _ _=>RdT.length) fun es hes=>?_
  refine Run.callPure tQ uw hI (ye hes (bH.2 hpk) hu) fun w' hI=>?_
  refine du (by rw [bx]; omega) ?_
  refine bq (by omega) ?_
  refine ⟨⟨j+1,out++pre++u,hj',rfl,rfl,?_,hI⟩,by simp only [intOf,cV]; omega⟩
  rw [aW (by omega)]
  exact hbf
 ·have:j=t.kids.length:=by omega
  subst this
  rw [dL,yG] at hbf
  simp only [bg] at hbf
  subst hbf
  refine ⟨fun b w'=>b=.string (st x)/\Inv w [] [.blk b1 (.cells #[.int .i64 t.kind,.int .i64 t.n,.string t.name,.slice ka t.kids.length kc] ac)] S w',?_,?_⟩
  ·refine ag hI 0 rfl al aj rfl ?_
   refine eP ae ?_
   refine dC ?_
   refine aI (fun h0=>?_) (fun h0=>?_)
   ·rw [ai (by omega)] at hx
    refine du (b:=[41]) (by simp only [bu,bQ]; omega) ?_
    exact ⟨by rw [<- hx],hI⟩
   ·rw [ah (by omega)] at hx
    exact ⟨by rw [<- hx],hI⟩
  intro t3 _ _ _ _ _ _ w'
  rintro ⟨rfl,hI⟩
  exact done hI rfl
theorem BW {t:T} {cs:List Value} {x:Bs} (h:RdT S cs t) (hv:cn t=true) (hw:wT t<=100000) (hx:Qb t=some x) (hl:x.length<=100000):Pure Tryz.prog FD [.agg cs.toArray] S (.string (st x)):=by
 intro w hI
 have hl4:=h.length
 refine rQ.2 ?_
 dsimp only[rQ,aL]
 refine bt hI fun b1 w' hI=>?_
 have hI:Inv w [] [.blk b1 (.cells cs.toArray ac)] S w':=hI
 refine ar hI 0 ad rfl (by simpa using hl4) ?_
 refine Run.callPure mW mC hI (ki h (Nr (by omega))) fun w' hI=>?_
 rw [hv]
 refine bX ?_
 refine az (fun hb=>by cases hb) (fun _=>?_)
 refine ar hI 0 ad rfl (by simpa using hl4) ?_
 refine Run.callPure tQ uw hI (ST h hx hl) fun w' hI=>?_
 exact done hI rfl
theorem ES {s:ByteArray} (h:okG s=true):Tri Tryz.prog IL [.string s] [] S fun v I' S'=>I'=[]/\∃ cs t,v=.tuple #[.agg cs.toArray,.bool true]/\RdT S' cs t/\wT t<=100:=by
 obtain ⟨t,hg,hx,hv,h0,hs,hw⟩:=Xg h
 have hbs:(bs s).length=s.size:=(oh (bs s)).symm
 intro w hI
 refine uc.2 ?_
 dsimp only[uc,aL]
 refine aV hI aY fun b2 w' hI=>?_
 refine Run.call0E z1 zM hI (Ol (s:=bs s) (i:=0) (by omega) hg) fun v I' S1 w'=>?_
 rintro ⟨rfl,cs,rfl,hcs⟩ hE hI
 have h0c:=hcs
 obtain ⟨kv,rfl,_,_,_,a,m,rfl,_⟩:=RdT.iff.1 hcs
 refine aq (v:=.agg _) rfl ?_
 refine aq (v:=.int .i64 (s.size:Int)) rfl ?_
 refine aV hI aY fun b4 w' hI=>?_
 refine aA hI 1 rfl ad rfl rfl (by simp [Value.oneCell']) fun w' hI=>?_
 have hI:Inv w [] [.blk b2 (.cells #[.int .i64 0,.int .i64 0,.string ⟨#[]⟩,.slice none 0 0] ac),.blk b4 (.cells #[.int .i64 t.kind,.int .i64 t.n,.string t.name,.slice a t.kids.length m] ac)] S1 w':=hI
 refine ⟨fun b w'=>b=.bool false/\Inv w [] [.blk b2 (.cells #[.int .i64 0,.int .i64 0,.string ⟨#[]⟩,.slice none 0 0] ac),.blk b4 (.cells #[.int .i64 t.kind,.int .i64 t.n,.string t.name,.slice a t.kids.length m] ac)] S1 w',?_,?_⟩
 ·refine bO ?_
  rw [aW (fun e=>by rw [e] at h0; cases h0)]
  refine rpG ?_
  refine lj aU ?_
  refine ei ?_
  rw [aM rfl]
  refine rpG ?_
  refine ar hI 1 ad rfl rfl ?_
  refine Run.callPure Ff EH hI (BW h0c hv (by omega) hx (by omega)) fun w' hI=>?_
  refine uD ?_
  rw [acX,aM rfl]
  refine rpG ?_
  exact ⟨rfl,hI⟩
 intro t24 _ _ _ _ _ _ _ _ _ _ _ _ _ w'
 rintro ⟨rfl,hI⟩
 refine az (fun hb=>by cases hb) (fun _=>?_)
 refine ar hI 1 ad rfl rfl ?_
 refine aA hI 0 rfl ad rfl rfl (by simp [Value.oneCell']) fun w' hI=>?_
 refine bC hI 0 ad rfl rfl ?_
 exact ⟨_,[],S1,rfl,hI.nil,hE,rfl,_,t,rfl,h0c,hw⟩
theorem HM (S:af):Tri Tryz.prog MQ [] [] S fun v I' S'=>I'=[]/\∃ l,RdSl S' 1 wJ v l/\l.length=7/\l.all okG=true:=by
 intro w hI
 refine wl.2 ?_
 dsimp only[wl,oF]
 refine qE hI (by kernel_rfl) rfl (by omega) fun v S1 w' hE1 hv hI=>?_
 exact ⟨_,[],S1,rfl,hI,hE1,rfl,_,hv,rfl,by decide +kernel⟩
theorem JB {p:Nat} (hrd:RdSl S 1 lr sl ys) (hp:p<=10000000):Tri Tryz.prog OA [rdP br] [rdI br sl p] S fun v I' S'=>I'=[rdI br sl (p+1)]/\∃ cs t,v=.agg cs.toArray/\RdT S' cs t/\wT t<=100:=by
 intro w hI
 refine Ao.2 ?_
 dsimp only[Ao,aL]
 refine aV hI aY fun b2 w' hI=>?_
 have hI:Inv w [br] [.blk b2 (.cells #[.int .i64 0,.int .i64 0,.string ⟨#[]⟩,.slice none 0 0] ac),rdI br sl p] S w':=hI.last 0 rfl
 refine Run.call0E Iw Jq hI (HM S) fun v' I' S1 w'=>?_
 rintro ⟨rfl,l,hl,hl7,hok⟩ hE1 hI
 have hI:Inv w [br] [.blk b2 (.cells #[.int .i64 0,.int .i64 0,.string ⟨#[]⟩,.slice none 0 0] ac),rdI br sl p] S1 w':=hI
 refine aC hl cH ?_
 refine Run.callL cI cJ hI (ef (n:=l.length) (hrd.monoU hE1.1) (by omega) (by omega)) rfl fun v' I' S1 w'=>?_
 rintro ⟨rfl,rfl,k,hk,rfl⟩ _ hI
 have hI:Inv w [br] [.blk b2 (.cells #[.int .i64 0,.int .i64 0,.string ⟨#[]⟩,.slice none 0 0] ac),rdI br sl (p+1)] S1 w':=hI
 refine io hI hl cH aQ hk (fun cs hcs=>hcs) ?_
 rw [dE] at hok
 refine Run.call0E He Hn hI (ES (hok _ (bA hk))) fun v I' S2 w'=>?_
 rintro ⟨rfl,cs,t,rfl,hcs,hw⟩ hE2 hI
 have h0c:=hcs
 obtain ⟨kv,rfl,_,_,_,a,m,rfl,_⟩:=RdT.iff.1 hcs
 refine aq (v:=.agg _) rfl ?_
 refine aq (v:=.bool true) rfl ?_
 refine aV hI aY fun b4 w' hI=>?_
 refine aA hI 2 rfl ad rfl rfl (by simp [Value.oneCell']) fun w' hI=>?_
 refine ar hI 2 ad rfl rfl ?_
 refine aA hI 0 rfl ad rfl rfl (by simp [Value.oneCell']) fun w' hI=>?_
 refine bC hI 0 ad rfl rfl ?_
 exact ⟨_,_,S2,rfl,hI.pick [false,true,false],hE1.trans hE2,rfl,_,t,rfl,h0c,hw⟩
theorem Wt (p:List C) (r:Int):Fs (bU p r).1:=by
 unfold bU
 split
 ·rename_i h1
  rw [bw] at h1
  split
  ·exact (Hq (iG h1.1) (gT r) [] 0 Fs.nil (by simp)).1
  ·exact Fs.nil
 ·exact Fs.nil
theorem wU {v:Value} (h:RdSl S 1 lr v ys):Tri Tryz.prog Cq [v] [] S fun v' I' S'=>I'=[]/\∃ u fs cs g,v'=.tuple #[u,.agg cs.toArray]/\RdSl S' 4 (RdT S') u fs/\RdT S' cs g/\wT g<=300/\Fs fs/\fs.length<=60/\wL fs<=2040:=by
 intro w hI
 refine nG.2 ?_
 dsimp only[nG,aL]
 refine aV hI aY fun b3 w' hI=>?_
 refine Run.call0E zr y4 hI (FB h) fun v1 I' S1 w'=>?_
 rintro ⟨rfl,br,sl,ys',rfl,rfl,hrd⟩ _ hI
 have hI:Inv w [] [.blk b3 (.cells #[.int .i64 0,.int .i64 0,.string ⟨#[]⟩,.slice none 0 0] ac),rdI br sl 0] S1 w':=hI
 refine Run.callL rl se hI (qg (p:=0) hrd (by omega)) rfl fun v2 I' S2 w'=>?_
 rintro ⟨p1,hp1,rfl,ps,hps,hlp,h0⟩ hE2 hI
 have hI:Inv w [] [.blk b3 (.cells #[.int .i64 0,.int .i64 0,.string ⟨#[]⟩,.slice none 0 0] ac),rdI br sl p1] S2 w':=hI
 have hwp:wP ps<=1048576:=by have:=hlp.le; omega
 refine Run.call0E rB rn hI (mI hps hwp) fun v3 I' S3 w'=>?_
 rintro ⟨u,M,rfl,rfl,hT⟩ hE3 hI
 obtain ⟨S4,hI,hE4,hins⟩:=hI.pubExt
 have hu:=hT.rd hins fun _ _ _ hi h=>h.rd hi
 have hI:Inv w [] [.blk b3 (.cells #[.int .i64 0,.int .i64 0,.string ⟨#[]⟩,.slice none 0 0] ac),rdI br sl p1] S4 w':=hI
 have hE4:=hE2.trans (hE3.trans hE4)
 refine aq (v:=u) rfl ?_
 refine aq (v:=.bool (bU ps 61).2) rfl ?_
 refine Run.callL My Mi hI (JB (p:=p1) (hrd.monoU hE4.1) (by omega)) rfl fun v4 I' S5 w'=>?_
 rintro ⟨rfl,cs,t,rfl,hcs,hwt⟩ hE5 hI
 have hI:Inv w [] [.blk b3 (.cells #[.int .i64 0,.int .i64 0,.string ⟨#[]⟩,.slice none 0 0] ac),rdI br sl (p1+1)] S5 w':=hI
 have hE5':=hE4.trans hE5
 refine Run.callL oW oU hI (mj (p:=p1+1) (hrd.monoU hE5'.1) hcs (by omega) (by omega)) rfl fun v5 I' S6 w'=>?_
 rintro ⟨p2,hp2,rfl,ds,g,rfl,hds,hwg⟩ hE6 hI
 have hI:Inv w [] [.blk b3 (.cells #[.int .i64 0,.int .i64 0,.string ⟨#[]⟩,.slice none 0 0] ac),rdI br sl p2] S6 w':=hI
 have h0d:=hds
 obtain ⟨kv,rfl,_,_,_,a,m,rfl,_⟩:=RdT.iff.1 hds
 refine aA hI 0 rfl ad rfl rfl (by simp [Value.oneCell']) fun w' hI=>?_
 refine bC hI 0 ad rfl rfl ?_
 have hsw:=GM (fun h=>iG h) (p:=ps) 61
 exact ⟨_,[],S6,rfl,hI.nil,hE5'.trans hE6,rfl,u,_,_,g,rfl,hu.monoT (hE5.trans hE6).1,h0d,by omega,Wt ps 61,hsw.1,hsw.2⟩
end
end
section
open Go Go.RowKit

def jy (l:List T) (g:T):List T:=l.filter fun t=>Aq t g
theorem WH (l:List T) (g:T):(jy l g).length+wL (jy l g)<=l.length+wL l:=by
 unfold jy
 induction l with
 | nil=>simp
 | cons t l ih=>
  rw [lK]
  split
  ·simp only [bu,wL]; omega
  ·simp only [bu,wL]; omega
section
attribute [local irreducible] Run CondV aw aN
theorem B5 {x g:T} {S:af} {ds cs:List Value} {b3:Nat} (hx:RdT S ds x) (hg:RdT S cs g) (hb:S b3=some (.cells cs.toArray ac)) :
  Pure Tryz.prog Il [.agg ds.toArray,.pointer (some ⟨b3,0,none⟩)] S (.bool (!Aq x g)):=by
 intro w hI
 have hlx:=hx.length
 have hlg:=hg.length
 refine r7.2 ?_
 dsimp only[r7,aZ]
 refine bt hI fun b2 w' hI=>?_
 refine ar hI 0 ad rfl (by simpa [Value.cells] using hlx) ?_
 refine bK (cs:=cs) ad hlg (fun j v hj=>by rw [hI.cellS hb,bR]; simpa using hj) ?_
 refine Run.callPure Fc E0 hI (xk hx hg) fun w' hI=>?_
 refine bX ?_
 exact done hI rfl
theorem BO {l:List T} {g:T} {S:af} {v:Value} {cs:List Value} (h:RdSl S 4 (RdT S) v l) (hg:RdT S cs g) (hw:l.length+wL l<=1048576) :
  Tri Tryz.prog Nt [v,.agg cs.toArray] [] S (PC 4 TrT S (jy l g)):=by
 intro w hI
 have hfw:=WH l g
 refine we.2 ?_
 dsimp only[we,aZ]
 refine bt hI fun b3 w' hI=>?_
 obtain ⟨hI,hle⟩:=Inv.publishLast (L:=[]) hI
 have hb:jj S b3 (.cells (Value.agg cs.toArray).cells ac) b3=some (.cells cs.toArray ac):=by simp [jj,Value.cells]
 generalize jj S b3 (.cells (Value.agg cs.toArray).cells ac)=S1 at hI hle hb
 refine Run.call0 sa rX hI (p6 (h.monoT hle) (by omega)) fun v1 I' S' w'=>?_
 rintro ⟨rfl,css,rfl,hR⟩ _ hI
 refine gf ?_
 refine Run.call (A:=[]) tW tS hI (sq (p:=fun x=>!Aq x g) EV Et (cap:=[.pointer (some ⟨b3,0,none⟩)]) (fun S2 hle2 x _ ds hds=>B5 hds (hg.mono (hle.trans hle2)) (hle2 _ _ hb)) hR (by omega)) fun v2 I' S2 w'=>?_
 rintro ⟨rfl,hr⟩ hle2 hI
 have hfe:(l.filter fun x=>!(!Aq x g))=jy l g:=by simp [jy]
 rw [hfe] at hr
 refine Run.call0 jG jm hI (kI hr (by omega)) fun v3 I' S' w'=>?_
 rintro ⟨rfl,L,rfl,hT⟩ _ hI
 exact ⟨_,_,_,rfl,hI.less (hle.trans hle2),Ext.refl _ _ _,rfl,L,rfl,hT⟩
end
end
section
open Go Go.RowKit
section
variable {w0 w:World} {X:List Nat} {L:List Item} {S:af} {K:Value->World->Prop} {ys:List Nat} {v:Value}
attribute [local irreducible] Run CondV aw aN
theorem Light.fit {q:List C} (h:Light 30 900 q):q.length+wP q<=1048576:=by
 have:=h.le; omega
end
end
section
open Go Go.RowKit
theorem RunI.len {p:List C} {vars:List Int} {most n:Nat} {s:SI} {out:List (List T)} {r:List (List T) × Int} (h:RunI p vars most n s out r):out.length<=most->r.1.length<=most:=by
 induction h with
 | fuel=>exact fun h=>h
 | stop=>exact fun h=>h
 | more=>exact fun h=>h
 | large=>exact fun h=>h
 | step _ _ _ ih=>exact ih
 | last _ hm _ _=>
  intro h
  rw [bx,bu,bQ]
  omega
 | next _ hm _ _ _ ih=>
  intro h
  refine ih ?_
  rw [bx,bu,bQ]
  omega
theorem SolR.len {p:List C} {q:List T} {most fuel:Nat} {r:List (List T) × Int} (h:SolR p q most fuel r):r.1.length<=most:=by
 rcases h with ⟨_,h⟩|⟨_,rfl⟩
 ·exact h.len (be _)
 ·exact be _
section
variable {S:af} {ys:List Nat} {v:Value}
attribute [local irreducible] Run CondV aw aN
set_option maxHeartbeats 1000000 in
theorem HX {v2:Value} {zs:List Nat} (h:RdSl S 1 lr v ys) (h2:RdSl S 1 lr v2 zs):Pure Tryz.prog cO [v,v2] S (.bool true):=by
 intro w hI
 have hzl:=h2.le
 simp only [maxLen] at hzl
 refine lL.2 ?_
 dsimp only[lL,aZ]
 refine ⟨fun q w'=>∃ b,q=.bool b/\Inv w [] [] S w',?_,?_⟩
 ·refine aC h ec ?_
  refine dC ?_
  cases hd:decide ((ys.length:Int) > 1048576)
  ·refine rpG ?_
   refine aC h2 ec ?_
   refine dC ?_
   refine rpG ?_
   exact ⟨_,rfl,hI⟩
  ·refine rpG ?_
   exact ⟨_,rfl,hI⟩
 intro q _ _ _ _ _ _ _ w'
 rintro ⟨b,rfl,hI⟩
 refine az (fun _=>done hI rfl) (fun _=>?_)
 refine Run.call0E vp vG hI (uG h) fun pu I' S1 w'=>?_
 rintro ⟨rfl,p,hp,hlp⟩ hE1 hI
 have hI:Inv w [] [] S1 w':=hI
 have hwp:wP p<=1048576:=by have:=hlp.le; omega
 refine Run.pubTreeB ER Ev hI (xE hp hwp) fun a S2 w' hle2 ha hI=>?_
 have hp:=hp.monoC hle2
 refine aq (v:=a) rfl ?_
 refine aq (v:=.bool (bU p 61).2) rfl ?_
 refine Run.pubTreeB rB rn hI (mI hp hwp) fun b S3 w' hle3 hb hI=>?_
 have hp:=hp.monoC hle3
 have ha:=ha.monoT hle3
 have hle13:=hE1.1.trans (hle2.trans hle3)
 refine aq (v:=b) rfl ?_
 refine aq (v:=.bool (bU p 61).2) rfl ?_
 refine Run.call0E ze zv hI (wU (h2.mono hle13 fun _ _ h=>h)) fun v1 I' S4 w'=>?_
 rintro ⟨rfl,fu,fs,cs,g,rfl,_,hcs,hwg,_,_,_⟩ hE4 hI
 have hp:=hp.monoC hE4.1
 have ha:=ha.monoT hE4.1
 have hb:=hb.monoT hE4.1
 have hle14:=hle13.trans hE4.1
 have hg:=hcs
 obtain ⟨kv,rfl,_,_,_,hks⟩:=RdT.iff.1 hcs
 refine aq (v:=fu) rfl ?_
 refine aq (v:=.agg [.int .i64 g.kind,.int .i64 g.n,.string g.name,kv].toArray) rfl ?_
 refine aV hI aY fun b11 w' hI=>?_
 refine aA hI 0 rfl ad rfl rfl (by simpa using hg.one) fun w' hI=>?_
 have hI:Inv w [] [.blk b11 (.cells #[.int .i64 g.kind,.int .i64 g.n,.string g.name,kv] ac)] S4 w':=hI
 refine ⟨fun t w'=>t=.bool (!(bU p 61).2 || (!eX g || (decide (g.name=⟨#[33]⟩) || fe g.name g.kids.length)))/\Inv w [] [.blk b11 (.cells #[.int .i64 g.kind,.int .i64 g.n,.string g.name,kv] ac)] S4 w',?_,?_⟩
 ·refine WI Fo ?_
  rw [TF]
  refine rpG ?_
  refine Run.callPure zL AG hI (wE ha hb) fun w' hI=>?_
  refine bX ?_
  refine rpG ?_
  refine bX ?_
  cases hok:(bU p 61).2
  ·refine rpG ?_
   exact ⟨rfl,hI⟩
  refine rpG ?_
  refine ar hI 0 ad rfl rfl ?_
  refine Run.callPure s0 tL hI (px hg) fun w' hI=>?_
  refine bX ?_
  cases hgv:eX g
  ·refine rpG ?_
   exact ⟨rfl,hI⟩
  refine rpG ?_
  refine ag hI 0 rfl bb aQ rfl ?_
  refine bO ?_
  cases hnm:decide (g.name=⟨#[33]⟩)
  ·refine rpG ?_
   refine ag hI 0 rfl bb aQ rfl ?_
   refine ag hI 0 rfl al aj rfl ?_
   refine aC hks ae ?_
   refine Run.callPure sN sD hI (pY g.name _ S4) fun w' hI=>?_
   refine rpG ?_
   exact ⟨rfl,hI⟩
  ·refine rpG ?_
   exact ⟨rfl,hI⟩
 intro q _ _ _ _ _ _ _ _ _ _ _ _ _ _ _ _ _ _ _ _ _ _ _ _ _ _ _ _ _ _ w'
 rintro ⟨rfl,hI⟩
 refine az (fun _=>?_) (fun hbb=>?_)
 ·refine abl Fo ?_
  rw [TF]
  refine rpG ?_
  refine Run.callPure zL AG hI (wE ha hb) fun w' hI=>?_
  refine rpG ?_
  exact jz hI hle14 rfl
 simp only [Qw,uk,ji] at hbb
 obtain ⟨hok,hgv,hnm,hbn⟩:=hbb
 have hcut:fw g=false:=by
  rw [fw,aW hnm,g6,lP]
 have hblt:cz g=false:=by rw [cz,hbn,lP]
 obtain ⟨r,hr⟩:=SolR.ex p [g] 20 200
 obtain ⟨hans,hall⟩:=Jc hok hgv hcut hblt hr
 have hsw:=GM (fun h=>iG h) (p:=p) 61
 have hF:=(RK hok).1
 refine ar hI 0 ad rfl rfl ?_
 refine aaa hI hg fun qv S5 w' hE5 hq hI=>?_
 refine Run.call0E RZ Tn hI (OH (most:=20) (fuel:=200) (hp.monoC hE5.1) hq (by omega) (by omega) hr) fun t I' S6 w'=>?_
 rintro ⟨rfl,v1,rfl,hv1⟩ hE6 hI
 have hE56:=hE5.trans hE6
 have ha:=ha.monoT hE56.1
 have hg:=hg.mono hE56.1
 have hle16:=hle14.trans hE56.1
 have hI:Inv w [] [.blk b11 (.cells #[.int .i64 g.kind,.int .i64 g.n,.string g.name,kv] ac)] S6 w':=by simpa using hI
 have hvl:=hr.len
 obtain ⟨va,vc,rfl,_⟩:=id hv1
 refine aq (v:=.slice va r.1.length vc) rfl ?_
 refine aq (v:=.int .i64 r.2) rfl ?_
 refine eQ hI bj fun v0 w' hI=>?_
 refine ⟨fun t15 t14 w'=>∃ (k:Nat) (css:List (List Value)) (S7:af),k<=r.1.length/\t15=.int .i64 (k:Int)/\Sle S6 S7/\Rows 4 (RdT S7) css ((r.1.take k).map (ni g))/\
   Inv w [] [.blk b11 (.cells #[.int .i64 g.kind,.int .i64 g.n,.string g.name,kv] ac),aJ t14 ac 4 css] S7 w',
  fun i _ _=>r.1.length - (intOf i).toNat,⟨0,[],S6,be _,rfl,Sle.refl _,Rows.nil _ _,hI⟩,?_⟩
 clear hI
 intro t15 _ _ t14 _ _ _ _ _ _ _ _ _ _ _ _ _ _ _ _ _ t17 t16 t107 t106 t98 t105 t104 t103 t102 t101 t100 t99 _ _ _ _ w'
 rintro ⟨k,css,S7,hk,rfl,hle7,hR,hI⟩
 have hcl:=hR.hc
 rw [jH,dK] at hcl
 refine eP iY ?_
 refine bF ?_
 refine aI (fun hki=>?_) (fun hki=>?_)
 ·have hk':k<r.1.length:=by omega
  obtain ⟨pb,po,pc2,pc,pE,pfz,hpve,hpS,hpR⟩:=hv1.at_ hk'
  have hpa:va=some ⟨pb,po,none⟩:=by
   simp only [Value.slice.injEq] at hpve
   exact hpve.1
  have hpS:=hle7 _ _ hpS
  have hix:∀ {ty:TypeId} {K:Value->World->Prop} {w':World},K (.pointer (some ⟨pb,po+k * 1,none⟩)) w'->Run Tryz.prog (sOp (.indexAddr TK (.const (.slice va r.1.length vc)) (.const (.int .i64 (k:Int)))) ty) w' K:=fun hk=>by rw [hpa]; exact aD iY hk' hk
  obtain ⟨av,hae,hav⟩:=hpR
  have hav:=hav.monoT hle7
  obtain ⟨q1,q2,q3⟩:=hans _ (bA hk')
  have hav2:=(hF.fct _ q3).valid
  have hg7:=hg.mono hle7
  refine ⟨fun D jY l5 abI Y8 x98 YP acp abC Wi Ye RP x99 w_=>Fx D 0 [x99=.agg [.int .i64 g.kind,.int .i64 g.n,.string g.name,kv].toArray,True,Ye=.slice va r.1.length vc,Wi=.int .i64 (k:Int),abC=.pointer (some ⟨pb,po+k * 1,none⟩),acp=.agg #[av],True,True,True,abI=.bool true,True,jY=.bool true]/\∃ SN u,Ext w.heap.size [] S7 SN/\(D 1=true->RdSl SN 4 (RdT SN) RP [g])/\(D 6=true->YP=.tuple #[u,.bool true]/\RdSl SN 4 (RdT SN) u [ni g r.1[k]])/\(D 7=true->D 6=true/\x98=.tuple #[u,.bool true])/\(D 8=true->D 6=true/\Y8=u)/\(D 10=true->D 6=true/\l5=u)/\Inv w [] [.blk b11 (.cells #[.int .i64 g.kind,.int .i64 g.n,.string g.name,kv] ac),aJ t14 ac 4 css] SN w_,⟨Fx.nil _ _,⟨S7,undef,Ext.refl _ _ _,ba,ba,ba,ba,ba,hI.draw⟩⟩,⟨?_,?_,?_,?_,?_,?_,?_,?_,?_,?_,?_,?_,trivial⟩,?_⟩
  all_goals (intro D bP; intros; rename_i jY l5 abI Y8 x98 YP acp abC Wi Ye RP x99 w_ hA_; have hF_:=hA_.1; obtain ⟨⟨cm,cj,cd,ci,bT,ct,bZ,cR,dq,er,co,cG,_⟩,⟨SN,u,hN,k1,k6,k7,k8,k10,hI⟩⟩:=hA_)
  ·refine ar hI 0 ad rfl rfl ?_
   exact ⟨hF_.set 0 rfl,⟨SN,u,hN,k1,k6,k7,k8,k10,hI⟩⟩
  ·obtain rfl:=cm ‹_›
   refine aaa hI (hg7.mono hN.1) fun qv SM w_ hM hq hI=>?_
   have hN:=hN.trans hM
   have k1:=fun (_:aF D 1 1=true)=>hq
   have k6:aF D 1 6=true->YP=.tuple #[u,.bool true]/\RdSl SM 4 (RdT SM) u [ni g r.1[k]]:=fun h=>⟨(k6 h).1,(k6 h).2.monoT hM.1⟩
   obtain ⟨SN,hSN⟩:∃ SN,SN=SM:=⟨_,rfl⟩
   subst hSN
   exact ⟨hF_.set 1 (by first|assumption|trivial),⟨SN,u,hN,k1,k6,k7,k8,k10,hI⟩⟩
  ·exact ⟨hF_.set 2 rfl,⟨SN,u,hN,k1,k6,k7,k8,k10,hI⟩⟩
  ·exact ⟨hF_.set 3 rfl,⟨SN,u,hN,k1,k6,k7,k8,k10,hI⟩⟩
  ·obtain rfl:=cd ‹_›
   obtain rfl:=ci ‹_›
   refine hix ?_
   exact ⟨hF_.set 4 rfl,⟨SN,u,hN,k1,k6,k7,k8,k10,hI⟩⟩
  ·obtain rfl:=bT ‹_›
   refine bK (cs:=[av]) qA rfl (fun j x hj=>by rw [hI.cellS (hN.1 _ _ hpS)]; exact aK hae j x hj) ?_
   exact ⟨hF_.set 5 rfl,⟨SN,u,hN,k1,k6,k7,k8,k10,hI⟩⟩
  ·have g1_:=cj ‹_›
   obtain rfl:=ct ‹_›
   refine Run.call0E Bn Bx hI (zR (k1 ‹D 1=true›) (hav.monoT hN.1) hgv q1 q2 hav2) fun v' I' SM w_=>?_
   rintro ⟨rfl,u,rfl,hu⟩ hM hI
   have hN:=hN.trans hM
   have k1:aF D 6 1=true->RdSl SM 4 (RdT SM) RP [g]:=fun h=>(k1 h).monoT hM.1
   have k6:=fun (_:aF D 6 6=true)=>(⟨rfl,hu⟩:Value.tuple #[u,.bool true]=.tuple #[u,.bool true]/\RdSl SM 4 (RdT SM) u [ni g r.1[k]])
   have k7:aF D 6 7=true->aF D 6 6=true/\x98=.tuple #[u,.bool true]:=fun h=>by rw [(k7 h).1] at bP; cases bP
   have k8:aF D 6 8=true->aF D 6 6=true/\Y8=u:=fun h=>by rw [(k8 h).1] at bP; cases bP
   have k10:aF D 6 10=true->aF D 6 6=true/\l5=u:=fun h=>by rw [(k10 h).1] at bP; cases bP
   have hI:Inv w [] [.blk b11 (.cells #[.int .i64 g.kind,.int .i64 g.n,.string g.name,kv] ac),aJ t14 ac 4 css] SM w_:=hI
   obtain ⟨SN,hSN⟩:∃ SN,SN=SM:=⟨_,rfl⟩
   subst hSN
   exact ⟨hF_.set 6 (by first|assumption|trivial),⟨SN,u,hN,k1,k6,k7,k8,k10,hI⟩⟩
  ·have Q4:=bZ ‹_›
   have k7:=fun (_:aF D 7 7=true)=>(⟨‹D 6=true›,(k6 ‹D 6=true›).1⟩:D 6=true/\YP=.tuple #[u,.bool true])
   exact ⟨hF_.set 7 (by first|assumption|trivial),⟨SN,u,hN,k1,k6,k7,k8,k10,hI⟩⟩
  ·have N2:=cR ‹_›
   have e7:=(k7 ‹D 7=true›).2
   have q6:=(k7 ‹D 7=true›).1
   rw [e7]
   refine aq (v:=u) rfl ?_
   rw [<- e7]
   have k8:=fun (_:aF D 8 8=true)=>(⟨q6,rfl⟩:D 6=true/\u=u)
   exact ⟨hF_.set 8 (by first|assumption|trivial),⟨SN,u,hN,k1,k6,k7,k8,k10,hI⟩⟩
  ·have N2:=cR ‹_›
   have e7:=(k7 ‹D 7=true›).2
   rw [e7]
   refine aq (v:=.bool true) rfl ?_
   rw [<- e7]
   exact ⟨hF_.set 9 rfl,⟨SN,u,hN,k1,k6,k7,k8,k10,hI⟩⟩
  ·have Q3:=dq ‹_›
   have k10:=fun (_:aF D 10 10=true)=>(⟨(k8 ‹D 8=true›).1,(k8 ‹D 8=true›).2⟩:D 6=true/\Y8=u)
   exact ⟨hF_.set 10 (by first|assumption|trivial),⟨SN,u,hN,k1,k6,k7,k8,k10,hI⟩⟩
  ·obtain rfl:=er ‹_›
   exact ⟨hF_.set 11 rfl,⟨SN,u,hN,k1,k6,k7,k8,k10,hI⟩⟩
  obtain ⟨rfl,g1_,rfl,rfl,rfl,rfl,Q4,N2,Q3,rfl,Wa,rfl,_⟩:=hF_.all
  have TH:D 6=true:=by assumption
  have Y7:D 10=true:=by assumption
  clear hF_ cm cj cd ci bT ct bZ cR dq er co cG
  obtain ⟨_,hu⟩:=k6 TH
  obtain ⟨_,e16⟩:=k10 Y7
  subst e16
  have hIk:=hI
  refine ⟨fun t w'=>t=.bool false/\Inv w [] [.blk b11 (.cells #[.int .i64 g.kind,.int .i64 g.n,.string g.name,kv] ac),aJ t14 ac 4 css] SN w',?_,?_⟩
  ·refine bX ?_
   refine rpG ?_
   refine cE (i:=0) hIk hu ae ad (by simp) (fun _ _=>RdT.length) fun cs0 hcs0=>?_
   refine Run.callPure Dc C4 hIk (yP ((ha.monoT hle7).monoT hN.1) hcs0 q3) fun w' hI=>?_
   refine bX ?_
   refine rpG ?_
   exact ⟨rfl,hI⟩
  clear hI hIk
  intro q _ _ _ _ _ _ _ _ _ w'
  rintro ⟨rfl,hI⟩
  refine az (fun hb=>by cases hb) (fun _=>?_)
  refine cE (i:=0) hI hu ae ad (by simp) (fun _ _=>RdT.length) fun cs0 hcs0=>?_
  have hc0:=hcs0.length
  refine dD hI 1 cs0 bj (by omega) (by omega) rfl hc0 hcs0.one (by omega) (by omega) fun t9' w4 hI=>?_
  refine bq (by omega) ?_
  refine ⟨⟨k+1,css++[cs0],SN,hk',rfl,hle7.trans hN.1,?_,hI⟩,by simp [intOf]; omega⟩
  rw [fj hk',BD]
  exact (hR.monoR fun _ _ h=>h.mono hN.1).snoc hcs0 hc0
 ·have:k=r.1.length:=by omega
  subst this
  rw [fk] at hR
  have hI:Inv w [] ([.blk b11 (.cells #[.int .i64 g.kind,.int .i64 g.n,.string g.name,kv] ac)]++[aJ t14 ac 4 css]) S7 w':=hI
  obtain ⟨S8,hE8,hrd,hI⟩:=hI.lendExt
  have hfo:=RowRd.rows (hR.monoR fun _ _ h=>h.mono hE8.1) hrd
  have hle78:=hle7.trans hE8.1
  have ha:=ha.monoT hle78
  have hg:=hg.mono hle78
  refine ar hI 0 ad rfl rfl ?_
  refine Run.call0E JS IY hI (BO ha hg (by omega)) fun u2 I' S9 w'=>?_
  rintro ⟨rfl,M,rfl,hT⟩ hE9 hI
  obtain ⟨S10,hI,hE10,hins⟩:=Inv.pubExt hI
  have hff:=hT.rd hins fun _ _ _ hi h=>h.rd hi
  have hfo:=hfo.monoT (hE9.trans hE10).1
  have hle810:=hle78.trans (hE9.trans hE10).1
  have hle:=hle16.trans hle810
  obtain ⟨fa,fc,rfl,_⟩:=id hff
  have hIk:=hI
  refine ⟨fun t19 w'=>∃ k:Nat,k<=(jy (bU p 61).1 g).length/\t19=.int .i64 (k:Int)/\Inv w [] [.blk b11 (.cells #[.int .i64 g.kind,.int .i64 g.n,.string g.name,kv] ac)] S10 w',
   fun i _=>(jy (bU p 61).1 g).length - (intOf i).toNat,⟨0,be _,rfl,hIk⟩,?_⟩
  clear hI hIk
  intro t19 _ _ _ _ _ _ _ _ _ _ _ _ _ _ _ _ _ _ w'
  rintro ⟨k,hk,rfl,hI⟩
  have hfl:=hff.le
  simp only [maxLen] at hfl
  refine ⟨fun t w'=>t=.bool (decide (k<(jy (bU p 61).1 g).length) && decide (r.2=0))/\Inv w [] [.blk b11 (.cells #[.int .i64 g.kind,.int .i64 g.n,.string g.name,kv] ac)] S10 w',?_,?_⟩
  ·refine eP ae ?_
   refine bF ?_
   rw [show decide ((k:Int)<((jy (bU p 61).1 g).length:Int))=decide (k<(jy (bU p 61).1 g).length) by rw [fK]; omega]
   cases hkd:decide (k<(jy (bU p 61).1 g).length)
   ·refine rpG ?_
    exact ⟨rfl,hI⟩
   ·refine rpG ?_
    refine bo ?_
    refine rpG ?_
    exact ⟨rfl,hI⟩
  clear hI
  intro q _ _ _ _ _ _ _ w'
  rintro ⟨rfl,hI⟩
  refine az (fun hb=>?_) (fun _=>jz hI hle rfl)
  rw [bw,bk,bk] at hb
  obtain ⟨hk',h0⟩:=hb
  have hmem:(jy (bU p 61).1 g)[k]∈(bU p 61).1/\Aq (jy (bU p 61).1 g)[k] g=true:=LJ.1 (bA hk')
  obtain ⟨vs,hvs,hve⟩:=hall h0 _ hmem.1 hmem.2
  refine cE hI hff ae ad hk' (fun _ _=>RdT.length) fun cs0 hcs0=>?_
  refine Run.callPure Dc C4 hI (yP hfo hcs0 (eF.2 ⟨vs,hvs,hve⟩)) fun w' hI=>?_
  refine bX ?_
  refine az (fun hb=>by cases hb) (fun _=>?_)
  refine bq (by omega) ?_
  exact ⟨⟨k+1,hk',rfl,hI⟩,by simp [intOf]; omega⟩
end
end
section
open Go Go.ChangeShapes Go.WideShapes Go.RowKit
def TW:List (String × DataW Unit):=[("math/bits.deBruijn32tab",Rows.laid_math_bits_deBruijn32tab),("math/bits.deBruijn64tab",Rows.laid_math_bits_deBruijn64tab),("internal/strconv.uint64pow10",Rows.laid_internal_strconv_uint64pow10)]
theorem Yo (os:Os) (args:Array Value):laidMetH Tryz.prog TW ((World.doorLaid Tryz.prog 24 os).forCall (fun _ _=>0) ⟨#[],args,[]⟩).memory:=
 laidMetH_of_parts3 (fuel:=8) (laidMet_of_run' 8 (by kernel_rfl) (by kernel_rfl)) (by kernel_rfl) (by kernel_rfl)
end
section
open Go Go.ChangeShapes Go.WideShapes Go.ChangeAt Go.RowKit

theorem Tryz.own:ownKnob Tryz.prog.godebug=none:=by kernel_rfl
theorem Tryz.kids:Kids Tryz.prog (·<Tryz.prog.types.size):=kids_rows (by kernel_rfl) (by kernel_rfl)
theorem Tryz.full:∀ t e,t<Tryz.prog.types.size->Tryz.prog.underlying t=some (.slice e)->0<Tryz.prog.cellsOf e:=slices_full_of Tryz.prog (by kernel_rfl)
section
variable {H:Type} {enc:TypeId × Value->H} {W W':World}
theorem PN {P:Program}:∀ {ts:List TypeId} {vs:List Value} {ds:List (DataW H)} {ps:List MemPlace},DataW.TrodAll enc P W 0 (fun _=>true) true ts vs ds ps->(∀ p∈ps,W.sameAt W' p)->
  DataW.TrodAll enc P W' 0 (fun _=>true) true ts vs ds ps
 | [],[],[],_,h,_=>h
 | _::_,_::_,_::_,_,⟨p,q,⟨n,h1⟩,h2,e⟩,hs=>
  ⟨p,q,⟨n,DataW.trod_carry n _ _ _ h1 fun x hx=>hs x (by rw [e]; exact dg _ hx)⟩,PN h2 fun x hx=>hs x (by rw [e]; exact gA _ hx),e⟩
theorem YX {p:MemPlace} (h:∀ b,b<W.heap.size->W'.heap[b]?=W.heap[b]?) (hp:p.block<W.heap.size):W.sameAt W' p:=by
 cases p with
 | cell b off=>simp only [World.sameAt,World.cell?]; rw [h b hp]
 | map b=>exact h b hp
theorem Vz {f:Func} {s:ChangeSpec} {args:Array Value} {ds gs:List (DataW H)} {before p q:List MemPlace}
  (hW:DataW.Whole enc Tryz.prog f.params.toList s.vars false W args.toList ds gs before) (hA:DataW.TrodAll enc Tryz.prog W 0 (fun _=>true) true f.params.toList args.toList ds p)
  (hV:DataW.TrodVars enc Tryz.prog W (fun _=>true) s.vars gs q) (hb:before=p++q) (hv:s.vars=[]) (hts:∀ t∈f.params.toList,t<Tryz.prog.types.size) (hr:f.resultTypes=#[MT])
  (hs:(s.fn H (ds++gs)).results=[.lit (.bool true)]) (ha:(s.fn H (ds++gs)).args=ds) (hsv:(s.fn H (ds++gs)).vars=[]) (hI:Inv W [] [] (UW W) W') :
  s.post enc Tryz.prog f false true false false W args (.bool true) W':=by
 have hsame:∀ b,b<W.heap.size->W'.heap[b]?=W.heap[b]?:=fun b hb=>hI.same b hb
 have hlt:=hW.lt
 rw [hv] at hV
 obtain ⟨hg,hq⟩:=trodVars_none hV
 subst hq
 rw [dB] at hb
 subst hb
 have hA':=PN (W':=W') hA fun x hx=>YX hsame (hlt x hx)
 refine ⟨ds,gs,before,[],before,[],hW,?_,?_,?_,Vl hI.os hI.output hsame,fun h=>by cases h⟩
 ·rw [hs,hr]
  exact trodAll_mk1 (shut_bool Fo true)
 ·rw [ha]
  exact DataW.TrodAll.respare Tryz.kids Tryz.full hts hA' fun x hx=>by simpa using hlt x hx
 ·rw [hv,hsv]
  rfl
end
end
end Go.Proofs.YtgllldjiaglkcaaGreatDoor
