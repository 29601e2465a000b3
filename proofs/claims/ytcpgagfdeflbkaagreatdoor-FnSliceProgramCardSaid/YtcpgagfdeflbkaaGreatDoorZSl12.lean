/- impl's store: bindings are taken back. -/
import Derived.Test.YtcpgagfdeflbkaaGreatDoorZSl11
import Derived.Test.YtcpgagfdeflbkaaGreatDoorZSl10
import Derived.Test.YtcpgagfdeflbkaaGreatDoorZSl4
namespace Go.Proofs.YtcpgagfdeflbkaaGreatDoor
section
open Go Go.RowKit
theorem x0 {n:Int}:∀ (l:List MapEntry) (i j:Nat) (v:Value),(∀ e∈l,∃ m,e.key=.int .i64 m)->Instr.findNow (.int .i64) (.int .i64 n) l i=some (some (j,v))->i<=j/\∃ e,l[j - i]?=some e/\e.key=.int .i64 n
 | [],i,j,v,_,h=>by simp [Instr.findNow] at h
 | e::l,i,j,v,hk,h=>by
  obtain ⟨m,hm⟩:=hk e (bq ..)
  have hs:Instr.sameNow (.int .i64) (.int .i64 n) e.key=some (n == m):=by rw [hm]; rfl
  rw [Instr.findNow,hs] at h
  by_cases hnm:n=m
  ·subst hnm
   simp only [Kt,aT,cL] at h
   obtain ⟨rfl,rfl⟩:=h
   exact ⟨aM _,e,by simp,hm⟩
  ·have h2:(n == m)=false:=by simpa using hnm
   rw [h2] at h
   obtain ⟨h3,e',h4,h5⟩:=x0 l (i+1) j v (fun e he=>hk e (bv _ he)) h
   refine ⟨by omega,e',?_,h5⟩
   have:j - i=(j - (i+1))+1:=by omega
   rw [this,lx]
   exact h4
theorem KnownM.erase {S:ad} {es:Array MapEntry} {st:aj} (h:KnownM S es st) {n j:Nat} {v:Value} (hf:Instr.findNow (.int .i64) (.int .i64 n) es.toList 0=some (some (j,v))) :
  KnownM S (es.eraseIdxIfInBounds j) (st.set n none):=by
 obtain ⟨_,e,he,hke⟩:=x0 es.toList 0 j v (fun e he=>by obtain ⟨m,_,_,hk,_⟩:=h.1 e he; exact ⟨m,hk⟩) hf
 rw [Nat.sub_zero] at he
 have hlt:j<es.toList.length:=(fu.1 he).1
 have hje:es.toList[j]=e:=(fu.1 he).2
 have hp:List.Perm es.toList (e::es.toList.eraseIdx j):=by
  rw [OZ]
  have e1:es.toList=es.toList.take j++e::es.toList.drop (j+1):=by
   conv=>lhs; rw [<- Hd j es.toList,di hlt,hje]
  conv=>lhs; rw [e1]
  exact zal110
 have hnd:((e::es.toList.eraseIdx j).map (·.key)).Nodup:=(hp.map _).nodup_iff.1 h.2.2
 rw [pj,GK] at hnd
 refine ⟨fun x hx=>?_,fun m t ht=>?_,?_⟩
 ·rw [RY] at hx
  obtain ⟨m,t,cs,hk,hv,hR,hs⟩:=h.1 x (hp.mem_iff.2 (bv _ hx))
  refine ⟨m,t,cs,hk,hv,hR,?_⟩
  have:n≠m:=by
   rintro rfl
   exact hnd.1 (iX.2 ⟨x,hx,by rw [hk,hke]⟩)
  rw [CF this]
  exact hs
 ·rw [RY]
  have hm:n≠m:=by
   rintro rfl
   rw [yb] at ht
   simp at ht
  rw [CF hm] at ht
  obtain ⟨x,hx,hk⟩:=h.2.1 m t ht
  rcases cQ.1 (hp.mem_iff.1 hx) with rfl|hx
  ·rw [hke] at hk
   simp only [Value.int.injEq,sy] at hk
   exact absurd (by omega) hm
  ·exact ⟨x,hx,hk⟩
 ·rw [RY]
  exact hnd.2
theorem KnownM.clear {S:ad} {es:Array MapEntry} {st:aj} (h:KnownM S es st) {n:Nat} (hn:∀ t,st[n]?≠some (some t)):KnownM S es (st.set n none):=by
 refine ⟨fun x hx=>?_,fun m t ht=>?_,h.2.2⟩
 ·obtain ⟨m,t,cs,hk,hv,hR,hs⟩:=h.1 x hx
  refine ⟨m,t,cs,hk,hv,hR,?_⟩
  have:n≠m:=by rintro rfl; exact hn t hs
  rw [CF this]
  exact hs
 ·have hm:n≠m:=by
   rintro rfl
   rw [yb] at ht
   simp at ht
  rw [CF hm] at ht
  exact h.2.1 m t ht
theorem wZ (st:aj) (l:List Int) (n:Int):ec st (l++[n])=(ec st l).set n.toNat none:=by
 have hl:(ec st l).length=st.length:=by
  induction l with
  | nil=>rfl
  | cons m ns ih=>rw [ec,oI,ih]
 apply tk
 intro i
 rw [mp,yb,mp,hl]
 by_cases h1:n.toNat=i
 ·subst h1
  rw [ai ⟨n,by simp,rfl⟩,ai rfl]
  by_cases h2:n.toNat<st.length
  ·rw [ai h2,iR h2]; rfl
  ·rw [af h2,O4 (by omega)]; rfl
 ·rw [af h1]
  by_cases h2:∃ m∈l,m.toNat=i
  ·obtain ⟨m,h3,h4⟩:=h2
   rw [ai ⟨m,eM _ h3,h4⟩,ai ⟨m,h3,h4⟩]
  ·rw [af h2,af]
   rintro ⟨m,h3,h4⟩
   rcases cd.1 h3 with h3|h3
   ·exact h2 ⟨m,h3,h4⟩
   ·rw [bY] at h3
    subst h3
    exact h1 h4
section
variable {P:Program} {w w0:World} {X:List Nat} {L:List Item} {S:ad} {K:Value->World->Prop}
attribute [local irreducible] Run CondV aq aK
theorem HR (h:Inv w0 X L S w) {T kt et ty U:TypeId} {cs:List Bool} {b clock:Nat} {es:Array MapEntry} {n:Int} {o:Option (Nat × Value)} (i:Nat) (hT:P.underlying T=some (.map kt et)) (hkt:P.underlying kt=some (.int .i64))
  (hi:L[i]?=some (.blk b (.map es clock))) (hf:Instr.findNow (.int .i64) (.int .i64 n) es.toList 0=some o)
  (hk:∀ w',Inv w0 X (L.set i (.blk b (.map (match o with|some (j,_)=>es.eraseIdxIfInBounds j|none=>es) clock))) S w'->K (.tuple #[]) w') :
  Run P (bH .delete #[T,U] ty cs [.map (some b),.int .i64 n]) w K:=by
 have hb:w.heap[b]?=some (.map es clock):=h.its _ (du hi)
 have hck:∀ e,(Instr.checkKey e 10000 kt (.int .i64 n)).run P w=.ok () w:=fun e=>by
  rw [show (10000:Nat)=9999+1 from rfl,Instr.checkKey]
  simp [run_underlying hkt]
 have hg:(getObj b).run P w=.ok (.map es clock) w:=by simp [getObj,Sem.run,hb]
 have hfk:=jA (P:=P) (w:=w) hkt hf
 obtain ⟨es',he'⟩:∃ es',es'=(match o with|some (j,_)=>es.eraseIdxIfInBounds j|none=>es):=⟨_,rfl⟩
 rw [<- he'] at hk
 have hst:(setObj b (.map es' clock)).run P w=.ok () { w with heap:=w.heap.setIfInBounds b (.map es' clock) }:=by simp [setObj,Sem.run,hb]
 refine Run.of (w':={ w with heap:=w.heap.setIfInBounds b (.map es' clock) }) ?_ (hk _ (h.setBlk hi _ rfl))
 cases o with
 | none=>
  subst he'
  simp [bH,builtin,Builtin.delete_,run_underlying hT,hg,hck,hfk,hst]
 | some p=>
  obtain ⟨j,v⟩:=p
  subst he'
  simp [bH,builtin,Builtin.delete_,run_underlying hT,hg,hck,hfk,hst]
end
section
attribute [local irreducible] Run CondV aq aK
theorem sQ {st:aj} {S:ad} {sb mb ck mark:Nat} {es:Array MapEntry} {tv:Value} {tr:List Int} (hkm:KnownM S es st) (hmk:mark<=tr.length) (hnn:∀ n∈tr.drop mark,0<=n) (htr:tr.length<=100000000) :
  Tri Tryz.prog Ag [.pointer (some ⟨sb,0,none⟩),.int .i64 mark] (au sb mb es ck tv tr) S fun q I' S'=>S'=S/\q=.tuple #[]/\∃ es' tv',I'=au sb mb es' ck tv' (tr.take mark)/\KnownM S es' (ec st (tr.drop mark)):=by
 intro w hI
 obtain ⟨X,hX⟩:∃ X,X=bu (au sb mb es ck tv tr):=⟨_,rfl⟩
 rw [<- hX] at hI ⊢
 have hI0:Inv w X ([.blk sb (.cells #[.map (some mb),tv] cD),.blk mb (.map es ck)]++[.row tv b0 1 tr.length (ints tr)]) S w:=hI
 refine od.2 ?_
 dsimp only[od,aO]
 refine ar ?_
 refine ae hI 0 rfl eO gW rfl ?_
 obtain ⟨S1,hle,hrr,hI,hback⟩:=Inv.lend hI0
 have hrd:=hrr.ints
 refine xT dD hrd hmk fun v' hv'=>?_
 refine aF hv' dD ?_
 refine ⟨fun i w'=>∃ (k:Nat) (es':Array MapEntry),k<=(tr.drop mark).length/\i=.int .i64 k/\KnownM S es' (ec st ((tr.drop mark).take k))/\Inv w X [.blk sb (.cells #[.map (some mb),tv] cD),.blk mb (.map es' ck)] S1 w',
  fun i _=>(tr.drop mark).length - (intOf i).toNat,⟨0,es,aR _,rfl,hkm,hI⟩,?_⟩
 intro i _ _ _ _ _ _ _ _ _ _ w'
 rintro ⟨k,es',hk,rfl,hkm',hI⟩
 have hdl:(tr.drop mark).length<=100000000:=by rw [xS]; omega
 refine bL ?_
 refine aH (fun hki=>?_) (fun hki=>?_)
 ·have hk':k<(tr.drop mark).length:=by omega
  have hm:=bQ hk'
  have h0:=hnn _ hm
  refine hY hI hv' dD aI hk' (fun cs hcs=>hcs) ?_
  refine ar ?_
  refine ae hI 0 rfl qG Dm rfl ?_
  obtain ⟨m,hme⟩:∃ m:Nat,(tr.drop mark)[k]=(m:Int):=⟨((tr.drop mark)[k]).toNat,by omega⟩
  have hstep:ec st ((tr.drop mark).take (k+1))=(ec st ((tr.drop mark).take k)).set m none:=by
   rw [fy hk',wZ,hme,dF]
  rw [hme]
  rcases hkm'.find m with ⟨j,v,t,cs,hf,_,_,_⟩|⟨hno,hf⟩
  ·refine HR hI 1 iG gd rfl hf fun w' hI=>?_
   refine bn (by omega) ?_
   exact ⟨⟨k+1,_,hk',rfl,by rw [hstep]; exact hkm'.erase hf,hI⟩,by simp only [intOf]; omega⟩
  ·refine HR hI 1 iG gd rfl hf fun w' hI=>?_
   refine bn (by omega) ?_
   exact ⟨⟨k+1,_,hk',rfl,by rw [hstep]; exact hkm'.clear hno,hI⟩,by simp only [intOf]; omega⟩
 ·have:k=(tr.drop mark).length:=by omega
  subst this
  rw [fM] at hkm'
  have hI:=hback _ _ hI
  refine ar ?_
  refine ae hI 0 rfl eO gW rfl ?_
  obtain ⟨hl,ho⟩:=Inv.openRow hI
  have hit:(ints tr).take mark=ints (tr.take mark):=by
   have:∀ (l:List Int) (m:Nat),(ints l).take m=ints (l.take m):=by
    intro l
    induction l with
    | nil=>intro m; simp [ints]
    | cons a l ih=>
     intro m
     cases m with
     | zero=>simp [ints]
     | succ m=>have:=ih m; simp only [ints,zc,qq,List.singleton_append] at *; rw [this]
   exact this tr mark
  have htl:(tr.take mark).length=mark:=by rw [dN]; omega
  rcases ho with ⟨rfl,h1⟩|⟨g,cap,cur,rfl,hnc,hcm,hcs,ht,hI⟩
  ·have htn:tr=[]:=iW h1
   subst htn
   obtain rfl:mark=0:=by simpa using hmk
   refine Gs dD (aM _) ?_
   refine ar ?_
   refine cT hI 0 rfl eO gW rfl rfl rfl fun w' hI=>?_
   exact ⟨_,_,S,rfl,hI,Ext.refl _ _ _,rfl,rfl,es',_,rfl,hkm'⟩
  ·refine Gs dD (by omega) ?_
   have e1:(if cap=0 then (some (⟨g,0,none⟩:Addr)) else (some (⟨g,0,none⟩:Addr)).map (·.add (0 * 1)))=some ⟨g,0,none⟩:=by
    split
    ·rfl
    ·simp [Addr.add]
   rw [e1]
   refine ar ?_
   refine cT hI 0 rfl eO gW rfl rfl rfl fun w' hI=>?_
   have hI:Inv w X ([.blk sb (.cells #[.map (some mb),.slice (some ⟨g,0,none⟩) mark cap] cD),.blk mb (.map es' ck)]++[.blk g (.cells cur b0)]) S w':=hI
   have hI:=Inv.closeRow (n:=mark) (k:=1) (cap:=cap) hI (by omega) hcm hcs
   have e2:cur.toList.take (mark * 1)=ints (tr.take mark):=by
    rw [<- hit,<- ht,sF,Nat.mul_one,Nat.mul_one,qN hmk]
   rw [e2] at hI
   refine ⟨_,_,S,rfl,hI,Ext.refl _ _ _,rfl,rfl,es',.slice (some ⟨g,0,none⟩) mark cap,?_,hkm'⟩
   simp only [au,dX,htl]
   rfl
end
end
section
open Go Go.RowKit
theorem Pm {k n:Int} {s:ByteArray} {ks:List T} (h:cE s fQ=true):g7 (.mk k n s ks)=.done (P6 s (fo ks)):=by
 have h0:=h
 rw [cE,JJ] at h
 obtain ⟨x,hx,hd⟩:=h
 have hd:=of_decide_eq_true hd
 subst hd
 have hne:∀ y∈([lm,mg,nEq,nNe,sq,nIs,DC]:List ByteArray),s≠y:=by
  intro y hy
  simp only [fQ,cQ,ji,jg] at hx hy
  rcases hx with rfl|rfl|rfl|rfl|rfl <;> rcases hy with rfl|rfl|rfl|rfl|rfl|rfl|rfl <;> decide +kernel
 have n1:(T.mk k n s ks).name=s:=rfl
 rw [g7,n1,af (hne _ (by simp)),af (hne _ (by simp)),af (hne _ (by simp)),af (hne _ (by simp)),af (hne _ (by simp)),af (hne _ (by simp)),af (hne _ (by simp)),ai h0]
 rfl
theorem RdT.f0 {S:ad} {cs:List Value} {t:T} (h:RdT S cs t):cs[0]?=some (.int .i64 t.kind):=by
 obtain ⟨_,rfl,_⟩:=RdT.iff.1 h; rfl
theorem RdT.f1 {S:ad} {cs:List Value} {t:T} (h:RdT S cs t):cs[1]?=some (.int .i64 t.n):=by
 obtain ⟨_,rfl,_⟩:=RdT.iff.1 h; rfl
section
variable {w:World} {X:List Nat} {S:ad}
attribute [local irreducible] Run CondV aq aK
theorem qo (n:Int) (S:ad):Pure Tryz.prog JW [.int .i64 n] S (.agg #[.int .i64 2,.int .i64 n,.string ⟨#[]⟩,.slice none 0 0]):=by
 intro w hI
 refine yx.2 ?_
 dsimp only[yx,aG]
 refine aP hI aZ fun b w' hI=>?_
 refine pI ?_
 refine aA hI 0 rfl ac rfl rfl (by simp [Value.oneCell']) fun w' hI=>?_
 refine bw hI 0 ac rfl rfl ?_
 exact done hI rfl
def Ph (sb mb:Nat) (S:ad) (st:aj) (tr:List Int) (code:Int) (st':aj):Value->List Item->ad->Prop:=fun q I' S'=>S'=S/\q=.int .i64 code/\
 ∃ es' ck' tv' tr',I'=au sb mb es' ck' tv' tr'/\KnownM S es' st'/\tr'.length+unb st'<=1000000/\Tr st st' tr tr'
set_option maxHeartbeats 1000000 in
theorem Gm {N:Nat} (hN:N<=1000000) {st st':aj} {g:T} {code:Int} (hg:Good N st) (ho:okU N g/\wT g<=1048576) (hn:okN g) (hb:cr g=true) (hB:Blt st g code st')
  {S:ad} {cs:List Value} {sb mb ck:Nat} {es:Array MapEntry} {tv:Value} {tr:List Int} (h:RdT S cs g) (hkm:KnownM S es st) (htr:tr.length+unb st<=1000000) :
  Tri Tryz.prog AL [.pointer (some ⟨sb,0,none⟩),.agg cs.toArray] (au sb mb es ck tv tr) S (Ph sb mb S st tr code st'):=by
 intro w hI
 have hgl:=h
 obtain ⟨k,n,s,ks⟩:=g
 obtain ⟨kv,rfl,_,_,_,hks⟩:=RdT.iff.1 h
 have hbj:=GX hb ho
 rw [cr,bN] at hb
 obtain ⟨hk3,hbs⟩:=hb
 rw [okN] at hn
 simp only [T.name,T.kids,T.kind,T.n] at hks hbs hgl hk3 ⊢
 obtain ⟨X,hX⟩:∃ X,X=bu (au sb mb es ck tv tr):=⟨_,rfl⟩
 rw [<- hX] at hI ⊢
 unfold Blt at hB
 clear h
 refine oX.2 ?_
 dsimp only[oX,aO]
 refine bp hI fun b3 w' hI=>?_
 have hI:Inv w X ([.blk b3 (.cells #[.int .i64 k,.int .i64 n,.string s,kv] ab)]++au sb mb es ck tv tr) S w':=hI.perm co
 have fin:∀ {w':World} {L:List Item} {j:BJ} (c:Int),j=.done c->BltJ st j code st'->Inv w X L S w'->List.Sublist (au sb mb es ck tv tr) L->
   ∃ v' I' S',Ending.returned (.int .i64 c)=.returned v'/\Inv w X I' S' w'/\Ext w.heap.size X S S'/\Ph sb mb S st tr code st' v' I' S':=by
  intro w' L j c hj hB hI hs
  subst hj
  obtain ⟨rfl,rfl⟩:=hB
  exact ⟨_,_,S,rfl,hI.sub hs,Ext.refl _ _ _,rfl,rfl,es,ck,tv,tr,rfl,hkm,htr,Tr.refl _ _⟩
 have sub1:∀ it:Item,List.Sublist (au sb mb es ck tv tr) ([it]++au sb mb es ck tv tr):=fun it=>dz [it] _
 refine az hI 0 ac rfl rfl ?_
 refine Run.callPure Dp Ds hI (wx hgl) fun w' hI=>?_
 have hcg:P8 (.mk k n s ks)=(decide (ks.length=2) && cE s fQ):=by
  unfold P8
  rw [show decide ((T.mk k n s ks).kind=3)=true from hk3]
  rfl
 rw [hcg]
 refine aw (fun hc=>?_) (fun hc=>?_)
 ·rw [bN,bC] at hc
  refine az hI 0 ac rfl rfl ?_
  refine Run.callPure CZ C3 hI (wN hgl hc.1 hn.2) fun w' hI=>?_
  exact fin _ (Pm hc.2) hB hI (sub1 _)
 have hcn:cE s fQ=false:=by
  cases hx:cE s fQ
  ·rfl
  ·have:=kO (QE hx) hbs
   rw [hx,aS (show ks.length=2 by omega)] at hc
   cases hc
 refine ae hI 0 rfl av ao rfl ?_
 refine ae hI 0 rfl aW aN rfl ?_
 refine bt ?_
 refine aH (fun h=>fin 0 (by rw [g7,ai (show (T.mk k n s ks).name=lm from h)]) hB hI (sub1 _)) (fun h0=>?_)
 refine bt ?_
 refine aH (fun h=>fin 1 (by rw [g7,af (show ¬ (T.mk k n s ks).name=lm from h0),ai (show (T.mk k n s ks).name=mg from h)]) hB hI (sub1 _)) (fun h1=>?_)
 refine bt ?_
 refine aH (fun h=>?_) (fun h2=>?_)
 ·obtain ⟨x,y,rfl⟩:=xw (l:=ks) (by have:=kO (by rw [h]; decide +kernel) hbs; omega)
  have hj:g7 (.mk k n s [x,y])=.uni x y:=by
   rw [g7,af (show ¬ (T.mk k n s [x,y]).name=lm from h0),af (show ¬ (T.mk k n s [x,y]).name=mg from h1),ai (show (T.mk k n s [x,y]).name=nEq from h)]
   rfl
  rw [hj] at hB hbj
  obtain ⟨b,o,cap,c,E,fz,rfl,hSb,hR⟩:=hks.ptr (by simp)
  obtain ⟨r,hu,rfl⟩:=hB
  have hjj:okJ N (.one x y):=hbj
  refine ⟨fun D x4 Rb Jz mG zV lq Ak qm ge pu w_=>Fx D 0 [pu=.pointer (some ⟨sb,0,none⟩),ge=.slice (some ⟨b,o,none⟩) [x,y].length cap,qm=.pointer (some ⟨b,o+0 * 4,none⟩),Ak=.agg (ba c (o+0 * 4) 4).toArray,lq=.slice (some ⟨b,o,none⟩) [x,y].length cap,zV=.pointer (some ⟨b,o+1 * 4,none⟩),mG=.agg (ba c (o+1 * 4) 4).toArray,Jz=.bool r,Rb=.int .i64 (gK r),x4=.int .i64 (gK r)]/\(D 7=false->Inv w X ([.blk b3 (.cells #[.int .i64 k,.int .i64 n,.string s,.slice (some ⟨b,o,none⟩) [x,y].length cap] ab)]++au sb mb es ck tv tr) S w_)/\(D 7=true->∃ es1 ck1 tv1 tr1,KnownM S es1 st'/\tr1.length+unb st'<=1000000/\Tr st st' tr tr1/\Inv w X ([.blk b3 (.cells #[.int .i64 k,.int .i64 n,.string s,.slice (some ⟨b,o,none⟩) [x,y].length cap] ab)]++au sb mb es1 ck1 tv1 tr1) S w_)/\∃ es3 ck3 tv3 tr3,Inv w X ([.blk b3 (.cells #[.int .i64 k,.int .i64 n,.string s,.slice (some ⟨b,o,none⟩) [x,y].length cap] ab)]++au sb mb es3 ck3 tv3 tr3) S w_,⟨Fx.nil _ _,⟨fun _=>hI.draw,aQ,es,ck,tv,tr,hI.draw⟩⟩,⟨?_,?_,?_,?_,?_,?_,?_,?_,?_,?_,trivial⟩,?_⟩
  all_goals (intro D bI; intros; rename_i x4 Rb Jz mG zV lq Ak qm ge pu w_ hA_; have hF_:=hA_.1; obtain ⟨⟨cJ,cH,cK,cI,cN,cP,cz,dC,ek,fZ,_⟩,⟨hI0,hI1,es3,ck3,tv3,tr3,hI⟩⟩:=hA_)
  ·exact ⟨hF_.set 0 rfl,⟨hI0,hI1,es3,ck3,tv3,tr3,hI⟩⟩
  ·exact ⟨hF_.set 1 rfl,⟨hI0,hI1,es3,ck3,tv3,tr3,hI⟩⟩
  ·obtain rfl:=cH ‹_›
   refine aD (i:=0) ah (by simp) ?_
   exact ⟨hF_.set 2 rfl,⟨hI0,hI1,es3,ck3,tv3,tr3,hI⟩⟩
  ·obtain rfl:=cK ‹_›
   refine cm ac (RdT.length (hR 0 (by simp))) (fun j v hj=>by rw [hI.cellS hSb]; exact aL rfl j v hj) ?_
   exact ⟨hF_.set 3 rfl,⟨hI0,hI1,es3,ck3,tv3,tr3,hI⟩⟩
  ·exact ⟨hF_.set 4 rfl,⟨hI0,hI1,es3,ck3,tv3,tr3,hI⟩⟩
  ·obtain rfl:=cN ‹_›
   refine aD (i:=1) ah (by simp) ?_
   exact ⟨hF_.set 5 rfl,⟨hI0,hI1,es3,ck3,tv3,tr3,hI⟩⟩
  ·obtain rfl:=cP ‹_›
   refine cm ac (RdT.length (hR 1 (by simp))) (fun j v hj=>by rw [hI.cellS hSb]; exact aL rfl j v hj) ?_
   exact ⟨hF_.set 6 rfl,⟨hI0,hI1,es3,ck3,tv3,tr3,hI⟩⟩
  ·obtain rfl:=cJ ‹_›
   obtain rfl:=cI ‹_›
   obtain rfl:=cz ‹_›
   refine Run.callE (A:=[_]) dT dQ (hI0 bI) (gr hN hg hjj hu S _ _ sb mb ck es tv tr (hR 0 (by simp)) (hR 1 (by simp)) hkm htr) fun v' I' S' w_=>?_
   rintro ⟨eS,rfl,es1,ck1,tv1,tr1,rfl,hm1,htr1,hT1⟩ _ hI
   rw [eS] at hI
   have hI0:=fun (h:aB D 7 7=false)=>(Bool.noConfusion h:Inv w X ([.blk b3 (.cells #[.int .i64 k,.int .i64 n,.string s,.slice (some ⟨b,o,none⟩) [x,y].length cap] ab)]++au sb mb es ck tv tr) S w_)
   have hI1:=fun (_:aB D 7 7=true)=>(⟨es1,ck1,tv1,tr1,hm1,htr1,hT1,hI⟩:∃ es1 ck1 tv1 tr1,KnownM S es1 st'/\tr1.length+unb st'<=1000000/\Tr st st' tr tr1/\Inv w X ([.blk b3 (.cells #[.int .i64 k,.int .i64 n,.string s,.slice (some ⟨b,o,none⟩) [x,y].length cap] ab)]++au sb mb es1 ck1 tv1 tr1) S w_)
   obtain ⟨es3,ck3,tv3,tr3,hI⟩:∃ es3 ck3 tv3 tr3,Inv w X ([.blk b3 (.cells #[.int .i64 k,.int .i64 n,.string s,.slice (some ⟨b,o,none⟩) [x,y].length cap] ab)]++au sb mb es3 ck3 tv3 tr3) S w_:=⟨es1,ck1,tv1,tr1,hI⟩
   exact ⟨hF_.set 7 rfl,⟨hI0,hI1,es3,ck3,tv3,tr3,hI⟩⟩
  ·obtain rfl:=dC ‹_›
   obtain ⟨es1,ck1,tv1,tr1,hm1,htr1,hT1,hI⟩:=hI1 ‹D 7=true›
   refine Run.callPure fn_i_holds nm_i_holds hI (dk r S) fun w_ hI=>?_
   have hI0:=fun (h:aB D 8 7=false)=>(Bool.noConfusion (h.symm.trans (show aB D 8 7=true from ‹D 7=true›)):Inv w X ([.blk b3 (.cells #[.int .i64 k,.int .i64 n,.string s,.slice (some ⟨b,o,none⟩) [x,y].length cap] ab)]++au sb mb es ck tv tr) S w_)
   have hI1:=fun (_:aB D 8 7=true)=>(⟨es1,ck1,tv1,tr1,hm1,htr1,hT1,hI⟩:∃ es1 ck1 tv1 tr1,KnownM S es1 st'/\tr1.length+unb st'<=1000000/\Tr st st' tr tr1/\Inv w X ([.blk b3 (.cells #[.int .i64 k,.int .i64 n,.string s,.slice (some ⟨b,o,none⟩) [x,y].length cap] ab)]++au sb mb es1 ck1 tv1 tr1) S w_)
   obtain ⟨es3,ck3,tv3,tr3,hI⟩:∃ es3 ck3 tv3 tr3,Inv w X ([.blk b3 (.cells #[.int .i64 k,.int .i64 n,.string s,.slice (some ⟨b,o,none⟩) [x,y].length cap] ab)]++au sb mb es3 ck3 tv3 tr3) S w_:=⟨es1,ck1,tv1,tr1,hI⟩
   exact ⟨hF_.set 8 rfl,⟨hI0,hI1,es3,ck3,tv3,tr3,hI⟩⟩
  ·obtain rfl:=ek ‹_›
   exact ⟨hF_.set 9 rfl,⟨hI0,hI1,es3,ck3,tv3,tr3,hI⟩⟩
  obtain ⟨rfl,rfl,rfl,rfl,rfl,rfl,rfl,rfl,rfl,rfl,_⟩:=hF_.all
  have C5:D 7=true:=by assumption
  clear hF_ cJ cH cK cI cN cP cz dC ek fZ
  obtain ⟨es1,ck1,tv1,tr1,hm1,htr1,hT1,hI⟩:=hI1 C5
  exact ⟨_,_,S,rfl,hI.sub (dz [_] _),Ext.refl _ _ _,rfl,rfl,es1,ck1,tv1,tr1,rfl,hm1,htr1,hT1⟩
 refine bt ?_
 refine aH (fun h=>?_) (fun h3=>?_)
 ·obtain ⟨x,y,rfl⟩:=xw (l:=ks) (by have:=kO (by rw [h]; decide +kernel) hbs; omega)
  have hj:g7 (.mk k n s [x,y])=.not x y:=by
   rw [g7,af (show ¬ (T.mk k n s [x,y]).name=lm from h0),af (show ¬ (T.mk k n s [x,y]).name=mg from h1),af (show ¬ (T.mk k n s [x,y]).name=nEq from h2),ai (show (T.mk k n s [x,y]).name=nNe from h)]
   rfl
  rw [hj] at hB hbj
  obtain ⟨b,o,cap,c,E,fz,rfl,hSb,hR⟩:=hks.ptr (by simp)
  obtain ⟨rfl,r,st1,hu,rfl⟩:=hB
  have hjj:okJ N (.one x y):=hbj
  refine ar ?_
  refine ae hI 1 rfl eO gW rfl ?_
  obtain ⟨ta,tn,tc,htv⟩:=hI.rowSlice 3 rfl
  have htn:tn=tr.length:=by
   have hm:w'.ownsRow 0 b0 1 tv tr.length (ints tr):=hI.its (dX tv tr) (by simp [au])
   rcases hm.2 with ⟨e1,e2⟩|⟨g1,c1,u1,e1,_⟩
   ·rw [htv] at e1; simp only [Value.slice.injEq] at e1; omega
   ·rw [htv] at e1; simp only [Value.slice.injEq] at e1; omega
  obtain rfl:=htn
  rw [htv]
  refine gL dD ?_
  refine ⟨fun D x7 Af Mc Ml MK Mu MQ Hm KL w_=>Fx D 0 [KL=.pointer (some ⟨sb,0,none⟩),Hm=.slice (some ⟨b,o,none⟩) [x,y].length cap,MQ=.pointer (some ⟨b,o+0 * 4,none⟩),Mu=.agg (ba c (o+0 * 4) 4).toArray,MK=.slice (some ⟨b,o,none⟩) [x,y].length cap,Ml=.pointer (some ⟨b,o+1 * 4,none⟩),Mc=.agg (ba c (o+1 * 4) 4).toArray,Af=.bool r,x7=.bool r]/\(D 7=false->Inv w X ([.blk b3 (.cells #[.int .i64 k,.int .i64 n,.string s,.slice (some ⟨b,o,none⟩) [x,y].length cap] ab)]++au sb mb es ck tv tr) S w_)/\(D 7=true->∃ es1 ck1 tv1 tr1,KnownM S es1 st1/\tr1.length+unb st1<=1000000/\Tr st' st1 tr tr1/\Inv w X ([.blk b3 (.cells #[.int .i64 k,.int .i64 n,.string s,.slice (some ⟨b,o,none⟩) [x,y].length cap] ab)]++au sb mb es1 ck1 tv1 tr1) S w_)/\∃ es3 ck3 tv3 tr3,Inv w X ([.blk b3 (.cells #[.int .i64 k,.int .i64 n,.string s,.slice (some ⟨b,o,none⟩) [x,y].length cap] ab)]++au sb mb es3 ck3 tv3 tr3) S w_,⟨Fx.nil _ _,⟨fun _=>hI.draw,aQ,es,ck,tv,tr,hI.draw⟩⟩,⟨?_,?_,?_,?_,?_,?_,?_,?_,?_,trivial⟩,?_⟩
  all_goals (intro D bI; intros; rename_i x7 Af Mc Ml MK Mu MQ Hm KL w_ hA_; have hF_:=hA_.1; obtain ⟨⟨cJ,cH,cK,cI,cN,cP,cz,dC,ek,_⟩,⟨hI0,hI1,es3,ck3,tv3,tr3,hI⟩⟩:=hA_)
  ·exact ⟨hF_.set 0 rfl,⟨hI0,hI1,es3,ck3,tv3,tr3,hI⟩⟩
  ·exact ⟨hF_.set 1 rfl,⟨hI0,hI1,es3,ck3,tv3,tr3,hI⟩⟩
  ·obtain rfl:=cH ‹_›
   refine aD (i:=0) ah (by simp) ?_
   exact ⟨hF_.set 2 rfl,⟨hI0,hI1,es3,ck3,tv3,tr3,hI⟩⟩
  ·obtain rfl:=cK ‹_›
   refine cm ac (RdT.length (hR 0 (by simp))) (fun j v hj=>by rw [hI.cellS hSb]; exact aL rfl j v hj) ?_
   exact ⟨hF_.set 3 rfl,⟨hI0,hI1,es3,ck3,tv3,tr3,hI⟩⟩
  ·exact ⟨hF_.set 4 rfl,⟨hI0,hI1,es3,ck3,tv3,tr3,hI⟩⟩
  ·obtain rfl:=cN ‹_›
   refine aD (i:=1) ah (by simp) ?_
   exact ⟨hF_.set 5 rfl,⟨hI0,hI1,es3,ck3,tv3,tr3,hI⟩⟩
  ·obtain rfl:=cP ‹_›
   refine cm ac (RdT.length (hR 1 (by simp))) (fun j v hj=>by rw [hI.cellS hSb]; exact aL rfl j v hj) ?_
   exact ⟨hF_.set 6 rfl,⟨hI0,hI1,es3,ck3,tv3,tr3,hI⟩⟩
  ·obtain rfl:=cJ ‹_›
   obtain rfl:=cI ‹_›
   obtain rfl:=cz ‹_›
   refine Run.callE (A:=[_]) dT dQ (hI0 bI) (gr hN hg hjj hu S _ _ sb mb ck es tv tr (hR 0 (by simp)) (hR 1 (by simp)) hkm htr) fun v' I' S' w_=>?_
   rintro ⟨eS,rfl,es1,ck1,tv1,tr1,rfl,hm1,htr1,hT1⟩ _ hI
   rw [eS] at hI
   have hI0:=fun (h:aB D 7 7=false)=>(Bool.noConfusion h:Inv w X ([.blk b3 (.cells #[.int .i64 k,.int .i64 n,.string s,.slice (some ⟨b,o,none⟩) [x,y].length cap] ab)]++au sb mb es ck tv tr) S w_)
   have hI1:=fun (_:aB D 7 7=true)=>(⟨es1,ck1,tv1,tr1,hm1,htr1,hT1,hI⟩:∃ es1 ck1 tv1 tr1,KnownM S es1 st1/\tr1.length+unb st1<=1000000/\Tr st' st1 tr tr1/\Inv w X ([.blk b3 (.cells #[.int .i64 k,.int .i64 n,.string s,.slice (some ⟨b,o,none⟩) [x,y].length cap] ab)]++au sb mb es1 ck1 tv1 tr1) S w_)
   obtain ⟨es3,ck3,tv3,tr3,hI⟩:∃ es3 ck3 tv3 tr3,Inv w X ([.blk b3 (.cells #[.int .i64 k,.int .i64 n,.string s,.slice (some ⟨b,o,none⟩) [x,y].length cap] ab)]++au sb mb es3 ck3 tv3 tr3) S w_:=⟨es1,ck1,tv1,tr1,hI⟩
   exact ⟨hF_.set 7 rfl,⟨hI0,hI1,es3,ck3,tv3,tr3,hI⟩⟩
  ·obtain rfl:=dC ‹_›
   exact ⟨hF_.set 8 rfl,⟨hI0,hI1,es3,ck3,tv3,tr3,hI⟩⟩
  obtain ⟨rfl,rfl,rfl,rfl,rfl,rfl,rfl,rfl,rfl,_⟩:=hF_.all
  have C5:D 7=true:=by assumption
  clear hF_ cJ cH cK cI cN cP cz dC ek
  obtain ⟨es1,ck1,tv1,tr1,hm1,htr1,⟨ns,rfl,hun,hns,_⟩,hI⟩:=hI1 C5
  have hd1:(tr++ns).drop tr.length=ns:=by rw [Me]
  have hd2:(tr++ns).take tr.length=tr:=by rw [BZ]
  refine Run.callE (A:=[_]) jb jd hI (sQ (mark:=tr.length) hm1 (by simp) (by rw [hd1]; intro n hn; obtain ⟨j,rfl,_⟩:=hns n hn; omega) (by omega)) fun v' I' S' w'=>?_
  rintro ⟨eS,rfl,es2,tv2,rfl,hm2⟩ _ hI
  rw [eS] at hI
  rw [hd1,hun] at hm2
  rw [hd2] at hI
  refine ct ?_
  refine Run.callPure fn_i_holds nm_i_holds hI (dk (!r) S) fun w' hI=>?_
  exact ⟨_,_,S,rfl,hI.sub (dz [_] _),Ext.refl _ _ _,rfl,rfl,es2,ck1,tv2,tr,rfl,hm2,htr,Tr.refl _ _⟩
 refine bt ?_
 refine aH (fun h=>?_) (fun h4=>?_)
 ·obtain ⟨x,y,rfl⟩:=xw (l:=ks) (by have:=kO (by rw [h]; decide +kernel) hbs; omega)
  have hj:g7 (.mk k n s [x,y])=.done (gK (eqT x y)):=by
   rw [g7,af (show ¬ (T.mk k n s [x,y]).name=lm from h0),af (show ¬ (T.mk k n s [x,y]).name=mg from h1),af (show ¬ (T.mk k n s [x,y]).name=nEq from h2),af (show ¬ (T.mk k n s [x,y]).name=nNe from h3),ai (show (T.mk k n s [x,y]).name=sq from h)]
   rfl
  rw [hj] at hB hbj
  obtain ⟨b,o,cap,c,E,fz,rfl,hSb,hR⟩:=hks.ptr (by simp)
  refine ⟨fun D x4 ET CE BK zR Bq Ct B5 BI w_=>Fx D 0 [BI=.slice (some ⟨b,o,none⟩) [x,y].length cap,B5=.pointer (some ⟨b,o+0 * 4,none⟩),Ct=.agg (ba c (o+0 * 4) 4).toArray,Bq=.slice (some ⟨b,o,none⟩) [x,y].length cap,zR=.pointer (some ⟨b,o+1 * 4,none⟩),BK=.agg (ba c (o+1 * 4) 4).toArray,CE=.bool (eqT x y),ET=.int .i64 (gK (eqT x y)),x4=.int .i64 (gK (eqT x y))]/\Inv w X ([.blk b3 (.cells #[.int .i64 k,.int .i64 n,.string s,.slice (some ⟨b,o,none⟩) [x,y].length cap] ab)]++au sb mb es ck tv tr) S w_,⟨Fx.nil _ _,hI.draw⟩,⟨?_,?_,?_,?_,?_,?_,?_,?_,?_,trivial⟩,?_⟩
  all_goals (intro D bI; intros; rename_i x4 ET CE BK zR Bq Ct B5 BI w_ hA_; have hF_:=hA_.1; obtain ⟨⟨cJ,cH,cK,cI,cN,cP,cz,dC,ek,_⟩,hI⟩:=hA_)
  ·exact ⟨hF_.set 0 rfl,hI⟩
  ·obtain rfl:=cJ ‹_›
   refine aD (i:=0) ah (by simp) ?_
   exact ⟨hF_.set 1 rfl,hI⟩
  ·obtain rfl:=cH ‹_›
   refine cm ac (RdT.length (hR 0 (by simp))) (fun j v hj=>by rw [hI.cellS hSb]; exact aL rfl j v hj) ?_
   exact ⟨hF_.set 2 rfl,hI⟩
  ·exact ⟨hF_.set 3 rfl,hI⟩
  ·obtain rfl:=cI ‹_›
   refine aD (i:=1) ah (by simp) ?_
   exact ⟨hF_.set 4 rfl,hI⟩
  ·obtain rfl:=cN ‹_›
   refine cm ac (RdT.length (hR 1 (by simp))) (fun j v hj=>by rw [hI.cellS hSb]; exact aL rfl j v hj) ?_
   exact ⟨hF_.set 5 rfl,hI⟩
  ·obtain rfl:=cK ‹_›
   obtain rfl:=cP ‹_›
   refine Run.callPure lK l3 hI (fW x y S _ _ (hR 0 (by simp)) (hR 1 (by simp))) fun w_ hI=>?_
   exact ⟨hF_.set 6 rfl,hI⟩
  ·obtain rfl:=cz ‹_›
   refine Run.callPure fn_i_holds nm_i_holds hI (dk _ S) fun w_ hI=>?_
   exact ⟨hF_.set 7 rfl,hI⟩
  ·obtain rfl:=dC ‹_›
   exact ⟨hF_.set 8 rfl,hI⟩
  obtain ⟨rfl,rfl,rfl,rfl,rfl,rfl,rfl,rfl,rfl,_⟩:=hF_.all
  clear hF_ cJ cH cK cI cN cP cz dC ek
  exact fin _ rfl hB hI (sub1 _)
 refine bt ?_
 refine aH (fun h=>?_) (fun h5=>?_)
 ·obtain ⟨x,y,rfl⟩:=xw (l:=ks) (by have:=kO (by rw [h]; decide +kernel) hbs; omega)
  have hj:g7 (.mk k n s [x,y])=if (dh y).2≠0 then .done (dh y).2 else .uni x (HT (dh y).1):=by
   rw [g7,af (show ¬ (T.mk k n s [x,y]).name=lm from h0),af (show ¬ (T.mk k n s [x,y]).name=mg from h1),af (show ¬ (T.mk k n s [x,y]).name=nEq from h2),af (show ¬ (T.mk k n s [x,y]).name=nNe from h3),af (show ¬ (T.mk k n s [x,y]).name=sq from h4),ai (show (T.mk k n s [x,y]).name=nIs from h)]
   rfl
  rw [hj] at hB hbj
  obtain ⟨b,o,cap,c,E,fz,rfl,hSb,hR⟩:=hks.ptr (by simp)
  have ny:=iM hn.2 y (by simp)
  refine cj (i:=1) hI hks ah ac (by simp) (fun _ _=>RdT.length) fun ds hds=>?_
  refine Run.callPure jV kB hI (lN y S ds hds ny) fun w' hI=>?_
  refine al (v:=.int .i64 _) rfl ?_
  refine al (v:=.int .i64 _) rfl ?_
  refine gV ?_
  refine aw (fun h6=>?_) (fun h6=>?_)
  ·simp at h6
   exact fin _ (ai h6) hB hI (sub1 _)
  simp at h6
  rw [af (by simp [h6])] at hB hbj
  obtain ⟨r,hu,rfl⟩:=hB
  have hjj:okJ N (.one x (HT (dh y).1)):=hbj
  have hsm:=s9 y ny
  unfold Sm at hsm
  refine ⟨fun D x4 Ok Q4 N4 O2 Q5 QZ Rk Rg w_=>Fx D 0 [Rg=.pointer (some ⟨sb,0,none⟩),Rk=.slice (some ⟨b,o,none⟩) [x,y].length cap,QZ=.pointer (some ⟨b,o+0 * 4,none⟩),Q5=.agg (ba c (o+0 * 4) 4).toArray,O2=.int .i64 (dh y).1,N4=.agg #[.int .i64 2,.int .i64 (dh y).1,.string ⟨#[]⟩,.slice none 0 0],Q4=.bool r,Ok=.int .i64 (gK r),x4=.int .i64 (gK r)]/\(D 6=false->Inv w X ([.blk b3 (.cells #[.int .i64 k,.int .i64 n,.string s,.slice (some ⟨b,o,none⟩) [x,y].length cap] ab)]++au sb mb es ck tv tr) S w_)/\(D 6=true->∃ es1 ck1 tv1 tr1,KnownM S es1 st'/\tr1.length+unb st'<=1000000/\Tr st st' tr tr1/\Inv w X ([.blk b3 (.cells #[.int .i64 k,.int .i64 n,.string s,.slice (some ⟨b,o,none⟩) [x,y].length cap] ab)]++au sb mb es1 ck1 tv1 tr1) S w_)/\∃ es3 ck3 tv3 tr3,Inv w X ([.blk b3 (.cells #[.int .i64 k,.int .i64 n,.string s,.slice (some ⟨b,o,none⟩) [x,y].length cap] ab)]++au sb mb es3 ck3 tv3 tr3) S w_,⟨Fx.nil _ _,⟨fun _=>hI.draw,aQ,es,ck,tv,tr,hI.draw⟩⟩,⟨?_,?_,?_,?_,?_,?_,?_,?_,?_,trivial⟩,?_⟩
  all_goals (intro D bI; intros; rename_i x4 Ok Q4 N4 O2 Q5 QZ Rk Rg w_ hA_; have hF_:=hA_.1; obtain ⟨⟨cJ,cH,cK,cI,cN,cP,cz,dC,ek,_⟩,⟨hI0,hI1,es3,ck3,tv3,tr3,hI⟩⟩:=hA_)
  ·exact ⟨hF_.set 0 rfl,⟨hI0,hI1,es3,ck3,tv3,tr3,hI⟩⟩
  ·exact ⟨hF_.set 1 rfl,⟨hI0,hI1,es3,ck3,tv3,tr3,hI⟩⟩
  ·obtain rfl:=cH ‹_›
   refine aD (i:=0) ah (by simp) ?_
   exact ⟨hF_.set 2 rfl,⟨hI0,hI1,es3,ck3,tv3,tr3,hI⟩⟩
  ·obtain rfl:=cK ‹_›
   refine cm ac (RdT.length (hR 0 (by simp))) (fun j v hj=>by rw [hI.cellS hSb]; exact aL rfl j v hj) ?_
   exact ⟨hF_.set 3 rfl,⟨hI0,hI1,es3,ck3,tv3,tr3,hI⟩⟩
  ·exact ⟨hF_.set 4 rfl,⟨hI0,hI1,es3,ck3,tv3,tr3,hI⟩⟩
  ·obtain rfl:=cN ‹_›
   have f6:D 6=D 6:=rfl
   cases f6v:D 6
   ·refine Run.callPure xP yN (hI0 f6v) (qo _ S) fun w_ hI=>?_
    have hI0:=fun (_:aB D 5 6=false)=>hI
    have hI1:=fun (h:aB D 5 6=true)=>(Bool.noConfusion (f6v.symm.trans h):∃ es1 ck1 tv1 tr1,KnownM S es1 st'/\tr1.length+unb st'<=1000000/\Tr st st' tr tr1/\Inv w X ([.blk b3 (.cells #[.int .i64 k,.int .i64 n,.string s,.slice (some ⟨b,o,none⟩) [x,y].length cap] ab)]++au sb mb es1 ck1 tv1 tr1) S w_)
    obtain ⟨es3,ck3,tv3,tr3,hI⟩:∃ es3 ck3 tv3 tr3,Inv w X ([.blk b3 (.cells #[.int .i64 k,.int .i64 n,.string s,.slice (some ⟨b,o,none⟩) [x,y].length cap] ab)]++au sb mb es3 ck3 tv3 tr3) S w_:=⟨es,ck,tv,tr,hI⟩
    exact ⟨hF_.set 5 rfl,⟨hI0,hI1,es3,ck3,tv3,tr3,hI⟩⟩
   obtain ⟨es1,ck1,tv1,tr1,hm1,htr1,hT1,hI⟩:=hI1 f6v
   refine Run.callPure xP yN hI (qo _ S) fun w_ hI=>?_
   have hI0:=fun (h:aB D 5 6=false)=>(Bool.noConfusion (h.symm.trans f6v):Inv w X ([.blk b3 (.cells #[.int .i64 k,.int .i64 n,.string s,.slice (some ⟨b,o,none⟩) [x,y].length cap] ab)]++au sb mb es ck tv tr) S w_)
   have hI1:=fun (_:aB D 5 6=true)=>(⟨es1,ck1,tv1,tr1,hm1,htr1,hT1,hI⟩:∃ es1 ck1 tv1 tr1,KnownM S es1 st'/\tr1.length+unb st'<=1000000/\Tr st st' tr tr1/\Inv w X ([.blk b3 (.cells #[.int .i64 k,.int .i64 n,.string s,.slice (some ⟨b,o,none⟩) [x,y].length cap] ab)]++au sb mb es1 ck1 tv1 tr1) S w_)
   obtain ⟨es3,ck3,tv3,tr3,hI⟩:∃ es3 ck3 tv3 tr3,Inv w X ([.blk b3 (.cells #[.int .i64 k,.int .i64 n,.string s,.slice (some ⟨b,o,none⟩) [x,y].length cap] ab)]++au sb mb es3 ck3 tv3 tr3) S w_:=⟨es1,ck1,tv1,tr1,hI⟩
   exact ⟨hF_.set 5 rfl,⟨hI0,hI1,es3,ck3,tv3,tr3,hI⟩⟩
  ·obtain rfl:=cJ ‹_›
   obtain rfl:=cI ‹_›
   obtain rfl:=cP ‹_›
   refine Run.callE (A:=[_]) dT dQ (hI0 bI) (gr hN hg hjj hu S _ _ sb mb ck es tv tr (hR 0 (by simp)) (qb (by simp [inI]) (by simp only [inI]; omega)) hkm htr) fun v' I' S' w_=>?_
   rintro ⟨eS,rfl,es1,ck1,tv1,tr1,rfl,hm1,htr1,hT1⟩ _ hI
   rw [eS] at hI
   have hI0:=fun (h:aB D 6 6=false)=>(Bool.noConfusion h:Inv w X ([.blk b3 (.cells #[.int .i64 k,.int .i64 n,.string s,.slice (some ⟨b,o,none⟩) [x,y].length cap] ab)]++au sb mb es ck tv tr) S w_)
   have hI1:=fun (_:aB D 6 6=true)=>(⟨es1,ck1,tv1,tr1,hm1,htr1,hT1,hI⟩:∃ es1 ck1 tv1 tr1,KnownM S es1 st'/\tr1.length+unb st'<=1000000/\Tr st st' tr tr1/\Inv w X ([.blk b3 (.cells #[.int .i64 k,.int .i64 n,.string s,.slice (some ⟨b,o,none⟩) [x,y].length cap] ab)]++au sb mb es1 ck1 tv1 tr1) S w_)
   obtain ⟨es3,ck3,tv3,tr3,hI⟩:∃ es3 ck3 tv3 tr3,Inv w X ([.blk b3 (.cells #[.int .i64 k,.int .i64 n,.string s,.slice (some ⟨b,o,none⟩) [x,y].length cap] ab)]++au sb mb es3 ck3 tv3 tr3) S w_:=⟨es1,ck1,tv1,tr1,hI⟩
   exact ⟨hF_.set 6 rfl,⟨hI0,hI1,es3,ck3,tv3,tr3,hI⟩⟩
  ·obtain rfl:=cz ‹_›
   obtain ⟨es1,ck1,tv1,tr1,hm1,htr1,hT1,hI⟩:=hI1 ‹D 6=true›
   refine Run.callPure fn_i_holds nm_i_holds hI (dk r S) fun w_ hI=>?_
   have hI0:=fun (h:aB D 7 6=false)=>(Bool.noConfusion (h.symm.trans (show aB D 7 6=true from ‹D 6=true›)):Inv w X ([.blk b3 (.cells #[.int .i64 k,.int .i64 n,.string s,.slice (some ⟨b,o,none⟩) [x,y].length cap] ab)]++au sb mb es ck tv tr) S w_)
   have hI1:=fun (_:aB D 7 6=true)=>(⟨es1,ck1,tv1,tr1,hm1,htr1,hT1,hI⟩:∃ es1 ck1 tv1 tr1,KnownM S es1 st'/\tr1.length+unb st'<=1000000/\Tr st st' tr tr1/\Inv w X ([.blk b3 (.cells #[.int .i64 k,.int .i64 n,.string s,.slice (some ⟨b,o,none⟩) [x,y].length cap] ab)]++au sb mb es1 ck1 tv1 tr1) S w_)
   obtain ⟨es3,ck3,tv3,tr3,hI⟩:∃ es3 ck3 tv3 tr3,Inv w X ([.blk b3 (.cells #[.int .i64 k,.int .i64 n,.string s,.slice (some ⟨b,o,none⟩) [x,y].length cap] ab)]++au sb mb es3 ck3 tv3 tr3) S w_:=⟨es1,ck1,tv1,tr1,hI⟩
   exact ⟨hF_.set 7 rfl,⟨hI0,hI1,es3,ck3,tv3,tr3,hI⟩⟩
  ·obtain rfl:=dC ‹_›
   exact ⟨hF_.set 8 rfl,⟨hI0,hI1,es3,ck3,tv3,tr3,hI⟩⟩
  obtain ⟨rfl,rfl,rfl,rfl,rfl,rfl,rfl,rfl,rfl,_⟩:=hF_.all
  have M6:D 6=true:=by assumption
  clear hF_ cJ cH cK cI cN cP cz dC ek
  obtain ⟨es1,ck1,tv1,tr1,hm1,htr1,hT1,hI⟩:=hI1 M6
  exact ⟨_,_,S,rfl,hI.sub (dz [_] _),Ext.refl _ _ _,rfl,rfl,es1,ck1,tv1,tr1,rfl,hm1,htr1,hT1⟩
 refine bt ?_
 refine aH (fun h=>?_) (fun g1=>?_)
 ·obtain ⟨x,rfl⟩:=FV (l:=ks) (by
    rcases qr hbs h0 h1 h2 h3 h4 h5 hcn with ⟨_,h⟩|⟨h',_⟩
    ·omega
    ·rw [h] at h'; exact absurd h' (by decide +kernel))
  have hj:g7 (.mk k n s [x])=.done (gK (tA s x)):=by
   rw [g7,af (show ¬ (T.mk k n s [x]).name=lm from h0),af (show ¬ (T.mk k n s [x]).name=mg from h1),af (show ¬ (T.mk k n s [x]).name=nEq from h2),af (show ¬ (T.mk k n s [x]).name=nNe from h3),af (show ¬ (T.mk k n s [x]).name=sq from h4),af (show ¬ (T.mk k n s [x]).name=nIs from h5),af (show ¬ (T.mk k n s [x]).name=DC from by rw [show (T.mk k n s [x]).name=s from rfl,h]; decide +kernel),show (T.mk k n s [x]).name=s from rfl,hcn,af (by decide)]
   rfl
  rw [hj] at hB
  have ht:tA s x=decide (x.kind=1):=by rw [h]; rfl
  refine nQ hI hks ah aV aI (i:=0) (by simp) (fun cs hcs=>RdT.f0 hcs) ?_
  refine bl ?_
  exact Run.callPure fn_i_holds nm_i_holds hI (dk _ S) fun w' hI=>fin _ (by rw [ht]; rfl) hB hI (sub1 _)
 refine bt ?_
 refine aH (fun h=>?_) (fun g2=>?_)
 ·obtain ⟨x,rfl⟩:=FV (l:=ks) (by
    rcases qr hbs h0 h1 h2 h3 h4 h5 hcn with ⟨_,h⟩|⟨h',_⟩
    ·omega
    ·rw [h] at h'; exact absurd h' (by decide +kernel))
  have hj:g7 (.mk k n s [x])=.done (gK (tA s x)):=by
   rw [g7,af (show ¬ (T.mk k n s [x]).name=lm from h0),af (show ¬ (T.mk k n s [x]).name=mg from h1),af (show ¬ (T.mk k n s [x]).name=nEq from h2),af (show ¬ (T.mk k n s [x]).name=nNe from h3),af (show ¬ (T.mk k n s [x]).name=sq from h4),af (show ¬ (T.mk k n s [x]).name=nIs from h5),af (show ¬ (T.mk k n s [x]).name=DC from by rw [show (T.mk k n s [x]).name=s from rfl,h]; decide +kernel),show (T.mk k n s [x]).name=s from rfl,hcn,af (by decide)]
   rfl
  rw [hj] at hB
  have ht:tA s x=!decide (x.kind=1):=by rw [h]; rfl
  refine nQ hI hks ah aV aI (i:=0) (by simp) (fun cs hcs=>RdT.f0 hcs) ?_
  refine gV ?_
  exact Run.callPure fn_i_holds nm_i_holds hI (dk _ S) fun w' hI=>fin _ (by rw [ht]; rfl) hB hI (sub1 _)
 refine bt ?_
 refine aH (fun h=>?_) (fun g3=>?_)
 ·obtain ⟨x,rfl⟩:=FV (l:=ks) (by
    rcases qr hbs h0 h1 h2 h3 h4 h5 hcn with ⟨_,h⟩|⟨h',_⟩
    ·omega
    ·rw [h] at h'; exact absurd h' (by decide +kernel))
  have hj:g7 (.mk k n s [x])=.done (gK (tA s x)):=by
   rw [g7,af (show ¬ (T.mk k n s [x]).name=lm from h0),af (show ¬ (T.mk k n s [x]).name=mg from h1),af (show ¬ (T.mk k n s [x]).name=nEq from h2),af (show ¬ (T.mk k n s [x]).name=nNe from h3),af (show ¬ (T.mk k n s [x]).name=sq from h4),af (show ¬ (T.mk k n s [x]).name=nIs from h5),af (show ¬ (T.mk k n s [x]).name=DC from by rw [show (T.mk k n s [x]).name=s from rfl,h]; decide +kernel),show (T.mk k n s [x]).name=s from rfl,hcn,af (by decide)]
   rfl
  rw [hj] at hB
  have ht:tA s x=(decide (x.kind=3) && decide (x.kids.length=0)):=by rw [h]; rfl
  refine cj (i:=0) hI hks ah ac (by simp) (fun _ _=>RdT.length) fun ds hds=>?_
  refine Run.callPure xF x1 hI (un hds) fun w' hI=>?_
  exact Run.callPure fn_i_holds nm_i_holds hI (dk _ S) fun w' hI=>fin _ (by rw [ht]; rfl) hB hI (sub1 _)
 refine bt ?_
 refine aH (fun h=>?_) (fun g4=>?_)
 ·obtain ⟨x,rfl⟩:=FV (l:=ks) (by
    rcases qr hbs h0 h1 h2 h3 h4 h5 hcn with ⟨_,h⟩|⟨h',_⟩
    ·omega
    ·rw [h] at h'; exact absurd h' (by decide +kernel))
  have hj:g7 (.mk k n s [x])=.done (gK (tA s x)):=by
   rw [g7,af (show ¬ (T.mk k n s [x]).name=lm from h0),af (show ¬ (T.mk k n s [x]).name=mg from h1),af (show ¬ (T.mk k n s [x]).name=nEq from h2),af (show ¬ (T.mk k n s [x]).name=nNe from h3),af (show ¬ (T.mk k n s [x]).name=sq from h4),af (show ¬ (T.mk k n s [x]).name=nIs from h5),af (show ¬ (T.mk k n s [x]).name=DC from by rw [show (T.mk k n s [x]).name=s from rfl,h]; decide +kernel),show (T.mk k n s [x]).name=s from rfl,hcn,af (by decide)]
   rfl
  rw [hj] at hB
  have ht:tA s x=decide (x.kind=2):=by rw [h]; rfl
  refine nQ hI hks ah aV aI (i:=0) (by simp) (fun cs hcs=>RdT.f0 hcs) ?_
  refine bl ?_
  exact Run.callPure fn_i_holds nm_i_holds hI (dk _ S) fun w' hI=>fin _ (by rw [ht]; rfl) hB hI (sub1 _)
 have hall:s=DC/\ks.length=3:=by
  rcases qr hbs h0 h1 h2 h3 h4 h5 hcn with ⟨ht,_⟩|⟨h,hl⟩
  ·rw [cE,JJ] at ht
   obtain ⟨x,hx,hd⟩:=ht
   have hd:=of_decide_eq_true hd
   simp only [rO,cQ,ji,jg] at hx
   rcases hx with rfl|rfl|rfl|rfl
   ·exact absurd hd g1
   ·exact absurd hd g2
   ·exact absurd hd g3
   ·exact absurd hd g4
  ·exact ⟨h,by omega⟩
 obtain ⟨h,hl⟩:=hall
 obtain ⟨x,y,z,rfl⟩:=Pf hl
 have hj:g7 (.mk k n s [x,y,z])=GR x y z:=by
  rw [g7,af (show ¬ (T.mk k n s [x,y,z]).name=lm from h0),af (show ¬ (T.mk k n s [x,y,z]).name=mg from h1),af (show ¬ (T.mk k n s [x,y,z]).name=nEq from h2),af (show ¬ (T.mk k n s [x,y,z]).name=nNe from h3),af (show ¬ (T.mk k n s [x,y,z]).name=sq from h4),af (show ¬ (T.mk k n s [x,y,z]).name=nIs from h5),ai (show (T.mk k n s [x,y,z]).name=DC from h)]
  rfl
 rw [hj] at hB hbj
 obtain ⟨b,o,cap,c,E,fz,rfl,hSb,hR⟩:=hks.ptr (by simp)
 have hx:=hR 0 (by simp)
 have hy:=hR 1 (by simp)
 have hz:=hR 2 (by simp)
 obtain ⟨kx,hxe,_,hx2,_,_⟩:=RdT.iff.1 hx
 obtain ⟨ky,hye,_,_,_,hyk⟩:=RdT.iff.1 hy
 have hx:RdT S (ba c (o+0 * 4) 4) x:=hx
 have hy:RdT S (ba c (o+1 * 4) 4) y:=hy
 have hxe:ba c (o+0 * 4) 4=[.int .i64 x.kind,.int .i64 x.n,.string x.name,kx]:=hxe
 have hye:ba c (o+1 * 4) 4=[.int .i64 y.kind,.int .i64 y.n,.string y.name,ky]:=hye
 have hyk:RdSl S 4 (RdT S) ky y.kids:=hyk
 have hx2:inI x.n:=hx2
 have hky1:=hyk.le
 simp only [maxLen] at hky1
 refine ⟨fun q w'=>q=.bool (decide (x.kind=1 ∨ y.kind=1))/\Inv w X ([.blk b3 (.cells #[.int .i64 k,.int .i64 n,.string s,.slice (some ⟨b,o,none⟩) [x,y,z].length cap] ab)]++au sb mb es ck tv tr) S w',?_,?_⟩
 ·refine nQ hI hks ah aV aI (i:=0) (by simp) (fun cs hcs=>RdT.f0 hcs) ?_
  refine bl ?_
  have e0:([x,y,z]:List T)[0]=x:=rfl
  rw [e0]
  cases k1:decide (x.kind=1)
  ·refine rpG ?_
   refine nQ hI hks ah aV aI (i:=1) (by simp) (fun cs hcs=>RdT.f0 hcs) ?_
   refine bl ?_
   refine rpG ?_
   have:=of_decide_eq_false k1
   refine ⟨?_,hI⟩
   rw [Value.bool.injEq,fq]
   exact ⟨.inr,fun h=>h.resolve_left this⟩
  ·refine rpG ?_
   exact ⟨by rw [aS (.inl (of_decide_eq_true k1))],hI⟩
 intro q _ _ _ _ _ _ _ _ _ _ _ _ w'
 rintro ⟨rfl,hI⟩
 refine aH (fun k1=>fin 2 (by rw [GR,ai k1]) hB hI (sub1 _)) (fun k1=>?_)
 have el:decide ((y.kids.length:Int)=0)=decide (y.kids.length=0):=by rw [fq]; omega
 refine ⟨fun q w'=>q=.bool (decide (x.kind≠2 ∨ y.kind≠3 ∨ y.kids.length=0))/\Inv w X ([.blk b3 (.cells #[.int .i64 k,.int .i64 n,.string s,.slice (some ⟨b,o,none⟩) [x,y,z].length cap] ab)]++au sb mb es ck tv tr) S w',?_,?_⟩
 ·refine nQ hI hks ah aV aI (i:=0) (by simp) (fun cs hcs=>RdT.f0 hcs) ?_
  refine gV ?_
  have e0:([x,y,z]:List T)[0]=x:=rfl
  rw [e0]
  cases q2:decide (x.kind=2)
  ·refine rpG ?_
   exact ⟨by rw [aS (.inl (of_decide_eq_false q2))],hI⟩
  have q2:=of_decide_eq_true q2
  refine rpG ?_
  refine nQ hI hks ah aV aI (i:=1) (by simp) (fun cs hcs=>RdT.f0 hcs) ?_
  refine gV ?_
  have e1:([x,y,z]:List T)[1]=y:=rfl
  rw [e1]
  cases q3:decide (y.kind=3)
  ·refine rpG ?_
   exact ⟨by rw [aS (.inr (.inl (of_decide_eq_false q3)))],hI⟩
  have q3:=of_decide_eq_true q3
  refine rpG ?_
  refine aD (i:=1) ah (by simp) ?_
  refine aC av ?_
  refine cA ao (by rw [hI.cellS hSb]; exact aL hye 3 _ rfl) ?_
  refine aF hyk ah ?_
  refine bl ?_
  rw [el]
  refine rpG ?_
  refine ⟨?_,hI⟩
  rw [Value.bool.injEq,fq]
  simp [q2,q3]
 intro q _ _ _ _ _ _ _ _ _ _ _ _ _ _ _ _ _ _ _ _ w'
 rintro ⟨rfl,hI⟩
 refine aH (fun k2=>fin 3 (by rw [GR,af k1,ai k2]) hB hI (sub1 _)) (fun k2=>?_)
 have hwi:(decide (1<=x.n) && decide (x.n<=(y.kids.length:Int)))=!decide (x.n<1 ∨ (y.kids.length:Int)<x.n):=by
  by_cases h8:x.n<1
  ·simp [h8]; omega
  ·by_cases h9:(y.kids.length:Int)<x.n
   ·simp [h9]
   ·simp [h8,h9]; omega
 refine ⟨fun D Pw TU TK SO Sw Ts Ta SC TP TE PJ Oi w_=>Fx D 0 [Oi=.slice (some ⟨b,o,none⟩) [x,y,z].length cap,PJ=.pointer (some ⟨b,o+0 * 4,none⟩),TE=.pointer (some ⟨b,o+0 * 4+1,none⟩),TP=.int .i64 x.n,SC=.slice (some ⟨b,o,none⟩) [x,y,z].length cap,Ta=.pointer (some ⟨b,o+1 * 4,none⟩),Ts=.pointer (some ⟨b,o+1 * 4+3,none⟩),Sw=ky,SO=.int .i64 y.kids.length,TK=.bool (!decide (x.n<1 ∨ (y.kids.length:Int)<x.n)),TU=.bool (decide (x.n<1 ∨ (y.kids.length:Int)<x.n)),Pw=.bool (decide (x.n<1 ∨ (y.kids.length:Int)<x.n))]/\Inv w X ([.blk b3 (.cells #[.int .i64 k,.int .i64 n,.string s,.slice (some ⟨b,o,none⟩) [x,y,z].length cap] ab)]++au sb mb es ck tv tr) S w_,⟨Fx.nil _ _,hI.draw⟩,⟨?_,?_,?_,?_,?_,?_,?_,?_,?_,?_,?_,?_,trivial⟩,?_⟩
 all_goals (intro D bI; intros; rename_i Pw TU TK SO Sw Ts Ta SC TP TE PJ Oi w_ hA_; have hF_:=hA_.1; obtain ⟨⟨cJ,cH,cK,cI,cN,cP,cz,dC,ek,fZ,dr,dM,_⟩,hI⟩:=hA_)
 ·exact ⟨hF_.set 0 rfl,hI⟩
 ·obtain rfl:=cJ ‹_›
  refine aD (i:=0) ah (by simp) ?_
  exact ⟨hF_.set 1 rfl,hI⟩
 ·obtain rfl:=cH ‹_›
  refine aC bm ?_
  exact ⟨hF_.set 2 rfl,hI⟩
 ·obtain rfl:=cK ‹_›
  refine cA aI (by rw [hI.cellS hSb]; exact aL hxe 1 _ rfl) ?_
  exact ⟨hF_.set 3 rfl,hI⟩
 ·exact ⟨hF_.set 4 rfl,hI⟩
 ·obtain rfl:=cN ‹_›
  refine aD (i:=1) ah (by simp) ?_
  exact ⟨hF_.set 5 rfl,hI⟩
 ·obtain rfl:=cP ‹_›
  refine aC av ?_
  exact ⟨hF_.set 6 rfl,hI⟩
 ·obtain rfl:=cz ‹_›
  refine cA ao (by rw [hI.cellS hSb]; exact aL hye 3 _ rfl) ?_
  exact ⟨hF_.set 7 rfl,hI⟩
 ·obtain rfl:=dC ‹_›
  refine aF hyk ah ?_
  exact ⟨hF_.set 8 rfl,hI⟩
 ·obtain rfl:=cI ‹_›
  obtain rfl:=ek ‹_›
  refine Run.callPure fE fL hI (fa _ _ _ S) fun w_ hI=>?_
  rw [hwi]
  exact ⟨hF_.set 9 rfl,hI⟩
 ·obtain rfl:=fZ ‹_›
  refine ct ?_
  rw [Bool.not_not]
  exact ⟨hF_.set 10 rfl,hI⟩
 ·obtain rfl:=dr ‹_›
  exact ⟨hF_.set 11 rfl,hI⟩
 obtain ⟨rfl,rfl,rfl,rfl,rfl,rfl,rfl,rfl,rfl,rfl,rfl,rfl,_⟩:=hF_.all
 clear hF_ cJ cH cK cI cN cP cz dC ek fZ dr dM
 refine aH (fun k3=>fin 1 (by rw [GR,af k1,af k2,ai k3]) hB hI (sub1 _)) (fun k3=>?_)
 obtain ⟨m,hm⟩:∃ m:Nat,x.n=(m:Int)+1:=⟨(x.n - 1).toNat,by omega⟩
 have hml:m<y.kids.length:=by omega
 have hkd:kd y (x.n.toNat - 1)=y.kids[m]:=by
  have e1:x.n.toNat - 1=m:=by omega
  rw [e1,kd,MP,iR hml]
  rfl
 have hja:GR x y z=.uni z y.kids[m]:=by rw [GR,af k1,af k2,af k3,hkd]
 rw [hja] at hB hbj
 obtain ⟨r,hu,rfl⟩:=hB
 have hjj:okJ N (.one z y.kids[m]):=hbj
 obtain ⟨c2,o2,cap2,a2,E2,fz2,rfl,hS2,hR2⟩:=hyk.at_ hml
 refine ⟨fun D x4 SF SE TR Sj Tz SZ SW Uc Tm Td Ub Ud SL ST TW Ty Sz w_=>Fx D 0 [Sz=.pointer (some ⟨sb,0,none⟩),Ty=.slice (some ⟨b,o,none⟩) [x,y,z].length cap,TW=.pointer (some ⟨b,o+2 * 4,none⟩),ST=.agg (ba c (o+2 * 4) 4).toArray,SL=.slice (some ⟨b,o,none⟩) [x,y,z].length cap,Ud=.pointer (some ⟨b,o+1 * 4,none⟩),Ub=.pointer (some ⟨b,o+1 * 4+3,none⟩),Td=.slice (some ⟨c2,o2,none⟩) y.kids.length cap2,Tm=.slice (some ⟨b,o,none⟩) [x,y,z].length cap,Uc=.pointer (some ⟨b,o+0 * 4,none⟩),SW=.pointer (some ⟨b,o+0 * 4+1,none⟩),SZ=.int .i64 x.n,Tz=.int .i64 m,Sj=.pointer (some ⟨c2,o2+m * 4,none⟩),TR=.agg (ba a2 (o2+m * 4) 4).toArray,SE=.bool r,SF=.int .i64 (gK r),x4=.int .i64 (gK r)]/\(D 15=false->Inv w X ([.blk b3 (.cells #[.int .i64 k,.int .i64 n,.string s,.slice (some ⟨b,o,none⟩) [x,y,z].length cap] ab)]++au sb mb es ck tv tr) S w_)/\(D 15=true->∃ es1 ck1 tv1 tr1,KnownM S es1 st'/\tr1.length+unb st'<=1000000/\Tr st st' tr tr1/\Inv w X ([.blk b3 (.cells #[.int .i64 k,.int .i64 n,.string s,.slice (some ⟨b,o,none⟩) [x,y,z].length cap] ab)]++au sb mb es1 ck1 tv1 tr1) S w_)/\∃ es3 ck3 tv3 tr3,Inv w X ([.blk b3 (.cells #[.int .i64 k,.int .i64 n,.string s,.slice (some ⟨b,o,none⟩) [x,y,z].length cap] ab)]++au sb mb es3 ck3 tv3 tr3) S w_,⟨Fx.nil _ _,⟨fun _=>hI.draw,aQ,es,ck,tv,tr,hI.draw⟩⟩,⟨?_,?_,?_,?_,?_,?_,?_,?_,?_,?_,?_,?_,?_,?_,?_,?_,?_,?_,trivial⟩,?_⟩
 all_goals (intro D bI; intros; rename_i x4 SF SE TR Sj Tz SZ SW Uc Tm Td Ub Ud SL ST TW Ty Sz w_ hA_; have hF_:=hA_.1; obtain ⟨⟨cJ,cH,cK,cI,cN,cP,cz,dC,ek,fZ,dr,dM,fj,gN,ic,i9,kF,n4,_⟩,⟨hI0,hI1,es3,ck3,tv3,tr3,hI⟩⟩:=hA_)
 ·exact ⟨hF_.set 0 rfl,⟨hI0,hI1,es3,ck3,tv3,tr3,hI⟩⟩
 ·exact ⟨hF_.set 1 rfl,⟨hI0,hI1,es3,ck3,tv3,tr3,hI⟩⟩
 ·obtain rfl:=cH ‹_›
  refine aD (i:=2) ah (by simp) ?_
  exact ⟨hF_.set 2 rfl,⟨hI0,hI1,es3,ck3,tv3,tr3,hI⟩⟩
 ·obtain rfl:=cK ‹_›
  refine cm ac (RdT.length (hR 2 (by simp))) (fun j v hj=>by rw [hI.cellS hSb]; exact aL rfl j v hj) ?_
  exact ⟨hF_.set 3 rfl,⟨hI0,hI1,es3,ck3,tv3,tr3,hI⟩⟩
 ·exact ⟨hF_.set 4 rfl,⟨hI0,hI1,es3,ck3,tv3,tr3,hI⟩⟩
 ·obtain rfl:=cN ‹_›
  refine aD (i:=1) ah (by simp) ?_
  exact ⟨hF_.set 5 rfl,⟨hI0,hI1,es3,ck3,tv3,tr3,hI⟩⟩
 ·obtain rfl:=cP ‹_›
  refine aC av ?_
  exact ⟨hF_.set 6 rfl,⟨hI0,hI1,es3,ck3,tv3,tr3,hI⟩⟩
 ·obtain rfl:=cz ‹_›
  refine cA ao (by rw [hI.cellS hSb]; exact aL hye 3 _ rfl) ?_
  exact ⟨hF_.set 7 rfl,⟨hI0,hI1,es3,ck3,tv3,tr3,hI⟩⟩
 ·exact ⟨hF_.set 8 rfl,⟨hI0,hI1,es3,ck3,tv3,tr3,hI⟩⟩
 ·obtain rfl:=ek ‹_›
  refine aD (i:=0) ah (by simp) ?_
  exact ⟨hF_.set 9 rfl,⟨hI0,hI1,es3,ck3,tv3,tr3,hI⟩⟩
 ·obtain rfl:=fZ ‹_›
  refine aC bm ?_
  exact ⟨hF_.set 10 rfl,⟨hI0,hI1,es3,ck3,tv3,tr3,hI⟩⟩
 ·obtain rfl:=dr ‹_›
  refine cA aI (by rw [hI.cellS hSb]; exact aL hxe 1 _ rfl) ?_
  exact ⟨hF_.set 11 rfl,⟨hI0,hI1,es3,ck3,tv3,tr3,hI⟩⟩
 ·obtain rfl:=dM ‹_›
  refine kY (by omega) ?_
  rw [show x.n - 1=(m:Int) by omega]
  exact ⟨hF_.set 12 rfl,⟨hI0,hI1,es3,ck3,tv3,tr3,hI⟩⟩
 ·obtain rfl:=dC ‹_›
  obtain rfl:=fj ‹_›
  refine aD ah hml ?_
  exact ⟨hF_.set 13 rfl,⟨hI0,hI1,es3,ck3,tv3,tr3,hI⟩⟩
 ·obtain rfl:=gN ‹_›
  refine cm ac hR2.length (fun j v hj=>by rw [hI.cellS hS2]; exact aL rfl j v hj) ?_
  exact ⟨hF_.set 14 rfl,⟨hI0,hI1,es3,ck3,tv3,tr3,hI⟩⟩
 ·obtain rfl:=cJ ‹_›
  obtain rfl:=cI ‹_›
  obtain rfl:=ic ‹_›
  refine Run.callE (A:=[_]) dT dQ (hI0 bI) (gr hN hg hjj hu S _ _ sb mb ck es tv tr hz hR2 hkm htr) fun v' I' S' w_=>?_
  rintro ⟨eS,rfl,es1,ck1,tv1,tr1,rfl,hm1,htr1,hT1⟩ _ hI
  rw [eS] at hI
  have hI0:=fun (h:aB D 15 15=false)=>(Bool.noConfusion h:Inv w X ([.blk b3 (.cells #[.int .i64 k,.int .i64 n,.string s,.slice (some ⟨b,o,none⟩) [x,y,z].length cap] ab)]++au sb mb es ck tv tr) S w_)
  have hI1:=fun (_:aB D 15 15=true)=>(⟨es1,ck1,tv1,tr1,hm1,htr1,hT1,hI⟩:∃ es1 ck1 tv1 tr1,KnownM S es1 st'/\tr1.length+unb st'<=1000000/\Tr st st' tr tr1/\Inv w X ([.blk b3 (.cells #[.int .i64 k,.int .i64 n,.string s,.slice (some ⟨b,o,none⟩) [x,y,z].length cap] ab)]++au sb mb es1 ck1 tv1 tr1) S w_)
  obtain ⟨es3,ck3,tv3,tr3,hI⟩:∃ es3 ck3 tv3 tr3,Inv w X ([.blk b3 (.cells #[.int .i64 k,.int .i64 n,.string s,.slice (some ⟨b,o,none⟩) [x,y,z].length cap] ab)]++au sb mb es3 ck3 tv3 tr3) S w_:=⟨es1,ck1,tv1,tr1,hI⟩
  exact ⟨hF_.set 15 rfl,⟨hI0,hI1,es3,ck3,tv3,tr3,hI⟩⟩
 ·obtain rfl:=i9 ‹_›
  obtain ⟨es1,ck1,tv1,tr1,hm1,htr1,hT1,hI⟩:=hI1 ‹D 15=true›
  refine Run.callPure fn_i_holds nm_i_holds hI (dk r S) fun w_ hI=>?_
  have hI0:=fun (h:aB D 16 15=false)=>(Bool.noConfusion (h.symm.trans (show aB D 16 15=true from ‹D 15=true›)):Inv w X ([.blk b3 (.cells #[.int .i64 k,.int .i64 n,.string s,.slice (some ⟨b,o,none⟩) [x,y,z].length cap] ab)]++au sb mb es ck tv tr) S w_)
  have hI1:=fun (_:aB D 16 15=true)=>(⟨es1,ck1,tv1,tr1,hm1,htr1,hT1,hI⟩:∃ es1 ck1 tv1 tr1,KnownM S es1 st'/\tr1.length+unb st'<=1000000/\Tr st st' tr tr1/\Inv w X ([.blk b3 (.cells #[.int .i64 k,.int .i64 n,.string s,.slice (some ⟨b,o,none⟩) [x,y,z].length cap] ab)]++au sb mb es1 ck1 tv1 tr1) S w_)
  obtain ⟨es3,ck3,tv3,tr3,hI⟩:∃ es3 ck3 tv3 tr3,Inv w X ([.blk b3 (.cells #[.int .i64 k,.int .i64 n,.string s,.slice (some ⟨b,o,none⟩) [x,y,z].length cap] ab)]++au sb mb es3 ck3 tv3 tr3) S w_:=⟨es1,ck1,tv1,tr1,hI⟩
  exact ⟨hF_.set 16 rfl,⟨hI0,hI1,es3,ck3,tv3,tr3,hI⟩⟩
 ·obtain rfl:=kF ‹_›
  exact ⟨hF_.set 17 rfl,⟨hI0,hI1,es3,ck3,tv3,tr3,hI⟩⟩
 obtain ⟨rfl,rfl,rfl,rfl,rfl,rfl,rfl,rfl,rfl,rfl,rfl,rfl,rfl,rfl,rfl,rfl,rfl,rfl,_⟩:=hF_.all
 have Ur:D 15=true:=by assumption
 clear hF_ cJ cH cK cI cN cP cz dC ek fZ dr dM fj gN ic i9 kF n4
 obtain ⟨es1,ck1,tv1,tr1,hm1,htr1,hT1,hI⟩:=hI1 Ur
 exact ⟨_,_,S,rfl,hI.sub (dz [_] _),Ext.refl _ _ _,rfl,rfl,es1,ck1,tv1,tr1,rfl,hm1,htr1,hT1⟩
end
end
end Go.Proofs.YtcpgagfdeflbkaaGreatDoor
