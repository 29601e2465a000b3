/- impl's store: bindings are taken back. -/
import Derived.Test.YtgllldjiaglkcaaGreatDoorZDr12
import Derived.Test.YtgllldjiaglkcaaGreatDoorZDr11
namespace Go.Proofs.YtgllldjiaglkcaaGreatDoor
section
open Go Go.RowKit
theorem vZ {n:Int}:∀ (l:List MapEntry) (i j:Nat) (v:Value),(∀ e∈l,∃ m,e.key=.int .i64 m)->Instr.findNow (.int .i64) (.int .i64 n) l i=some (some (j,v))->i<=j/\∃ e,l[j - i]?=some e/\e.key=.int .i64 n
 | [],i,j,v,_,h=>by simp [Instr.findNow] at h
 | e::l,i,j,v,hk,h=>by
  obtain ⟨m,hm⟩:=hk e (List.mem_cons_self ..)
  have hs:Instr.sameNow (.int .i64) (.int .i64 n) e.key=some (n == m):=by rw [hm]; rfl
  rw [Instr.findNow,hs] at h
  by_cases hnm:n=m
  ·subst hnm
   simp only [beq_self_eq_true,Option.some.injEq,Prod.mk.injEq] at h
   obtain ⟨rfl,rfl⟩:=h
   exact ⟨Nat.le_refl _,e,by simp,hm⟩
  ·have h2:(n == m)=false:=by simpa using hnm
   rw [h2] at h
   obtain ⟨h3,e',h4,h5⟩:=vZ l (i+1) j v (fun e he=>hk e (List.mem_cons_of_mem _ he)) h
   refine ⟨by omega,e',?_,h5⟩
   have:j - i=(j - (i+1))+1:=by omega
   rw [this,List.getElem?_cons_succ]
   exact h4
theorem KnownM.erase {S:ad} {es:Array MapEntry} {st:ag} (h:KnownM S es st) {n j:Nat} {v:Value} (hf:Instr.findNow (.int .i64) (.int .i64 n) es.toList 0=some (some (j,v))) :
  KnownM S (es.eraseIdxIfInBounds j) (st.set n none):=by
 obtain ⟨_,e,he,hke⟩:=vZ es.toList 0 j v (fun e he=>by obtain ⟨m,_,_,hk,_⟩:=h.1 e he; exact ⟨m,hk⟩) hf
 rw [Nat.sub_zero] at he
 have hlt:j<es.toList.length:=(List.getElem?_eq_some_iff.1 he).1
 have hje:es.toList[j]=e:=(List.getElem?_eq_some_iff.1 he).2
 have hp:List.Perm es.toList (e::es.toList.eraseIdx j):=by
  rw [List.eraseIdx_eq_take_drop_succ]
  have e1:es.toList=es.toList.take j++e::es.toList.drop (j+1):=by
   conv=>lhs; rw [<- List.take_append_drop j es.toList,List.drop_eq_getElem_cons hlt,hje]
  conv=>lhs; rw [e1]
  exact List.perm_middle
 have hnd:((e::es.toList.eraseIdx j).map (·.key)).Nodup:=(hp.map _).nodup_iff.1 h.2.2
 rw [List.map_cons,List.nodup_cons] at hnd
 refine ⟨fun x hx=>?_,fun m t ht=>?_,?_⟩
 ·rw [Array.toList_eraseIdxIfInBounds] at hx
  obtain ⟨m,t,cs,hk,hv,hR,hs⟩:=h.1 x (hp.mem_iff.2 (List.mem_cons_of_mem _ hx))
  refine ⟨m,t,cs,hk,hv,hR,?_⟩
  have:n≠m:=by
   rintro rfl
   exact hnd.1 (List.mem_map.2 ⟨x,hx,by rw [hk,hke]⟩)
  rw [List.getElem?_set_ne this]
  exact hs
 ·rw [Array.toList_eraseIdxIfInBounds]
  have hm:n≠m:=by
   rintro rfl
   rw [List.getElem?_set] at ht
   simp at ht
  rw [List.getElem?_set_ne hm] at ht
  obtain ⟨x,hx,hk⟩:=h.2.1 m t ht
  rcases List.mem_cons.1 (hp.mem_iff.1 hx) with rfl|hx
  ·rw [hke] at hk
   simp only [Value.int.injEq,true_and] at hk
   exact absurd (by omega) hm
  ·exact ⟨x,hx,hk⟩
 ·rw [Array.toList_eraseIdxIfInBounds]
  exact hnd.2
theorem KnownM.clear {S:ad} {es:Array MapEntry} {st:ag} (h:KnownM S es st) {n:Nat} (hn:∀ t,st[n]?≠some (some t)):KnownM S es (st.set n none):=by
 refine ⟨fun x hx=>?_,fun m t ht=>?_,h.2.2⟩
 ·obtain ⟨m,t,cs,hk,hv,hR,hs⟩:=h.1 x hx
  refine ⟨m,t,cs,hk,hv,hR,?_⟩
  have:n≠m:=by rintro rfl; exact hn t hs
  rw [List.getElem?_set_ne this]
  exact hs
 ·have hm:n≠m:=by
   rintro rfl
   rw [List.getElem?_set] at ht
   simp at ht
  rw [List.getElem?_set_ne hm] at ht
  exact h.2.1 m t ht
theorem uX (st:ag) (l:List Int) (n:Int):dr st (l++[n])=(dr st l).set n.toNat none:=by
 have hl:(dr st l).length=st.length:=by
  induction l with
  | nil=>rfl
  | cons m ns ih=>rw [dr,List.length_set,ih]
 apply List.ext_getElem?
 intro i
 rw [kM,List.getElem?_set,kM,hl]
 by_cases h1:n.toNat=i
 ·subst h1
  rw [if_pos ⟨n,by simp,rfl⟩,if_pos rfl]
  by_cases h2:n.toNat<st.length
  ·rw [if_pos h2,List.getElem?_eq_getElem h2]; rfl
  ·rw [if_neg h2,List.getElem?_eq_none (by omega)]; rfl
 ·rw [if_neg h1]
  by_cases h2:∃ m∈l,m.toNat=i
  ·obtain ⟨m,h3,h4⟩:=h2
   rw [if_pos ⟨m,List.mem_append_left _ h3,h4⟩,if_pos ⟨m,h3,h4⟩]
  ·rw [if_neg h2,if_neg]
   rintro ⟨m,h3,h4⟩
   rcases List.mem_append.1 h3 with h3|h3
   ·exact h2 ⟨m,h3,h4⟩
   ·rw [List.mem_singleton] at h3
    subst h3
    exact h1 h4
section
variable {P:Program} {w w0:World} {X:List Nat} {L:List Item} {S:ad} {K:Value->World->Prop}
attribute [local irreducible] Run CondV ai az
theorem Gv (h:Inv w0 X L S w) {T kt et ty U:TypeId} {cs:List Bool} {b clock:Nat} {es:Array MapEntry} {n:Int} {o:Option (Nat × Value)} (i:Nat) (hT:P.underlying T=some (.map kt et)) (hkt:P.underlying kt=some (.int .i64))
  (hi:L[i]?=some (.blk b (.map es clock))) (hf:Instr.findNow (.int .i64) (.int .i64 n) es.toList 0=some o)
  (hk:∀ w',Inv w0 X (L.set i (.blk b (.map (match o with|some (j,_)=>es.eraseIdxIfInBounds j|none=>es) clock))) S w'->K (.tuple #[]) w') :
  Run P (bp .delete #[T,U] ty cs [.map (some b),.int .i64 n]) w K:=by
 have hb:w.heap[b]?=some (.map es clock):=h.its _ (List.mem_of_getElem? hi)
 have hck:∀ e,(Instr.checkKey e 10000 kt (.int .i64 n)).run P w=.ok () w:=fun e=>by
  rw [show (10000:Nat)=9999+1 from rfl,Instr.checkKey]
  simp [run_underlying hkt]
 have hg:(getObj b).run P w=.ok (.map es clock) w:=by simp [getObj,Sem.run,hb]
 have hfk:=iM (P:=P) (w:=w) hkt hf
 obtain ⟨es',he'⟩:∃ es',es'=(match o with|some (j,_)=>es.eraseIdxIfInBounds j|none=>es):=⟨_,rfl⟩
 rw [<- he'] at hk
 have hst:(setObj b (.map es' clock)).run P w=.ok () { w with heap:=w.heap.setIfInBounds b (.map es' clock) }:=by simp [setObj,Sem.run,hb]
 refine Run.of (w':={ w with heap:=w.heap.setIfInBounds b (.map es' clock) }) ?_ (hk _ (h.setBlk hi _ rfl))
 cases o with
 | none=>
  subst he'
  simp [bp,builtin,Builtin.delete_,run_underlying hT,hg,hck,hfk,hst]
 | some p=>
  obtain ⟨j,v⟩:=p
  subst he'
  simp [bp,builtin,Builtin.delete_,run_underlying hT,hg,hck,hfk,hst]
end
section
attribute [local irreducible] Run CondV ai az
theorem qQ {st:ag} {S:ad} {sb mb ck mark:Nat} {es:Array MapEntry} {tv:Value} {tr:List Int} (hkm:KnownM S es st) (hmk:mark<=tr.length) (hnn:∀ n∈tr.drop mark,0<=n) (htr:tr.length<=100000000) :
  Tri Tryz.prog zr [.pointer (some ⟨sb,0,none⟩),.int .i64 mark] (aq sb mb es ck tv tr) S fun q I' S'=>S'=S/\q=.tuple #[]/\∃ es' tv',I'=aq sb mb es' ck tv' (tr.take mark)/\KnownM S es' (dr st (tr.drop mark)):=by
 intro w hI
 obtain ⟨X,hX⟩:∃ X,X=bk (aq sb mb es ck tv tr):=⟨_,rfl⟩
 rw [<- hX] at hI ⊢
 have hI0:Inv w X ([.blk sb (.cells #[.map (some mb),tv] bV),.blk mb (.map es ck)]++[.row tv bE 1 tr.length (ints tr)]) S w:=hI
 refine nj.2 ?_
 dsimp only[nj,aX]
 refine ao ?_
 refine ae hI 0 rfl dY fR rfl ?_
 obtain ⟨S1,hle,hrr,hI,hback⟩:=Inv.lend hI0
 have hrd:=hrr.ints
 refine o7 de hrd hmk fun v' hv'=>?_
 refine aG hv' de ?_
 refine ⟨fun i w'=>∃ (k:Nat) (es':Array MapEntry),k<=(tr.drop mark).length/\i=.int .i64 k/\KnownM S es' (dr st ((tr.drop mark).take k))/\Inv w X [.blk sb (.cells #[.map (some mb),tv] bV),.blk mb (.map es' ck)] S1 w',
  fun i _=>(tr.drop mark).length - (intOf i).toNat,⟨0,es,Nat.zero_le _,rfl,hkm,hI⟩,?_⟩
 intro i _ _ _ _ _ _ _ _ _ _ w'
 rintro ⟨k,es',hk,rfl,hkm',hI⟩
 have hdl:(tr.drop mark).length<=100000000:=by rw [List.length_drop]; omega
 refine bI ?_
 refine aI (fun hki=>?_) (fun hki=>?_)
 ·have hk':k<(tr.drop mark).length:=by omega
  have hm:=List.getElem_mem hk'
  have h0:=hnn _ hm
  refine iP hI hv' de aE hk' (fun cs hcs=>hcs) ?_
  refine ao ?_
  refine ae hI 0 rfl ph Az rfl ?_
  obtain ⟨m,hme⟩:∃ m:Nat,(tr.drop mark)[k]=(m:Int):=⟨((tr.drop mark)[k]).toNat,by omega⟩
  have hstep:dr st ((tr.drop mark).take (k+1))=(dr st ((tr.drop mark).take k)).set m none:=by
   rw [List.take_succ_eq_append_getElem hk',uX,hme,Int.toNat_natCast]
  rw [hme]
  rcases hkm'.find m with ⟨j,v,t,cs,hf,_,_,_⟩|⟨hno,hf⟩
  ·refine Gv hI 1 gT fl rfl hf fun w' hI=>?_
   refine bq (by omega) ?_
   exact ⟨⟨k+1,_,hk',rfl,by rw [hstep]; exact hkm'.erase hf,hI⟩,by simp only [intOf]; omega⟩
  ·refine Gv hI 1 gT fl rfl hf fun w' hI=>?_
   refine bq (by omega) ?_
   exact ⟨⟨k+1,_,hk',rfl,by rw [hstep]; exact hkm'.clear hno,hI⟩,by simp only [intOf]; omega⟩
 ·have:k=(tr.drop mark).length:=by omega
  subst this
  rw [List.take_length] at hkm'
  have hI:=hback _ _ hI
  refine ao ?_
  refine ae hI 0 rfl dY fR rfl ?_
  obtain ⟨hl,ho⟩:=Inv.openRow hI
  have hit:(ints tr).take mark=ints (tr.take mark):=by
   have:∀ (l:List Int) (m:Nat),(ints l).take m=ints (l.take m):=by
    intro l
    induction l with
    | nil=>intro m; simp [ints]
    | cons a l ih=>
     intro m
     cases m with
     | zero=>simp [ints]
     | succ m=>have:=ih m; simp only [ints,List.flatMap_cons,List.take_succ_cons,List.singleton_append] at *; rw [this]
   exact this tr mark
  have htl:(tr.take mark).length=mark:=by rw [List.length_take]; omega
  rcases ho with ⟨rfl,h1⟩|⟨g,cap,cur,rfl,hnc,hcm,hcs,ht,hI⟩
  ·have htn:tr=[]:=List.eq_nil_of_length_eq_zero h1
   subst htn
   obtain rfl:mark=0:=by simpa using hmk
   refine u6 de (Nat.le_refl _) ?_
   refine ao ?_
   refine cn hI 0 rfl dY fR rfl rfl rfl fun w' hI=>?_
   exact ⟨_,_,S,rfl,hI,Ext.refl _ _ _,rfl,rfl,es',_,rfl,hkm'⟩
  ·refine u6 de (by omega) ?_
   have e1:(if cap=0 then (some (⟨g,0,none⟩:Addr)) else (some (⟨g,0,none⟩:Addr)).map (·.add (0 * 1)))=some ⟨g,0,none⟩:=by
    split
    ·rfl
    ·simp [Addr.add]
   rw [e1]
   refine ao ?_
   refine cn hI 0 rfl dY fR rfl rfl rfl fun w' hI=>?_
   have hI:Inv w X ([.blk sb (.cells #[.map (some mb),.slice (some ⟨g,0,none⟩) mark cap] bV),.blk mb (.map es' ck)]++[.blk g (.cells cur bE)]) S w':=hI
   have hI:=Inv.closeRow (n:=mark) (k:=1) (cap:=cap) hI (by omega) hcm hcs
   have e2:cur.toList.take (mark * 1)=ints (tr.take mark):=by
    rw [<- hit,<- ht,List.take_take,Nat.mul_one,Nat.mul_one,Nat.min_eq_left hmk]
   rw [e2] at hI
   refine ⟨_,_,S,rfl,hI,Ext.refl _ _ _,rfl,rfl,es',.slice (some ⟨g,0,none⟩) mark cap,?_,hkm'⟩
   simp only [aq,dq,htl]
   rfl
end
end
section
open Go Go.RowKit
theorem LT {k n:Int} {s:ByteArray} {ks:List T} (h:bO s eM=true):eG (.mk k n s ks)=.done (Of s (eD ks)):=by
 have h0:=h
 rw [bO,List.any_eq_true] at h
 obtain ⟨x,hx,hd⟩:=h
 have hd:=of_decide_eq_true hd
 subst hd
 have hne:∀ y∈([gB,jv,nEq,nNe,qG,nIs,AC]:List ByteArray),s≠y:=by
  intro y hy
  simp only [eM,List.mem_cons,List.not_mem_nil,or_false] at hx hy
  rcases hx with rfl|rfl|rfl|rfl|rfl <;> rcases hy with rfl|rfl|rfl|rfl|rfl|rfl|rfl <;> decide +kernel
 have n1:(T.mk k n s ks).name=s:=rfl
 rw [eG,n1,if_neg (hne _ (by simp)),if_neg (hne _ (by simp)),if_neg (hne _ (by simp)),if_neg (hne _ (by simp)),if_neg (hne _ (by simp)),if_neg (hne _ (by simp)),if_neg (hne _ (by simp)),if_pos h0]
 rfl
theorem RdT.f0 {S:ad} {cs:List Value} {t:T} (h:RdT S cs t):cs[0]?=some (.int .i64 t.kind):=by
 obtain ⟨_,rfl,_⟩:=RdT.iff.1 h; rfl
theorem RdT.f1 {S:ad} {cs:List Value} {t:T} (h:RdT S cs t):cs[1]?=some (.int .i64 t.n):=by
 obtain ⟨_,rfl,_⟩:=RdT.iff.1 h; rfl
section
variable {w:World} {X:List Nat} {S:ad}
attribute [local irreducible] Run CondV ai az
theorem n3 (n:Int) (S:ad):Pure Tryz.prog Iw [.int .i64 n] S (.agg #[.int .i64 2,.int .i64 n,.string ⟨#[]⟩,.slice none 0 0]):=by
 intro w hI
 refine wz.2 ?_
 dsimp only[wz,aD]
 refine aM hI aU fun b w' hI=>?_
 refine nX ?_
 refine av hI 0 rfl ac rfl rfl (by simp [Value.oneCell']) fun w' hI=>?_
 refine bl hI 0 ac rfl rfl ?_
 exact done hI rfl
def Mk (sb mb:Nat) (S:ad) (st:ag) (tr:List Int) (code:Int) (st':ag):Value->List Item->ad->Prop:=fun q I' S'=>S'=S/\q=.int .i64 code/\
 ∃ es' ck' tv' tr',I'=aq sb mb es' ck' tv' tr'/\KnownM S es' st'/\tr'.length+unb st'<=1000000/\Tr st st' tr tr'
set_option maxHeartbeats 1000000 in
theorem C9 {N:Nat} (hN:N<=1000000) {st st':ag} {g:T} {code:Int} (hg:Good N st) (ho:okU N g/\wT g<=1048576) (hn:okN g) (hb:bB g=true) (hB:Blt st g code st')
  {S:ad} {cs:List Value} {sb mb ck:Nat} {es:Array MapEntry} {tv:Value} {tr:List Int} (h:RdT S cs g) (hkm:KnownM S es st) (htr:tr.length+unb st<=1000000) :
  Tri Tryz.prog yt [.pointer (some ⟨sb,0,none⟩),.agg cs.toArray] (aq sb mb es ck tv tr) S (Mk sb mb S st tr code st'):=by
 intro w hI
 have hgl:=h
 obtain ⟨k,n,s,ks⟩:=g
 obtain ⟨kv,rfl,_,_,_,hks⟩:=RdT.iff.1 h
 have hbj:=Dy hb ho
 rw [bB,Bool.and_eq_true] at hb
 obtain ⟨hk3,hbs⟩:=hb
 rw [okN] at hn
 simp only [T.name,T.kids,T.kind,T.n] at hks hbs hgl hk3 ⊢
 obtain ⟨X,hX⟩:∃ X,X=bk (aq sb mb es ck tv tr):=⟨_,rfl⟩
 rw [<- hX] at hI ⊢
 unfold Blt at hB
 clear h
 refine mz.2 ?_
 dsimp only[mz,aX]
 refine bt hI fun b3 w' hI=>?_
 have hI:Inv w X ([.blk b3 (.cells #[.int .i64 k,.int .i64 n,.string s,kv] ab)]++aq sb mb es ck tv tr) S w':=hI.perm List.perm_append_comm
 have fin:∀ {w':World} {L:List Item} {j:BJ} (c:Int),j=.done c->BltJ st j code st'->Inv w X L S w'->List.Sublist (aq sb mb es ck tv tr) L->
   ∃ v' I' S',Ending.returned (.int .i64 c)=.returned v'/\Inv w X I' S' w'/\Ext w.heap.size X S S'/\Mk sb mb S st tr code st' v' I' S':=by
  intro w' L j c hj hB hI hs
  subst hj
  obtain ⟨rfl,rfl⟩:=hB
  exact ⟨_,_,S,rfl,hI.sub hs,Ext.refl _ _ _,rfl,rfl,es,ck,tv,tr,rfl,hkm,htr,Tr.refl _ _⟩
 have sub1:∀ it:Item,List.Sublist (aq sb mb es ck tv tr) ([it]++aq sb mb es ck tv tr):=fun it=>List.sublist_append_right [it] _
 refine aA hI 0 ac rfl rfl ?_
 refine Run.callPure Ax AO hI (vh hgl) fun w' hI=>?_
 have hcg:Oi (.mk k n s ks)=(decide (ks.length=2) && bO s eM):=by
  unfold Oi
  rw [show decide ((T.mk k n s ks).kind=3)=true from hk3]
  rfl
 rw [hcg]
 refine aw (fun hc=>?_) (fun hc=>?_)
 ·rw [Bool.and_eq_true,decide_eq_true_eq] at hc
  refine aA hI 0 ac rfl rfl ?_
  refine Run.callPure BA Bj hI (uU hgl hc.1 hn.2) fun w' hI=>?_
  exact fin _ (LT hc.2) hB hI (sub1 _)
 have hcn:bO s eM=false:=by
  cases hx:bO s eM
  ·rfl
  ·have:=iS (M7 hx) hbs
   rw [hx,decide_eq_true (show ks.length=2 by omega)] at hc
   cases hc
 refine ae hI 0 rfl au aj rfl ?_
 refine ae hI 0 rfl aR aL rfl ?_
 refine bg ?_
 refine aI (fun h=>fin 0 (by rw [eG,if_pos (show (T.mk k n s ks).name=gB from h)]) hB hI (sub1 _)) (fun h0=>?_)
 refine bg ?_
 refine aI (fun h=>fin 1 (by rw [eG,if_neg (show ¬ (T.mk k n s ks).name=gB from h0),if_pos (show (T.mk k n s ks).name=jv from h)]) hB hI (sub1 _)) (fun h1=>?_)
 refine bg ?_
 refine aI (fun h=>?_) (fun h2=>?_)
 ·obtain ⟨x,y,rfl⟩:=uW (l:=ks) (by have:=iS (by rw [h]; decide +kernel) hbs; omega)
  have hj:eG (.mk k n s [x,y])=.uni x y:=by
   rw [eG,if_neg (show ¬ (T.mk k n s [x,y]).name=gB from h0),if_neg (show ¬ (T.mk k n s [x,y]).name=jv from h1),if_pos (show (T.mk k n s [x,y]).name=nEq from h)]
   rfl
  rw [hj] at hB hbj
  obtain ⟨b,o,cap,c,E,fz,rfl,hSb,hR⟩:=hks.ptr (by simp)
  obtain ⟨r,hu,rfl⟩:=hB
  have hjj:okJ N (.one x y):=hbj
  refine ⟨fun D x4 OX zx g6 np jo ww nf eV lO w_=>Fx D 0 [lO=.pointer (some ⟨sb,0,none⟩),eV=.slice (some ⟨b,o,none⟩) [x,y].length cap,nf=.pointer (some ⟨b,o+0 * 4,none⟩),ww=.agg (aJ c (o+0 * 4) 4).toArray,jo=.slice (some ⟨b,o,none⟩) [x,y].length cap,np=.pointer (some ⟨b,o+1 * 4,none⟩),g6=.agg (aJ c (o+1 * 4) 4).toArray,zx=.bool r,OX=.int .i64 (fN r),x4=.int .i64 (fN r)]/\(D 7=false->Inv w X ([.blk b3 (.cells #[.int .i64 k,.int .i64 n,.string s,.slice (some ⟨b,o,none⟩) [x,y].length cap] ab)]++aq sb mb es ck tv tr) S w_)/\(D 7=true->∃ es1 ck1 tv1 tr1,KnownM S es1 st'/\tr1.length+unb st'<=1000000/\Tr st st' tr tr1/\Inv w X ([.blk b3 (.cells #[.int .i64 k,.int .i64 n,.string s,.slice (some ⟨b,o,none⟩) [x,y].length cap] ab)]++aq sb mb es1 ck1 tv1 tr1) S w_)/\∃ es3 ck3 tv3 tr3,Inv w X ([.blk b3 (.cells #[.int .i64 k,.int .i64 n,.string s,.slice (some ⟨b,o,none⟩) [x,y].length cap] ab)]++aq sb mb es3 ck3 tv3 tr3) S w_,⟨Fx.nil _ _,⟨fun _=>hI.draw,aK,es,ck,tv,tr,hI.draw⟩⟩,⟨?_,?_,?_,?_,?_,?_,?_,?_,?_,?_,trivial⟩,?_⟩
  all_goals (intro D bx; intros; rename_i x4 OX zx g6 np jo ww nf eV lO w_ hA_; have hF_:=hA_.1; obtain ⟨⟨cr,cq,ct,cu,cz,cB,bP,cT,dw,fc,_⟩,⟨hI0,hI1,es3,ck3,tv3,tr3,hI⟩⟩:=hA_)
  ·exact ⟨hF_.set 0 rfl,⟨hI0,hI1,es3,ck3,tv3,tr3,hI⟩⟩
  ·exact ⟨hF_.set 1 rfl,⟨hI0,hI1,es3,ck3,tv3,tr3,hI⟩⟩
  ·obtain rfl:=cq ‹_›
   refine aH (i:=0) ah (by simp) ?_
   exact ⟨hF_.set 2 rfl,⟨hI0,hI1,es3,ck3,tv3,tr3,hI⟩⟩
  ·obtain rfl:=ct ‹_›
   refine b0 ac (RdT.length (hR 0 (by simp))) (fun j v hj=>by rw [hI.cellS hSb]; exact aO rfl j v hj) ?_
   exact ⟨hF_.set 3 rfl,⟨hI0,hI1,es3,ck3,tv3,tr3,hI⟩⟩
  ·exact ⟨hF_.set 4 rfl,⟨hI0,hI1,es3,ck3,tv3,tr3,hI⟩⟩
  ·obtain rfl:=cz ‹_›
   refine aH (i:=1) ah (by simp) ?_
   exact ⟨hF_.set 5 rfl,⟨hI0,hI1,es3,ck3,tv3,tr3,hI⟩⟩
  ·obtain rfl:=cB ‹_›
   refine b0 ac (RdT.length (hR 1 (by simp))) (fun j v hj=>by rw [hI.cellS hSb]; exact aO rfl j v hj) ?_
   exact ⟨hF_.set 6 rfl,⟨hI0,hI1,es3,ck3,tv3,tr3,hI⟩⟩
  ·obtain rfl:=cr ‹_›
   obtain rfl:=cu ‹_›
   obtain rfl:=bP ‹_›
   refine Run.callE (A:=[_]) dh dg (hI0 bx) (fA hN hg hjj hu S _ _ sb mb ck es tv tr (hR 0 (by simp)) (hR 1 (by simp)) hkm htr) fun v' I' S' w_=>?_
   rintro ⟨eS,rfl,es1,ck1,tv1,tr1,rfl,hm1,htr1,hT1⟩ _ hI
   rw [eS] at hI
   have hI0:=fun (h:ar D 7 7=false)=>(Bool.noConfusion h:Inv w X ([.blk b3 (.cells #[.int .i64 k,.int .i64 n,.string s,.slice (some ⟨b,o,none⟩) [x,y].length cap] ab)]++aq sb mb es ck tv tr) S w_)
   have hI1:=fun (_:ar D 7 7=true)=>(⟨es1,ck1,tv1,tr1,hm1,htr1,hT1,hI⟩:∃ es1 ck1 tv1 tr1,KnownM S es1 st'/\tr1.length+unb st'<=1000000/\Tr st st' tr tr1/\Inv w X ([.blk b3 (.cells #[.int .i64 k,.int .i64 n,.string s,.slice (some ⟨b,o,none⟩) [x,y].length cap] ab)]++aq sb mb es1 ck1 tv1 tr1) S w_)
   obtain ⟨es3,ck3,tv3,tr3,hI⟩:∃ es3 ck3 tv3 tr3,Inv w X ([.blk b3 (.cells #[.int .i64 k,.int .i64 n,.string s,.slice (some ⟨b,o,none⟩) [x,y].length cap] ab)]++aq sb mb es3 ck3 tv3 tr3) S w_:=⟨es1,ck1,tv1,tr1,hI⟩
   exact ⟨hF_.set 7 rfl,⟨hI0,hI1,es3,ck3,tv3,tr3,hI⟩⟩
  ·obtain rfl:=cT ‹_›
   obtain ⟨es1,ck1,tv1,tr1,hm1,htr1,hT1,hI⟩:=hI1 ‹D 7=true›
   refine Run.callPure fn_i_holds nm_i_holds hI (cI r S) fun w_ hI=>?_
   have hI0:=fun (h:ar D 8 7=false)=>(Bool.noConfusion (h.symm.trans (show ar D 8 7=true from ‹D 7=true›)):Inv w X ([.blk b3 (.cells #[.int .i64 k,.int .i64 n,.string s,.slice (some ⟨b,o,none⟩) [x,y].length cap] ab)]++aq sb mb es ck tv tr) S w_)
   have hI1:=fun (_:ar D 8 7=true)=>(⟨es1,ck1,tv1,tr1,hm1,htr1,hT1,hI⟩:∃ es1 ck1 tv1 tr1,KnownM S es1 st'/\tr1.length+unb st'<=1000000/\Tr st st' tr tr1/\Inv w X ([.blk b3 (.cells #[.int .i64 k,.int .i64 n,.string s,.slice (some ⟨b,o,none⟩) [x,y].length cap] ab)]++aq sb mb es1 ck1 tv1 tr1) S w_)
   obtain ⟨es3,ck3,tv3,tr3,hI⟩:∃ es3 ck3 tv3 tr3,Inv w X ([.blk b3 (.cells #[.int .i64 k,.int .i64 n,.string s,.slice (some ⟨b,o,none⟩) [x,y].length cap] ab)]++aq sb mb es3 ck3 tv3 tr3) S w_:=⟨es1,ck1,tv1,tr1,hI⟩
   exact ⟨hF_.set 8 rfl,⟨hI0,hI1,es3,ck3,tv3,tr3,hI⟩⟩
  ·obtain rfl:=dw ‹_›
   exact ⟨hF_.set 9 rfl,⟨hI0,hI1,es3,ck3,tv3,tr3,hI⟩⟩
  obtain ⟨rfl,rfl,rfl,rfl,rfl,rfl,rfl,rfl,rfl,rfl,_⟩:=hF_.all
  have zn:D 7=true:=by assumption
  clear hF_ cr cq ct cu cz cB bP cT dw fc
  obtain ⟨es1,ck1,tv1,tr1,hm1,htr1,hT1,hI⟩:=hI1 zn
  exact ⟨_,_,S,rfl,hI.sub (List.sublist_append_right [_] _),Ext.refl _ _ _,rfl,rfl,es1,ck1,tv1,tr1,rfl,hm1,htr1,hT1⟩
 refine bg ?_
 refine aI (fun h=>?_) (fun h3=>?_)
 ·obtain ⟨x,y,rfl⟩:=uW (l:=ks) (by have:=iS (by rw [h]; decide +kernel) hbs; omega)
  have hj:eG (.mk k n s [x,y])=.not x y:=by
   rw [eG,if_neg (show ¬ (T.mk k n s [x,y]).name=gB from h0),if_neg (show ¬ (T.mk k n s [x,y]).name=jv from h1),if_neg (show ¬ (T.mk k n s [x,y]).name=nEq from h2),if_pos (show (T.mk k n s [x,y]).name=nNe from h)]
   rfl
  rw [hj] at hB hbj
  obtain ⟨b,o,cap,c,E,fz,rfl,hSb,hR⟩:=hks.ptr (by simp)
  obtain ⟨rfl,r,st1,hu,rfl⟩:=hB
  have hjj:okJ N (.one x y):=hbj
  refine ao ?_
  refine ae hI 1 rfl dY fR rfl ?_
  obtain ⟨ta,tn,tc,htv⟩:=hI.rowSlice 3 rfl
  have htn:tn=tr.length:=by
   have hm:w'.ownsRow 0 bE 1 tv tr.length (ints tr):=hI.its (dq tv tr) (by simp [aq])
   rcases hm.2 with ⟨e1,e2⟩|⟨g1,c1,u1,e1,_⟩
   ·rw [htv] at e1; simp only [Value.slice.injEq] at e1; omega
   ·rw [htv] at e1; simp only [Value.slice.injEq] at e1; omega
  obtain rfl:=htn
  rw [htv]
  refine ez de ?_
  refine ⟨fun D x7 uK Jq EH JS Jk Jf EG Hu w_=>Fx D 0 [Hu=.pointer (some ⟨sb,0,none⟩),EG=.slice (some ⟨b,o,none⟩) [x,y].length cap,Jf=.pointer (some ⟨b,o+0 * 4,none⟩),Jk=.agg (aJ c (o+0 * 4) 4).toArray,JS=.slice (some ⟨b,o,none⟩) [x,y].length cap,EH=.pointer (some ⟨b,o+1 * 4,none⟩),Jq=.agg (aJ c (o+1 * 4) 4).toArray,uK=.bool r,x7=.bool r]/\(D 7=false->Inv w X ([.blk b3 (.cells #[.int .i64 k,.int .i64 n,.string s,.slice (some ⟨b,o,none⟩) [x,y].length cap] ab)]++aq sb mb es ck tv tr) S w_)/\(D 7=true->∃ es1 ck1 tv1 tr1,KnownM S es1 st1/\tr1.length+unb st1<=1000000/\Tr st' st1 tr tr1/\Inv w X ([.blk b3 (.cells #[.int .i64 k,.int .i64 n,.string s,.slice (some ⟨b,o,none⟩) [x,y].length cap] ab)]++aq sb mb es1 ck1 tv1 tr1) S w_)/\∃ es3 ck3 tv3 tr3,Inv w X ([.blk b3 (.cells #[.int .i64 k,.int .i64 n,.string s,.slice (some ⟨b,o,none⟩) [x,y].length cap] ab)]++aq sb mb es3 ck3 tv3 tr3) S w_,⟨Fx.nil _ _,⟨fun _=>hI.draw,aK,es,ck,tv,tr,hI.draw⟩⟩,⟨?_,?_,?_,?_,?_,?_,?_,?_,?_,trivial⟩,?_⟩
  all_goals (intro D bx; intros; rename_i x7 uK Jq EH JS Jk Jf EG Hu w_ hA_; have hF_:=hA_.1; obtain ⟨⟨cr,cq,ct,cu,cz,cB,bP,cT,dw,_⟩,⟨hI0,hI1,es3,ck3,tv3,tr3,hI⟩⟩:=hA_)
  ·exact ⟨hF_.set 0 rfl,⟨hI0,hI1,es3,ck3,tv3,tr3,hI⟩⟩
  ·exact ⟨hF_.set 1 rfl,⟨hI0,hI1,es3,ck3,tv3,tr3,hI⟩⟩
  ·obtain rfl:=cq ‹_›
   refine aH (i:=0) ah (by simp) ?_
   exact ⟨hF_.set 2 rfl,⟨hI0,hI1,es3,ck3,tv3,tr3,hI⟩⟩
  ·obtain rfl:=ct ‹_›
   refine b0 ac (RdT.length (hR 0 (by simp))) (fun j v hj=>by rw [hI.cellS hSb]; exact aO rfl j v hj) ?_
   exact ⟨hF_.set 3 rfl,⟨hI0,hI1,es3,ck3,tv3,tr3,hI⟩⟩
  ·exact ⟨hF_.set 4 rfl,⟨hI0,hI1,es3,ck3,tv3,tr3,hI⟩⟩
  ·obtain rfl:=cz ‹_›
   refine aH (i:=1) ah (by simp) ?_
   exact ⟨hF_.set 5 rfl,⟨hI0,hI1,es3,ck3,tv3,tr3,hI⟩⟩
  ·obtain rfl:=cB ‹_›
   refine b0 ac (RdT.length (hR 1 (by simp))) (fun j v hj=>by rw [hI.cellS hSb]; exact aO rfl j v hj) ?_
   exact ⟨hF_.set 6 rfl,⟨hI0,hI1,es3,ck3,tv3,tr3,hI⟩⟩
  ·obtain rfl:=cr ‹_›
   obtain rfl:=cu ‹_›
   obtain rfl:=bP ‹_›
   refine Run.callE (A:=[_]) dh dg (hI0 bx) (fA hN hg hjj hu S _ _ sb mb ck es tv tr (hR 0 (by simp)) (hR 1 (by simp)) hkm htr) fun v' I' S' w_=>?_
   rintro ⟨eS,rfl,es1,ck1,tv1,tr1,rfl,hm1,htr1,hT1⟩ _ hI
   rw [eS] at hI
   have hI0:=fun (h:ar D 7 7=false)=>(Bool.noConfusion h:Inv w X ([.blk b3 (.cells #[.int .i64 k,.int .i64 n,.string s,.slice (some ⟨b,o,none⟩) [x,y].length cap] ab)]++aq sb mb es ck tv tr) S w_)
   have hI1:=fun (_:ar D 7 7=true)=>(⟨es1,ck1,tv1,tr1,hm1,htr1,hT1,hI⟩:∃ es1 ck1 tv1 tr1,KnownM S es1 st1/\tr1.length+unb st1<=1000000/\Tr st' st1 tr tr1/\Inv w X ([.blk b3 (.cells #[.int .i64 k,.int .i64 n,.string s,.slice (some ⟨b,o,none⟩) [x,y].length cap] ab)]++aq sb mb es1 ck1 tv1 tr1) S w_)
   obtain ⟨es3,ck3,tv3,tr3,hI⟩:∃ es3 ck3 tv3 tr3,Inv w X ([.blk b3 (.cells #[.int .i64 k,.int .i64 n,.string s,.slice (some ⟨b,o,none⟩) [x,y].length cap] ab)]++aq sb mb es3 ck3 tv3 tr3) S w_:=⟨es1,ck1,tv1,tr1,hI⟩
   exact ⟨hF_.set 7 rfl,⟨hI0,hI1,es3,ck3,tv3,tr3,hI⟩⟩
  ·obtain rfl:=cT ‹_›
   exact ⟨hF_.set 8 rfl,⟨hI0,hI1,es3,ck3,tv3,tr3,hI⟩⟩
  obtain ⟨rfl,rfl,rfl,rfl,rfl,rfl,rfl,rfl,rfl,_⟩:=hF_.all
  have zn:D 7=true:=by assumption
  clear hF_ cr cq ct cu cz cB bP cT dw
  obtain ⟨es1,ck1,tv1,tr1,hm1,htr1,⟨ns,rfl,hun,hns,_⟩,hI⟩:=hI1 zn
  have hd1:(tr++ns).drop tr.length=ns:=by rw [List.drop_left]
  have hd2:(tr++ns).take tr.length=tr:=by rw [List.take_left]
  refine Run.callE (A:=[_]) ip io hI (qQ (mark:=tr.length) hm1 (by simp) (by rw [hd1]; intro n hn; obtain ⟨j,rfl,_⟩:=hns n hn; omega) (by omega)) fun v' I' S' w'=>?_
  rintro ⟨eS,rfl,es2,tv2,rfl,hm2⟩ _ hI
  rw [eS] at hI
  rw [hd1,hun] at hm2
  rw [hd2] at hI
  refine bK ?_
  refine Run.callPure fn_i_holds nm_i_holds hI (cI (!r) S) fun w' hI=>?_
  exact ⟨_,_,S,rfl,hI.sub (List.sublist_append_right [_] _),Ext.refl _ _ _,rfl,rfl,es2,ck1,tv2,tr,rfl,hm2,htr,Tr.refl _ _⟩
 refine bg ?_
 refine aI (fun h=>?_) (fun h4=>?_)
 ·obtain ⟨x,y,rfl⟩:=uW (l:=ks) (by have:=iS (by rw [h]; decide +kernel) hbs; omega)
  have hj:eG (.mk k n s [x,y])=.done (fN (eqT x y)):=by
   rw [eG,if_neg (show ¬ (T.mk k n s [x,y]).name=gB from h0),if_neg (show ¬ (T.mk k n s [x,y]).name=jv from h1),if_neg (show ¬ (T.mk k n s [x,y]).name=nEq from h2),if_neg (show ¬ (T.mk k n s [x,y]).name=nNe from h3),if_pos (show (T.mk k n s [x,y]).name=qG from h)]
   rfl
  rw [hj] at hB hbj
  obtain ⟨b,o,cap,c,E,fz,rfl,hSb,hR⟩:=hks.ptr (by simp)
  refine ⟨fun D x4 CH yP yz xV yc xZ yE yK w_=>Fx D 0 [yK=.slice (some ⟨b,o,none⟩) [x,y].length cap,yE=.pointer (some ⟨b,o+0 * 4,none⟩),xZ=.agg (aJ c (o+0 * 4) 4).toArray,yc=.slice (some ⟨b,o,none⟩) [x,y].length cap,xV=.pointer (some ⟨b,o+1 * 4,none⟩),yz=.agg (aJ c (o+1 * 4) 4).toArray,yP=.bool (eqT x y),CH=.int .i64 (fN (eqT x y)),x4=.int .i64 (fN (eqT x y))]/\Inv w X ([.blk b3 (.cells #[.int .i64 k,.int .i64 n,.string s,.slice (some ⟨b,o,none⟩) [x,y].length cap] ab)]++aq sb mb es ck tv tr) S w_,⟨Fx.nil _ _,hI.draw⟩,⟨?_,?_,?_,?_,?_,?_,?_,?_,?_,trivial⟩,?_⟩
  all_goals (intro D bx; intros; rename_i x4 CH yP yz xV yc xZ yE yK w_ hA_; have hF_:=hA_.1; obtain ⟨⟨cr,cq,ct,cu,cz,cB,bP,cT,dw,_⟩,hI⟩:=hA_)
  ·exact ⟨hF_.set 0 rfl,hI⟩
  ·obtain rfl:=cr ‹_›
   refine aH (i:=0) ah (by simp) ?_
   exact ⟨hF_.set 1 rfl,hI⟩
  ·obtain rfl:=cq ‹_›
   refine b0 ac (RdT.length (hR 0 (by simp))) (fun j v hj=>by rw [hI.cellS hSb]; exact aO rfl j v hj) ?_
   exact ⟨hF_.set 2 rfl,hI⟩
  ·exact ⟨hF_.set 3 rfl,hI⟩
  ·obtain rfl:=cu ‹_›
   refine aH (i:=1) ah (by simp) ?_
   exact ⟨hF_.set 4 rfl,hI⟩
  ·obtain rfl:=cz ‹_›
   refine b0 ac (RdT.length (hR 1 (by simp))) (fun j v hj=>by rw [hI.cellS hSb]; exact aO rfl j v hj) ?_
   exact ⟨hF_.set 5 rfl,hI⟩
  ·obtain rfl:=ct ‹_›
   obtain rfl:=cB ‹_›
   refine Run.callPure kI kF hI (gL x y S _ _ (hR 0 (by simp)) (hR 1 (by simp))) fun w_ hI=>?_
   exact ⟨hF_.set 6 rfl,hI⟩
  ·obtain rfl:=bP ‹_›
   refine Run.callPure fn_i_holds nm_i_holds hI (cI _ S) fun w_ hI=>?_
   exact ⟨hF_.set 7 rfl,hI⟩
  ·obtain rfl:=cT ‹_›
   exact ⟨hF_.set 8 rfl,hI⟩
  obtain ⟨rfl,rfl,rfl,rfl,rfl,rfl,rfl,rfl,rfl,_⟩:=hF_.all
  clear hF_ cr cq ct cu cz cB bP cT dw
  exact fin _ rfl hB hI (sub1 _)
 refine bg ?_
 refine aI (fun h=>?_) (fun h5=>?_)
 ·obtain ⟨x,y,rfl⟩:=uW (l:=ks) (by have:=iS (by rw [h]; decide +kernel) hbs; omega)
  have hj:eG (.mk k n s [x,y])=if (cF y).2≠0 then .done (cF y).2 else .uni x (GA (cF y).1):=by
   rw [eG,if_neg (show ¬ (T.mk k n s [x,y]).name=gB from h0),if_neg (show ¬ (T.mk k n s [x,y]).name=jv from h1),if_neg (show ¬ (T.mk k n s [x,y]).name=nEq from h2),if_neg (show ¬ (T.mk k n s [x,y]).name=nNe from h3),if_neg (show ¬ (T.mk k n s [x,y]).name=qG from h4),if_pos (show (T.mk k n s [x,y]).name=nIs from h)]
   rfl
  rw [hj] at hB hbj
  obtain ⟨b,o,cap,c,E,fz,rfl,hSb,hR⟩:=hks.ptr (by simp)
  have ny:=im hn.2 y (by simp)
  refine ci (i:=1) hI hks ah ac (by simp) (fun _ _=>RdT.length) fun ds hds=>?_
  refine Run.callPure jm jj hI (kE y S ds hds ny) fun w' hI=>?_
  refine al (v:=.int .i64 _) rfl ?_
  refine al (v:=.int .i64 _) rfl ?_
  refine fP ?_
  refine aw (fun h6=>?_) (fun h6=>?_)
  ·simp at h6
   exact fin _ (if_pos h6) hB hI (sub1 _)
  simp at h6
  rw [if_neg (by simp [h6])] at hB hbj
  obtain ⟨r,hu,rfl⟩:=hB
  have hjj:okJ N (.one x (GA (cF y).1)):=hbj
  have hsm:=sQ y ny
  unfold Sm at hsm
  refine ⟨fun D x4 LS OA Mi Mt OV OT Ox OW w_=>Fx D 0 [OW=.pointer (some ⟨sb,0,none⟩),Ox=.slice (some ⟨b,o,none⟩) [x,y].length cap,OT=.pointer (some ⟨b,o+0 * 4,none⟩),OV=.agg (aJ c (o+0 * 4) 4).toArray,Mt=.int .i64 (cF y).1,Mi=.agg #[.int .i64 2,.int .i64 (cF y).1,.string ⟨#[]⟩,.slice none 0 0],OA=.bool r,LS=.int .i64 (fN r),x4=.int .i64 (fN r)]/\(D 6=false->Inv w X ([.blk b3 (.cells #[.int .i64 k,.int .i64 n,.string s,.slice (some ⟨b,o,none⟩) [x,y].length cap] ab)]++aq sb mb es ck tv tr) S w_)/\(D 6=true->∃ es1 ck1 tv1 tr1,KnownM S es1 st'/\tr1.length+unb st'<=1000000/\Tr st st' tr tr1/\Inv w X ([.blk b3 (.cells #[.int .i64 k,.int .i64 n,.string s,.slice (some ⟨b,o,none⟩) [x,y].length cap] ab)]++aq sb mb es1 ck1 tv1 tr1) S w_)/\∃ es3 ck3 tv3 tr3,Inv w X ([.blk b3 (.cells #[.int .i64 k,.int .i64 n,.string s,.slice (some ⟨b,o,none⟩) [x,y].length cap] ab)]++aq sb mb es3 ck3 tv3 tr3) S w_,⟨Fx.nil _ _,⟨fun _=>hI.draw,aK,es,ck,tv,tr,hI.draw⟩⟩,⟨?_,?_,?_,?_,?_,?_,?_,?_,?_,trivial⟩,?_⟩
  all_goals (intro D bx; intros; rename_i x4 LS OA Mi Mt OV OT Ox OW w_ hA_; have hF_:=hA_.1; obtain ⟨⟨cr,cq,ct,cu,cz,cB,bP,cT,dw,_⟩,⟨hI0,hI1,es3,ck3,tv3,tr3,hI⟩⟩:=hA_)
  ·exact ⟨hF_.set 0 rfl,⟨hI0,hI1,es3,ck3,tv3,tr3,hI⟩⟩
  ·exact ⟨hF_.set 1 rfl,⟨hI0,hI1,es3,ck3,tv3,tr3,hI⟩⟩
  ·obtain rfl:=cq ‹_›
   refine aH (i:=0) ah (by simp) ?_
   exact ⟨hF_.set 2 rfl,⟨hI0,hI1,es3,ck3,tv3,tr3,hI⟩⟩
  ·obtain rfl:=ct ‹_›
   refine b0 ac (RdT.length (hR 0 (by simp))) (fun j v hj=>by rw [hI.cellS hSb]; exact aO rfl j v hj) ?_
   exact ⟨hF_.set 3 rfl,⟨hI0,hI1,es3,ck3,tv3,tr3,hI⟩⟩
  ·exact ⟨hF_.set 4 rfl,⟨hI0,hI1,es3,ck3,tv3,tr3,hI⟩⟩
  ·obtain rfl:=cz ‹_›
   have f6:D 6=D 6:=rfl
   cases f6v:D 6
   ·refine Run.callPure vR wB (hI0 f6v) (n3 _ S) fun w_ hI=>?_
    have hI0:=fun (_:ar D 5 6=false)=>hI
    have hI1:=fun (h:ar D 5 6=true)=>(Bool.noConfusion (f6v.symm.trans h):∃ es1 ck1 tv1 tr1,KnownM S es1 st'/\tr1.length+unb st'<=1000000/\Tr st st' tr tr1/\Inv w X ([.blk b3 (.cells #[.int .i64 k,.int .i64 n,.string s,.slice (some ⟨b,o,none⟩) [x,y].length cap] ab)]++aq sb mb es1 ck1 tv1 tr1) S w_)
    obtain ⟨es3,ck3,tv3,tr3,hI⟩:∃ es3 ck3 tv3 tr3,Inv w X ([.blk b3 (.cells #[.int .i64 k,.int .i64 n,.string s,.slice (some ⟨b,o,none⟩) [x,y].length cap] ab)]++aq sb mb es3 ck3 tv3 tr3) S w_:=⟨es,ck,tv,tr,hI⟩
    exact ⟨hF_.set 5 rfl,⟨hI0,hI1,es3,ck3,tv3,tr3,hI⟩⟩
   obtain ⟨es1,ck1,tv1,tr1,hm1,htr1,hT1,hI⟩:=hI1 f6v
   refine Run.callPure vR wB hI (n3 _ S) fun w_ hI=>?_
   have hI0:=fun (h:ar D 5 6=false)=>(Bool.noConfusion (h.symm.trans f6v):Inv w X ([.blk b3 (.cells #[.int .i64 k,.int .i64 n,.string s,.slice (some ⟨b,o,none⟩) [x,y].length cap] ab)]++aq sb mb es ck tv tr) S w_)
   have hI1:=fun (_:ar D 5 6=true)=>(⟨es1,ck1,tv1,tr1,hm1,htr1,hT1,hI⟩:∃ es1 ck1 tv1 tr1,KnownM S es1 st'/\tr1.length+unb st'<=1000000/\Tr st st' tr tr1/\Inv w X ([.blk b3 (.cells #[.int .i64 k,.int .i64 n,.string s,.slice (some ⟨b,o,none⟩) [x,y].length cap] ab)]++aq sb mb es1 ck1 tv1 tr1) S w_)
   obtain ⟨es3,ck3,tv3,tr3,hI⟩:∃ es3 ck3 tv3 tr3,Inv w X ([.blk b3 (.cells #[.int .i64 k,.int .i64 n,.string s,.slice (some ⟨b,o,none⟩) [x,y].length cap] ab)]++aq sb mb es3 ck3 tv3 tr3) S w_:=⟨es1,ck1,tv1,tr1,hI⟩
   exact ⟨hF_.set 5 rfl,⟨hI0,hI1,es3,ck3,tv3,tr3,hI⟩⟩
  ·obtain rfl:=cr ‹_›
   obtain rfl:=cu ‹_›
   obtain rfl:=cB ‹_›
   refine Run.callE (A:=[_]) dh dg (hI0 bx) (fA hN hg hjj hu S _ _ sb mb ck es tv tr (hR 0 (by simp)) (oX (by simp [inI]) (by simp only [inI]; omega)) hkm htr) fun v' I' S' w_=>?_
   rintro ⟨eS,rfl,es1,ck1,tv1,tr1,rfl,hm1,htr1,hT1⟩ _ hI
   rw [eS] at hI
   have hI0:=fun (h:ar D 6 6=false)=>(Bool.noConfusion h:Inv w X ([.blk b3 (.cells #[.int .i64 k,.int .i64 n,.string s,.slice (some ⟨b,o,none⟩) [x,y].length cap] ab)]++aq sb mb es ck tv tr) S w_)
   have hI1:=fun (_:ar D 6 6=true)=>(⟨es1,ck1,tv1,tr1,hm1,htr1,hT1,hI⟩:∃ es1 ck1 tv1 tr1,KnownM S es1 st'/\tr1.length+unb st'<=1000000/\Tr st st' tr tr1/\Inv w X ([.blk b3 (.cells #[.int .i64 k,.int .i64 n,.string s,.slice (some ⟨b,o,none⟩) [x,y].length cap] ab)]++aq sb mb es1 ck1 tv1 tr1) S w_)
   obtain ⟨es3,ck3,tv3,tr3,hI⟩:∃ es3 ck3 tv3 tr3,Inv w X ([.blk b3 (.cells #[.int .i64 k,.int .i64 n,.string s,.slice (some ⟨b,o,none⟩) [x,y].length cap] ab)]++aq sb mb es3 ck3 tv3 tr3) S w_:=⟨es1,ck1,tv1,tr1,hI⟩
   exact ⟨hF_.set 6 rfl,⟨hI0,hI1,es3,ck3,tv3,tr3,hI⟩⟩
  ·obtain rfl:=bP ‹_›
   obtain ⟨es1,ck1,tv1,tr1,hm1,htr1,hT1,hI⟩:=hI1 ‹D 6=true›
   refine Run.callPure fn_i_holds nm_i_holds hI (cI r S) fun w_ hI=>?_
   have hI0:=fun (h:ar D 7 6=false)=>(Bool.noConfusion (h.symm.trans (show ar D 7 6=true from ‹D 6=true›)):Inv w X ([.blk b3 (.cells #[.int .i64 k,.int .i64 n,.string s,.slice (some ⟨b,o,none⟩) [x,y].length cap] ab)]++aq sb mb es ck tv tr) S w_)
   have hI1:=fun (_:ar D 7 6=true)=>(⟨es1,ck1,tv1,tr1,hm1,htr1,hT1,hI⟩:∃ es1 ck1 tv1 tr1,KnownM S es1 st'/\tr1.length+unb st'<=1000000/\Tr st st' tr tr1/\Inv w X ([.blk b3 (.cells #[.int .i64 k,.int .i64 n,.string s,.slice (some ⟨b,o,none⟩) [x,y].length cap] ab)]++aq sb mb es1 ck1 tv1 tr1) S w_)
   obtain ⟨es3,ck3,tv3,tr3,hI⟩:∃ es3 ck3 tv3 tr3,Inv w X ([.blk b3 (.cells #[.int .i64 k,.int .i64 n,.string s,.slice (some ⟨b,o,none⟩) [x,y].length cap] ab)]++aq sb mb es3 ck3 tv3 tr3) S w_:=⟨es1,ck1,tv1,tr1,hI⟩
   exact ⟨hF_.set 7 rfl,⟨hI0,hI1,es3,ck3,tv3,tr3,hI⟩⟩
  ·obtain rfl:=cT ‹_›
   exact ⟨hF_.set 8 rfl,⟨hI0,hI1,es3,ck3,tv3,tr3,hI⟩⟩
  obtain ⟨rfl,rfl,rfl,rfl,rfl,rfl,rfl,rfl,rfl,_⟩:=hF_.all
  have KW:D 6=true:=by assumption
  clear hF_ cr cq ct cu cz cB bP cT dw
  obtain ⟨es1,ck1,tv1,tr1,hm1,htr1,hT1,hI⟩:=hI1 KW
  exact ⟨_,_,S,rfl,hI.sub (List.sublist_append_right [_] _),Ext.refl _ _ _,rfl,rfl,es1,ck1,tv1,tr1,rfl,hm1,htr1,hT1⟩
 refine bg ?_
 refine aI (fun h=>?_) (fun g1=>?_)
 ·obtain ⟨x,rfl⟩:=C6 (l:=ks) (by
    rcases oP hbs h0 h1 h2 h3 h4 h5 hcn with ⟨_,h⟩|⟨h',_⟩
    ·omega
    ·rw [h] at h'; exact absurd h' (by decide +kernel))
  have hj:eG (.mk k n s [x])=.done (fN (tu s x)):=by
   rw [eG,if_neg (show ¬ (T.mk k n s [x]).name=gB from h0),if_neg (show ¬ (T.mk k n s [x]).name=jv from h1),if_neg (show ¬ (T.mk k n s [x]).name=nEq from h2),if_neg (show ¬ (T.mk k n s [x]).name=nNe from h3),if_neg (show ¬ (T.mk k n s [x]).name=qG from h4),if_neg (show ¬ (T.mk k n s [x]).name=nIs from h5),if_neg (show ¬ (T.mk k n s [x]).name=AC from by rw [show (T.mk k n s [x]).name=s from rfl,h]; decide +kernel),show (T.mk k n s [x]).name=s from rfl,hcn,if_neg (by decide)]
   rfl
  rw [hj] at hB
  have ht:tu s x=decide (x.kind=1):=by rw [h]; rfl
  refine lW hI hks ah aQ aE (i:=0) (by simp) (fun cs hcs=>RdT.f0 hcs) ?_
  refine aZ ?_
  exact Run.callPure fn_i_holds nm_i_holds hI (cI _ S) fun w' hI=>fin _ (by rw [ht]; rfl) hB hI (sub1 _)
 refine bg ?_
 refine aI (fun h=>?_) (fun g2=>?_)
 ·obtain ⟨x,rfl⟩:=C6 (l:=ks) (by
    rcases oP hbs h0 h1 h2 h3 h4 h5 hcn with ⟨_,h⟩|⟨h',_⟩
    ·omega
    ·rw [h] at h'; exact absurd h' (by decide +kernel))
  have hj:eG (.mk k n s [x])=.done (fN (tu s x)):=by
   rw [eG,if_neg (show ¬ (T.mk k n s [x]).name=gB from h0),if_neg (show ¬ (T.mk k n s [x]).name=jv from h1),if_neg (show ¬ (T.mk k n s [x]).name=nEq from h2),if_neg (show ¬ (T.mk k n s [x]).name=nNe from h3),if_neg (show ¬ (T.mk k n s [x]).name=qG from h4),if_neg (show ¬ (T.mk k n s [x]).name=nIs from h5),if_neg (show ¬ (T.mk k n s [x]).name=AC from by rw [show (T.mk k n s [x]).name=s from rfl,h]; decide +kernel),show (T.mk k n s [x]).name=s from rfl,hcn,if_neg (by decide)]
   rfl
  rw [hj] at hB
  have ht:tu s x=!decide (x.kind=1):=by rw [h]; rfl
  refine lW hI hks ah aQ aE (i:=0) (by simp) (fun cs hcs=>RdT.f0 hcs) ?_
  refine fP ?_
  exact Run.callPure fn_i_holds nm_i_holds hI (cI _ S) fun w' hI=>fin _ (by rw [ht]; rfl) hB hI (sub1 _)
 refine bg ?_
 refine aI (fun h=>?_) (fun g3=>?_)
 ·obtain ⟨x,rfl⟩:=C6 (l:=ks) (by
    rcases oP hbs h0 h1 h2 h3 h4 h5 hcn with ⟨_,h⟩|⟨h',_⟩
    ·omega
    ·rw [h] at h'; exact absurd h' (by decide +kernel))
  have hj:eG (.mk k n s [x])=.done (fN (tu s x)):=by
   rw [eG,if_neg (show ¬ (T.mk k n s [x]).name=gB from h0),if_neg (show ¬ (T.mk k n s [x]).name=jv from h1),if_neg (show ¬ (T.mk k n s [x]).name=nEq from h2),if_neg (show ¬ (T.mk k n s [x]).name=nNe from h3),if_neg (show ¬ (T.mk k n s [x]).name=qG from h4),if_neg (show ¬ (T.mk k n s [x]).name=nIs from h5),if_neg (show ¬ (T.mk k n s [x]).name=AC from by rw [show (T.mk k n s [x]).name=s from rfl,h]; decide +kernel),show (T.mk k n s [x]).name=s from rfl,hcn,if_neg (by decide)]
   rfl
  rw [hj] at hB
  have ht:tu s x=(decide (x.kind=3) && decide (x.kids.length=0)):=by rw [h]; rfl
  refine ci (i:=0) hI hks ah ac (by simp) (fun _ _=>RdT.length) fun ds hds=>?_
  refine Run.callPure wd wh hI (tD hds) fun w' hI=>?_
  exact Run.callPure fn_i_holds nm_i_holds hI (cI _ S) fun w' hI=>fin _ (by rw [ht]; rfl) hB hI (sub1 _)
 refine bg ?_
 refine aI (fun h=>?_) (fun g4=>?_)
 ·obtain ⟨x,rfl⟩:=C6 (l:=ks) (by
    rcases oP hbs h0 h1 h2 h3 h4 h5 hcn with ⟨_,h⟩|⟨h',_⟩
    ·omega
    ·rw [h] at h'; exact absurd h' (by decide +kernel))
  have hj:eG (.mk k n s [x])=.done (fN (tu s x)):=by
   rw [eG,if_neg (show ¬ (T.mk k n s [x]).name=gB from h0),if_neg (show ¬ (T.mk k n s [x]).name=jv from h1),if_neg (show ¬ (T.mk k n s [x]).name=nEq from h2),if_neg (show ¬ (T.mk k n s [x]).name=nNe from h3),if_neg (show ¬ (T.mk k n s [x]).name=qG from h4),if_neg (show ¬ (T.mk k n s [x]).name=nIs from h5),if_neg (show ¬ (T.mk k n s [x]).name=AC from by rw [show (T.mk k n s [x]).name=s from rfl,h]; decide +kernel),show (T.mk k n s [x]).name=s from rfl,hcn,if_neg (by decide)]
   rfl
  rw [hj] at hB
  have ht:tu s x=decide (x.kind=2):=by rw [h]; rfl
  refine lW hI hks ah aQ aE (i:=0) (by simp) (fun cs hcs=>RdT.f0 hcs) ?_
  refine aZ ?_
  exact Run.callPure fn_i_holds nm_i_holds hI (cI _ S) fun w' hI=>fin _ (by rw [ht]; rfl) hB hI (sub1 _)
 have hall:s=AC/\ks.length=3:=by
  rcases oP hbs h0 h1 h2 h3 h4 h5 hcn with ⟨ht,_⟩|⟨h,hl⟩
  ·rw [bO,List.any_eq_true] at ht
   obtain ⟨x,hx,hd⟩:=ht
   have hd:=of_decide_eq_true hd
   simp only [qn,List.mem_cons,List.not_mem_nil,or_false] at hx
   rcases hx with rfl|rfl|rfl|rfl
   ·exact absurd hd g1
   ·exact absurd hd g2
   ·exact absurd hd g3
   ·exact absurd hd g4
  ·exact ⟨h,by omega⟩
 obtain ⟨h,hl⟩:=hall
 obtain ⟨x,y,z,rfl⟩:=Ml hl
 have hj:eG (.mk k n s [x,y,z])=Dp x y z:=by
  rw [eG,if_neg (show ¬ (T.mk k n s [x,y,z]).name=gB from h0),if_neg (show ¬ (T.mk k n s [x,y,z]).name=jv from h1),if_neg (show ¬ (T.mk k n s [x,y,z]).name=nEq from h2),if_neg (show ¬ (T.mk k n s [x,y,z]).name=nNe from h3),if_neg (show ¬ (T.mk k n s [x,y,z]).name=qG from h4),if_neg (show ¬ (T.mk k n s [x,y,z]).name=nIs from h5),if_pos (show (T.mk k n s [x,y,z]).name=AC from h)]
  rfl
 rw [hj] at hB hbj
 obtain ⟨b,o,cap,c,E,fz,rfl,hSb,hR⟩:=hks.ptr (by simp)
 have hx:=hR 0 (by simp)
 have hy:=hR 1 (by simp)
 have hz:=hR 2 (by simp)
 obtain ⟨kx,hxe,_,hx2,_,_⟩:=RdT.iff.1 hx
 obtain ⟨ky,hye,_,_,_,hyk⟩:=RdT.iff.1 hy
 have hx:RdT S (aJ c (o+0 * 4) 4) x:=hx
 have hy:RdT S (aJ c (o+1 * 4) 4) y:=hy
 have hxe:aJ c (o+0 * 4) 4=[.int .i64 x.kind,.int .i64 x.n,.string x.name,kx]:=hxe
 have hye:aJ c (o+1 * 4) 4=[.int .i64 y.kind,.int .i64 y.n,.string y.name,ky]:=hye
 have hyk:RdSl S 4 (RdT S) ky y.kids:=hyk
 have hx2:inI x.n:=hx2
 have hky1:=hyk.le
 simp only [maxLen] at hky1
 refine ⟨fun q w'=>q=.bool (decide (x.kind=1 ∨ y.kind=1))/\Inv w X ([.blk b3 (.cells #[.int .i64 k,.int .i64 n,.string s,.slice (some ⟨b,o,none⟩) [x,y,z].length cap] ab)]++aq sb mb es ck tv tr) S w',?_,?_⟩
 ·refine lW hI hks ah aQ aE (i:=0) (by simp) (fun cs hcs=>RdT.f0 hcs) ?_
  refine aZ ?_
  have e0:([x,y,z]:List T)[0]=x:=rfl
  rw [e0]
  cases k1:decide (x.kind=1)
  ·refine rpG ?_
   refine lW hI hks ah aQ aE (i:=1) (by simp) (fun cs hcs=>RdT.f0 hcs) ?_
   refine aZ ?_
   refine rpG ?_
   have:=of_decide_eq_false k1
   refine ⟨?_,hI⟩
   rw [Value.bool.injEq,decide_eq_decide]
   exact ⟨.inr,fun h=>h.resolve_left this⟩
  ·refine rpG ?_
   exact ⟨by rw [decide_eq_true (.inl (of_decide_eq_true k1))],hI⟩
 intro q _ _ _ _ _ _ _ _ _ _ _ _ w'
 rintro ⟨rfl,hI⟩
 refine aI (fun k1=>fin 2 (by rw [Dp,if_pos k1]) hB hI (sub1 _)) (fun k1=>?_)
 have el:decide ((y.kids.length:Int)=0)=decide (y.kids.length=0):=by rw [decide_eq_decide]; omega
 refine ⟨fun q w'=>q=.bool (decide (x.kind≠2 ∨ y.kind≠3 ∨ y.kids.length=0))/\Inv w X ([.blk b3 (.cells #[.int .i64 k,.int .i64 n,.string s,.slice (some ⟨b,o,none⟩) [x,y,z].length cap] ab)]++aq sb mb es ck tv tr) S w',?_,?_⟩
 ·refine lW hI hks ah aQ aE (i:=0) (by simp) (fun cs hcs=>RdT.f0 hcs) ?_
  refine fP ?_
  have e0:([x,y,z]:List T)[0]=x:=rfl
  rw [e0]
  cases q2:decide (x.kind=2)
  ·refine rpG ?_
   exact ⟨by rw [decide_eq_true (.inl (of_decide_eq_false q2))],hI⟩
  have q2:=of_decide_eq_true q2
  refine rpG ?_
  refine lW hI hks ah aQ aE (i:=1) (by simp) (fun cs hcs=>RdT.f0 hcs) ?_
  refine fP ?_
  have e1:([x,y,z]:List T)[1]=y:=rfl
  rw [e1]
  cases q3:decide (y.kind=3)
  ·refine rpG ?_
   exact ⟨by rw [decide_eq_true (.inr (.inl (of_decide_eq_false q3)))],hI⟩
  have q3:=of_decide_eq_true q3
  refine rpG ?_
  refine aH (i:=1) ah (by simp) ?_
  refine aB au ?_
  refine bX aj (by rw [hI.cellS hSb]; exact aO hye 3 _ rfl) ?_
  refine aG hyk ah ?_
  refine aZ ?_
  rw [el]
  refine rpG ?_
  refine ⟨?_,hI⟩
  rw [Value.bool.injEq,decide_eq_decide]
  simp [q2,q3]
 intro q _ _ _ _ _ _ _ _ _ _ _ _ _ _ _ _ _ _ _ _ w'
 rintro ⟨rfl,hI⟩
 refine aI (fun k2=>fin 3 (by rw [Dp,if_neg k1,if_pos k2]) hB hI (sub1 _)) (fun k2=>?_)
 have hwi:(decide (1<=x.n) && decide (x.n<=(y.kids.length:Int)))=!decide (x.n<1 ∨ (y.kids.length:Int)<x.n):=by
  by_cases h8:x.n<1
  ·simp [h8]; omega
  ·by_cases h9:(y.kids.length:Int)<x.n
   ·simp [h9]
   ·simp [h8,h9]; omega
 refine ⟨fun D L3 PY Rt P5 Rc Qt Qh Rp QI Qy Ln Mg w_=>Fx D 0 [Mg=.slice (some ⟨b,o,none⟩) [x,y,z].length cap,Ln=.pointer (some ⟨b,o+0 * 4,none⟩),Qy=.pointer (some ⟨b,o+0 * 4+1,none⟩),QI=.int .i64 x.n,Rp=.slice (some ⟨b,o,none⟩) [x,y,z].length cap,Qh=.pointer (some ⟨b,o+1 * 4,none⟩),Qt=.pointer (some ⟨b,o+1 * 4+3,none⟩),Rc=ky,P5=.int .i64 y.kids.length,Rt=.bool (!decide (x.n<1 ∨ (y.kids.length:Int)<x.n)),PY=.bool (decide (x.n<1 ∨ (y.kids.length:Int)<x.n)),L3=.bool (decide (x.n<1 ∨ (y.kids.length:Int)<x.n))]/\Inv w X ([.blk b3 (.cells #[.int .i64 k,.int .i64 n,.string s,.slice (some ⟨b,o,none⟩) [x,y,z].length cap] ab)]++aq sb mb es ck tv tr) S w_,⟨Fx.nil _ _,hI.draw⟩,⟨?_,?_,?_,?_,?_,?_,?_,?_,?_,?_,?_,?_,trivial⟩,?_⟩
 all_goals (intro D bx; intros; rename_i L3 PY Rt P5 Rc Qt Qh Rp QI Qy Ln Mg w_ hA_; have hF_:=hA_.1; obtain ⟨⟨cr,cq,ct,cu,cz,cB,bP,cT,dw,fc,cE,cY,_⟩,hI⟩:=hA_)
 ·exact ⟨hF_.set 0 rfl,hI⟩
 ·obtain rfl:=cr ‹_›
  refine aH (i:=0) ah (by simp) ?_
  exact ⟨hF_.set 1 rfl,hI⟩
 ·obtain rfl:=cq ‹_›
  refine aB ba ?_
  exact ⟨hF_.set 2 rfl,hI⟩
 ·obtain rfl:=ct ‹_›
  refine bX aE (by rw [hI.cellS hSb]; exact aO hxe 1 _ rfl) ?_
  exact ⟨hF_.set 3 rfl,hI⟩
 ·exact ⟨hF_.set 4 rfl,hI⟩
 ·obtain rfl:=cz ‹_›
  refine aH (i:=1) ah (by simp) ?_
  exact ⟨hF_.set 5 rfl,hI⟩
 ·obtain rfl:=cB ‹_›
  refine aB au ?_
  exact ⟨hF_.set 6 rfl,hI⟩
 ·obtain rfl:=bP ‹_›
  refine bX aj (by rw [hI.cellS hSb]; exact aO hye 3 _ rfl) ?_
  exact ⟨hF_.set 7 rfl,hI⟩
 ·obtain rfl:=cT ‹_›
  refine aG hyk ah ?_
  exact ⟨hF_.set 8 rfl,hI⟩
 ·obtain rfl:=cu ‹_›
  obtain rfl:=dw ‹_›
  refine Run.callPure dT dX hI (dF _ _ _ S) fun w_ hI=>?_
  rw [hwi]
  exact ⟨hF_.set 9 rfl,hI⟩
 ·obtain rfl:=fc ‹_›
  refine bK ?_
  rw [Bool.not_not]
  exact ⟨hF_.set 10 rfl,hI⟩
 ·obtain rfl:=cE ‹_›
  exact ⟨hF_.set 11 rfl,hI⟩
 obtain ⟨rfl,rfl,rfl,rfl,rfl,rfl,rfl,rfl,rfl,rfl,rfl,rfl,_⟩:=hF_.all
 clear hF_ cr cq ct cu cz cB bP cT dw fc cE cY
 refine aI (fun k3=>fin 1 (by rw [Dp,if_neg k1,if_neg k2,if_pos k3]) hB hI (sub1 _)) (fun k3=>?_)
 obtain ⟨m,hm⟩:∃ m:Nat,x.n=(m:Int)+1:=⟨(x.n - 1).toNat,by omega⟩
 have hml:m<y.kids.length:=by omega
 have hkd:kd y (x.n.toNat - 1)=y.kids[m]:=by
  have e1:x.n.toNat - 1=m:=by omega
  rw [e1,kd,List.getD_eq_getElem?_getD,List.getElem?_eq_getElem hml]
  rfl
 have hja:Dp x y z=.uni z y.kids[m]:=by rw [Dp,if_neg k1,if_neg k2,if_neg k3,hkd]
 rw [hja] at hB hbj
 obtain ⟨r,hu,rfl⟩:=hB
 have hjj:okJ N (.one z y.kids[m]):=hbj
 obtain ⟨c2,o2,cap2,a2,E2,fz2,rfl,hS2,hR2⟩:=hyk.at_ hml
 refine ⟨fun D x4 QK QV Qo Rd Qr Qk Rs Rz Q0 Q4 Rn P1 QO Q1 Qa QJ Qp w_=>Fx D 0 [Qp=.pointer (some ⟨sb,0,none⟩),QJ=.slice (some ⟨b,o,none⟩) [x,y,z].length cap,Qa=.pointer (some ⟨b,o+2 * 4,none⟩),Q1=.agg (aJ c (o+2 * 4) 4).toArray,QO=.slice (some ⟨b,o,none⟩) [x,y,z].length cap,P1=.pointer (some ⟨b,o+1 * 4,none⟩),Rn=.pointer (some ⟨b,o+1 * 4+3,none⟩),Q4=.slice (some ⟨c2,o2,none⟩) y.kids.length cap2,Q0=.slice (some ⟨b,o,none⟩) [x,y,z].length cap,Rz=.pointer (some ⟨b,o+0 * 4,none⟩),Rs=.pointer (some ⟨b,o+0 * 4+1,none⟩),Qk=.int .i64 x.n,Qr=.int .i64 m,Rd=.pointer (some ⟨c2,o2+m * 4,none⟩),Qo=.agg (aJ a2 (o2+m * 4) 4).toArray,QV=.bool r,QK=.int .i64 (fN r),x4=.int .i64 (fN r)]/\(D 15=false->Inv w X ([.blk b3 (.cells #[.int .i64 k,.int .i64 n,.string s,.slice (some ⟨b,o,none⟩) [x,y,z].length cap] ab)]++aq sb mb es ck tv tr) S w_)/\(D 15=true->∃ es1 ck1 tv1 tr1,KnownM S es1 st'/\tr1.length+unb st'<=1000000/\Tr st st' tr tr1/\Inv w X ([.blk b3 (.cells #[.int .i64 k,.int .i64 n,.string s,.slice (some ⟨b,o,none⟩) [x,y,z].length cap] ab)]++aq sb mb es1 ck1 tv1 tr1) S w_)/\∃ es3 ck3 tv3 tr3,Inv w X ([.blk b3 (.cells #[.int .i64 k,.int .i64 n,.string s,.slice (some ⟨b,o,none⟩) [x,y,z].length cap] ab)]++aq sb mb es3 ck3 tv3 tr3) S w_,⟨Fx.nil _ _,⟨fun _=>hI.draw,aK,es,ck,tv,tr,hI.draw⟩⟩,⟨?_,?_,?_,?_,?_,?_,?_,?_,?_,?_,?_,?_,?_,?_,?_,?_,?_,?_,trivial⟩,?_⟩
 all_goals (intro D bx; intros; rename_i x4 QK QV Qo Rd Qr Qk Rs Rz Q0 Q4 Rn P1 QO Q1 Qa QJ Qp w_ hA_; have hF_:=hA_.1; obtain ⟨⟨cr,cq,ct,cu,cz,cB,bP,cT,dw,fc,cE,cY,dS,fQ,gx,ir,jD,l6,_⟩,⟨hI0,hI1,es3,ck3,tv3,tr3,hI⟩⟩:=hA_)
 ·exact ⟨hF_.set 0 rfl,⟨hI0,hI1,es3,ck3,tv3,tr3,hI⟩⟩
 ·exact ⟨hF_.set 1 rfl,⟨hI0,hI1,es3,ck3,tv3,tr3,hI⟩⟩
 ·obtain rfl:=cq ‹_›
  refine aH (i:=2) ah (by simp) ?_
  exact ⟨hF_.set 2 rfl,⟨hI0,hI1,es3,ck3,tv3,tr3,hI⟩⟩
 ·obtain rfl:=ct ‹_›
  refine b0 ac (RdT.length (hR 2 (by simp))) (fun j v hj=>by rw [hI.cellS hSb]; exact aO rfl j v hj) ?_
  exact ⟨hF_.set 3 rfl,⟨hI0,hI1,es3,ck3,tv3,tr3,hI⟩⟩
 ·exact ⟨hF_.set 4 rfl,⟨hI0,hI1,es3,ck3,tv3,tr3,hI⟩⟩
 ·obtain rfl:=cz ‹_›
  refine aH (i:=1) ah (by simp) ?_
  exact ⟨hF_.set 5 rfl,⟨hI0,hI1,es3,ck3,tv3,tr3,hI⟩⟩
 ·obtain rfl:=cB ‹_›
  refine aB au ?_
  exact ⟨hF_.set 6 rfl,⟨hI0,hI1,es3,ck3,tv3,tr3,hI⟩⟩
 ·obtain rfl:=bP ‹_›
  refine bX aj (by rw [hI.cellS hSb]; exact aO hye 3 _ rfl) ?_
  exact ⟨hF_.set 7 rfl,⟨hI0,hI1,es3,ck3,tv3,tr3,hI⟩⟩
 ·exact ⟨hF_.set 8 rfl,⟨hI0,hI1,es3,ck3,tv3,tr3,hI⟩⟩
 ·obtain rfl:=dw ‹_›
  refine aH (i:=0) ah (by simp) ?_
  exact ⟨hF_.set 9 rfl,⟨hI0,hI1,es3,ck3,tv3,tr3,hI⟩⟩
 ·obtain rfl:=fc ‹_›
  refine aB ba ?_
  exact ⟨hF_.set 10 rfl,⟨hI0,hI1,es3,ck3,tv3,tr3,hI⟩⟩
 ·obtain rfl:=cE ‹_›
  refine bX aE (by rw [hI.cellS hSb]; exact aO hxe 1 _ rfl) ?_
  exact ⟨hF_.set 11 rfl,⟨hI0,hI1,es3,ck3,tv3,tr3,hI⟩⟩
 ·obtain rfl:=cY ‹_›
  refine iw (by omega) ?_
  rw [show x.n - 1=(m:Int) by omega]
  exact ⟨hF_.set 12 rfl,⟨hI0,hI1,es3,ck3,tv3,tr3,hI⟩⟩
 ·obtain rfl:=cT ‹_›
  obtain rfl:=dS ‹_›
  refine aH ah hml ?_
  exact ⟨hF_.set 13 rfl,⟨hI0,hI1,es3,ck3,tv3,tr3,hI⟩⟩
 ·obtain rfl:=fQ ‹_›
  refine b0 ac hR2.length (fun j v hj=>by rw [hI.cellS hS2]; exact aO rfl j v hj) ?_
  exact ⟨hF_.set 14 rfl,⟨hI0,hI1,es3,ck3,tv3,tr3,hI⟩⟩
 ·obtain rfl:=cr ‹_›
  obtain rfl:=cu ‹_›
  obtain rfl:=gx ‹_›
  refine Run.callE (A:=[_]) dh dg (hI0 bx) (fA hN hg hjj hu S _ _ sb mb ck es tv tr hz hR2 hkm htr) fun v' I' S' w_=>?_
  rintro ⟨eS,rfl,es1,ck1,tv1,tr1,rfl,hm1,htr1,hT1⟩ _ hI
  rw [eS] at hI
  have hI0:=fun (h:ar D 15 15=false)=>(Bool.noConfusion h:Inv w X ([.blk b3 (.cells #[.int .i64 k,.int .i64 n,.string s,.slice (some ⟨b,o,none⟩) [x,y,z].length cap] ab)]++aq sb mb es ck tv tr) S w_)
  have hI1:=fun (_:ar D 15 15=true)=>(⟨es1,ck1,tv1,tr1,hm1,htr1,hT1,hI⟩:∃ es1 ck1 tv1 tr1,KnownM S es1 st'/\tr1.length+unb st'<=1000000/\Tr st st' tr tr1/\Inv w X ([.blk b3 (.cells #[.int .i64 k,.int .i64 n,.string s,.slice (some ⟨b,o,none⟩) [x,y,z].length cap] ab)]++aq sb mb es1 ck1 tv1 tr1) S w_)
  obtain ⟨es3,ck3,tv3,tr3,hI⟩:∃ es3 ck3 tv3 tr3,Inv w X ([.blk b3 (.cells #[.int .i64 k,.int .i64 n,.string s,.slice (some ⟨b,o,none⟩) [x,y,z].length cap] ab)]++aq sb mb es3 ck3 tv3 tr3) S w_:=⟨es1,ck1,tv1,tr1,hI⟩
  exact ⟨hF_.set 15 rfl,⟨hI0,hI1,es3,ck3,tv3,tr3,hI⟩⟩
 ·obtain rfl:=ir ‹_›
  obtain ⟨es1,ck1,tv1,tr1,hm1,htr1,hT1,hI⟩:=hI1 ‹D 15=true›
  refine Run.callPure fn_i_holds nm_i_holds hI (cI r S) fun w_ hI=>?_
  have hI0:=fun (h:ar D 16 15=false)=>(Bool.noConfusion (h.symm.trans (show ar D 16 15=true from ‹D 15=true›)):Inv w X ([.blk b3 (.cells #[.int .i64 k,.int .i64 n,.string s,.slice (some ⟨b,o,none⟩) [x,y,z].length cap] ab)]++aq sb mb es ck tv tr) S w_)
  have hI1:=fun (_:ar D 16 15=true)=>(⟨es1,ck1,tv1,tr1,hm1,htr1,hT1,hI⟩:∃ es1 ck1 tv1 tr1,KnownM S es1 st'/\tr1.length+unb st'<=1000000/\Tr st st' tr tr1/\Inv w X ([.blk b3 (.cells #[.int .i64 k,.int .i64 n,.string s,.slice (some ⟨b,o,none⟩) [x,y,z].length cap] ab)]++aq sb mb es1 ck1 tv1 tr1) S w_)
  obtain ⟨es3,ck3,tv3,tr3,hI⟩:∃ es3 ck3 tv3 tr3,Inv w X ([.blk b3 (.cells #[.int .i64 k,.int .i64 n,.string s,.slice (some ⟨b,o,none⟩) [x,y,z].length cap] ab)]++aq sb mb es3 ck3 tv3 tr3) S w_:=⟨es1,ck1,tv1,tr1,hI⟩
  exact ⟨hF_.set 16 rfl,⟨hI0,hI1,es3,ck3,tv3,tr3,hI⟩⟩
 ·obtain rfl:=jD ‹_›
  exact ⟨hF_.set 17 rfl,⟨hI0,hI1,es3,ck3,tv3,tr3,hI⟩⟩
 obtain ⟨rfl,rfl,rfl,rfl,rfl,rfl,rfl,rfl,rfl,rfl,rfl,rfl,rfl,rfl,rfl,rfl,rfl,rfl,_⟩:=hF_.all
 have RN:D 15=true:=by assumption
 clear hF_ cr cq ct cu cz cB bP cT dw fc cE cY dS fQ gx ir jD l6
 obtain ⟨es1,ck1,tv1,tr1,hm1,htr1,hT1,hI⟩:=hI1 RN
 exact ⟨_,_,S,rfl,hI.sub (List.sublist_append_right [_] _),Ext.refl _ _ _,rfl,rfl,es1,ck1,tv1,tr1,rfl,hm1,htr1,hT1⟩
end
end
end Go.Proofs.YtgllldjiaglkcaaGreatDoor
