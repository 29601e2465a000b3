/- impl's search in memory: the values of the query's variables. -/
import Derived.Test.YtcpgagfdeflbkaaGreatDoorZMv25
import Derived.Test.YtcpgagfdeflbkaaGreatDoorZMv6
import Derived.Test.YtcpgagfdeflbkaaGreatDoorZMv5
import Derived.Test.YtcpgagfdeflbkaaGreatDoorZMv21
namespace Go.Proofs.YtcpgagfdeflbkaaGreatDoor
section
open Go Go.RowKit
theorem CH {st:ah}:∀ {ts us:List T},Res st (.list ts us)->us.length=ts.length
 | _,_,.nil=>rfl
 | _,_,.cons _ h=>by rw [List.length_cons,List.length_cons,CH h]
theorem wY {N:Nat}:∀ {us:List T},(∀ u∈us,bB u=true/\okU N u)->wL us<=840 * us.length
 | [],_=>by simp [wL]
 | u::us,h=>by
  have h1:=fE (h u (List.mem_cons_self ..)).1 (h u (List.mem_cons_self ..)).2
  have h2:=wY fun x hx=>h x (List.mem_cons_of_mem _ hx)
  rw [wL,List.length_cons]
  omega
theorem xe {N:Nat} {n:Int} (h:0<=n/\n<N):okU N (LY n):=by
 show okU N (.mk 1 n emptyB [])
 rw [okU,cD]
 exact ⟨by decide,fun _=>⟨h.1,by omega,rfl,rfl⟩,trivial,vK⟩
theorem MG (S:ad) {n:Int} (h:0<=n/\n<1000000000):RdT S [.int .i64 1,.int .i64 n,.string ⟨#[]⟩,.slice none 0 0] (LY n):=
 RdT.nil (by simp [inI]) (by simp only [inI]; omega) (show 0<=maxLen from Nat.zero_le _) (by simp [maxLen])
section
variable {P:Program} {w:World} {K:Value->World->Prop}
attribute [local irreducible] Run
theorem Ky {T e:TypeId} {cx cy:Bool} {p:Option Addr} (hT:P.underlying T=some (.pointer e)) (hk:K (.bool p.isSome) w):Run P (bN .neq T cx cy (.pointer p) (.pointer none)) w K:=by
 refine Run.of (v:=.bool p.isSome) (w':=w) ?_ hk
 have he:(Op.equal T (.pointer p) (.pointer none)).run P w=.ok p.isNone w:=by
  rw [Op.equal,Op.maxDepth,Op.equalIn.eq_def]
  cases p <;> simp [run_underlying hT]
 have hg:∀ x y,(eqGuard .neq T x y (.pointer p) (.pointer none)).run P w=.ok () w:=fun x y=>by unfold eqGuard; simp
 simp only [bN,binOp,Sem.run_bind,hg,Result.andThen_ok,he,Sem.run_pure]
 cases p <;> rfl
end
section
attribute [local irreducible] Run CondV ao aI
set_option maxHeartbeats 1000000 in
theorem Dm {st:ah} (hg:Good st.length st) (hsl:st.length<=1000000) {vars:List Int} (hv:∀ n∈vars,0<=n/\n<st.length) (hvl:vars.length<=1000) {o:Option (List T)} (h:ValsI st vars o) {S:ad} {v:Value} (hvr:RdSl S 1 jW v vars)
  {sb mb ck:Nat} {es:Array MapEntry} {tv:Value} {tr:List Int} (hkm:KnownM S es st) :
  Tri Tryz.prog tT [.pointer (some ⟨sb,0,none⟩),v] (aq sb mb es ck tv tr) S fun q I' S'=>I'=aq sb mb es ck tv tr/\match o with
   | none=>q=.tuple #[.slice none 0 0,.bool false]
   | some vs=>∃ u,q=.tuple #[u,.bool true]/\RdSl S' 4 (RdT S') u vs:=by
 intro w hI
 obtain ⟨X,hX⟩:∃ X,X=bp (aq sb mb es ck tv tr):=⟨_,rfl⟩
 rw [<- hX] at hI ⊢
 obtain ⟨us,hus,ho⟩:=h
 have hul:=CH hus
 rw [List.length_map] at hul
 have hok:∀ (k:Nat) (hk:k<us.length),okU st.length us[k]:=fun k hk=>by
  refine i9 hg (C5 hus k (by rw [List.length_map]; omega) hk) ?_
  rw [List.getElem_map]
  exact xe (hv _ (List.getElem_mem _))
 refine jy.2 ?_
 dsimp only[jy,aR]
 refine aD hvr dd ?_
 have hI:Inv w X ([aB (.slice none 0 0) ab 4 []]++aq sb mb es ck tv tr) S w:=(hI.rowNil ab 4).perm (List.perm_append_comm (l₁:=[_]))
 refine ⟨fun i t w'=>∃ (k:Nat) (css:List (List Value)) (S1:ad),k<=vars.length/\i=.int .i64 (k:Int)/\Ext w.heap.size X S S1/\Rows 4 (RdT S1) css (us.take k)/\(us.take k).all bB=true/\Inv w X ([aB t ab 4 css]++aq sb mb es ck tv tr) S1 w',
  fun i _ _=>vars.length - (intOf i).toNat,⟨0,[],S,Nat.zero_le _,rfl,Ext.refl _ _ _,Rows.nil _ _,rfl,hI⟩,?_⟩
 clear hI
 intro ii _ tt _ _ _ _ _ _ _ _ _ _ _ _ _ _ _ _ _ _ _ _ _ w'
 rintro ⟨k,css,S1,hk,rfl,hE,hR,hall,hI⟩
 have hcl:=hR.hc
 rw [List.length_take] at hcl
 refine bC ?_
 refine aH (fun hki=>?_) (fun hki=>?_)
 ·have hk':k<vars.length:=by omega
  have hku:k<us.length:=by omega
  have hvk:=hv _ (List.getElem_mem hk')
  refine gn hI (hvr.mono hE.1 fun _ _ h=>h) dd aF hk' (fun cs hcs=>hcs) ?_
  refine Run.callPure jU jH hI (iE _ S1) fun w' hI=>?_
  have hrk:=C5 hus k (by rw [List.length_map]; omega) hku
  rw [List.getElem_map] at hrk
  refine Run.callE (A:=[_]) iA ir hI (oj (cs:=[.int .i64 1,.int .i64 vars[k],.string ⟨#[]⟩,.slice none 0 0]) hg hrk ⟨xe hvk,by show (0+0+0:Nat)<=1048576; omega⟩ (MG S1 ⟨hvk.1,by omega⟩) (hkm.upS hE.1)) fun v' I' S2 w'=>?_
  rintro ⟨rfl,cs',hl4,ho4,rfl,hR4⟩ hE2 hI
  refine ai rfl ?_
  refine ai rfl ?_
  refine aL hI aW fun b9 w' hI=>?_
  refine au hI 4 rfl ac (by simpa using hl4) rfl (by simpa using ho4) fun w' hI=>?_
  refine bU ?_
  cases hsm:bB us[k] with
  | false=>
   refine av (fun _=>?_) (fun h=>by cases h)
   have hna:us.all bB=false:=List.all_eq_false.2 ⟨us[k],List.getElem_mem hku,by rw [hsm]; decide⟩
   rw [hna] at ho
   rw [if_neg (by simp)] at ho
   subst ho
   have hI:Inv w X (([aB tt ab 4 css]++aq sb mb es ck tv tr)++[.blk b9 (.cells cs'.toArray ab)]) S2 w':=hI
   exact ⟨_,_,S2,rfl,(hI.sub (List.sublist_append_left _ _)).sub (List.sublist_append_right _ _),hE.trans hE2,rfl,rfl⟩
  | true=>
   refine av (fun h=>by cases h) (fun _=>?_)
   refine aw hI 4 ac rfl (by simpa using hl4) ?_
   have hI:Inv w X (([aB tt ab 4 css]++aq sb mb es ck tv tr)++[.blk b9 (.cells cs'.toArray ab)]) S2 w':=hI
   have hI:=hI.sub (List.sublist_append_left _ _)
   refine bP hI 0 cs' bo (by omega) (by omega) rfl hl4 ho4 (by omega) (by omega) fun v' w' hI=>?_
   refine bi (by omega) ?_
   refine ⟨⟨k+1,css++[cs'],S2,hk',rfl,hE.trans hE2,?_,?_,hI⟩,by simp only [intOf,Int.toNat_natCast]; omega⟩
   ·rw [List.take_succ_eq_append_getElem hku]
    exact (hR.monoR fun _ _=>RdT.mono hE2.1).snoc (hR4 hsm) hl4
   ·rw [List.take_succ_eq_append_getElem hku,List.all_append,hall]
    simp [hsm]
 ·have hke:k=us.length:=by omega
  rw [hke,List.take_length] at hR hall
  have hws:=wY (us:=us) fun u hu=>by
   obtain ⟨i,hi,rfl⟩:=List.getElem_of_mem hu
   exact ⟨List.all_eq_true.1 hall _ hu,hok i hi⟩
  have hcw:=C3 us
  have hI:Inv w X (aq sb mb es ck tv tr++[aB tt ab 4 css]) S1 _:=hI.perm List.perm_append_comm
  obtain ⟨S2,hE2,hrd,hI2⟩:=hI.lendExt
  have hts:=RowRd.rows (hR.monoR fun _ _=>RdT.mono hE2.1) hrd
  refine Run.call0 oB mX hI2 (lT hts (by omega)) fun v1 I' S3 w'=>?_
  rintro ⟨rfl,rfl⟩ _ hI3
  refine gt hI3 3 rfl dd ?_
  refine dK ?_
  have hI4:=hI3.sub (List.sublist_append_left _ _)
  rw [hall] at ho
  refine aH (fun hgt=>?_) (fun hgt=>?_)
  ·rw [if_neg (by omega)] at ho
   subst ho
   exact ⟨_,_,_,rfl,hI4,hE.trans hE2,rfl,rfl⟩
  ·rw [if_pos ⟨rfl,by omega⟩] at ho
   subst ho
   refine Run.call0E vY wk hI4 (ub hts (by omega)) fun v' I' S5 w'=>?_
   rintro ⟨rfl,M,rfl,hT⟩ hE5 hI5
   obtain ⟨S9,hI9,hE9,hins⟩:=Inv.pubExt hI5
   exact ⟨_,_,S9,rfl,hI9,(hE.trans hE2).trans (hE5.trans hE9),rfl,_,rfl,hT.rd hins fun _ _ _ hi h=>h.rd hi⟩
end
end
section
open Go Go.RowKit
theorem RunI.invG {p:List C} {vars:List Int} {most n:Nat} {s:SI} {out:List (List T)} {r:List (List T) × Int} (h:RunI p vars most n s out r) (hg:s.goals≠[]) :
  (n=0/\r=(out,2)) ∨ ∃ m o e,n=m+1/\StepI p false s o e/\((o=none/\r=(out,e)) ∨ ∃ s',o=some s'/\RunI p vars most m s' out r):=by
 cases h with
 | fuel _=>exact .inl ⟨rfl,rfl⟩
 | stop _ h=>exact .inr ⟨_,_,_,rfl,h,.inl ⟨rfl,rfl⟩⟩
 | step _ h h'=>exact .inr ⟨_,_,_,rfl,h,.inr ⟨_,rfl,h'⟩⟩
 | more h=>exact absurd h hg
 | large h=>exact absurd h hg
 | last h=>exact absurd h hg
 | next h=>exact absurd h hg
theorem RunI.invN {p:List C} {vars:List Int} {most n:Nat} {s:SI} {out:List (List T)} {r:List (List T) × Int} (h:RunI p vars most n s out r) (hg:s.goals=[]) :
  (out.length=most/\r=(out,1)) ∨ (out.length≠most/\∃ v,ValsI s.st vars v/\((v=none/\r=(out,3)) ∨ ∃ vs o,v=some vs/\BackI p s.chs s.st.length s.nodes o/\((o=none/\r=(out++[vs],0)) ∨ ∃ s',o=some s'/\RunI p vars most n s' (out++[vs]) r))):=by
 cases h with
 | fuel h=>exact absurd hg h
 | stop h=>exact absurd hg h
 | step h=>exact absurd hg h
 | more _ h=>exact .inl ⟨h,rfl⟩
 | large _ h h'=>exact .inr ⟨h,_,h',.inl ⟨rfl,rfl⟩⟩
 | last _ h h' h''=>exact .inr ⟨h,_,h',.inr ⟨_,_,rfl,h'',.inl ⟨rfl,rfl⟩⟩⟩
 | next _ h h' h'' h3=>exact .inr ⟨h,_,h',.inr ⟨_,_,rfl,h'',.inr ⟨_,rfl,h3⟩⟩⟩
theorem LG (c:Int):IA c≠-1:=by
 unfold IA
 split
 ·decide
 ·split
  ·decide
  ·split <;> decide
theorem StepI.ne {p:List C} {nc:Bool} {s:SI} {e:Int} (h:StepI p nc s none e):e≠-1:=by
 obtain ⟨g,gs,t,_,_,h⟩:=h.inv
 rcases h with ⟨_,_,rfl⟩|⟨_,h⟩
 ·decide
 rcases h with ⟨_,h⟩|⟨_,h⟩
 ·rcases h with ⟨_,_,rfl⟩|⟨_,h,_⟩
  ·decide
  ·cases h
 rcases h with ⟨_,st,c,_,h⟩|⟨_,h⟩
 ·rcases h with ⟨_,h,_⟩|⟨_,_,rfl⟩|⟨_,_,_,rfl⟩
  ·cases h
  ·decide
  ·exact LG c
 rcases h with ⟨_,_,rfl⟩|⟨_,o1,m,_,h⟩
 ·decide
 rcases h with ⟨r,_,h,_⟩|⟨_,_,rfl⟩
 ·cases h
 ·decide
def RdAns (S:ad) (cs:List Value) (ts:List T):Prop:=∃ v,cs=[v]/\RdSl S 4 (RdT S) v ts
theorem RdAns.mono {S S':ad} (hs:Sle S S') {cs:List Value} {ts:List T} (h:RdAns S cs ts):RdAns S' cs ts:=by
 obtain ⟨v,rfl,h⟩:=h
 exact ⟨v,rfl,h.monoT hs⟩
def lenV:Value->Nat
 | .slice _ n _=>n
 | _=>0
def fuN (sp:Nat) (w:World):Nat:=match w.heap[sp]? with
 | some (.cells c _ _)=>(match (c[5]?:Option Value),(c[6]?:Option Value) with|some (.int _ a),some (.int _ b)=>(a - b).toNat|_,_=>0)
 | _=>0
def JJ (sp most:Nat) (t9 t10:Value) (w:World):Nat:=match t10 with
 | .int _ x=>if x=-1 then 1+fuN sp w+(most - lenV t9) else 0
 | _=>0
theorem Inv.fuN {w0 w:World} {X:List Nat} {L:List Item} {S:ad} (h:Inv w0 X L S w) (i:Nat) {sp sb:Nat} {pv qv:Value} {nc:Bool} {fuel used fr:Int} {gv cv nv:Value} {mo:Int}
  (hi:L[i]?=some (dL sp (cJ sb pv qv nc fuel used fr gv cv nv mo))):fuN sp w=(fuel - used).toNat:=by
 have h1:w.heap[sp]?=some (.cells (cJ sb pv qv nc fuel used fr gv cv nv mo) kP):=h.its _ (List.mem_of_getElem? hi)
 unfold Go.Proofs.YtcpgagfdeflbkaaGreatDoor.fuN
 rw [h1]
 rfl
theorem Inv.lenV {w0 w:World} {X:List Nat} {L:List Item} {S:ad} (h:Inv w0 X L S w) (i:Nat) {v:Value} {e:TypeId} {k n:Nat} {xs:List Value} (hi:L[i]?=some (.row v e k n xs)):lenV v=n:=by
 obtain ⟨a,cap,rfl,_⟩:=h.rowSlice' hi
 rfl
section
variable {w:World} {K:Value->World->Prop}
attribute [local irreducible] Run
theorem Ge {p:Option Addr} {n m:Nat} (hk:K (.agg #[.slice p n m]) w):Run Tryz.prog (bJ cV [(0,.slice p n m)]) w K:=by
 refine Run.of (v:=.agg #[.slice p n m]) (w':=w) ?_ hk
 unfold bJ
 rw [Sem.run_bind,run_build w cV _ #[.slice p n m] (by kernel_rfl),Result.andThen_ok]
 rfl
end
theorem BN (S:ad):Pure Tryz.prog uJ [] S (.tuple #[]):=by
 intro w hI
 refine sO.2 ?_
 dsimp only[sO,l8]
 exact done hI rfl
structure NE (p:List C) (n:Nat) (s:SI):Prop where
 ok:tY p.length s
 h26:26<=s.st.length
 hn:s.st.length+26 * eL s.chs+26 * p.length * (n+1)<=900000
 hc:s.chs.length+n<=100000
 hl:s.nodes.length+n<=100000
section
attribute [local irreducible] Run CondV ao aI
set_option maxHeartbeats 4000000 in
theorem JB {p:List C} (hp:∀ cl∈p,mI cl) (hpb:∀ cl∈p,cl.body.length<=1048576) (hpl:p.length<=20000) {q:List T} {most n:Nat} (hmo:most<=1000) {s:SI} {r:List (List T) × Int} (hr:RunI p (dp q []) most n s [] r)
  (hs:NE p n s) (hv:∀ n∈dp q [],0<=n/\n<26) (hvl:(dp q []).length<=1000) (hcq:co q<=1000000000) {fuel used:Int} (hu:0<=used) (hfu:used+n=fuel) (hf:fuel<=100000)
  {S:ad} {gv pv qv cv nv tv:Value} {ms:List Nat} {tr:List Int} {es:Array MapEntry} {ccs ncs:List (List Value)} {sp sb mb ck:Nat} {mo:Int}
  (h4:RdSl S 5 (RdC S) pv p) (hq:RdSl S 4 (RdT S) qv q) (hG:GL S gv s.goals) (hK:SeaK S s.chs s.nodes s.st ms tr es ccs ncs) :
  Tri Tryz.prog xo [.pointer (some ⟨sp,0,none⟩),.int .i64 (most:Int),.func (.func uJ) #[] #[]] (m7 sp sb mb pv qv false fuel used s.st.length gv cv ccs nv ncs mo es ck tv tr) S
   fun x I' S'=>∃ v css,x=.tuple #[v,.int .i64 r.2]/\I'=[aB v cV 1 css]/\Rows 1 (RdAns S') css r.1:=by
 intro w hI
 obtain ⟨X,hX⟩:∃ X,X=bp (m7 sp sb mb pv qv false fuel used s.st.length gv cv ccs nv ncs mo es ck tv tr):=⟨_,rfl⟩
 rw [<- hX] at hI ⊢
 refine l6.2 ?_
 dsimp only[l6,ft]
 refine al ?_
 refine ae hI 0 rfl BQ aj rfl ?_
 refine Run.call0 oB mX hI (lT hq hcq) fun v1 I' S3 w'=>?_
 rintro ⟨rfl,rfl⟩ _ hI3
 obtain ⟨S0,hE0,hvr,hI0⟩:=Inv.lendI hI3
 generalize hvars:dp q []=vars at hr hv hvl hvr
 have hI0:Inv w X ([aB (.slice none 0 0) cV 1 []]++m7 sp sb mb pv qv false fuel used s.st.length gv cv ccs nv ncs mo es ck tv tr) S0 w':=(hI0.rowNil cV 1).perm (List.perm_append_comm (l₁:=[_]))
 refine ⟨fun t9 t10 w'=>∃ (out:List (List T)) (css:List (List Value)) (S1:ad),Ext w.heap.size X S0 S1/\Rows 1 (RdAns S1) css out/\
   ((∃ (n:Nat) (s:SI) (used:Int) (gv cv nv tv:Value) (ms:List Nat) (tr:List Int) (es:Array MapEntry) (ccs ncs:List (List Value)) (ck:Nat) (mo:Int),t10=.int .i64 (-1)/\RunI p vars most n s out r/\NE p n s/\0<=used/\used+n=fuel/\out.length<=most/\
    GL S1 gv s.goals/\SeaK S1 s.chs s.nodes s.st ms tr es ccs ncs/\Inv w X ([aB t9 cV 1 css]++m7 sp sb mb pv qv false fuel used s.st.length gv cv ccs nv ncs mo es ck tv tr) S1 w') ∨
       (∃ e L',e≠-1/\t10=.int .i64 e/\r=(out,e)/\Inv w X ([aB t9 cV 1 css]++L') S1 w')),
  JJ sp most,⟨[],[],S0,Ext.refl _ _ _,Rows.nil _ _,.inl ⟨n,s,used,gv,cv,nv,tv,ms,tr,es,ccs,ncs,ck,mo,rfl,hr,hs,hu,hfu,Nat.zero_le _,hG.mono hE0.1,hK.mono hE0.1,hI0⟩⟩,?_⟩
 clear hI hI3 hI0 hr hs hu hfu hG hK hX
 clear hI0
 clear n s used gv cv nv tv ms tr es ccs ncs ck mo
 have h40:=h4.monoC hE0.1
 intro _ _ t9 _ _ _ _ _ _ _ _ _ _ _ _ _ _ _ _ _ _ _ _ _ _ _ _ _ _ t10 _ _ _ _ _ _ _ _ _ _ _ w'
 rintro ⟨out,css,S1,hE1,hR,hcase⟩
 have hcl:=hR.hc
 rcases hcase with ⟨n,s,used,gv,cv,nv,tv,ms,tr,es,ccs,ncs,ck,mo,rfl,hr,hs,hu,hfu,hol,hG,hK,hI⟩|⟨e,L',he,rfl,hre,hI⟩
 ·refine ba ?_
  refine aH (fun _=>?_) (fun h=>absurd rfl h)
  have hfn:=hI.fuN 1 rfl
  have hln:=hI.lenV 0 rfl
  refine Run.callPure Dh CC hI (BN S1) fun w2 hI=>?_
  refine al ?_
  refine ae hI 1 rfl eN cE rfl ?_
  obtain ⟨gp,rfl⟩:=hG.ptr
  refine Ky (e:=ju) (by kernel_rfl) ?_
  have hs1:=hs.hn
  have hs2:=hs.hc
  have hs3:=hs.hl
  have hmul:26 * p.length * (n+1)=26 * p.length * n+26 * p.length:=Nat.mul_succ _ _
  by_cases hg:s.goals=[]
  ·rw [hg] at hG
   cases hG
   refine av (fun h=>by cases h) (fun _=>?_)
   refine gt hI 0 rfl dv ?_
   refine ba ?_
   rcases hr.invN hg with ⟨hm,hre⟩|⟨hm,v,hval,hnext⟩
   ·refine aH (fun _=>?_) (fun h=>absurd (by omega) h)
    exact ⟨_,_,S1,rfl,hI.sub (List.sublist_append_left _ _),hE0.trans hE1,_,css,by rw [hre],rfl,by rw [hre]; exact hR⟩
   ·refine aH (fun h=>absurd (by omega) hm) (fun _=>?_)
    refine al ?_
    refine ae hI 1 rfl dZ dz rfl ?_
    have h26:=hs.h26
    refine Run.callE (A:=[_,_,_,_]) rh rz hI (Dm hs.ok.good (by omega) (fun n hn=>⟨(hv n hn).1,by have:=(hv n hn).2; omega⟩) hvl hval (hvr.mono hE1.1 fun _ _ h=>h) hK.km) fun v' I' S2 w3=>?_
    rintro ⟨rfl,hm2⟩ hE2 hI2
    rcases hnext with ⟨rfl,hre⟩|⟨vs,o,rfl,hb,hnext⟩
    ·simp only at hm2
     subst hm2
     refine ai rfl ?_
     refine ai rfl ?_
     refine bU ?_
     refine av (fun _=>?_) (fun h=>by cases h)
     exact ⟨_,_,S2,rfl,hI2.sub (List.sublist_append_left [_] _),(hE0.trans hE1).trans hE2,_,css,by rw [hre],rfl,by rw [hre]; exact hR.monoR fun _ _=>RdAns.mono hE2.1⟩
    ·obtain ⟨u,rfl,hus⟩:=hm2
     obtain ⟨ua,ucap,rfl,-⟩:=id hus
     refine ai rfl ?_
     refine ai rfl ?_
     refine bU ?_
     refine av (fun h=>by cases h) (fun _=>?_)
     refine Ge ?_
     refine bP hI2 0 [.slice ua vs.length ucap] Eb (by omega) (by omega) rfl rfl (by simp [Value.oneCell']) (by omega) (by omega) fun t9' w4 hI4=>?_
     refine Run.callE (A:=[_]) gg fY hI4 (p9 hp hpb hb hs.ok.chs (by omega) (by omega) rfl ((h40.monoC hE1.1).monoC hE2.1) (hK.mono hE2.1)) fun v' I' S5 w5=>?_
     rintro ⟨rfl,hQ⟩ hE5 hI5
     have hE25:=hE2.trans hE5
     obtain ⟨es4,ck4,tv4,tr4,ms4,gv4,cv4,ccs4,nv4,ncs4,mo4,fr4,rfl,hsome⟩:=hQ
     have hR5:Rows 1 (RdAns S5) (css++[[.slice ua vs.length ucap]]) (out++[vs]):=(hR.monoR fun _ _=>RdAns.mono hE25.1).snoc ⟨_,rfl,hus.monoT hE5.1⟩ rfl
     rcases hnext with ⟨rfl,hre⟩|⟨s',rfl,hr'⟩
     ·refine ⟨⟨out++[vs],_,S5,hE1.trans hE25,hR5,.inr ⟨0,_,by decide,rfl,hre,hI5⟩⟩,?_⟩
      unfold JJ
      simp only [Option.isSome_none,Bool.false_eq_true,if_false,if_true]
      rw [if_neg (by decide)]
      omega
     ·obtain ⟨j1,j2,j3,j4⟩:=hb.ok hp hs.ok.chs s' rfl
      have j5:=hb.chs s' rfl
      obtain ⟨rfl,hG4,hK4⟩:=hsome s' rfl
      refine ⟨⟨out++[vs],_,S5,hE1.trans hE25,hR5,.inl ⟨n,s',used,gv4,cv4,nv4,tv4,ms4,tr4,es4,ccs4,ncs4,ck4,mo4,rfl,hr',⟨j1,by omega,by omega,by omega,by omega⟩,hu,hfu,by rw [List.length_append,List.length_cons,List.length_nil]; omega,hG4,hK4,hI5⟩⟩,?_⟩
      unfold JJ
      have hf2:=hI5.fuN 1 rfl
      have hl2:=hI5.lenV 0 rfl
      simp only [Option.isSome_some,if_true]
      rw [hf2,hfn,hln,hl2,List.length_append,List.length_cons,List.length_nil]
      omega
  ·have hgs:gp.isSome=true:=by
    cases gp with
    | none=>
     generalize hgl:s.goals=gl at hG hg
     cases hG with
     | nil=>exact absurd rfl hg
    | some=>rfl
   rw [hgs]
   refine av (fun _=>?_) (fun h=>by cases h)
   obtain ⟨o,e,hst,hnext⟩:∃ o e,((used=fuel/\o=none/\e=2) ∨ (used≠fuel/\StepI p false s o e))/\((o=none/\e≠-1/\r=(out,e)) ∨ ∃ s' m,n=m+1/\o=some s'/\StepI p false s (some s') e/\RunI p vars most m s' out r):=by
    rcases hr.invG hg with ⟨rfl,h2⟩|⟨m,o,e,rfl,h2,h3⟩
    ·exact ⟨none,2,.inl ⟨by omega,rfl,rfl⟩,.inl ⟨rfl,by decide,h2⟩⟩
    ·refine ⟨o,e,.inr ⟨by omega,h2⟩,?_⟩
     rcases h3 with ⟨rfl,h3⟩|⟨s',rfl,h3⟩
     ·exact .inl ⟨rfl,h2.ne,h3⟩
     ·exact .inr ⟨s',m,rfl,rfl,h2,h3⟩
   refine Run.callE (A:=[_]) tZ ud hI (Hs hp hpb hpl ⟨hu,by omega⟩ hst hs.ok (by omega) (by omega) (by omega) (h40.monoC hE1.1) hG hK) fun v' I' S4 w4=>?_
   rintro ⟨rfl,used',hQ,hus⟩ hE4 hI4
   obtain ⟨es4,ck4,tv4,tr4,ms4,gv4,cv4,ccs4,nv4,ncs4,mo4,fr4,rfl,hsome⟩:=hQ
   rcases hnext with ⟨rfl,hne,hre⟩|⟨s',m,rfl,rfl,hst',hr'⟩
   ·refine ⟨⟨out,css,S4,hE1.trans hE4,hR.monoR fun _ _=>RdAns.mono hE4.1,.inr ⟨e,_,hne,rfl,hre,hI4⟩⟩,?_⟩
    unfold JJ
    simp only [if_neg hne,if_true]
    omega
   ·obtain ⟨j1,j2,j3,rfl,j5⟩:=hst'.ok hp hs.ok s' rfl
    have j6:=hst'.chs
    obtain ⟨rfl,hG4,hK4⟩:=hsome s' rfl
    obtain rfl:=hus rfl
    have hmul':26 * p.length * (m+1)=26 * p.length * m+26 * p.length:=Nat.mul_succ _ _
    have h26:=hs.h26
    refine ⟨⟨out,css,S4,hE1.trans hE4,hR.monoR fun _ _=>RdAns.mono hE4.1,.inl ⟨m,s',used+1,gv4,cv4,nv4,tv4,ms4,tr4,es4,ccs4,ncs4,ck4,mo4,rfl,hr',⟨j1,by omega,by omega,by omega,by omega⟩,by omega,by omega,hol,hG4,hK4,hI4⟩⟩,?_⟩
    unfold JJ
    have hf2:=hI4.fuN 1 rfl
    simp only [if_true]
    rw [hf2,hfn,hln]
    omega
 ·refine ba ?_
  refine aH (fun h=>absurd h he) (fun _=>?_)
  exact ⟨_,_,S1,rfl,hI.sub (List.sublist_append_left _ _),hE0.trans hE1,_,css,by rw [hre],rfl,by rw [hre]; exact hR⟩
end
end
section
open Go Go.RowKit
mutual
theorem Jb:∀ (t:T) (l:List Int),okV t->(∀ m∈l,0<=m/\m<26)->∀ m∈sK t l,0<=m/\m<26
 | .mk k n s ks,l,ho,hl=>by
  rw [okV] at ho
  rw [sK]
  refine tX ks _ ho.2 fun m hm=>?_
  split at hm
  ·rename_i hk
   unfold pX at hm
   split at hm
   ·exact hl m hm
   ·rcases List.mem_append.1 hm with hm|hm
    ·exact hl m hm
    ·have:=ho.1 hk
     rw [List.mem_singleton.1 hm]
     omega
  ·exact hl m hm
theorem tX:∀ (ts:List T) (l:List Int),y9 ts->(∀ m∈l,0<=m/\m<26)->∀ m∈dp ts l,0<=m/\m<26
 | [],l,_,hl=>hl
 | t::ts,l,ho,hl=>by
  rw [y9] at ho
  rw [dp]
  exact tX ts _ ho.2 (Jb t l ho.1 hl)
end
end
section
open Go Go.RowKit
mutual
theorem MF (vs:List Int):∀ t:T,wT (pS vs t)<=wT t
 | .mk k n s ks=>by
  rw [pS]
  split
  ·show (0+0+0:Nat)<=_
   omega
  ·have:=CQ vs ks
   rw [wT,wT,kY vs ks]
   omega
theorem CQ (vs:List Int):∀ ts:List T,wL (gD vs ts)<=wL ts
 | []=>by rw [gD]; exact Nat.le_refl _
 | t::ts=>by
  have h1:=MF vs t
  have h2:=CQ vs ts
  rw [gD,wL,wL]
  omega
end
def HS (vs:List T):Prop:=vs.length+wL vs<=1048576
theorem ValsI.small {N:Nat} {st:ah} (hg:Good N st) {vars:List Int} (hv:∀ n∈vars,0<=n/\n<N) (hl:vars.length<=1000) {vs:List T} (h:ValsI st vars (some vs)):HS vs:=by
 obtain ⟨us,hus,ho⟩:=h
 have hul:=CH hus
 rw [List.length_map] at hul
 split at ho
 ·rename_i hc
  cases ho
  have hw:=wY (N:=N) (us:=us) fun u hu=>by
   obtain ⟨i,hi,rfl⟩:=List.getElem_of_mem hu
   refine ⟨List.all_eq_true.1 hc.1 _ hu,i9 hg (C5 hus i (by rw [List.length_map]; omega) hi) ?_⟩
   rw [List.getElem_map]
   exact xe (hv _ (List.getElem_mem _))
  have:=CQ (dp us []) us
  unfold HS
  rw [kY]
  omega
 ·cases ho
theorem RunI.small {p:List C} (hp:∀ cl∈p,mI cl) {vars:List Int} (hv:∀ n∈vars,0<=n/\n<26) (hl:vars.length<=1000) {most n:Nat} {s:SI} {out:List (List T)} {r:List (List T) × Int} (h:RunI p vars most n s out r) :
  tY p.length s->26<=s.st.length->(∀ vs∈out,HS vs)->∀ vs∈r.1,HS vs:=by
 induction h with
 | fuel=>exact fun _ _ h=>h
 | stop=>exact fun _ _ h=>h
 | more=>exact fun _ _ h=>h
 | large=>exact fun _ _ h=>h
 | step _ hst _ ih=>
  intro hs h26 ho
  obtain ⟨j1,_,_,_,j5⟩:=hst.ok hp hs _ rfl
  exact ih j1 (by omega) ho
 | last _ _ hval _=>
  intro hs h26 ho vs hvs
  rcases List.mem_append.1 hvs with h|h
  ·exact ho vs h
  ·rw [List.mem_singleton.1 h]
   exact hval.small hs.good (fun n hn=>⟨(hv n hn).1,by have:=(hv n hn).2; omega⟩) hl
 | next _ _ hval hb _ ih=>
  intro hs h26 ho
  obtain ⟨j1,_,_,j4⟩:=hb.ok hp hs.chs _ rfl
  refine ih j1 (by omega) fun vs hvs=>?_
  rcases List.mem_append.1 hvs with h|h
  ·exact ho vs h
  ·rw [List.mem_singleton.1 h]
   exact hval.small hs.good (fun n hn=>⟨(hv n hn).1,by have:=(hv n hn).2; omega⟩) hl
def SolR (p:List C) (q:List T) (most fuel:Nat) (r:List (List T) × Int):Prop:=((cS p && cY q)=true/\RunI p (dp q []) most fuel (gc q) [] r) ∨ ((cS p && cY q)=false/\r=([],9))
theorem lC {p:List C} (h:cS p=true):(∀ cl∈p,mI cl)/\(∀ cl∈p,cl.body.length<=1048576)/\p.length<=20:=by
 rw [cS,Bool.and_eq_true,decide_eq_true_eq,List.all_eq_true] at h
 exact ⟨fun cl hc=>EJ (h.2 cl hc),fun cl hc=>by have:=(fl (h.2 cl hc)).2.2; omega,h.1⟩
theorem vj {q:List T} (h:cY q=true):q.length<=6/\(∀ t∈q,cZ t=true):=by
 rw [cY,Bool.and_eq_true,decide_eq_true_eq,List.all_eq_true] at h
 exact ⟨h.1,fun t ht=>i3 (h.2 t ht)⟩
theorem zh:∀ {q:List T},(∀ t∈q,cZ t=true)->co q<=120 * (q.length:Int)
 | [],_=>by simp [co]
 | t::q,h=>by
  have h1:=h t (List.mem_cons_self ..)
  rw [cZ,Bool.and_eq_true] at h1
  have h2:dk t<=120:=by simpa using h1.2
  have h3:=zh fun x hx=>h x (List.mem_cons_of_mem _ hx)
  rw [co,List.length_cons]
  omega
theorem yN {q:List T} (h:cY q=true):(∀ n∈dp q [],0<=n/\n<26)/\(dp q []).length<=1000/\co q<=1000:=by
 obtain ⟨h1,h2⟩:=vj h
 have h3:=zh h2
 have h4:=sL q []
 rw [List.length_nil] at h4
 exact ⟨tX q [] (HT fun t ht=>Cw t (ib (h2 t ht))) (by simp),by omega,by omega⟩
theorem re {q:List T} (h:cY q=true) (m:Nat):tY m (gc q):=IY m fun t ht=>by
 have hv:=(vj h).2 t ht
 exact ⟨⟨ib hv,by have:=oJ hv; omega⟩,s8 hv⟩
theorem SolR.ex (p:List C) (q:List T) (most fuel:Nat):∃ r,SolR p q most fuel r:=by
 by_cases h:(cS p && cY q)=true
 ·have h':=h
  rw [Bool.and_eq_true] at h'
  obtain ⟨r,hr⟩:=RunI.ex (lC h'.1).1 (yN h'.2).1 most _ fuel (gc q) [] (Nat.le_refl _) (Nat.zero_le _) (re h'.2 _) (by show 26<=(List.replicate 26 (none:Option T)).length; simp)
  exact ⟨r,.inl ⟨h,hr⟩⟩
 ·exact ⟨_,.inr ⟨by simpa using h,rfl⟩⟩
end
section
open Go Go.RowKit
def cls (p:List C) (l:List Int):List (Option C):=l.map fun i=>p[i.toNat]?
def sameHd (t u:T):Prop:=u.kind=t.kind/\u.name=t.name/\u.kids.length=t.kids.length
structure Alk (p s:List C) (R:T->Prop):Prop where
 for_:∀ t,R t->fC t=false->cn t=false->cls p (fX p t)=cls s (fX s t)
 body:∀ t,R t->∀ i∈fX p t,∀ cl,p[i.toNat]?=some cl->∀ b∈cl.body,R b
 hd:∀ t u,R t->sameHd t u->R u
 three:∀ t,R t->t.kind=3
def MB (p:List C) (R:T->Prop) (l:List Int):Prop:=∀ i∈l,∀ cl,p[i.toNat]?=some cl->∀ b∈cl.body,R b
structure NC (p s:List C) (R:T->Prop) (c d:CI):Prop where
 goal:d.goal=c.goal
 node:d.node=c.node
 rest:d.rest=c.rest
 left:cls s d.left=cls p c.left
 binds:d.binds=c.binds
 taken:d.taken=c.taken
 rR:∀ g∈c.rest,R g.t
 lR:MB p R c.left
def simCs (p s:List C) (R:T->Prop) (cs ds:List CI):Prop:=cs.length=ds.length/\∀ i (h:i<cs.length) (h':i<ds.length),NC p s R cs[i] ds[i]
structure KT (p s:List C) (R:T->Prop) (x y:SI):Prop where
 st:y.st=x.st
 goals:y.goals=x.goals
 chs:simCs p s R x.chs y.chs
 nodes:y.nodes.length=x.nodes.length
 gR:∀ g∈x.goals,R g.t
def PU (p s:List C) (R:T->Prop) (o o':Option HI):Prop:=(o=none/\o'=none) ∨ ∃ r r':HI,o=some r/\o'=some r'/\r'.cl=r.cl/\r'.by_=r.by_/\r'.st=r.st/\cls s r'.l=cls p r.l/\MB p R r.l/\∀ b∈r.cl.body,R b
def simO (p s:List C) (R:T->Prop) (o o':Option SI):Prop:=(o=none/\o'=none) ∨ ∃ x y,o=some x/\o'=some y/\KT p s R x y
section
variable {p s:List C} {R:T->Prop}
theorem sameHd.shift (b:Int) (t:T) (h:t.kind≠1):sameHd t (cH b t):=by
 cases t with
 | mk k n m ks=>
  simp only [T.kind] at h
  rw [cH,if_neg h]
  exact ⟨rfl,rfl,by simp [T.kids,qs]⟩
theorem NY {st:ah} {t u:T} (h:Res st (.one t u)) (h3:t.kind≠1):sameHd t u:=by
 cases h with
 | @one _ v us hw hl=>
  have hv:v=t:=by
   cases hw with
   | stop _=>rfl
   | step hk _=>exact absurd (cA.1 hk).1 h3
  subst hv
  refine ⟨rfl,rfl,?_⟩
  show us.length=v.kids.length
  have:∀ {ts us:List T},Res st (.list ts us)->us.length=ts.length:=by
   intro ts
   induction ts with
   | nil=>intro us h; cases h; rfl
   | cons t ts ih=>intro us h; cases h with|cons _ h=>rw [List.length_cons,List.length_cons,ih h]
  exact this hl
theorem il {l l':List Int} (h:cls s l'=cls p l):l'=[]↔l=[]:=by
 have:=congrArg List.length h
 simp only [cls,List.length_map] at this
 constructor
 ·rintro rfl; exact List.eq_nil_of_length_eq_zero (by simpa using this.symm)
 ·rintro rfl; exact List.eq_nil_of_length_eq_zero (by simpa using this)
theorem TryI.sim {g:T} {l:List Int} {st:ah} {o:Option HI} {n:Nat} (h:TryI p g l st o n):∀ l',cls s l'=cls p l->MB p R l->(∀ i∈l',0<=i)->∃ o',TryI s g l' st o' n/\PU p s R o o':=by
 induction h with
 | nil=>
  intro l' hl _ _
  obtain rfl:=(il hl).2 rfl
  exact ⟨none,.nil,.inl ⟨rfl,rfl⟩⟩
 | @hit i l cl st st' hi hu=>
  intro l' hl hok hl0
  cases l' with
  | nil=>simp [cls] at hl
  | cons j l'=>
   obtain ⟨k,rfl⟩:∃ k:Nat,j=(k:Int):=⟨j.toNat,by have:=hl0 j (by simp); omega⟩
   simp only [cls,List.map_cons,List.cons.injEq,Int.toNat_natCast] at hl
   rw [hi] at hl
   exact ⟨_,.hit hl.1 hu,.inr ⟨_,_,rfl,rfl,rfl,rfl,rfl,hl.2,fun x hx=>hok x (List.mem_cons_of_mem _ hx),hok i (List.mem_cons_self ..) cl (by rw [Int.toNat_natCast]; exact hi)⟩⟩
 | @miss i l cl st st' o n hi hu _ ih=>
  intro l' hl hok hl0
  cases l' with
  | nil=>simp [cls] at hl
  | cons j l'=>
   obtain ⟨k,rfl⟩:∃ k:Nat,j=(k:Int):=⟨j.toNat,by have:=hl0 j (by simp); omega⟩
   simp only [cls,List.map_cons,List.cons.injEq,Int.toNat_natCast] at hl
   rw [hi] at hl
   obtain ⟨o',h1,h2⟩:=ih l' hl.2 (fun x hx=>hok x (List.mem_cons_of_mem _ hx)) fun x hx=>hl0 x (List.mem_cons_of_mem _ hx)
   exact ⟨o',.miss hl.1 hu h1,h2⟩
theorem simCs.snoc {cs ds:List CI} {c d:CI} (h:simCs p s R cs ds) (hc:NC p s R c d):simCs p s R (cs++[c]) (ds++[d]):=by
 refine ⟨by simp [h.1],fun i hi hi'=>?_⟩
 by_cases hic:i<cs.length
 ·rw [List.getElem_append_left hic,List.getElem_append_left (h:=by have:=h.1; omega)]
  exact h.2 i hic _
 ·rw [List.length_append,List.length_cons,List.length_nil] at hi
  have h1:=h.1
  obtain rfl:i=cs.length:=by omega
  rw [List.getElem_append_right (Nat.le_refl _),List.getElem_append_right (by omega)]
  simpa [h1] using hc
theorem simCs.last {cs ds:List CI} {c d:CI} (h:simCs p s R (cs++[c]) (ds++[d])):simCs p s R cs ds/\NC p s R c d:=by
 have h1:cs.length=ds.length:=by have:=h.1; simpa using this
 refine ⟨⟨h1,fun i hi hi'=>?_⟩,?_⟩
 ·have:=h.2 i (by rw [List.length_append]; omega) (by rw [List.length_append]; omega)
  rwa [List.getElem_append_left hi,List.getElem_append_left hi'] at this
 ·have:=h.2 cs.length (by simp) (by simp [h1])
  rw [List.getElem_append_right (Nat.le_refl _),List.getElem_append_right (by omega)] at this
  simpa [h1] using this
theorem Eo (hR:Alk p s R) {cs ds:List CI} {ns ms:List NI} {g:T} {a:Int} {rest:List GI} {b:ah} {r r':HI} (hcs:simCs p s R cs ds) (hn:ms.length=ns.length) (hr:∀ x∈rest,R x.t)
  (hh:r'.cl=r.cl/\r'.by_=r.by_/\r'.st=r.st/\cls s r'.l=cls p r.l/\MB p R r.l/\∀ b∈r.cl.body,R b):KT p s R (iH cs ns g a rest b r) (iH ds ms g a rest b r'):=by
 obtain ⟨h1,h2,h3,h4,h5,h6⟩:=hh
 refine ⟨h3,?_,?_,?_,?_⟩
 ·show pr r'.cl r'.by_ ds.length a rest=pr r.cl r.by_ cs.length a rest
  rw [h1,h2,hcs.1]
 ·show simCs p s R (cs++(if r.l=[] then [] else [⟨g,a,rest,r.l,b,ns.length⟩])) (ds++(if r'.l=[] then [] else [⟨g,a,rest,r'.l,b,ms.length⟩]))
  by_cases hl:r.l=[]
  ·rw [if_pos hl,if_pos ((il h4).2 hl),List.append_nil,List.append_nil]; exact hcs
  ·rw [if_neg hl,if_neg (fun e=>hl ((il h4).1 e))]
   exact hcs.snoc ⟨rfl,rfl,rfl,h4,rfl,hn,hr,h5⟩
 ·show (Da ms a.toNat r'.i).length=(Da ns a.toNat r.i).length
  rw [rn,rn,hn]
 ·intro x hx
  have hx':x∈pr r.cl r.by_ cs.length a rest:=hx
  unfold pr at hx'
  rcases List.mem_append.1 hx' with hx'|hx'
  ·obtain ⟨t,ht,rfl⟩:=List.mem_map.1 hx'
   have h3:=hR.three t (h6 t ht)
   exact hR.hd t _ (h6 t ht) (sameHd.shift _ t (by omega))
  ·exact hr x hx'
theorem BackI.sim (hR:Alk p s R) {cs:List CI} {n:Nat} {ns:List NI} {o:Option SI} (h:BackI p cs n ns o):∀ ds ms,simCs p s R cs ds->ms.length=ns.length->(∀ d∈ds,∀ i∈d.left,0<=i)->∃ o',BackI s ds n ms o'/\simO p s R o o':=by
 induction h with
 | nil=>
  intro ds ms hd _ _
  obtain rfl:ds=[]:=List.eq_nil_of_length_eq_zero (by simpa using hd.1.symm)
  exact ⟨none,.nil,.inl ⟨rfl,rfl⟩⟩
 | @hit cs c n m ns r ht=>
  intro ds ms hd hn h0
  obtain ⟨ds',d,rfl⟩:∃ ds' d,ds=ds'++[d]:=⟨ds.dropLast,ds.getLast (by intro e; rw [e] at hd; simp [simCs] at hd),(List.dropLast_concat_getLast _).symm⟩
  obtain ⟨h1,h2⟩:=hd.last
  obtain ⟨o',q1,q2⟩:=ht.sim (s:=s) (R:=R) d.left h2.left h2.lR (h0 d (by simp))
  rcases q2 with ⟨q,_⟩|⟨r1,r',e1,rfl,hh⟩
  ·cases q
  simp only [Option.some.injEq] at e1
  subst e1
  have q1:TryI s d.goal d.left (bA d.binds n) (some r') m:=by rw [h2.goal,h2.binds]; exact q1
  refine ⟨_,.hit q1,.inr ⟨_,_,rfl,rfl,?_⟩⟩
  rw [h2.goal,h2.node,h2.rest,h2.binds,h2.taken]
  exact Eo hR h1 (by rw [List.length_take,List.length_take,hn]) h2.rR hh
 | @miss cs c n m ns o ht _ ih=>
  intro ds ms hd hn h0
  obtain ⟨ds',d,rfl⟩:∃ ds' d,ds=ds'++[d]:=⟨ds.dropLast,ds.getLast (by intro e; rw [e] at hd; simp [simCs] at hd),(List.dropLast_concat_getLast _).symm⟩
  obtain ⟨h1,h2⟩:=hd.last
  obtain ⟨o',q1,q2⟩:=ht.sim (s:=s) (R:=R) d.left h2.left h2.lR (h0 d (by simp))
  rcases q2 with ⟨_,rfl⟩|⟨r1,r',e1,_⟩
  ·have q1:TryI s d.goal d.left (bA d.binds n) none m:=by rw [h2.goal,h2.binds]; exact q1
   obtain ⟨o2,k1,k2⟩:=ih ds' (ms.take d.taken) h1 (by rw [List.length_take,List.length_take,hn,h2.taken]) fun x hx=>h0 x (List.mem_append_left _ hx)
   exact ⟨o2,.miss q1 k1,k2⟩
  ·cases e1
theorem simO.isSome {o o':Option SI} (h:simO p s R o o'):o'.isSome=o.isSome:=by
 rcases h with ⟨rfl,rfl⟩|⟨x,y,rfl,rfl,_⟩ <;> rfl
theorem StepI.sim (hR:Alk p s R) {x y:SI} {o:Option SI} {e:Int} (h:StepI p false x o e) (hs:KT p s R x y) (h0:∀ d∈y.chs,∀ i∈d.left,0<=i):∃ o',StepI s false y o' e/\simO p s R o o':=by
 have hst:=hs.st
 have hgo:=hs.goals
 have hgR:=hs.gR
 have nd:∀ z:NI,(y.nodes++[z]).length=(x.nodes++[z]).length:=fun z=>by simp [hs.nodes]
 have hRt:∀ {g:GI} {gs:List GI} {t:T},x.goals=g::gs->Res x.st (.one g.t t)->R t:=fun {g gs t} hg ht=>by
  have h1:=hgR g (by rw [hg]; simp)
  have h3:=hR.three _ h1
  exact hR.hd _ _ h1 (NY ht (by omega))
 cases h with
 | large hg ht hsm=>exact ⟨none,.large (by rw [hgo]; exact hg) (by rw [hst]; exact ht) hsm,.inl ⟨rfl,rfl⟩⟩
 | noCut _ _ _ _ h=>cases h
 | @cut g gs t hg ht hsm hc hnc=>
  refine ⟨_,.cut (by rw [hgo]; exact hg) (by rw [hst]; exact ht) hsm hc rfl,.inr ⟨_,_,rfl,rfl,hst,rfl,?_,nd _,fun z hz=>hgR z (by rw [hg]; exact List.mem_cons_of_mem _ hz)⟩⟩
  refine ⟨by rw [List.length_take,List.length_take,hs.chs.1],fun i hi hi'=>?_⟩
  rw [List.length_take] at hi hi'
  rw [List.getElem_take,List.getElem_take]
  exact hs.chs.2 i (by omega) (by omega)
 | @solved g gs t st hg ht hsm hc hb hB=>
  exact ⟨_,.solved (by rw [hgo]; exact hg) (by rw [hst]; exact ht) hsm hc hb (by rw [hst]; exact hB),.inr ⟨_,_,rfl,rfl,rfl,rfl,hs.chs,nd _,fun z hz=>hgR z (by rw [hg]; exact List.mem_cons_of_mem _ hz)⟩⟩
 | @fail g gs t st o hg ht hsm hc hb hB ho=>
  obtain ⟨o',k1,k2⟩:=ho.sim hR y.chs _ hs.chs (nd ⟨t,g.up,-1⟩) h0
  rw [<- k2.isSome]
  exact ⟨o',.fail (by rw [hgo]; exact hg) (by rw [hst]; exact ht) hsm hc hb (by rw [hst]; exact hB) (by rw [hst]; exact k1),k2⟩
 | err hg ht hsm hc hb hB h1 h2=>exact ⟨none,.err (by rw [hgo]; exact hg) (by rw [hst]; exact ht) hsm hc hb (by rw [hst]; exact hB) h1 h2,.inl ⟨rfl,rfl⟩⟩
 | unknown hg ht hsm hc hb hf=>
  have hf':=hR.for_ _ (hRt hg ht) hc hb
  exact ⟨none,.unknown (by rw [hgo]; exact hg) (by rw [hst]; exact ht) hsm hc hb ((il hf'.symm).2 hf),.inl ⟨rfl,rfl⟩⟩
 | @took g gs t r m hg ht hsm hc hb hf hT=>
  have hRT:=hRt hg ht
  have hf':=hR.for_ _ hRT hc hb
  obtain ⟨o',q1,q2⟩:=hT.sim (s:=s) (R:=R) (fX s t) hf'.symm (hR.body t hRT) fun i hi=>(lE s t i hi).1
  rcases q2 with ⟨q,_⟩|⟨r1,r',e1,rfl,hh⟩
  ·cases q
  simp only [Option.some.injEq] at e1
  subst e1
  refine ⟨_,.took (by rw [hgo]; exact hg) (by rw [hst]; exact ht) hsm hc hb (fun e=>hf ((il hf'.symm).1 e)) (by rw [hst]; exact q1),.inr ⟨_,_,rfl,rfl,?_⟩⟩
  rw [hst,hs.nodes]
  exact Eo hR hs.chs (nd _) (fun z hz=>hgR z (by rw [hg]; exact List.mem_cons_of_mem _ hz)) hh
 | @back g gs t m o hg ht hsm hc hb hf hT ho=>
  have hRT:=hRt hg ht
  have hf':=hR.for_ _ hRT hc hb
  obtain ⟨o',q1,q2⟩:=hT.sim (s:=s) (R:=R) (fX s t) hf'.symm (hR.body t hRT) fun i hi=>(lE s t i hi).1
  rcases q2 with ⟨_,rfl⟩|⟨r1,r',e1,_⟩
  ·obtain ⟨o2,k1,k2⟩:=ho.sim hR y.chs _ hs.chs (nd ⟨t,g.up,-1⟩) h0
   rw [<- k2.isSome]
   exact ⟨o2,.back (by rw [hgo]; exact hg) (by rw [hst]; exact ht) hsm hc hb (fun e=>hf ((il hf'.symm).1 e)) (by rw [hst]; exact q1) k1,k2⟩
  ·cases e1
theorem okCs.pos {m n k:Nat} {cs:List CI} (h:okCs m n k cs):∀ d∈cs,∀ i∈d.left,0<=i:=fun d hd i hi=>by
 obtain ⟨j,hj,rfl⟩:=List.getElem_of_mem hd
 exact ((h.at_ j hj).1.left i hi).1
theorem RunI.sim (hR:Alk p s R) (hp:∀ cl∈p,mI cl) (hq:∀ cl∈s,mI cl) {vars:List Int} {most n:Nat} {x:SI} {out:List (List T)} {r:List (List T) × Int} (h:RunI p vars most n x out r):∀ y,KT p s R x y->tY p.length x->tY s.length y->RunI s vars most n y out r:=by
 induction h with
 | fuel hg=>intro y hs _ _; exact .fuel (by rw [hs.goals]; exact hg)
 | stop hg hst=>
  intro y hs _ hy
  obtain ⟨o',k1,k2⟩:=hst.sim hR hs hy.chs.pos
  rcases k2 with ⟨_,rfl⟩|⟨_,_,e,_⟩
  ·exact .stop (by rw [hs.goals]; exact hg) k1
  ·cases e
 | step hg hst _ ih=>
  intro y hs hx hy
  obtain ⟨o',k1,k2⟩:=hst.sim hR hs hy.chs.pos
  rcases k2 with ⟨e,_⟩|⟨x',y',e,rfl,hs'⟩
  ·cases e
  simp only [Option.some.injEq] at e
  subst e
  exact .step (by rw [hs.goals]; exact hg) k1 (ih y' hs' (hst.ok hp hx _ rfl).1 (k1.ok hq hy _ rfl).1)
 | more hg hm=>intro y hs _ _; exact .more (by rw [hs.goals]; exact hg) hm
 | large hg hm hv=>intro y hs _ _; exact .large (by rw [hs.goals]; exact hg) hm (by rw [hs.st]; exact hv)
 | last hg hm hv hb=>
  intro y hs _ hy
  obtain ⟨o',k1,k2⟩:=hb.sim hR y.chs y.nodes hs.chs hs.nodes hy.chs.pos
  rcases k2 with ⟨_,rfl⟩|⟨_,_,e,_⟩
  ·exact .last (by rw [hs.goals]; exact hg) hm (by rw [hs.st]; exact hv) (by rw [hs.st]; exact k1)
  ·cases e
 | next hg hm hv hb _ ih=>
  intro y hs hx hy
  obtain ⟨o',k1,k2⟩:=hb.sim hR y.chs y.nodes hs.chs hs.nodes hy.chs.pos
  rcases k2 with ⟨e,_⟩|⟨x',y',e,rfl,hs'⟩
  ·cases e
  simp only [Option.some.injEq] at e
  subst e
  refine .next (by rw [hs.goals]; exact hg) hm (by rw [hs.st]; exact hv) (by rw [hs.st]; exact k1) (ih y' hs' (hb.ok hp hx.chs _ rfl).1 ?_)
  have hyc:=hy.chs
  rw [hs.st] at hyc
  exact (k1.ok hq hyc _ rfl).1
end
end
end Go.Proofs.YtcpgagfdeflbkaaGreatDoor
