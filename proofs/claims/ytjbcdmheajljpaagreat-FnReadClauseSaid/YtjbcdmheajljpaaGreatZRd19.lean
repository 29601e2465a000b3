/- spec.ReadClause. -/
import Derived.Test.YtjbcdmheajljpaaGreatZRdA
import Derived.Test.YtjbcdmheajljpaaGreatZRd18
namespace Go.Proofs.YtjbcdmheajljpaaGreat
attribute [local irreducible] Run CondV aI bg
section
open Go Go.RowKit
theorem Ys (z:Array Value) (g:z=et) (S:ai) (N:Nat):KnU S ((Array.range (N * 4)).map (z[· % z.size]!)) (List.replicate N none):=by
 subst g;refine ⟨by simp,fun i h=>⟨fun _=>?_,fun t a=>?_⟩⟩
 ·simp only [Bf] at h;apply Oi;intro j;rw [bJ,wA]
  match j with
  | 0|1|2|3=>
   rw [ag (by omega),xy,Array.getElem?_toList,Array.getElem?_map,Array.getElem?_range,ag (by omega)];simp only [jz,Pq,aP,ce];first
    | rw [show (i * 4+0) % 4=0 by omega];rfl
    | rw [show (i * 4+1) % 4=1 by omega];rfl
    | rw [show (i * 4+2) % 4=2 by omega];rfl
    | rw [show (i * 4+3) % 4=3 by omega];rfl
  | j+4=>
   rw [ae (by omega)];rfl
 ·have e:(List.replicate N (none:Option T))[i]=none:=by simp
  rw [e] at a;cases a
theorem T6 (M:Nat):slL M (fun _=>none)=List.replicate M zT0:=by
 refine List.ext_getElem (by rw [iv,Bf]) fun i a g=>?_;rw [vH,Vb];rfl
theorem IX {S:ai} {g M:Nat} (l:M<=1000000) (h:S g=some (.cells ((Array.range (M * 4)).map ((et:Array Value)[· % (et:Array Value).size]!)) ac)):RdSl S 4 (RdT S) (.slice (some ⟨g,0,none⟩) M M) (slL M fun _=>none):=by
 have j:=Ys _ rfl S M;rw [T6];refine ⟨some ⟨g,0,none⟩,M,by rw [Bf],by rw [Bf];exact aY _,by simp only [maxLen];omega,.inr ⟨g,0,_,_,_,rfl,h,fun i a=>?_⟩⟩;rw [Vb,cS];rw [Bf] at a;rw [(j.2 i (by rw [Bf];exact a)).1 (Vb ..)];exact UU S
theorem qs {M:Nat}:∀ (F F':Nat) (s:RI) (l:List Ist) (out:List T),l.length<F->l.length<F'->readS M F s l out=readS M F' s l out
 | 0,_,_,_,_,h,_=>absurd h (Nat.not_lt_zero _)
 | _+1,0,_,_,_,_,h=>absurd h (Nat.not_lt_zero _)
 | F+1,F'+1,s,[],out,_,_=>by rw [readS,readS]
 | F+1,F'+1,s,x::xs,out,h,h'=>by
  rw [aP] at h h';rw [readS,readS];by_cases a:x.op=14
  ·rw [ag a,ag a]
  rw [ae a,ae a];by_cases g:x.op=13
  ·rw [ag g,ag g];exact qs F F' s xs _ (by omega) (by omega)
  rw [ae g,ae g];by_cases i:x.op=11 ∨ x.op=12
  ·rw [ag i,ag i,qs F F' s xs _ (by omega) (by omega)]
  rw [ae i,ae i];by_cases j:iA x<=xs.length
  ·rw [ag j,ag j]
   congr 1
   funext s'
   exact qs F F' s' _ out (by rw [mj];omega) (by rw [mj];omega)
  ·rw [ae j,ae j]
theorem Uz {f:Sl} {M k:Nat} (h:k<=M):(slL M f).take k=sH f k:=by
 refine List.ext_getElem (by rw [ig,iv,sH,ro,List.length_range];omega) fun i a g=>?_;rw [RP,vH];simp only [sH,CU,List.getElem_range]
theorem Tt {s:Bs}:st s=⟨#[]⟩↔s=[]:=by
 constructor
 ·intro e;have:=congrArg ByteArray.size e;rw [lj] at this;exact jM this
 ·rintro rfl;rfl
abbrev jk:List Value:=[ee 0,ee 0,.string ⟨#[]⟩,nx]
section
variable {S:ai}
def atN (w:World) (b:Nat):Nat:=match w.cell? ⟨b,3,none⟩ with
 | some (.int _ n)=>n.toNat
 | _=>0
theorem EW {w0 w:World} {X:List Nat} {L:List Item} (h:Inv w0 X L S w) {i b:Nat} {c:Array Value} {E:TypeId} (a:L[i]?=some (ei b c E)) {p:Nat} (hc:c[3]?=some (ee (p:Int))):atN w b=p:=by
 rw [atN,h.cellL a,hc];exact dH p
theorem Inv.rowLen {w0 w:World} {X:List Nat} {L:List Item} (h:Inv w0 X L S w) {i k:Nat} {e:TypeId} {v:Value} {css:List (nA)} (j:L[i]?=some (aB v e k css)):∃ a cap,v=.slice a css.length cap:=by
 have l:w.ownsRow 0 e k v css.length css.flatten:=h.its _ (f0 j);rcases l.2 with ⟨rfl,hn⟩|⟨g,cap,m,rfl,_⟩
 ·exact ⟨none,0,by rw [hn]⟩
 ·exact ⟨_,cap,rfl⟩
theorem Qa {w:World} {K:Value->World->Prop} {a b:Option Addr} {n m p q:Nat} (hk:K (.agg #[.slice a n m,.slice b p q,ee 0,ee 0,.bool true]) w):Run Tryz.prog (cr al [(0,.slice a n m),(1,.slice b p q),(4,.bool true)]) w K:=by
 refine Run.of (v:=.agg #[.slice a n m,.slice b p q,ee 0,ee 0,.bool true]) (w':=w) ?_ hk;unfold cr;rw [Sem.run_bind,run_build w al _ #[.slice a n m,.slice b p q,ee 0,ee 0,.bool true] (by kernel_rfl),Result.andThen_ok];rfl
set_option maxHeartbeats 4000000 in
theorem yC {code:List Ist} {nm:ByteArray} {n:Int} {v:Value} (h:RdSl S 4 (cZ S) v code) (hl:code.length<=1100) (hn:∀ x∈code,x.name.size<=6) (q9:nm.size<=6) :
  nB Gk [v,.string nm,ee n] [] S fun r I' S'=>I'=[]/\∃ cs,r=.tuple #[.agg cs.toArray,.bool (rdCS code nm n).isSome]/\RdC S' cs ((rdCS code nm n).getD QI):=by
 intro w B;refine rm.2 ?_;dsimp only[rm,eX];refine aE B cI fun Y w' B=>?_;refine H3 ?_;refine aE B cI fun b8 w' B=>?_;refine aj B 1 rfl aK rfl rfl (by simp [Value.oneCell']) fun w' B=>?_;have B:Inv w [] [ei Y eu ad,ei b8 eu ad] S w':=B;have c5:∀ (L:List Item) (S2:ai) (w2:World),rdCS code nm n=none->Ext w.heap.size [] S S2->Inv w [] (ei Y eu ad::.blk b8 (.cells eu ad)::L) S2 w2->
   Run Tryz.prog (sOp (.load ad (.const (hV b8))) ad) w2 fun t w'=>Run Tryz.prog (sOp (.store ad (.const (hV Y)) (.const t)) 0) w' fun _ w'=>bg Tryz.prog ad (hV Y) w' fun r0=>∃ v I' S',Ending.returned (.tuple #[r0,.bool false])=Ending.returned v/\Inv w [] I' S' w'/\Ext w.heap.size [] S S'/\(I'=[]/\∃ cs,v=.tuple #[.agg cs.toArray,.bool (rdCS code nm n).isSome]/\RdC S' cs ((rdCS code nm n).getD QI)):=fun L S2 w2 e hE B=>by
  refine aq B 1 aK rfl rfl ?_;refine aj B 0 rfl aK rfl rfl (by simp [Value.oneCell']) fun w' B=>?_;refine be B 0 aK rfl rfl ?_;rw [e];exact ⟨_,_,S2,rfl,B.nil,hE,rfl,[ee 0,ee 0,.string ⟨#[]⟩,nx,nx],rfl,RdC.zero S2⟩
 refine ⟨fun z w'=>∃ S1,Ext w.heap.size [] S S1/\z=.bool (decide (¬ (0<=n/\n<=4/\code≠[]/\∀ x∈code,lmS x)))/\Inv w [] [ei Y eu ad,ei b8 eu ad] S1 w',?_,?_⟩
 ·refine aO h bx ?_;refine fL ?_;rw [aM (show ¬ (2000:Int)<(code.length:Int) by omega)];refine rpG ?_;refine Run.call0E Dd Dq B (zW h hn) fun v' I' S1 w'=>?_;rintro ⟨rfl,s,rfl,m8⟩ d9 B;have B:Inv w [] [ei Y eu ad,ei b8 eu ad] S1 w':=B;refine bT ?_;by_cases Z:s=[]
  ·rw [aD (Tt.2 Z)];refine rpG ?_;have:=m8.1 Z;exact ⟨S1,d9,by rw [aD (show ¬ (0<=n/\n<=4/\code≠[]/\∀ x∈code,lmS x) from fun hh=>this ⟨hh.2.2.1,by omega,hh.2.2.2⟩)],B⟩
  ·rw [aM fun e=>Z (Tt.1 e)];have c9:=LG.1 fun e=>Z (m8.2 e);refine rpG ?_;refine cd ?_;by_cases h1:n<0
   ·rw [aD h1];refine rpG ?_;exact ⟨S1,d9,by rw [aD (show ¬ (0<=n/\n<=4/\code≠[]/\∀ x∈code,lmS x) from fun hh=>by omega)],B⟩
   ·rw [aM h1];refine rpG ?_;refine fL ?_;refine rpG ?_;refine ⟨S1,d9,?_,B⟩
    congr 1
    refine cW.2 ⟨fun e hh=>by omega,fun e=>Classical.byContradiction fun e2=>e ⟨by omega,by omega,c9.1,c9.2.2⟩⟩
 intro z _ _ _ _ _ _ _ _ _ _ _ _ _ _ _ w';rintro ⟨S1,d9,rfl,B⟩;refine aJ (fun j2=>?_) (fun c9=>?_)
 ·exact c5 [] S1 _ (by rw [rdCS,ae fun hh=>j2 ⟨hh.1,hh.2.1,hh.2.2.2.1,hh.2.2.2.2⟩]) d9 B
 obtain ⟨s1,s2,n6,g8⟩:=LG.1 c9;obtain ⟨k,rfl⟩:∃ k:Nat,n=(k:Int):=⟨n.toNat,by omega⟩
 have b4:rdCS code nm (k:Int)=(readS (gD code 4) (code.length+1) (gh (gD code 4+1) k) code []).bind fun r=>if (code.getLast?.map (·.op))=some 14 then finS code nm k r.1 r.2 else none:=by
  rw [rdCS,ag ⟨s1,s2,by omega,n6,g8⟩,dH]
 have hM:=Ia code 4 (by omega) g8;have i7:=pV code 4;have j7:∀ x∈code,i9 x<=999:=fun x hx=>by
  have:=(g8 x hx).1;unfold i9;split
  ·omega
  ·split <;> omega
 have d4:=rf h j7;obtain ⟨M,n7⟩:∃ M,M=gD code 4:=⟨_,rfl⟩
 rw [<- n7] at b4 hM i7 d4;have p4:∀ {S2:ai},Sle S S2->ru oI [v] S2 (ee (M:Int)):=fun hs=>by
  have:=rf (h.monoK hs) j7
  rwa [<- n7] at this
 refine ⟨fun D x9 kI mx nH yS uC w_=>Fx D 0 [uC=v,yS=ee (M:Int),True,True,True,True,True]/\∃ SN O v1 v2,Ext w.heap.size [] S1 SN/\(D 2=true->nH=v1/\RdSl SN 4 (RdT SN) v1 (slL M fun _=>none))/\(D 3=true->mx=v2/\RdSl SN 4 (RdT SN) v2 (slL 4 fun _=>none))/\(D 4=true->D 2=true/\D 3=true/\kI=.agg #[v1,v2,ee 0,ee 0,.bool true])/\(D 5=true->x9=hV O)/\(D 6=true->D 5=true/\D 4=true)/\Inv w [] ([ei Y eu ad,ei b8 eu ad]++cond (D 5) [ei O (cond (D 6) #[v1,v2,ee 0,ee 0,.bool true] iM) al] []) SN w_,⟨Fx.nil _ _,⟨S1,0,nx,nx,Ext.refl _ _ _,aU,aU,aU,aU,aU,B.draw⟩⟩,⟨?_,?_,?_,?_,?_,?_,?_,trivial⟩,?_⟩;all_goals (intro D bp;intros;rename_i x9 kI mx nH yS uC w_ b7;have J:=b7.1;obtain ⟨⟨cF,ci,cG,cD,bU,cH,cj,_⟩,⟨SN,O,v1,v2,hN,k2,k3,k4,k5,k6,B⟩⟩:=b7)
 ·exact ⟨J.set 0 (by first|assumption|trivial),⟨SN,O,v1,v2,hN,k2,k3,k4,k5,k6,B⟩⟩
 ·have Tn:=cF ‹_›;have s8:ru oI [uC] SN (ee (M:Int)):=by rw [Tn];exact p4 (d9.trans hN).1
  refine Run.callPure Eb Eg B s8 fun w_ B=>?_;exact ⟨J.set 1 rfl,⟨SN,O,v1,v2,hN,k2,k3,k4,k5,k6,B⟩⟩
 ·obtain rfl:=ci ‹_›;have f4:D 4=false:=bA.2 fun h=>by rw [(k4 h).1] at bp;cases bp
  have f6:D 6=false:=bA.2 fun h=>by rw [(k6 h).2] at f4;cases f4
  refine qB (n:=M) B bi (by omega) (by omega) (by omega) fun g w_ B=>?_;obtain ⟨SM,B,d6,l5⟩:=B.pub1;have hN:=hN.trans d6;have hz:=IX (by omega) l5;obtain ⟨v1,n8⟩:∃ v1,v1=Value.slice (some ⟨g,0,none⟩) M M:=⟨_,rfl⟩
  rw [<- n8] at hz ⊢;have k2:=fun (_:aF D 2 2=true)=>(⟨rfl,hz⟩:v1=v1/\RdSl SM 4 (RdT SM) v1 (slL M fun _=>none))
  have k3:aF D 2 3=true->mx=v2/\RdSl SM 4 (RdT SM) v2 (slL 4 fun _=>none):=fun h=>⟨(k3 h).1,(k3 h).2.monoT d6.1⟩
  have k4:aF D 2 4=true->aF D 2 2=true/\aF D 2 3=true/\kI=.agg #[v1,v2,ee 0,ee 0,.bool true]:=fun h=>by rw [show D 4=true from h] at f4;cases f4
  have k6:aF D 2 6=true->aF D 2 5=true/\aF D 2 4=true:=fun h=>by rw [show D 6=true from h] at f6;cases f6
  rw [f6] at B;have B:Inv w [] ([ei Y eu ad,ei b8 eu ad]++cond (D 5) [ei O (cond (D 6) #[v1,v2,ee 0,ee 0,.bool true] iM) al] []) SM w_:=by rw [f6];exact B
  obtain ⟨SN,h3⟩:∃ SN,SN=SM:=⟨_,rfl⟩
  subst h3;exact ⟨J.set 2 (by first|assumption|trivial),⟨SN,O,v1,v2,hN,k2,k3,k4,k5,k6,B⟩⟩
 ·have f4:D 4=false:=bA.2 fun h=>by rw [(k4 h).2.1] at bp;cases bp
  have f6:D 6=false:=bA.2 fun h=>by rw [(k6 h).2] at f4;cases f4
  refine qB (n:=4) B bi (by omega) (by omega) (by omega) fun g w_ B=>?_;obtain ⟨SM,B,d6,l5⟩:=B.pub1;have hN:=hN.trans d6;have hz:=IX (M:=4) (by omega) l5;obtain ⟨v2,n9⟩:∃ v2,v2=Value.slice (some ⟨g,0,none⟩) 4 4:=⟨_,rfl⟩
  rw [<- n9] at hz ⊢;have k3:=fun (_:aF D 3 3=true)=>(⟨rfl,hz⟩:v2=v2/\RdSl SM 4 (RdT SM) v2 (slL 4 fun _=>none))
  have k2:aF D 3 2=true->nH=v1/\RdSl SM 4 (RdT SM) v1 (slL M fun _=>none):=fun h=>⟨(k2 h).1,(k2 h).2.monoT d6.1⟩
  have k4:aF D 3 4=true->aF D 3 2=true/\aF D 3 3=true/\kI=.agg #[v1,v2,ee 0,ee 0,.bool true]:=fun h=>by rw [show D 4=true from h] at f4;cases f4
  have k6:aF D 3 6=true->aF D 3 5=true/\aF D 3 4=true:=fun h=>by rw [show D 6=true from h] at f6;cases f6
  rw [f6] at B;have B:Inv w [] ([ei Y eu ad,ei b8 eu ad]++cond (D 5) [ei O (cond (D 6) #[v1,v2,ee 0,ee 0,.bool true] iM) al] []) SM w_:=by rw [f6];exact B
  obtain ⟨SN,h3⟩:∃ SN,SN=SM:=⟨_,rfl⟩
  subst h3;exact ⟨J.set 3 (by first|assumption|trivial),⟨SN,O,v1,v2,hN,k2,k3,k4,k5,k6,B⟩⟩
 ·have Vf:=cG ‹_›;have OA:=cD ‹_›;obtain ⟨e2,e8⟩:=k2 ‹D 2=true›;obtain ⟨e3,g2⟩:=k3 ‹D 3=true›;obtain ⟨a1,c1,h5,_⟩:=id e8;obtain ⟨a2,c2,h6,_⟩:=id g2;have hb:∀ (K:Value->World->Prop) (w1:World),K (.agg #[v1,v2,ee 0,ee 0,.bool true]) w1->Run Tryz.prog (cr al [(0,nH),(1,mx),(4,.bool true)]) w1 K:=fun K w1 hK=>by rw [e2,e3];rw [h5,h6] at hK ⊢;exact Qa hK
  refine hb _ _ ?_;have k4:=fun (_:aF D 4 4=true)=>(⟨‹D 2=true›,‹D 3=true›,rfl⟩:D 2=true/\D 3=true/\Value.agg #[v1,v2,ee 0,ee 0,.bool true]=.agg #[v1,v2,ee 0,ee 0,.bool true])
  have k6:aF D 4 6=true->aF D 4 5=true/\aF D 4 4=true:=fun h=>⟨(k6 h).1,rfl⟩
  exact ⟨J.set 4 (by first|assumption|trivial),⟨SN,O,v1,v2,hN,k2,k3,k4,k5,k6,B⟩⟩
 ·have f6:D 6=false:=bA.2 fun h=>by rw [(k6 h).1] at bp;cases bp
  rw [bp] at B;refine aE B fo fun O w_ B=>?_;have k5:=fun (_:aF D 5 5=true)=>(rfl:Value.pointer (some ⟨O,0,none⟩)=_)
  have k6:aF D 5 6=true->aF D 5 5=true/\aF D 5 4=true:=fun h=>by rw [show D 6=true from h] at f6;cases f6
  have B:Inv w [] ([ei Y eu ad,ei b8 eu ad]++[ei O (cond (D 6) #[v1,v2,ee 0,ee 0,.bool true] iM) al]) SN w_:=by rw [f6];exact B
  exact ⟨J.set 5 (by first|assumption|trivial),⟨SN,O,v1,v2,hN,k2,k3,k4,k5,k6,B⟩⟩
 ·have zM:=cH ‹_›;have Dr:=bU ‹_›;have e5:=k5 ‹D 5=true›;have e4:=(k4 ‹D 4=true›).2.2;obtain ⟨_,e8⟩:=k2 (k4 ‹D 4=true›).1;obtain ⟨_,g2⟩:=k3 (k4 ‹D 4=true›).2.1;obtain ⟨a1,c1,h5,_⟩:=id e8;obtain ⟨a2,c2,h6,_⟩:=id g2;rw [e5,e4];rw [‹D 5=true›,bp] at B;refine aj B 2 rfl aS rfl rfl (by simp [Value.oneCell',h5,h6]) fun w_ B=>?_;rw [<- e5,<- e4];have k6:=fun (_:aF D 6 6=true)=>(⟨‹D 5=true›,‹D 4=true›⟩:D 5=true/\D 4=true)
  have B:Inv w [] ([ei Y eu ad,ei b8 eu ad]++cond (D 5) [ei O #[v1,v2,ee 0,ee 0,.bool true] al] []) SN w_:=by rw [‹D 5=true›];exact B
  exact ⟨J.set 6 trivial,⟨SN,O,v1,v2,hN,k2,k3,k4,k5,k6,B⟩⟩
 obtain ⟨Tn,rfl,Vf,OA,Dr,zM,_,_⟩:=J.all;have Yd:D 2=true:=by assumption
 have ZI:D 3=true:=by assumption
 have UE:D 5=true:=by assumption
 have F5:D 6=true:=by assumption
 clear J cF ci cG cD bU cH cj;obtain ⟨_,e8⟩:=k2 Yd;obtain ⟨_,g2⟩:=k3 ZI;have e5:=k5 UE;subst e5;rw [UE,F5] at B;have B:Inv w [] [ei Y eu ad,ei b8 eu ad,ei O #[v1,v2,ee 0,ee 0,.bool true] al] SN w_:=B;obtain ⟨a1,c1,h5,_⟩:=id e8;obtain ⟨a2,c2,h6,_⟩:=id g2;have t0:=d9.trans hN;refine ah B 2 rfl gc aw rfl ?_;refine aO e8 ao ?_;rw [iv];refine bL (by omega) ?_;rw [show (M:Int)+1=((M+1:Nat):Int) by omega];refine qB (n:=M+1) B bi (by omega) (by omega) (by omega) fun kb w' B=>?_;have p5:=Ys _ rfl SN (M+1);refine tV ?_;refine eO B bi (by simp [Value.cells]) (by omega) (by omega) fun bl w' B=>?_;have B:=B.rowNil ac 4;obtain ⟨kc,o0⟩:∃ kc,kc=(Array.range ((M+1) * 4)).map ((et:Array Value)[· % (et:Array Value).size]!):=⟨_,rfl⟩
 rw [<- o0] at p5;have t1:RdR SN M (gh (M+1) 0) 0 true [v1,v2,ee 0,ee 0,.bool true]:=⟨v1,v2,rfl,by rw [show (gh (M+1) 0).sl=fun _=>none from Gr];exact e8,g2⟩
 have B:Inv w [] [ei Y eu ad,ei b8 eu ad,ei O #[v1,v2,ee 0,ee 0,.bool true] al,ei kb kc ac,ei bl #[ee 3,ee 0,.string nm,nx] ac,aB (nx) ac 4 []] SN w':=by rw [o0];exact B
 refine ⟨fun i w'=>∃ (j:Nat) (css:List (nA)) (kv:Value) (c4:nA) (S2:ai),j<=k/\i=ee j/\Ext w.heap.size [] S S2/\Sle SN S2/\RdR S2 M (gh (M+1) j) 0 true c4/\Rows 4 (RdT S2) css ((List.range j).map dx)/\Inv w [] [ei Y eu ad,ei b8 eu ad,ei O c4.toArray al,ei kb kc ac,ei bl #[ee 3,ee 0,.string nm,kv] ac,aB kv ac 4 css] S2 w',fun i _=>k - (intOf i).toNat,
  ⟨0,[],_,_,SN,aT _,rfl,t0,Sle.refl _,t1,Rows.nil _ _,B⟩,?_⟩
 clear B;intro i _ _ x5 x6 x7 x8 y0 y1 y2 y3 y4 y5 y6 _ _ _ _ _ _ _ _ _ _ _ _ w';rintro ⟨j,css,kv,c4,S2,hj,rfl,m9,j1,g1,hR,B⟩;have p6:=g1.length;have g5:=hR.hc;rw [ro,List.length_range] at g5;refine cd ?_;refine aJ (fun r5=>?_) (fun r5=>?_)
 ·have t2:=wi (M:=M) (n:=j) (by omega) i7;refine aq B 2 aS rfl (by simpa using p6) ?_;refine Run.call0E jL jH B (iT hM t2 g1) fun v' I' S3 w'=>?_;rintro ⟨rfl,a4,ct,rfl,e0,b3⟩ d3 B;have j8:bG M (gh (M+1) j) (j:Int)=(gh (M+1) (j+1),dx j,true):=by
   rw [Ai (show dO j (j:Int)=none by rw [dO,ae (by omega)]) (by omega)];show (RI.mk (upS (dO j) (j:Int) (dx j)) _ (j+1) _,dx j,true)=_;rw [A7];rfl
  rw [j8] at e0 b3;have e0:RdR S3 M (gh (M+1) (j+1)) 0 true a4:=e0;have b3:RdT S3 ct (dx j):=b3;have m2:=e0.length;have f0:=b3.length;refine aA (v:=.agg a4.toArray) rfl ?_;refine aA (v:=.agg ct.toArray) rfl ?_;refine aE B fo fun d0 w' B=>?_;refine aE B aQ fun d1 w' B=>?_;refine aj B 6 rfl aS (by simpa using m2) rfl (by simpa using e0.one) fun w' B=>?_;refine aj B 7 rfl af (by simpa using f0) rfl (by simpa using b3.one) fun w' B=>?_;refine aq B 6 aS rfl (by simpa using m2) ?_;refine aj B 2 rfl aS (by simpa using m2) (by simpa using p6) (by simpa using e0.one) fun w' B=>?_;have B:Inv w [] [ei Y eu ad,ei b8 eu ad,ei O a4.toArray al,ei kb kc ac,ei bl #[ee 3,ee 0,.string nm,kv] ac,aB kv ac 4 css,ei d0 a4.toArray al,ei d1 ct.toArray ac] S3 w':=B;obtain ⟨ka,s3,e9⟩:=B.rowLen (i:=5) rfl;refine ⟨fun D Vl Uy To SE TQ TM Tq OB NO CW Cf w_=>Fx D 0 [Cf=kt bl 0 1 1,CW=kh bl (0+0 * 4),NO=kh bl (0+0 * 4+3),OB=kv,Tq=.agg ct.toArray,TM=ee (j:Int),True,True,True,True,Uy=kh bl (0+0 * 4),Vl=kh bl (0+0 * 4+3),True]/\∃ g v7 c7,(D 6=true->TQ=kt g 0 1 1)/\(D 7=true->D 6=true/\D 3=true/\SE=kt v7 0 (css++[jk]).length c7)/\(D 8=true->D 7=true/\To=kh v7 (0+j * 4))/\(D 9=true->D 7=true)/\(D 12=true->D 7=true)/\Inv w [] ([ei Y eu ad,ei b8 eu ad,ei O a4.toArray al,ei kb kc ac,ei bl #[ee 3,ee 0,.string nm,cond (D 12) (kt v7 0 (css++[jk]).length c7) kv] ac,cond (D 7) (aB (kt v7 0 (css++[jk]).length c7) ac 4 (cond (D 9) ((css++[jk]).set j ct) (css++[jk]))) (aB kv ac 4 css),ei d0 a4.toArray al,ei d1 ct.toArray ac]++cond (D 6 && !(D 7)) [ei g AE ac] []) S3 w_,⟨Fx.nil _ _,⟨0,0,0,aU,aU,aU,aU,aU,B.draw⟩⟩,⟨?_,?_,?_,?_,?_,?_,?_,?_,?_,?_,?_,?_,?_,trivial⟩,?_⟩;all_goals (intro D bp;intros;rename_i Vl Uy To SE TQ TM Tq OB NO CW Cf w_ b7;have J:=b7.1;obtain ⟨⟨cF,ci,cG,cD,bU,cH,cj,cR,dJ,dQ,cJ,dv,eG,_⟩,⟨g,v7,c7,k6,k7,k8,k9,N,B⟩⟩:=b7)
  ·exact ⟨J.set 0 rfl,⟨g,v7,c7,k6,k7,k8,k9,N,B⟩⟩
  ·obtain rfl:=cF ‹_›;refine aN (i:=0) ao (by omega) ?_;exact ⟨J.set 1 rfl,⟨g,v7,c7,k6,k7,k8,k9,N,B⟩⟩
  ·obtain rfl:=ci ‹_›;refine ax az ?_;exact ⟨J.set 2 rfl,⟨g,v7,c7,k6,k7,k8,k9,N,B⟩⟩
  ·obtain rfl:=cG ‹_›;have f7:D 7=false:=bA.2 fun h=>by rw [(k7 h).2.1] at bp;cases bp
   have b1:D 12=false:=bA.2 fun h=>by rw [N h] at f7;cases f7
   have hJ:=B;rw [f7,b1] at hJ;refine aG hJ 4 aw rfl rfl ?_;have k7:aF D 3 7=true->aF D 3 6=true/\aF D 3 3=true/\SE=kt v7 0 (css++[jk]).length c7:=fun h=>by rw [show D 7=true from h] at f7;cases f7
   exact ⟨J.set 3 (by first|assumption|trivial),⟨g,v7,c7,k6,k7,k8,k9,N,B⟩⟩
  ·refine aq B 7 af rfl (by simpa using f0) ?_;exact ⟨J.set 4 rfl,⟨g,v7,c7,k6,k7,k8,k9,N,B⟩⟩
  ·have OA:=cD ‹_›;have t3:OB=.slice ka css.length s3:=OA.trans e9;have t4:∀ (K:Value->World->Prop) (w1:World),K (ee (j:Int)) w1->Run Tryz.prog (co .len #[jY] bV [false] [OB]) w1 K:=fun K w1 hK=>by rw [t3];refine iP ao ?_;rw [g5];exact hK
   refine t4 _ _ ?_;exact ⟨J.set 5 rfl,⟨g,v7,c7,k6,k7,k8,k9,N,B⟩⟩
  ·have f7:D 7=false:=bA.2 fun h=>by rw [(k7 h).1] at bp;cases bp
   have b1:D 12=false:=bA.2 fun h=>by rw [N h] at f7;cases f7
   rw [bp,f7,b1] at B;have B:Inv w [] [ei Y eu ad,ei b8 eu ad,ei O a4.toArray al,ei kb kc ac,ei bl #[ee 3,ee 0,.string nm,kv] ac,aB kv ac 4 css,ei d0 a4.toArray al,ei d1 ct.toArray ac] S3 w_:=B;refine eO B bi (by simp [Value.cells]) (by omega) (by omega) fun g w_ B=>?_;have k6:=fun (_:aF D 6 6=true)=>(rfl:Value.slice (some ⟨g,0,none⟩) 1 1=kt g 0 1 1)
   have k7:aF D 6 7=true->aF D 6 6=true/\aF D 6 3=true/\SE=kt v7 0 (css++[jk]).length c7:=fun h=>by rw [show D 7=true from h] at f7;cases f7
   have B:Inv w [] ([ei Y eu ad,ei b8 eu ad,ei O a4.toArray al,ei kb kc ac,ei bl #[ee 3,ee 0,.string nm,cond (D 12) (kt v7 0 (css++[jk]).length c7) kv] ac,cond (D 7) (aB (kt v7 0 (css++[jk]).length c7) ac 4 (cond (D 9) ((css++[jk]).set j ct) (css++[jk]))) (aB kv ac 4 css),ei d0 a4.toArray al,ei d1 ct.toArray ac]++cond (true && !(D 7)) [ei g AE ac] []) S3 w_:=by rw [f7,b1];exact B
   exact ⟨J.set 6 (by first|assumption|trivial),⟨g,v7,c7,k6,k7,k8,k9,N,B⟩⟩
  ·have OA:=cD ‹_›;have vV:=cj ‹_›;have f8:D 8=false:=bA.2 fun h=>by rw [(k8 h).1] at bp;cases bp
   have f9:D 9=false:=bA.2 fun h=>by rw [k9 h] at bp;cases bp
   have b1:D 12=false:=bA.2 fun h=>by rw [N h] at bp;cases bp
   rw [bp,‹D 6=true›,b1] at B;have B:Inv w [] ([ei Y eu ad,ei b8 eu ad,ei O a4.toArray al,ei kb kc ac,ei bl #[ee 3,ee 0,.string nm,kv] ac,aB kv ac 4 css,ei d0 a4.toArray al,ei d1 ct.toArray ac]++[ei g AE ac]) S3 w_:=B;have p7:=k6 ‹D 6=true›;rw [p7];refine fl B 5 (k:=4) (o:=0) (m:=1) (n:=css.length) (xs:=css.flatten) jk bi (by omega) (by rw [OA];rfl) rfl (fun i u hi=>by rw [B.cellL (i:=8) rfl,cS];simpa using hi) jh (by omega) (by omega) fun vn w_ B=>?_;rw [<- p7];have e:Item.row vn ac 4 (css.length+1) (css.flatten++jk)=aB vn ac 4 (css++[jk]):=fO ..;have B:=B.pick [true,true,true,true,true,true,true,true,false];have B:Inv w [] [ei Y eu ad,ei b8 eu ad,ei O a4.toArray al,ei kb kc ac,ei bl #[ee 3,ee 0,.string nm,kv] ac,Item.row vn ac 4 (css.length+1) (css.flatten++jk),ei d0 a4.toArray al,ei d1 ct.toArray ac] S3 w_:=B;rw [e] at B;obtain ⟨v7,c7,ev⟩:=B.rowShape (i:=5) rfl (by simp);subst ev;have k7:=fun (_:aF D 7 7=true)=>(⟨‹D 6=true›,‹D 3=true›,rfl⟩:D 6=true/\D 3=true/\Value.slice (some ⟨v7,0,none⟩) (css++[jk]).length c7=Value.slice (some ⟨v7,0,none⟩) (css++[jk]).length c7)
   have k8:aF D 7 8=true->aF D 7 7=true/\To=kh v7 (0+j * 4):=fun h=>by rw [show D 8=true from h] at f8;cases f8
   have k9:aF D 7 9=true->aF D 7 7=true:=fun _=>rfl;have N:aF D 7 12=true->aF D 7 7=true:=fun _=>rfl;have B:Inv w [] ([ei Y eu ad,ei b8 eu ad,ei O a4.toArray al,ei kb kc ac,ei bl #[ee 3,ee 0,.string nm,cond (D 12) (kt v7 0 (css++[jk]).length c7) kv] ac,cond true (aB (kt v7 0 (css++[jk]).length c7) ac 4 (cond (D 9) ((css++[jk]).set j ct) (css++[jk]))) (aB kv ac 4 css),ei d0 a4.toArray al,ei d1 ct.toArray ac]++cond (D 6 && !true) [ei g AE ac] []) S3 w_:=by rw [f9,b1,‹D 6=true›];exact B
   exact ⟨J.set 7 (by first|assumption|trivial),⟨g,v7,c7,k6,k7,k8,k9,N,B⟩⟩
  ·have Ch:=cR ‹_›;obtain rfl:=cH ‹_›;have h7:=(k7 ‹D 7=true›).2.2;rw [h7];refine aN (i:=j) ao (by rw [bt,lG];omega) ?_;rw [<- h7];have k8:=fun (_:aF D 8 8=true)=>(⟨‹D 7=true›,rfl⟩:D 7=true/\Value.pointer (some ⟨v7,0+j * 4,none⟩)=kh v7 (0+j * 4))
   exact ⟨J.set 8 (by first|assumption|trivial),⟨g,v7,c7,k6,k7,k8,k9,N,B⟩⟩
  ·have z4:=dJ ‹_›;obtain rfl:=bU ‹_›;have p8:=(k8 ‹D 8=true›).2;have i8:=(k8 ‹D 8=true›).1;have h8:=(k7 i8).1;rw [p8];rw [i8,bp,h8] at B;refine s9 B 5 (css:=css++[jk]) rfl af (by rw [bt,lG];omega) (cS _) (fun cs d4=>by rcases cU.1 d4 with d4|d4;exact hR.hk cs d4;rw [bM.1 d4];rfl) (ds:=ct) (by simp [Value.cells]) f0 b3.one fun w_ B=>?_;rw [<- p8];have k9:=fun (_:aF D 9 9=true)=>i8;have B:Inv w [] ([ei Y eu ad,ei b8 eu ad,ei O a4.toArray al,ei kb kc ac,ei bl #[ee 3,ee 0,.string nm,cond (D 12) (kt v7 0 (css++[jk]).length c7) kv] ac,cond (D 7) (aB (kt v7 0 (css++[jk]).length c7) ac 4 (cond true ((css++[jk]).set j ct) (css++[jk]))) (aB kv ac 4 css),ei d0 a4.toArray al,ei d1 ct.toArray ac]++cond (D 6 && !(D 7)) [ei g AE ac] []) S3 w_:=by rw [i8,h8];exact B
   exact ⟨J.set 9 trivial,⟨g,v7,c7,k6,k7,k8,k9,N,B⟩⟩
  ·obtain rfl:=cF ‹_›;refine aN (i:=0) ao (by omega) ?_;exact ⟨J.set 10 rfl,⟨g,v7,c7,k6,k7,k8,k9,N,B⟩⟩
  ·obtain rfl:=cJ ‹_›;refine ax az ?_;exact ⟨J.set 11 rfl,⟨g,v7,c7,k6,k7,k8,k9,N,B⟩⟩
  ·obtain rfl:=dv ‹_›;have Ch:=cR ‹_›;have h7:=(k7 ‹D 7=true›).2.2;have h8:=(k7 ‹D 7=true›).1;rw [h7];rw [‹D 7=true›,bp,h8] at B;refine eV B 4 (n:=1) rfl (by decide +kernel) rfl (by simp) (by simp [Value.cells,Value.oneCell']) fun w_ B=>?_;rw [<- h7];have N:=fun (_:aF D 12 12=true)=>‹D 7=true›;have B:Inv w [] ([ei Y eu ad,ei b8 eu ad,ei O a4.toArray al,ei kb kc ac,ei bl #[ee 3,ee 0,.string nm,cond true (kt v7 0 (css++[jk]).length c7) kv] ac,cond (D 7) (aB (kt v7 0 (css++[jk]).length c7) ac 4 (cond (D 9) ((css++[jk]).set j ct) (css++[jk]))) (aB kv ac 4 css),ei d0 a4.toArray al,ei d1 ct.toArray ac]++cond (D 6 && !(D 7)) [ei g AE ac] []) S3 w_:=by rw [‹D 7=true›,h8];exact B
   exact ⟨J.set 12 trivial,⟨g,v7,c7,k6,k7,k8,k9,N,B⟩⟩
  obtain ⟨rfl,rfl,rfl,OA,rfl,rfl,vV,Ch,z4,_,rfl,rfl,_,_⟩:=J.all;have F5:D 6=true:=by assumption
  have nI:D 7=true:=by assumption
  have Jw:D 9=true:=by assumption
  have r4:D 12=true:=by assumption
  clear J cF ci cG cD bU cH cj cR dJ dQ cJ dv eG;rw [F5,nI,Jw,r4] at B;have p9:(css++[jk]).set j ct=css++[ct]:=by rw [<- g5,z0 _ _ (aY _),fB];rfl
  rw [p9] at B;refine bL (by omega) ?_;refine ⟨⟨j+1,css++[ct],kt v7 0 (css++[jk]).length c7,a4,S3,by omega,rfl,m9.trans d3,j1.trans d3.1,e0,by rw [DT];exact (hR.monoR fun _ _=>RdT.mono d3.1).snoc b3 f0,?_⟩,by simp only [intOf,dH];omega⟩;exact B.pick [true,true,true,true,true,true,false,false]
 have t5:j=k:=by omega
 subst t5;have B:Inv w [] ([ei Y eu ad,ei b8 eu ad,ei O c4.toArray al,ei kb kc ac,ei bl #[ee 3,ee 0,.string nm,kv] ac]++[aB kv ac 4 css]) S2 _:=B;obtain ⟨S3,d3,j3,B⟩:=B.lendExt;have b5:=RowRd.rows (hR.monoR fun _ _ h=>h.mono d3.1) j3;have q0:RdT S3 [ee 3,ee 0,.string nm,kv] (eI nm j):=by
  obtain ⟨ka,s4,s5,_⟩:=id b5;have b5:=b5;rw [s5] at b5 ⊢;exact wn b5 (by simp only [maxLen];omega)
 have g1:=g1.mono d3.1;have q2:KnU S3 kc (List.replicate (M+1) none):=p5.mono (j1.trans d3.1);have B:=Inv.closeRow (A:=[_,_,_,_]) (cap:=1) (k:=4) (n:=1) B (by omega) (by simp [maxLen]) (by simp);have B:Inv w [] [ei Y eu ad,ei b8 eu ad,ei O c4.toArray al,ei kb kc ac,aB (kt bl 0 1 1) ac 4 [[ee 3,ee 0,.string nm,kv]]] S3 _:=B;have t6:=m9.trans d3;clear hR j3 b5;obtain ⟨R,o6⟩:∃ R,R=readS M (code.length+1) (gh (M+1) j) code []:=⟨_,rfl⟩
 rw [<- o6] at b4;refine ⟨fun lv w'=>∃ (s:RI) (p:Nat) (ok:Bool) (out:List T) (css:List (nA)) (c4:nA) (kc:Array Value) (S4:ai),p<=code.length/\Ext w.heap.size [] S S4/\RdR S4 M s p ok c4/\KnU S4 kc s.st/\Rows 4 (RdT S4) css (eI nm j::out)/\css.length<=p+1/\
   (ok=true->g9 M s/\(∀ t∈out,gz s.fr t)/\readS M (code.length+1 - p) s (code.drop p) out=R)/\(ok=false->R=none)/\Inv w [] [ei Y eu ad,ei b8 eu ad,ei O c4.toArray al,ei kb kc ac,aB lv ac 4 css] S4 w',
  fun _ w'=>code.length - atN w' O,⟨gh (M+1) j,0,true,[],_,c4,kc,S3,aT _,t6,g1,q2,Rows.one q0 rfl,aY _,fun _=>⟨wi (by omega) i7,fun t ht=>(by cases ht),by rw [Je,fe];exact o6.symm⟩,fun h=>(by cases h),B⟩,?_⟩
 clear B q2 q0 g1;intro _ _ _ _ _ y7 u6 u7 u8 u9 v3 v4 v6 v8 v9 x0 x1 x2 _ _ _ _ _ _ _ _ _ _ _ _ a3 _ _ _ _ _ _ _ _ _ _ _ _ _ _ _ _ _ _ _ _ _ _ _ _ _ _ _ _ _ _ _ _ _ _ _ _ w';rintro ⟨s,p,ok,out,css,c4,kc,S4,hp,c6,hr,g7,hR,d4,k0,r1,B⟩;obtain ⟨v1,v2,rfl,o7,l6⟩:=id hr;obtain ⟨a1,c1,h5,_⟩:=id o7;obtain ⟨a2,c2,h6,_⟩:=id l6;have h4:=h.monoK c6.1;have h9:=EW B (i:=2) rfl (p:=p) rfl;refine ⟨fun z w'=>z=.bool (decide (ok=true/\p<code.length))/\atN w' O=p/\Inv w [] [ei Y eu ad,ei b8 eu ad,ei O #[v1,v2,ee (s.fr:Int),ee (p:Int),.bool ok] al,ei kb kc ac,aB a3 ac 4 css] S4 w',?_,?_⟩
 ·refine ah B 2 rfl di ir rfl ?_;cases ok with
  | true=>
   refine rpG ?_;refine ah B 2 rfl fm au rfl ?_;refine aO h4 bx ?_;refine cd ?_;refine rpG ?_;refine ⟨?_,h9,B⟩
   congr 1
   exact cW.2 ⟨fun e=>⟨rfl,by omega⟩,fun e=>by have:=e.2;omega⟩
  | false=>
   refine rpG ?_;exact ⟨by rw [aM (fun e=>by cases e.1)],h9,B⟩
 clear B;intro z _ _ _ _ _ _ _ _ w';rintro ⟨rfl,x3,B⟩;refine aJ (fun n3=>?_) (fun l1=>?_)
 ·obtain ⟨g3,l7⟩:=n3;subst g3;obtain ⟨hs,g4,a0⟩:=k0 rfl;have m3:=g8 _ (cO l7);obtain ⟨F,hF⟩:∃ F,code.length+1 - p=F+1:=⟨code.length - p,by omega⟩
  obtain ⟨x,hx⟩:∃ x,x=code[p]:=⟨_,rfl⟩
  rw [hF,ef l7,<- hx,readS] at a0;rw [<- hx] at m3;have m4:code.length+1 - (p+1)=F:=by omega
  have m5:=m3.size;refine ah B 2 rfl fm au rfl ?_;refine dj B h4 bx dF l7 Jj fun r7 n4=>?_;rw [show r7=code[p].cells from n4,<- hx];refine aE B tO fun b0 w' B=>?_;refine aj B 5 rfl dF rfl rfl (KD x) fun w' B=>?_;refine ah B 2 rfl fm au rfl ?_;refine bL (by omega) ?_;refine cq B 2 rfl fm au rfl rfl rfl fun w' B=>?_;have B:Inv w [] [ei Y eu ad,ei b8 eu ad,ei O #[v1,v2,ee (s.fr:Int),ee ((p+1:Nat):Int),.bool true] al,ei kb kc ac,aB a3 ac 4 css,ei b0 #[ee x.op,ee x.a,ee x.b,.string x.name] ay] S4 w':=B;have j0:RdR S4 M s (p+1) true [v1,v2,ee (s.fr:Int),ee ((p+1:Nat):Int),.bool true]:=⟨v1,v2,rfl,o7,l6⟩
  refine ah B 5 rfl ew au rfl ?_;refine a9 ?_;refine aJ (fun l2=>?_) (fun l2=>?_)
  ·rw [ag l2] at a0;refine ah B 2 rfl fm au rfl ?_;refine aO h4 bx ?_;refine jN ?_;by_cases he:p+1=code.length
   ·rw [aD (show ((p+1:Nat):Int)=(code.length:Int) by omega)];refine aL (fun hb=>by cases hb) (fun _=>?_);have hd:code.drop (p+1)=[]:=uY (by omega);rw [ag hd] at a0;have i0:=EW B (i:=2) rfl (p:=p+1) rfl;refine ⟨⟨s,p+1,true,out,css,_,kc,S4,by omega,c6,j0,g7,hR,by omega,fun _=>⟨hs,g4,?_⟩,fun e=>(by cases e),B.pick [true,true,true,true,true,false]⟩,by show code.length - atN _ O<code.length - atN _ O;omega⟩;rw [m4,hd,<- a0];obtain ⟨G,rfl⟩:∃ G,F=G+1:=⟨F - 1,by omega⟩
    rw [readS]
   ·rw [aM (show ¬ ((p+1:Nat):Int)=(code.length:Int) by omega)];refine aL (fun _=>?_) (fun hb=>by cases hb);rw [ae (fun e=>he (by have:=congrArg List.length e;rw [mj] at this;simp at this;omega))] at a0;exact c5 _ S4 _ (by rw [b4,<- a0];rfl) c6 B
  rw [ae l2] at a0;refine a9 ?_;refine aJ (fun l3=>?_) (fun l3=>?_)
  ·rw [ag l3] at a0;refine Run.call0E dl dr B (eF ⟨#[33]⟩ (by decide) (ll S4) (by simp)) fun v' I' S5 w'=>?_;rintro ⟨rfl,ct,rfl,b3⟩ c3 B;have f0:=b3.length;refine dB B 4 ct bi (by omega) (by omega) rfl f0 b3.one (by omega) (by omega) fun r8 w' B=>?_;have B:Inv w [] [ei Y eu ad,ei b8 eu ad,ei O #[v1,v2,ee (s.fr:Int),ee ((p+1:Nat):Int),.bool true] al,ei kb kc ac,aB r8 ac 4 (css++[ct])] S5 w':=B.pick [true,true,true,true,true,false,false];have i0:=EW B (i:=2) rfl (p:=p+1) rfl;refine ⟨⟨s,p+1,true,out++[oG],css++[ct],_,kc,S5,by omega,c6.trans c3,j0.mono c3.1,g7.mono c3.1,?_,by rw [bt,lG];omega,fun _=>⟨hs,fun t ht=>?_,by rw [m4];exact a0⟩,fun e=>(by cases e),B⟩,by show code.length - atN _ O<code.length - atN _ O;omega⟩
   ·rw [<- dg];exact (hR.monoR fun _ _=>RdT.mono c3.1).snoc b3 f0
   ·rcases cU.1 ht with ht|ht
    ·exact g4 t ht
    ·rw [bM.1 ht];exact ⟨⟨#[33]⟩,[],rfl,by decide,by decide,fun k hk=>(by cases hk)⟩
  rw [ae l3] at a0;refine ⟨fun z w'=>z=.bool (decide (x.op=11 ∨ x.op=12))/\Inv w [] [ei Y eu ad,ei b8 eu ad,ei O #[v1,v2,ee (s.fr:Int),ee ((p+1:Nat):Int),.bool true] al,ei kb kc ac,aB a3 ac 4 css,ei b0 #[ee x.op,ee x.a,ee x.b,.string x.name] ay] S4 w',?_,?_⟩
  ·refine a9 ?_;refine aJ (fun _=>⟨by congr 1;exact cW.2 (by omega),B⟩) (fun _=>?_);refine a9 ?_;exact ⟨by congr 1;exact cW.2 (by omega),B⟩
  intro _ z _ w';rintro ⟨rfl,B⟩;refine aJ (fun l4=>?_) (fun l4=>?_)
  ·rw [ag l4] at a0;refine ⟨fun z w'=>z=.bool (decide (x.a<0 ∨ 4<x.a))/\Inv w [] [ei Y eu ad,ei b8 eu ad,ei O #[v1,v2,ee (s.fr:Int),ee ((p+1:Nat):Int),.bool true] al,ei kb kc ac,aB a3 ac 4 css,ei b0 #[ee x.op,ee x.a,ee x.b,.string x.name] ay] S4 w',?_,?_⟩
   ·refine ah B 5 rfl bZ au rfl ?_;refine cd ?_;by_cases e1:x.a<0
    ·rw [aD e1];refine rpG ?_;exact ⟨by rw [aD (Or.inl e1)],B⟩
    ·rw [aM e1];refine rpG ?_;refine ah B 5 rfl bZ au rfl ?_;refine fL ?_;refine rpG ?_;exact ⟨by congr 1;exact cW.2 (by omega),B⟩
   intro z _ _ _ _ _ _ _ w';rintro ⟨rfl,B⟩;refine aJ (fun j2=>?_) (fun x4=>?_)
   ·rw [ae (by omega)] at a0;exact c5 _ S4 _ (by rw [b4,<- a0];rfl) c6 B
   rw [ag (by omega)] at a0;have t7:x.a=(x.a.toNat:Int):=by omega
   have t8:(slL 4 s.ar).take x.a.toNat=sH s.ar x.a.toNat:=Uz (by omega);refine ⟨fun D my Ml P3 Qz lx YW UH TS Sc TF KL UQ Uc SI w_=>Fx D 0 [SI=a3,Uc=kh b0 (0+3),UQ=.string x.name,True,TF=kh O (0+1),Sc=v2,TS=kh b0 (0+1),UH=ee ((x.a.toNat:Nat):Int),RdSl S4 4 (RdT S4) YW (sH s.ar x.a.toNat),True,True,True,True,True]/\∃ SN g V,Ext w.heap.size [] S4 SN/\(D 9=true->D 3=true/\RdSl SN 4 (RdT SN) lx (sH s.ar x.a.toNat))/\(D 10=true->D 9=true/\Qz=.agg #[ee 3,ee 0,.string x.name,lx])/\(D 11=true->D 10=true/\P3=kt g 0 1 1)/\(D 12=true->D 11=true/\Ml=V)/\(D 13=true->D 12=true/\D 0=true/\my=V)/\(D 13=false->my=a3)/\Inv w [] ([ei Y eu ad,ei b8 eu ad,ei O #[v1,v2,ee (s.fr:Int),ee ((p+1:Nat):Int),.bool true] al,ei kb kc ac,aB (cond (D 12) V a3) ac 4 (cond (D 12) (css++[[ee 3,ee 0,.string x.name,lx]]) css),ei b0 #[ee x.op,ee x.a,ee x.b,.string x.name] ay]++(cond (D 3 && !(D 9)) [aB KL ac 4 []] []++cond (D 11) [ei g #[ee 3,ee 0,.string x.name,lx] ac] [])) SN w_,⟨Fx.nil _ _,⟨S4,0,undef,Ext.refl _ _ _,aU,aU,aU,aU,aU,fun _=>rfl,B.draw⟩⟩,⟨?_,?_,?_,?_,?_,?_,?_,?_,?_,?_,?_,?_,?_,?_,trivial⟩,?_⟩;all_goals (intro D bp;intros;rename_i my Ml P3 Qz lx YW UH TS Sc TF KL UQ Uc SI w_ b7;have J:=b7.1;obtain ⟨⟨cF,ci,cG,cD,bU,cH,cj,cR,dJ,dQ,cJ,dv,eG,gL,_⟩,⟨SN,g,V,hN,k9,a5,a6,N,a7,kf,B⟩⟩:=b7)
   ·have g6:D 13=false:=bA.2 fun h=>by rw [(a7 h).2.1] at bp;cases bp
    have q3:=kf g6;have a7:aF D 0 13=true->aF D 0 12=true/\aF D 0 0=true/\my=V:=fun h=>by rw [show D 13=true from h] at g6;cases g6
    exact ⟨J.set 0 (by first|assumption|trivial),⟨SN,g,V,hN,k9,a5,a6,N,a7,kf,B⟩⟩
   ·refine ax fu ?_;exact ⟨J.set 1 rfl,⟨SN,g,V,hN,k9,a5,a6,N,a7,kf,B⟩⟩
   ·obtain rfl:=ci ‹_›;refine aG B 5 aV rfl rfl ?_;exact ⟨J.set 2 rfl,⟨SN,g,V,hN,k9,a5,a6,N,a7,kf,B⟩⟩
   ·have f9:D 9=false:=bA.2 fun h=>by rw [(k9 h).1] at bp;cases bp
    have f5:D 10=false:=bA.2 fun h=>by rw [(a5 h).1] at f9;cases f9
    have d2:D 11=false:=bA.2 fun h=>by rw [(a6 h).1] at f5;cases f5
    have b1:D 12=false:=bA.2 fun h=>by rw [(N h).1] at d2;cases d2
    rw [bp,f9,d2,b1] at B;refine eZ B bi fun ve w_ B=>?_;have k9:aF D 3 9=true->aF D 3 3=true/\RdSl SN 4 (RdT SN) lx (sH s.ar x.a.toNat):=fun h=>by rw [show D 9=true from h] at f9;cases f9
    have B:Inv w [] ([ei Y eu ad,ei b8 eu ad,ei O #[v1,v2,ee (s.fr:Int),ee ((p+1:Nat):Int),.bool true] al,ei kb kc ac,aB (cond (D 12) V a3) ac 4 (cond (D 12) (css++[[ee 3,ee 0,.string x.name,lx]]) css),ei b0 #[ee x.op,ee x.a,ee x.b,.string x.name] ay]++(cond (true && !(D 9)) [aB ve ac 4 []] []++cond (D 11) [ei g #[ee 3,ee 0,.string x.name,lx] ac] [])) SN w_:=by rw [f9,d2,b1];exact B
    exact ⟨J.set 3 (by first|assumption|trivial),⟨SN,g,V,hN,k9,a5,a6,N,a7,kf,B⟩⟩
   ·refine ax iD ?_;exact ⟨J.set 4 rfl,⟨SN,g,V,hN,k9,a5,a6,N,a7,kf,B⟩⟩
   ·obtain rfl:=bU ‹_›;refine aG B 2 aw rfl rfl ?_;exact ⟨J.set 5 (by first|assumption|trivial),⟨SN,g,V,hN,k9,a5,a6,N,a7,kf,B⟩⟩
   ·refine ax bZ ?_;exact ⟨J.set 6 rfl,⟨SN,g,V,hN,k9,a5,a6,N,a7,kf,B⟩⟩
   ·obtain rfl:=cj ‹_›;refine aG (v:=ee ((x.a.toNat:Nat):Int)) B 5 au rfl (by rw [<- t7];rfl) ?_;exact ⟨J.set 7 rfl,⟨SN,g,V,hN,k9,a5,a6,N,a7,kf,B⟩⟩
   ·have zM:=cH ‹_›;obtain rfl:=cR ‹_›;have t9:RdSl S4 4 (RdT S4) Sc (slL 4 s.ar):=by rw [zM];exact l6
    refine Iz ao t9 (by rw [iv];omega) fun v' r9=>?_;rw [t8] at r9;exact ⟨J.set 8 (by first|assumption|trivial),⟨SN,g,V,hN,k9,a5,a6,N,a7,kf,B⟩⟩
   ·have OA:=cD ‹_›;have z4:=dJ ‹_›;have f5:D 10=false:=bA.2 fun h=>by rw [(a5 h).1] at bp;cases bp
    have d2:D 11=false:=bA.2 fun h=>by rw [(a6 h).1] at f5;cases f5
    have b1:D 12=false:=bA.2 fun h=>by rw [(N h).1] at d2;cases d2
    rw [‹D 3=true›,bp,d2,b1] at B;have B:Inv w [] ([ei Y eu ad,ei b8 eu ad,ei O #[v1,v2,ee (s.fr:Int),ee ((p+1:Nat):Int),.bool true] al,ei kb kc ac,aB a3 ac 4 css,ei b0 #[ee x.op,ee x.a,ee x.b,.string x.name] ay]++[aB KL ac 4 []]) SN w_:=B;refine ge B 6 (css:=[]) bi (by omega) rfl (z4.monoT hN.1) (fun _ _=>RdT.length) (fun _ _=>RdT.one) (by rw [sH,ro,List.length_range,ce];omega) (by omega) fun va w_ n5 s0 B=>?_;have B:Inv w [] ([ei Y eu ad,ei b8 eu ad,ei O #[v1,v2,ee (s.fr:Int),ee ((p+1:Nat):Int),.bool true] al,ei kb kc ac,aB a3 ac 4 css,ei b0 #[ee x.op,ee x.a,ee x.b,.string x.name] ay]++[aB va ac 4 n5]) SN w_:=B;obtain ⟨SM,d6,s6,B⟩:=B.lendExt;have b5:=RowRd.rows (s0.monoR fun _ _ h=>h.mono d6.1) s6;have hN:=hN.trans d6;have k9:=fun (_:aF D 9 9=true)=>(⟨‹D 3=true›,b5⟩:D 3=true/\RdSl SM 4 (RdT SM) va (sH s.ar x.a.toNat))
    have a5:aF D 9 10=true->aF D 9 9=true/\Qz=.agg #[ee 3,ee 0,.string x.name,va]:=fun h=>by rw [show D 10=true from h] at f5;cases f5
    have B:Inv w [] ([ei Y eu ad,ei b8 eu ad,ei O #[v1,v2,ee (s.fr:Int),ee ((p+1:Nat):Int),.bool true] al,ei kb kc ac,aB (cond (D 12) V a3) ac 4 (cond (D 12) (css++[[ee 3,ee 0,.string x.name,va]]) css),ei b0 #[ee x.op,ee x.a,ee x.b,.string x.name] ay]++(cond (D 3 && !true) [aB KL ac 4 []] []++cond (D 11) [ei g #[ee 3,ee 0,.string x.name,va] ac] [])) SM w_:=by rw [‹D 3=true›,d2,b1];exact B
    obtain ⟨SN,h3⟩:∃ SN,SN=SM:=⟨_,rfl⟩
    subst h3;exact ⟨J.set 9 (by first|assumption|trivial),⟨SN,g,V,hN,k9,a5,a6,N,a7,kf,B⟩⟩
   ·obtain rfl:=cG ‹_›;have Ds:=dQ ‹_›;obtain ⟨ka,j4,e9,_⟩:=id (k9 ‹D 9=true›).2;have hb:∀ (K:Value->World->Prop) (w1:World),K (.agg #[ee 3,ee 0,.string x.name,lx]) w1->Run Tryz.prog (cr ac [(0,ee 3),(2,.string x.name),(3,lx)]) w1 K:=fun K w1 hK=>lc ⟨_,_,_,e9⟩ hK;refine hb _ _ ?_;have a5:=fun (_:aF D 10 10=true)=>(⟨‹D 9=true›,rfl⟩:D 9=true/\Value.agg #[ee 3,ee 0,.string x.name,lx]=.agg #[ee 3,ee 0,.string x.name,lx])
    have a6:aF D 10 11=true->aF D 10 10=true/\P3=kt g 0 1 1:=fun h=>⟨rfl,(a6 h).2⟩
    exact ⟨J.set 10 (by first|assumption|trivial),⟨SN,g,V,hN,k9,a5,a6,N,a7,kf,B⟩⟩
   ·have xg:=cJ ‹_›;have b1:D 12=false:=bA.2 fun h=>by rw [(N h).1] at bp;cases bp
    have q4:=(a5 ‹D 10=true›).2;have d7:=(a5 ‹D 10=true›).1;have i1:=(k9 d7).1;rw [i1,d7,bp,b1] at B;have B:Inv w [] [ei Y eu ad,ei b8 eu ad,ei O #[v1,v2,ee (s.fr:Int),ee ((p+1:Nat):Int),.bool true] al,ei kb kc ac,aB a3 ac 4 css,ei b0 #[ee x.op,ee x.a,ee x.b,.string x.name] ay] SN w_:=B;have hb:∀ (K:Value->World->Prop),(∀ b w',Inv w [] ([ei Y eu ad,ei b8 eu ad,ei O #[v1,v2,ee (s.fr:Int),ee ((p+1:Nat):Int),.bool true] al,ei kb kc ac,aB a3 ac 4 css,ei b0 #[ee x.op,ee x.a,ee x.b,.string x.name] ay]++[ei b #[ee 3,ee 0,.string x.name,lx] ac]) SN w'->K (kt b 0 1 1) w')->Run Tryz.prog (cf jY 1 [(0,Qz)]) w_ K:=fun K hK=>by rw [q4];exact eO B bi (by simp [Value.cells]) (by omega) (by omega) hK
    refine hb _ fun g w_ B=>?_;have a6:=fun (_:aF D 11 11=true)=>(⟨‹D 10=true›,rfl⟩:D 10=true/\Value.slice (some ⟨g,0,none⟩) 1 1=kt g 0 1 1)
    have N:aF D 11 12=true->aF D 11 11=true/\Ml=V:=fun h=>by rw [show D 12=true from h] at b1;cases b1
    have B:Inv w [] ([ei Y eu ad,ei b8 eu ad,ei O #[v1,v2,ee (s.fr:Int),ee ((p+1:Nat):Int),.bool true] al,ei kb kc ac,aB (cond (D 12) V a3) ac 4 (cond (D 12) (css++[[ee 3,ee 0,.string x.name,lx]]) css),ei b0 #[ee x.op,ee x.a,ee x.b,.string x.name] ay]++(cond (D 3 && !(D 9)) [aB KL ac 4 []] []++[ei g #[ee 3,ee 0,.string x.name,lx] ac])) SN w_:=by rw [i1,d7,b1];exact B
    exact ⟨J.set 11 (by first|assumption|trivial),⟨SN,g,V,hN,k9,a5,a6,N,a7,kf,B⟩⟩
   ·have Tn:=cF ‹_›;have SR:=dv ‹_›;have q5:=(a6 ‹D 11=true›).2;have d7:=(a5 (a6 ‹D 11=true›).1).1;have i1:=(k9 d7).1;have g6:D 13=false:=bA.2 fun h=>by rw [(a7 h).1] at bp;cases bp
    obtain ⟨ka,j4,e9,_⟩:=id (k9 d7).2;rw [i1,d7,bp,‹D 11=true›] at B;have B:Inv w [] ([ei Y eu ad,ei b8 eu ad,ei O #[v1,v2,ee (s.fr:Int),ee ((p+1:Nat):Int),.bool true] al,ei kb kc ac,aB a3 ac 4 css,ei b0 #[ee x.op,ee x.a,ee x.b,.string x.name] ay]++[ei g #[ee 3,ee 0,.string x.name,lx] ac]) SN w_:=B;have hb:∀ (K:Value->World->Prop),(∀ vn w',Inv w [] ([ei Y eu ad,ei b8 eu ad,ei O #[v1,v2,ee (s.fr:Int),ee ((p+1:Nat):Int),.bool true] al,ei kb kc ac,aB vn ac 4 (css++[[ee 3,ee 0,.string x.name,lx]]),ei b0 #[ee x.op,ee x.a,ee x.b,.string x.name] ay]++[ei g #[ee 3,ee 0,.string x.name,lx] ac]) SN w'->K vn w')->Run Tryz.prog (co .append #[jY,jY] jY [false,false] [SI,P3]) w_ K:=fun K hK=>by
     rw [Tn,q5];refine fl B 4 (k:=4) (o:=0) (m:=1) (n:=css.length) (xs:=css.flatten) [ee 3,ee 0,.string x.name,lx] bi (by omega) rfl rfl (fun i u hi=>by rw [B.cellL (i:=6) rfl,cS];simpa using hi) (by simp [Value.oneCell',e9]) (by omega) (by omega) fun vn w_ B=>hK vn w_ ?_;have e:Item.row vn ac 4 (css.length+1) (css.flatten++[ee 3,ee 0,.string x.name,lx])=aB vn ac 4 (css++[[ee 3,ee 0,.string x.name,lx]]):=fO ..;rw [<- e];exact B
    refine hb _ fun V w_ B=>?_;have N:=fun (_:aF D 12 12=true)=>(⟨‹D 11=true›,rfl⟩:D 11=true/\V=V)
    have a7:aF D 12 13=true->aF D 12 12=true/\aF D 12 0=true/\my=V:=fun h=>by rw [show D 13=true from h] at g6;cases g6
    have B:Inv w [] ([ei Y eu ad,ei b8 eu ad,ei O #[v1,v2,ee (s.fr:Int),ee ((p+1:Nat):Int),.bool true] al,ei kb kc ac,aB (cond true V a3) ac 4 (cond true (css++[[ee 3,ee 0,.string x.name,lx]]) css),ei b0 #[ee x.op,ee x.a,ee x.b,.string x.name] ay]++(cond (D 3 && !(D 9)) [aB KL ac 4 []] []++cond (D 11) [ei g #[ee 3,ee 0,.string x.name,lx] ac] [])) SN w_:=by rw [i1,d7,‹D 11=true›];exact B
    exact ⟨J.set 12 (by first|assumption|trivial),⟨SN,g,V,hN,k9,a5,a6,N,a7,kf,B⟩⟩
   ·have Y3:=eG ‹_›;have a7:=fun (_:aF D 13 13=true)=>(⟨‹D 12=true›,‹D 0=true›,(N ‹D 12=true›).2⟩:D 12=true/\D 0=true/\Ml=V)
    have kf:aF D 13 13=false->Ml=a3:=fun h=>by cases (show true=false from h)
    exact ⟨J.set 13 (by first|assumption|trivial),⟨SN,g,V,hN,k9,a5,a6,N,a7,kf,B⟩⟩
   obtain ⟨Tn,rfl,rfl,OA,rfl,zM,rfl,rfl,z4,Ds,xg,SR,Y3,ZW,_⟩:=J.all;have ZI:D 3=true:=by assumption
   have Jw:D 9=true:=by assumption
   have qb:D 11=true:=by assumption
   have r4:D 12=true:=by assumption
   have X6:D 13=true:=by assumption
   clear J cF ci cG cD bU cH cj cR dJ dQ cJ dv eG gL;obtain ⟨_,b5⟩:=k9 Jw;have q3:=(a7 X6).2.2;subst q3;rw [ZI,Jw,qb,r4] at B;have b3:RdT SN [ee 3,ee 0,.string x.name,lx] (fnT x.name (sH s.ar x.a.toNat)):=by
    obtain ⟨ka,j4,e9,_⟩:=id b5;rw [e9] at b5 ⊢;exact wn b5 (by simp only [maxLen];omega)
   have B:Inv w [] [ei Y eu ad,ei b8 eu ad,ei O #[v1,v2,ee (s.fr:Int),ee ((p+1:Nat):Int),.bool true] al,ei kb kc ac,aB my ac 4 (css++[[ee 3,ee 0,.string x.name,lx]])] SN w_:=B.pick [true,true,true,true,true,false,false];have i0:=EW B (i:=2) rfl (p:=p+1) rfl;refine ⟨⟨s,p+1,true,out++[fnT x.name (sH s.ar x.a.toNat)],css++[[ee 3,ee 0,.string x.name,lx]],_,kc,SN,by omega,c6.trans hN,j0.mono hN.1,g7.mono hN.1,?_,by rw [bt,lG];omega,fun _=>⟨hs,fun t ht=>?_,by rw [m4];exact a0⟩,fun e=>(by cases e),B⟩,by show code.length - atN _ O<code.length - atN _ O;omega⟩
   ·rw [<- dg];exact (hR.monoR fun _ _=>RdT.mono hN.1).snoc b3 rfl
   ·rcases cU.1 ht with ht|ht
    ·exact g4 t ht
    ·rw [bM.1 ht];exact ⟨_,_,rfl,m5,by rw [sH,ro,List.length_range];omega,QF hs.ok.ar _⟩
  rw [ae l4] at a0;obtain ⟨o1,o2,o3,o4,o5⟩:=VE (M:=M) (code:=code) (p:=p+1) (x:=x) hs m5 (by omega) (by omega);refine aq (c:=[v1,v2,ee (s.fr:Int),ee ((p+1:Nat):Int),.bool true].toArray) B 2 aS rfl rfl ?_;refine aq (c:=x.cells.toArray) B 5 dF rfl rfl ?_;have B:Inv w [] ([ei Y eu ad,ei b8 eu ad,ei O #[v1,v2,ee (s.fr:Int),ee ((p+1:Nat):Int),.bool true] al,aB a3 ac 4 css,ei b0 #[ee x.op,ee x.a,ee x.b,.string x.name] ay]++[ei kb kc ac]) S4 _:=B.perm ((bD (l₁:=[_,_]) (l₂:=[_])).append_left [_,_,_]);refine Run.callE OL Pt B (NJ (kp:=M+1) hM h4 (fun y hy=>by have:=(g8 y hy).1;unfold inI;omega) hs m3 (by omega) j0 g7) fun v' I' S5 w'=>?_;rintro ⟨n0,k1,rfl,rfl,i4,r2⟩ c3 B;have u0:=i4.length;have B:Inv w [] [ei Y eu ad,ei b8 eu ad,ei O #[v1,v2,ee (s.fr:Int),ee ((p+1:Nat):Int),.bool true] al,ei kb k1 ac,aB a3 ac 4 css,ei b0 #[ee x.op,ee x.a,ee x.b,.string x.name] ay] S5 w':=B.perm ((bD (l₁:=[_]) (l₂:=[_,_])).append_left [_,_,_]);refine aj B 2 rfl aS (by simpa using u0) rfl (by simpa using i4.one) fun w' B=>?_;have B:Inv w [] [ei Y eu ad,ei b8 eu ad,ei O n0.toArray al,ei kb k1 ac,aB a3 ac 4 css] S5 w':=B.pick [true,true,true,true,true,false];have i0:atN w' O=(oneV M code s (p+1) x).2.1:=by
   obtain ⟨u1,u2,rfl,_⟩:=id i4;exact EW B (i:=2) rfl rfl
  refine ⟨⟨_,_,_,out,css,n0,k1,S5,o3,c6.trans c3,i4,r2,hR.monoR fun _ _=>RdT.mono c3.1,by omega,fun e=>⟨o1 e,fun t ht=>(g4 t ht).le ?_,?_⟩,fun e=>?_,B⟩,by show code.length - atN _ O<code.length - atN _ O;omega⟩
  ·obtain ⟨e1,_,_⟩:=o4 e;exact (QE hs (by rw [ig];omega) m5 e1).2
  ·obtain ⟨e1,e2,e3⟩:=o4 e;rw [ag (by rw [mj];omega),e1,dq,Jc] at a0;rw [<- a0,e2];exact qs _ _ _ _ _ (by rw [mj];omega) (by rw [mj];omega)
  ·by_cases hm:iA x<=(code.drop (p+1)).length
   ·rw [ag hm,o5 e (by rw [mj] at hm;omega)] at a0;exact a0.symm
   ·rw [ae hm] at a0;exact a0.symm
 have j9:ok=true->R=some (s,out):=fun e=>by
  obtain ⟨_,_,a0⟩:=k0 e;have u3:p=code.length:=by
   have:¬ p<code.length:=fun h=>l1 ⟨e,h⟩;omega
  rw [u3,eL,show code.length+1 - code.length=0+1 by omega,readS] at a0;exact a0.symm
 have u4:code.length≠0:=fun e=>n6 (jM e);have g0:code.length - 1<code.length:=by omega
 have q6:code.getLast?.map (·.op)=some (code[code.length - 1]).op:=by
  rw [List.getLast?_eq_getElem?,me g0];rfl
 obtain ⟨q,hq⟩:∃ q,q=decide (ok=true/\(code.getLast?.map (·.op))=some 14):=⟨_,rfl⟩
 refine ⟨fun z w'=>z=.bool (!q)/\Inv w [] ([ei Y eu ad,ei b8 eu ad,ei O #[v1,v2,ee (s.fr:Int),ee (p:Int),.bool ok] al,ei kb kc ac]++[aB a3 ac 4 css]) S4 w',?_,?_⟩
 ·refine ah B 2 rfl di ir rfl ?_;refine c8 ?_;cases ok with
  | false=>
   refine rpG ?_;exact ⟨by rw [hq,aM (fun e=>by cases e.1)];rfl,B⟩
  | true=>
   refine rpG ?_;refine aO h4 bx ?_;refine jl (by omega) ?_;rw [show (code.length:Int) - 1=((code.length - 1:Nat):Int) by omega];obtain ⟨b,o,cap,c,E,fz,rfl,hS,l8⟩:=h4.at_ g0;have l8:bJ c (o+(code.length - 1) * 4) 4=(code[code.length - 1]).cells:=l8;refine aN bx g0 ?_;refine ax ew ?_;refine eD (v:=ee (code[code.length - 1]).op) au (by rw [B.cellS hS];exact bf l8 0 _ rfl) ?_;refine jN ?_;refine rpG ?_;refine ⟨?_,B⟩;rw [hq]
   congr 2
   exact cW.2 ⟨fun e=>⟨rfl,by rw [q6,e]⟩,fun e=>by have:=e.2;rw [q6] at this;exact JK this⟩
 clear B;intro z _ _ _ _ _ _ _ _ _ _ _ _ w';rintro ⟨rfl,B⟩;cases q with
 | false=>
  refine aL (fun _=>?_) (fun h=>by cases h);refine c5 _ S4 _ ?_ c6 B;cases ok with
  | false=>rw [b4,r1 rfl];rfl
  | true=>
   have hq:=of_decide_eq_false hq.symm;rw [b4,j9 rfl,dq,ae fun e=>hq ⟨rfl,e⟩]
 | true=>
  refine aL (fun h=>by cases h) (fun _=>?_);obtain ⟨o8,o9⟩:=of_decide_eq_true hq.symm;subst o8;rw [j9 rfl,dq,ag o9] at b4;obtain ⟨hs,g4,_⟩:=k0 rfl;obtain ⟨rs,l9,p0,m0,p1⟩:=Yr (kp:=M+1) hs (show j<=4 by omega) i7 q9 g4;rw [U1 p1] at b4;have g5:=hR.hc;obtain ⟨S5,c3,j5,B⟩:=B.lendExt;have q7:RdSl S5 4 (RdT S5) a3 (eI nm j::out):=RowRd.rows (hR.monoR fun _ _ h=>h.mono c3.1) j5;have B:Inv w [] ([ei Y eu ad,ei b8 eu ad,ei O #[v1,v2,ee (s.fr:Int),ee (p:Int),.bool true] al]++[ei kb kc ac]) S5 _:=B;refine Run.callE MD NZ B (KY (kp:=M+1) l9 p0 m0 (by rw [<- g5];omega) q7 (g7.mono c3.1)) fun v' I' S6 w'=>?_;rintro ⟨rfl,u,rfl,hu⟩ r3 B;have hu:lV rs=true->RdSl S6 4 (RdT S6) u (dP (cE rs []) rs):=hu;refine aA (v:=u) rfl ?_;refine aA (v:=.bool (lV rs)) rfl ?_;refine c8 ?_;have i2:=(c6.trans c3).trans r3;cases g3:lV rs with
  | false=>
   refine aL (fun _=>?_) (fun h=>by cases h);have q1:¬ lV rs=true:=by rw [g3];decide
   exact c5 _ S6 _ (by rw [b4,ae fun q=>q1 q.1]) i2 B
  | true=>
  refine aL (fun h=>by cases h) (fun _=>?_);have m6:=hu g3;obtain ⟨Z,tl,eN⟩:∃ Z tl,dP (cE rs []) rs=Z::tl:=by
   have hl:=kP (cE rs []) rs;cases h:dP (cE rs []) rs with
   | nil=>rw [h,l9] at hl;cases hl
   | cons a b=>exact ⟨a,b,rfl⟩
  rw [aP] at l9 g5;have m7:=Wt m0 g3 (by omega) eN;rw [eN] at m6 b4;obtain ⟨c,m1⟩:∃ c:C,c=⟨Z,tl⟩:=⟨_,rfl⟩
  have u5:ofL (Z::tl)=c:=m1.symm;rw [u5] at b4;rw [<- m1] at m7;clear hu hR j5 q7 p0 m0 p1 eN;obtain ⟨b,o,cap,cc,E,fz,rfl,hS,i6⟩:=m6.at_ (i:=0) (by simp);rw [pQ] at i6;obtain ⟨b2,ec,f1,f2,f3,f4⟩:=RdT.iff.1 i6;rw [ec] at i6;obtain ⟨ka,kn,s4,s7⟩:∃ a n m,b2=.slice a n m:=by
   obtain ⟨a,m,e,_⟩:=f4;exact ⟨_,_,_,e⟩
  refine ⟨fun D oX Yj XM Yk TG Ur TO w_=>Fx D 0 [TO=kt b o (tl.length+1) cap,Ur=kh b (o+0 * 4),TG=.agg (ku Z b2),Yk=kt b o (tl.length+1) cap,RdSl S6 4 (RdT S6) XM tl,∃ U,Yj=.agg #[ee Z.kind,ee Z.n,.string Z.name,b2,U]/\RdSl S6 4 (RdT S6) U tl,True,True]/\∃ a8 U,(D 6=true->oX=hV a8)/\(D 7=true->D 6=true/\RdSl S6 4 (RdT S6) U tl)/\Inv w [] ([ei Y eu ad,ei b8 eu ad,ei O #[v1,v2,ee (s.fr:Int),ee (p:Int),.bool true] al,ei kb kc ac]++cond (D 6) [ei a8 (cond (D 7) #[ee Z.kind,ee Z.n,.string Z.name,b2,U] eu) ad] []) S6 w_,⟨Fx.nil _ _,⟨0,nx,aU,aU,B.draw⟩⟩,⟨?_,?_,?_,?_,?_,?_,?_,?_,trivial⟩,?_⟩;all_goals (intro D bp;intros;rename_i oX Yj XM Yk TG Ur TO w_ b7;have J:=b7.1;obtain ⟨⟨cF,ci,cG,cD,bU,cH,cj,cR,_⟩,⟨a8,U,k6,k7,B⟩⟩:=b7)
  ·exact ⟨J.set 0 rfl,⟨a8,U,k6,k7,B⟩⟩
  ·obtain rfl:=cF ‹_›;refine aN (i:=0) ao (by simp) ?_;exact ⟨J.set 1 rfl,⟨a8,U,k6,k7,B⟩⟩
  ·obtain rfl:=ci ‹_›;refine eE (cs:=(kB Z b2)) af rfl (fun j v hj=>by rw [B.cellS hS];exact bf ec j v hj) ?_;exact ⟨J.set 2 rfl,⟨a8,U,k6,k7,B⟩⟩
  ·exact ⟨J.set 3 rfl,⟨a8,U,k6,k7,B⟩⟩
  ·obtain rfl:=cD ‹_›;refine tB (l:=1) ao m6 (by simp) fun y8 e7=>?_;rw [Vp,fe] at e7;exact ⟨J.set 4 (by first|assumption|trivial),⟨a8,U,k6,k7,B⟩⟩
  ·obtain rfl:=cG ‹_›;have Dr:=bU ‹_›;refine lg ?_ ?_
   ·obtain ⟨a,m,e,_⟩:=Dr;exact ⟨_,_,_,e⟩
   have j8:∃ U,Value.agg #[ee Z.kind,ee Z.n,.string Z.name,b2,XM]=.agg #[ee Z.kind,ee Z.n,.string Z.name,b2,U]/\RdSl S6 4 (RdT S6) U tl:=⟨_,rfl,Dr⟩
   exact ⟨J.set 5 (by first|assumption|trivial),⟨a8,U,k6,k7,B⟩⟩
  ·have f7:D 7=false:=bA.2 fun h=>by rw [(k7 h).1] at bp;cases bp
   rw [bp] at B;refine aE B cI fun a8 w_ B=>?_;have k6:=fun (_:aF D 6 6=true)=>(rfl:Value.pointer (some ⟨a8,0,none⟩)=_)
   have k7:aF D 6 7=true->aF D 6 6=true/\RdSl S6 4 (RdT S6) U tl:=fun h=>by rw [show D 7=true from h] at f7;cases f7
   have B:Inv w [] ([ei Y eu ad,ei b8 eu ad,ei O #[v1,v2,ee (s.fr:Int),ee (p:Int),.bool true] al,ei kb kc ac]++[ei a8 (cond (D 7) #[ee Z.kind,ee Z.n,.string Z.name,b2,U] eu) ad]) S6 w_:=by rw [f7];exact B
   exact ⟨J.set 6 (by first|assumption|trivial),⟨a8,U,k6,k7,B⟩⟩
  ·have vV:=cj ‹_›;have zM:=cH ‹_›;obtain ⟨U,rfl,e7⟩:=zM;obtain ⟨a,m,e,_⟩:=id e7;subst e;have e6:=k6 ‹D 6=true›;rw [e6];rw [‹D 6=true›,bp] at B;refine aj B 4 rfl aK rfl rfl (by simp [Value.oneCell',s7]) fun w_ B=>?_;rw [<- e6];obtain ⟨U,j6⟩:∃ U,U=Value.slice a tl.length m:=⟨_,rfl⟩
   rw [<- j6] at e7;have k7:=fun (_:aF D 7 7=true)=>(⟨‹D 6=true›,e7⟩:D 6=true/\RdSl S6 4 (RdT S6) U tl)
   have B:Inv w [] ([ei Y eu ad,ei b8 eu ad,ei O #[v1,v2,ee (s.fr:Int),ee (p:Int),.bool true] al,ei kb kc ac]++cond (D 6) [ei a8 #[ee Z.kind,ee Z.n,.string Z.name,b2,U] ad] []) S6 w_:=by rw [‹D 6=true›,j6];exact B
   exact ⟨J.set 7 trivial,⟨a8,U,k6,k7,B⟩⟩
  obtain ⟨rfl,rfl,rfl,rfl,Dr,zM,vV,_,_⟩:=J.all;have F5:D 6=true:=by assumption
  have nI:D 7=true:=by assumption
  clear J cF ci cG cD bU cH cj cR;obtain ⟨_,e7⟩:=k7 nI;have e6:=k6 F5;subst e6;rw [F5,nI] at B;have B:Inv w [] ([ei Y eu ad,ei b8 eu ad,ei O #[v1,v2,ee (s.fr:Int),ee (p:Int),.bool true] al,ei kb kc ac]++[ei a8 #[ee Z.kind,ee Z.n,.string Z.name,b2,U] ad]) S6 w_:=B;have q8:RdC S6 [ee Z.kind,ee Z.n,.string Z.name,b2,U] c:=by rw [m1];exact ⟨_,_,rfl,i6,e7⟩
  refine aq (c:=[ee Z.kind,ee Z.n,.string Z.name,b2,U].toArray) B 4 aK rfl rfl ?_;refine Run.call0E nl mO B (lA q8 m7) fun v' I' S9 w'=>?_;rintro ⟨rfl,bk,rfl,n1⟩ l0 B;refine aA (v:=bk) rfl ?_;refine aA (v:=.bool (aZ c)) rfl ?_;have B:Inv w [] ([ei Y eu ad,ei b8 eu ad,ei O #[v1,v2,ee (s.fr:Int),ee (p:Int),.bool true] al,ei kb kc ac]++[ei a8 #[ee Z.kind,ee Z.n,.string Z.name,b2,U] ad]) S9 w':=B;refine ⟨fun z w'=>z=.bool (!(aZ c && decide (dV c=code)))/\Inv w [] ([ei Y eu ad,ei b8 eu ad,ei O #[v1,v2,ee (s.fr:Int),ee (p:Int),.bool true] al,ei kb kc ac]++[ei a8 #[ee Z.kind,ee Z.n,.string Z.name,b2,U] ad]) S9 w',?_,?_⟩
  ·refine c8 ?_;cases hv:aZ c
   ·refine rpG ?_;exact ⟨rfl,B⟩
   ·rw [hv,ag rfl] at n1;refine rpG ?_;refine Run.callPure JZ Jr B (Ho n1 (h.monoK (i2.trans l0).1)) fun w' B=>?_;refine c8 ?_;refine rpG ?_;exact ⟨rfl,B⟩
  clear B;intro z _ _ _ _ _ _ _ w';rintro ⟨rfl,B⟩;have hE:=i2.trans l0;by_cases hg:aZ c=true/\dV c=code
  ·have i3:rdCS code nm (j:Int)=some c:=by rw [b4,ag ⟨g3,hg.1,hg.2⟩]
   have e:(!(aZ c && decide (dV c=code)))=false:=by rw [hg.1,aD hg.2];rfl
   rw [e,i3];refine aL (fun h=>by cases h) fun _=>?_;refine aq (c:=[ee Z.kind,ee Z.n,.string Z.name,b2,U].toArray) B 4 aK rfl rfl ?_;refine Run.call0 r6 sY B (xp (q8.mono l0.1) m7) fun v I' S10 w'=>?_;rintro ⟨rfl,n2,L,rfl,rfl,i5⟩ _ B;refine aj B 0 rfl aK (by simpa using i5.length) rfl (by simpa using i5.one) fun w' B=>?_;refine be B 0 aK rfl (by simpa using i5.length) ?_;have B:Inv w [] ([ei Y n2.toArray ad,ei b8 eu ad,ei O #[v1,v2,ee (s.fr:Int),ee (p:Int),.bool true] al,ei kb kc ac,ei a8 #[ee Z.kind,ee Z.n,.string Z.name,b2,U] ad]++bO L) _ w':=B;obtain ⟨S11,B,p2,p3⟩:=B.pubExt;exact ⟨_,_,S11,rfl,B.nil,hE.trans p2,rfl,n2,rfl,i5.rd p3⟩
  ·have i3:rdCS code nm (j:Int)=none:=by rw [b4,ae fun h=>hg ⟨h.2.1,h.2.2⟩]
   have e:(!(aZ c && decide (dV c=code)))=true:=by
    rw [ry,SH,nu];by_cases h1:aZ c=true
    ·exact .inr fun h2=>hg ⟨h1,h2⟩
    ·exact .inl (by simpa using h1)
   rw [e];refine aL (fun _=>?_) fun h=>by cases h
   exact c5 _ S9 _ i3 hE B
end
end
section
open Go Go.RowKit
theorem wD {k f:Nat} {x:Value}:∀ (css:List (nA)) (j:Nat) (_:∀ cs∈css,cs.length=k) (h:j<css.length) (_:f<k),css.flatten.set (j * k+f) x=(css.set j (css[j].set f x)).flatten
 | [],j,_,h,_=>by simp at h
 | c::css,0,hk,_,hf=>by
  have:=hk c (bF ..);rw [gR,l5,cS,KX _ _ (by omega)];rfl
 | c::css,j+1,hk,h,hf=>by
  have hc:=hk c (bF ..);have g:=wD (x:=x) css j (fun cs a=>hk cs (bI _ a)) (by simpa using h) hf;have e:(j+1) * k+f=c.length+(j * k+f):=by rw [ip,hc];omega
  rw [gR,e,z0 _ _ (by omega),qx,g];rfl
def mOk (y:Ist):Prop:=inI y.a/\y.name.size<=6
section
variable {P:Program} {w w0:World} {X:List Nat} {L:List Item} {S:ai} {K:Value->World->Prop}
theorem n6 (h:Inv w0 X L S w) {T ty e:TypeId} (i:Nat) {g cap k j f a:Nat} {css:List (nA)} {x:Value} (G:L[i]?=some (aB (kt g 0 css.length cap) e k css)) (O:kA P T=true) (J:j<css.length) (hf:f<k) (U:a=j * k+f)
  (p:∀ cs∈css,cs.length=k) (q:x.cells=#[x]) (V:x.oneCell'=true)
  (hk:∀ w',Inv w0 X (L.set i (aB (kt g 0 css.length cap) e k (css.set j (css[j].set f x)))) S w'->K undef w') :
  Run P (sOp (.store T (.const (kh g a)) (.const x)) ty) w K:=by
 subst U;have m:=(ie.1 G).1;have r:=(ie.1 G).2;have Z:List.Perm L ((L.take i++L.drop (i+1))++[aB (kt g 0 css.length cap) e k css]):=by
  conv=>lhs;rw [<- KO i L,ef m,r]
  rw [cN];exact rA _ (bD (l₁:=[_]))
 have l:=h.perm Z.symm;obtain ⟨_,Y⟩:=Inv.openRow l;rcases Y with ⟨t,_⟩|⟨g',N,B,t,o,C,D,ht,l⟩
 ·cases t
 cases t;have a0:j * k+f<css.length * k:=by
  have:(j+1) * k<=css.length * k:=fK k J;rw [ip] at this;omega
 have M:css.length * k<=cap * k:=fK k o;refine eV l (L.take i++L.drop (i+1)).length (n:=1) (by rw [q];rfl) (by rw [O];rfl) (by rw [jV (aY _),fB];rfl) (by omega) (by rw [q];simpa using V) fun w' l=>hk w' ?_;rw [z0 _ _ (aY _),fB] at l;have l:Inv w0 X ((L.take i++L.drop (i+1))++[ei g (cu B (j * k+f) x.cells.toList) e]) S w':=l;rw [show x.cells.toList=[x] by rw [q]] at l;have l:=Inv.closeRow (n:=css.length) (cap:=cap) (k:=k) l o C (by rw [gw _ _ _ (by simp;omega)];exact D);rw [zp _ _ _ (by omega),List.take_set,ht,wD css j p J hf] at l;refine l.perm ?_;rw [sx,ag m,cN];refine rA _ ?_;rw [show Item.row (kt g 0 css.length cap) e k css.length (css.set j (css[j].set f x)).flatten=aB (kt g 0 css.length cap) e k (css.set j (css[j].set f x)) by simp [aB]];exact (bD (l₁:=[_]))
end
section
variable {br:Nat} {sl:Value} {ys:List Nat}
theorem FX {p:Nat} {S:ai} {xs:List Ist} {u:Value} (C:RdSl S 1 lY sl ys) (h:RdSl S 4 (cZ S) u xs) (hl:xs.length<=100000) (Z:∀ y∈xs,mOk y) (hp:p<=50000000) :
  nB Kv [rdP br,u] [rdI br sl p] S fun r I' S'=>∃ p',p'<=p+10/\I'=[rdI br sl p']/\∃ t:List Ist,RdSl S' 4 (cZ S') r t/\t.length<=xs.length/\∀ y∈t,mOk y:=by
 intro w l;refine uR.2 ?_;dsimp only[uR,bv];refine eZ l gS fun v0 w' l=>?_;have l:Inv w [br] ([rdI br sl p]++[aB v0 ay 4 []]) S w':=l;refine ge l 1 (css:=[]) gS (by omega) rfl h Jj (fun cs y e=>by rw [show cs=y.cells from e];exact KD y) (by simp;omega) (by omega) fun v w' css hR l=>?_;have l:Inv w [br] [rdI br sl p,aB v ay 4 css] S w':=l;have l:Inv w [br] [aB v ay 4 css,rdI br sl p] S w':=l.last 0 rfl;have b2:=hR.hc;have fin:∀ {S1:ai} {w1:World} {t:List Ist} {O:List (nA)} {v1:Value} {B:Nat},Ext w.heap.size [br] S S1->Rows 4 (cZ S1) O t->Inv w [br] [aB v1 ay 4 O,rdI br sl B] S1 w1->∃ S2,Ext w.heap.size [br] S S2/\RdSl S2 4 (cZ S2) v1 t/\Inv w [br] [rdI br sl B] S2 w1:=fun hE hR l=>by
  have l:=l.last 0 rfl;obtain ⟨S2,q,a2,l⟩:=Inv.lendExt (A:=[_]) l;exact ⟨S2,hE.trans q,RowRd.rows (hR.monoR fun _ _ h=>h) a2,l⟩
 refine ⟨fun z w'=>∃ (b:Bool) (B:Nat),z=.bool b/\B<=p+1/\(b=false->css.length≠0)/\Inv w [br] [aB v ay 4 css,rdI br sl B] S w',?_,?_⟩
 ·obtain ⟨a0,c0,ev⟩:=l.rowLen (i:=0) rfl;rw [ev];refine iP bx ?_;rw [<- ev];refine a9 ?_;by_cases h0:(css.length:Int)=0
  ·rw [aD h0];refine rpG ?_;exact ⟨true,p,rfl,by omega,(fun h=>by cases h),l⟩
  ·rw [aM h0];refine rpG ?_;refine Run.callL bW bX l (dD (n:=2) (p:=p) C (by omega) (by omega)) rfl fun v' I' S w'=>?_;rintro ⟨rfl,rfl,k,hk,rfl⟩ _ l;refine a9 ?_;refine rpG ?_;exact ⟨_,p+1,rfl,by omega,fun _=>by omega,l⟩
 clear l;intro z _ _ _ _ _ _ _ w';rintro ⟨b,B,rfl,b0,a1,l⟩;refine aL (fun _=>?_) (fun hb=>?_)
 ·obtain ⟨S2,q,G,l⟩:=fin (Ext.refl _ _ _) hR l;exact ⟨_,_,S2,rfl,l,q,B,by omega,rfl,xs,G,aY _,Z⟩
 have a1:=a1 hb;obtain ⟨g,cap,ev⟩:=l.rowShape (i:=0) rfl (by omega);subst ev;refine iP bx ?_;refine Run.callL bW bX l (dD (n:=css.length) (p:=B) C (by omega) (by omega)) rfl fun v' I' S w'=>?_;rintro ⟨rfl,rfl,k,hk,rfl⟩ _ l;have a3:k<xs.length:=by omega
 have Y:css[k]=xs[k].cells:=hR.hR k a3 hk;have M:=Z _ (cO a3);obtain ⟨y,hy⟩:∃ y,y=xs[k]:=⟨_,rfl⟩
 rw [<- hy] at Y M;refine ⟨fun z w'=>∃ (J:Nat) (S2:ai) (t:List Ist),J<=p+10/\Ext w.heap.size [br] S S2/\RdSl S2 4 (cZ S2) z t/\t.length<=xs.length/\(∀ y∈t,mOk y)/\Inv w [br] [rdI br sl J] S2 w',?_,?_⟩
 rotate_left
 ·clear l;intro z _ _ _ _ _ _ _ _ _ _ _ _ _ _ _ _ _ _ _ _ _ _ _ _ _ _ _ _ _ _ _ _ _ _ _ _ _ _ _ _ _ _ _ w';rintro ⟨J,S2,t,U,q,G,a4,a5,l⟩;exact ⟨_,_,S2,rfl,l,q,J,U,rfl,t,G,a4,a5⟩
 have put:∀ {J:Nat} {S2:ai} {w2:World} {f:Nat} {val:Value} {y':Ist},J<=p+10->Ext w.heap.size [br] S S2->y.cells.set f val=y'.cells->mOk y'->Inv w [br] [aB (kt g 0 css.length cap) ay 4 (css.set k (css[k].set f val)),rdI br sl J] S2 w2->
   ∃ (J:Nat) (S2:ai) (t:List Ist),J<=p+10/\Ext w.heap.size [br] S S2/\RdSl S2 4 (cZ S2) (kt g 0 css.length cap) t/\t.length<=xs.length/\(∀ y∈t,mOk y)/\Inv w [br] [rdI br sl J] S2 w2:=fun {J S2 w2 f val y'} U hE e D l=>by
  have a8:Rows 4 (cZ S2) (css.set k (css[k].set f val)) (xs.set k y'):=Rows.setA (hR.monoR fun _ _ h=>h) (show cZ S2 (css[k].set f val) y' by rw [Y];exact e) (by rw [jj,Y];rfl);obtain ⟨S3,o,a7,l⟩:=fin hE a8 l;refine ⟨J,S3,xs.set k y',U,o,a7,by rw [jj];exact aY _,fun z hz=>?_,l⟩;rcases Ag hz with hz|rfl
  ·exact Z z hz
  ·exact D
 have N:=hR.hk;refine Run.callL bW bX l (dD (n:=8) (p:=B+1) C (by omega) (by omega)) rfl fun v' I' S w'=>?_;rintro ⟨rfl,rfl,kk,b1,rfl⟩ _ l;have l:Inv w [br] [aB (kt g 0 css.length cap) ay 4 css,rdI br sl (B+2)] S w':=l;refine a9 ?_;refine aJ (fun _=>?_) (fun _=>?_)
 ·refine nq l (by kernel_rfl) rfl (by omega) fun v S3 w' o V l=>?_;refine Run.callL er eo l (gG (p:=B+2) (C.monoU o.1) V (by decide) (by omega)) rfl fun v' I' S3 w'=>?_;rintro ⟨rfl,rfl,m,D,rfl⟩ _ l;have D:=li (a:=-1000) (b:=1000) D (by decide);refine aN (i:=k) bx hk ?_;refine ax ew ?_;refine n6 l 0 (j:=k) (f:=0) (css:=css) rfl au hk (by omega) (by omega) N rfl rfl fun w' l=>?_;exact put (y':=⟨m,y.a,y.b,y.name⟩) (by omega) o rfl M l
 refine a9 ?_;refine aJ (fun _=>?_) (fun _=>?_)
 ·refine nq l (by kernel_rfl) rfl (by omega) fun v S3 w' o V l=>?_;refine Run.callL er eo l (gG (p:=B+2) (C.monoU o.1) V (by decide) (by omega)) rfl fun v' I' S3 w'=>?_;rintro ⟨rfl,rfl,m,D,rfl⟩ _ l;have D:=li (a:=-1000) (b:=1000) D (by decide);refine aN (i:=k) bx hk ?_;refine ax bZ ?_;refine n6 l 0 (j:=k) (f:=1) (css:=css) rfl au hk (by omega) (by omega) N rfl rfl fun w' l=>?_;exact put (y':=⟨y.op,m,y.b,y.name⟩) (by omega) o rfl ⟨by simp only [inI];omega,M.2⟩ l
 refine a9 ?_;refine aJ (fun _=>?_) (fun _=>?_)
 ·refine nq l (by kernel_rfl) rfl (by omega) fun v S3 w' o V l=>?_;refine Run.callL er eo l (gG (p:=B+2) (C.monoU o.1) V (by decide) (by omega)) rfl fun v' I' S3 w'=>?_;rintro ⟨rfl,rfl,m,D,rfl⟩ _ l;have D:=li (a:=-1000) (b:=1000) D (by decide);refine aN (i:=k) bx hk ?_;refine ax dL ?_;refine n6 l 0 (j:=k) (f:=2) (css:=css) rfl au hk (by omega) (by omega) N rfl rfl fun w' l=>?_;exact put (y':=⟨y.op,y.a,m,y.name⟩) (by omega) o rfl M l
 refine a9 ?_;refine aJ (fun _=>?_) (fun _=>?_)
 ·refine oF l (by kernel_rfl) rfl (by omega) fun v S3 w' o V l=>?_;refine Run.callL fG fH l (ko (p:=B+2) (C.monoU o.1) V (by decide) (by omega)) rfl fun v' I' S3 w'=>?_;rintro ⟨rfl,rfl,m,D,rfl⟩ _ l;have D:=n8 (m:=6) D (by decide);refine aN (i:=k) bx hk ?_;refine ax fu ?_;refine n6 l 0 (j:=k) (f:=3) (css:=css) rfl aV hk (by omega) (by omega) N rfl rfl fun w' l=>?_;exact put (y':=⟨y.op,y.a,y.b,m⟩) (by omega) o rfl ⟨M.1,D⟩ l
 refine a9 ?_;obtain ⟨S2,q,G,l⟩:=fin (Ext.refl _ _ _) hR l;refine aJ (fun _=>?_) (fun _=>?_)
 ·refine Iz (h:=k) bx G (by omega) fun v' a6=>?_;exact ⟨B+2,S2,xs.take k,by omega,q,a6,by rw [ig];omega,fun z hz=>Z z (O6 hz),l⟩
 ·exact ⟨B+2,S2,xs,by omega,q,G,aY _,Z,l⟩
end
end
end Go.Proofs.YtjbcdmheajljpaaGreat
