/- impl.FindProof, walked: what is found has the goal that was asked, if this has no variables. -/
import Derived.Test.YtgllldjiaglkcaaGreatDoorZMp20
import Derived.Test.YtgllldjiaglkcaaGreatDoorZMp21
import Derived.Test.YtgllldjiaglkcaaGreatDoorZMp24
import Derived.Test.YtgllldjiaglkcaaGreatDoorZMp23
import Derived.Test.YtgllldjiaglkcaaGreatDoorZMp10
import Derived.Test.YtgllldjiaglkcaaGreatDoorZMp2
import Derived.Test.YtgllldjiaglkcaaGreatDoorZMp4
import Derived.Test.YtgllldjiaglkcaaGreatDoorZMp3
import Derived.Test.YtgllldjiaglkcaaGreatDoorRows
import Derived.Test.YtgllldjiaglkcaaGreatDoorTie
import Derived.ProofKit
import Derived.LaidMore
import Derived.LaidLaws
namespace Go.Proofs.YtgllldjiaglkcaaGreatDoor
section
open Go Go.RowKit
theorem RdNI.length {S:ae} {cs:List Value} {x:NI} (h:RdNI S cs x):cs.length=6:=by
 obtain ⟨a0,a1,a2,a3,rfl,_⟩:=h
 rfl
theorem Fe:∀ u∈zPr.toList,u.oneCell'=true:=by simp [Value.oneCell']
abbrev Zg:Array Value:=#[.int .i64 0,.int .i64 0,.string ⟨#[]⟩,.slice none 0 0]
abbrev ZA (g:T):Value->List Item->ae->Prop:=fun q I' S'=>I'=[]/\∃ cs x b,q=.tuple #[.agg cs.toArray,.bool b]/\RdF S' cs x/\(b=true->x.goal=g)
theorem yX (S:ae):RdF S [.int .i64 0,.int .i64 0,.string ⟨#[]⟩,.slice none 0 0,.int .i64 0,.slice none 0 0] (.mk zT 0 []):=
 RdF.iff.2 ⟨_,_,rfl,RdT.iff.2 ⟨_,rfl,⟨by simp [T.kind,PF.goal,zT],by simp [T.kind,PF.goal,zT]⟩,⟨by simp [T.n,PF.goal,zT],by simp [T.n,PF.goal,zT]⟩,by simp [T.name,PF.goal,zT,maxLen]; decide,RdSl.nil0 ..⟩,⟨by simp [PF.clause],by simp [PF.clause]⟩,RdSl.nil0 ..⟩
section
attribute [local irreducible] Run CondV az aO
set_option maxHeartbeats 2000000 in
theorem Em {p:List C} {g:T} (hpv:de p=true) (hgv:eq g=true) (hgr:∀ σ,sbT σ g=g) (hgn:vT g=[]) {S:ae} {pv:Value} {gcs:List Value} (h4:RdSl S 5 (RdC S) pv p) (hg:RdT S gcs g) :
  Tri Tryz.prog Jl [pv,.agg gcs.toArray,.int .i64 300] [] S (ZA g):=by
 intro w hI
 obtain ⟨f1,f2,f3⟩:=mK hpv
 have hqv:eN [g]=true:=by simp [eN,hgv]
 have hval:=fw hgv
 have hou:=io hval
 obtain ⟨pa,pcap,rfl,-⟩:=id h4
 have hg0:=hg
 obtain ⟨kv,rfl,_⟩:=RdT.iff.1 hg
 refine tN.2 ?_
 dsimp only[tN,dN]
 refine bq hI fun b4 w' hI=>?_
 refine aT hI pl fun b6 w' hI=>?_
 have hI:Inv w [] [.blk b4 (.cells #[.int .i64 g.kind,.int .i64 g.n,.string g.name,kv] ab),.blk b6 (.cells zPr aK)] S w':=hI
 refine ⟨fun t w'=>t=.bool false/\Inv w [] [.blk b4 (.cells #[.int .i64 g.kind,.int .i64 g.n,.string g.name,kv] ab),.blk b6 (.cells zPr aK)] S w',?_,?_⟩
 ·refine Run.callPure gK gM hI (fP h4) fun w' hI=>?_
  rw [hpv]
  refine bQ ?_
  refine rpG ?_
  refine av hI 0 ad rfl rfl ?_
  refine Run.callPure mX mL hI (j9 hg0) fun w' hI=>?_
  rw [hgv]
  refine bQ ?_
  refine rpG ?_
  refine Run.callPure fu fD hI (eR _ _ _ S) fun w' hI=>?_
  rw [show (decide ((0:Int)<=300) && decide ((300:Int)<=300))=true from rfl]
  refine bQ ?_
  refine rpG ?_
  exact ⟨rfl,hI⟩
 clear hI
 intro q _ _ _ _ _ _ _ _ _ _ _ _ w'
 rintro ⟨rfl,hI⟩
 refine aw (fun hb=>by cases hb) (fun _=>?_)
 obtain ⟨o,ho⟩:=FindI.ex f1 300 (ey [g]) (o5 hqv _)
 refine av hI 0 ad rfl rfl ?_
 refine Zy hI hg0 fun qv S0 w' hE0 hq hI=>?_
 have h40:=h4.monoC hE0.1
 refine Run.call0E tU tj hI (rY h40 hq 300) fun v' I' S1 w'=>?_
 rintro ⟨sp,sb,mb,gv,rfl,hG,rfl⟩ hE1 hI
 have hE01:=hE0.trans hE1
 refine aB ?_
 refine du hI 2 rfl yK Ma rfl rfl rfl fun w' hI=>?_
 have hI:Inv w [] ([.blk b4 (.cells #[.int .i64 g.kind,.int .i64 g.n,.string g.name,kv] ab),.blk b6 (.cells zPr aK)]++qD sp sb mb (.slice pa p.length pcap) qv true 300 0 26 gv (.slice none 0 0) [] (.slice none 0 0) [] 0 #[] 0 (.slice none 0 0) []) S1 w':=hI
 have hso:=o5 hqv p.length
 have hsl:(ey [g]).st.length=26:=by show (List.replicate 26 (none:Option T)).length=26; simp
 have hK:SeaK S1 (ey [g]).chs (ey [g]).nodes (ey [g]).st [] [] #[] [] []:=by
  refine ⟨KnownM.none S1 26,Rows.nil _ _,Rows.nil _ _,.nil,?_⟩
  show ([]:List Int).length+unb (List.replicate 26 none)<=(List.replicate 26 (none:Option T)).length
  rw [uM]
  simp
 have hmul0:26 * p.length * (300+1)<=520 * 301:=Ca (by omega) (by omega)
 have hRK:Xi p 300 (ey [g]):=by
  refine ⟨hso,by omega,?_,?_,?_⟩
  ·rw [hsl]
   show 26+26 * 0+_<=_
   omega
  ·show 0+300<=_
   omega
  ·show 0+300<=_
   omega
 have hsn:(ey [g]).nodes=[]:=rfl
 have hnd0:NdOk g p.length (ey [g]).st.length (ey [g]).nodes:=⟨fun x hx=>(by cases hx),fun x hx=>(by cases hx)⟩
 have hres0:∀ x gs t,(ey [g]).goals=x::gs->Res (ey [g]).st (.one x.t t)->t=g:=fun x gs t hx ht=>by
  have hx:(⟨g,0,-1⟩:GI)::[]=x::gs:=hx
  cases hx
  exact G2 hou hgr ht
 refine ⟨fun w'=>∃ (n:Nat) (s:SI) (used:Int) (gv cv nv tv:Value) (ms:List Nat) (tr:List Int) (es:Array MapEntry) (ccs ncs:List (List Value)) (ck:Nat) (mo:Int) (S2:ae),Ext w.heap.size [] S S2/\Sle S1 S2/\FindI p n s o/\Xi p n s/\NdOk g p.length s.st.length s.nodes/\(s=ey [g] ∨ 1<=s.nodes.length)/\0<=used/\used+n=300/\
    GL S2 gv s.goals/\SeaK S2 s.chs s.nodes s.st ms tr es ccs ncs/\Inv w [] ([.blk b4 (.cells #[.int .i64 g.kind,.int .i64 g.n,.string g.name,kv] ab),.blk b6 (.cells zPr aK)]++qD sp sb mb (.slice pa p.length pcap) qv true 300 used s.st.length gv cv ccs nv ncs mo es ck tv tr) S2 w',
  fun w'=>fuN sp w',⟨300,ey [g],0,gv,_,_,_,[],[],#[],[],[],0,0,S1,hE01,Sle.refl _,ho,hRK,hnd0,.inl rfl,Af _,by omega,hG,hK,by rw [hsl]; exact hI⟩,?_⟩
 clear hI hG hK hRK ho hnd0
 intro _ _ _ _ _ _ _ _ _ _ w'
 rintro ⟨n,s,used,gv,cv,nv,tv,ms,tr,es,ccs,ncs,ck,mo,S2,hE2,hle12,ho,hs,hnd,hsn1,hu,hfu,hG,hK,hI⟩
 have hfn:=hI.fuN 2 rfl
 refine aB ?_
 refine af hI 2 rfl gq dC rfl ?_
 obtain ⟨gp,rfl⟩:=hG.ptr
 refine Ow (e:=lk) (by kernel_rfl) ?_
 have hs1:=hs.hn
 have hs2:=hs.hc
 have hs3:=hs.hl
 have hmul:26 * p.length * (n+1)=26 * p.length * n+26 * p.length:=Ii _ _
 by_cases hgl:s.goals=[]
 ·have hos:=ho.invN hgl
  rw [hgl] at hG
  cases hG
  refine aw (fun h=>by cases h) (fun _=>?_)
  have hn1:1<=s.nodes.length:=by
   rcases hsn1 with rfl|h
   ·cases hgl
   ·exact h
  have hJ:Inv w [] (([.blk b4 (.cells #[.int .i64 g.kind,.int .i64 g.n,.string g.name,kv] ab),.blk b6 (.cells zPr aK),fx sp (dK sb (.slice pa p.length pcap) qv true 300 used s.st.length (.pointer none) cv nv mo),chI cv ccs]++aA sb mb es ck tv tr)++[noI nv ncs]) S2 _:=hI.perm (mA [_,_,_,_] _ [_])
  clear hI
  obtain ⟨S3,hE3,hrd,hI⟩:=hJ.lendExt
  have hns:RdSl S3 6 (RdNI S3) nv s.nodes:=RowRd.rows (hK.nd.monoR fun _ _=>RdNI.mono hE3.1) hrd
  have hE23:=hE2.trans hE3
  have hkm:=hK.km.upS hE3.1
  clear hJ hrd
  obtain ⟨na,ncap,hnv,-⟩:=id hns
  subst hnv
  obtain ⟨B4,hB4⟩:∃ B:Item,B=.blk b4 (.cells #[.int .i64 g.kind,.int .i64 g.n,.string g.name,kv] ab):=⟨_,rfl⟩
  obtain ⟨B6,hB6⟩:∃ B:Item,B=.blk b6 (.cells zPr aK):=⟨_,rfl⟩
  obtain ⟨BS,hBS⟩:∃ B:Item,B=fx sp (dK sb (.slice pa p.length pcap) qv true 300 used s.st.length (.pointer none) cv (.slice na s.nodes.length ncap) mo):=⟨_,rfl⟩
  obtain ⟨BC,hBC⟩:∃ B:Item,B=chI cv ccs:=⟨_,rfl⟩
  have e6:some B6=some (.blk b6 (.cells zPr aK)):=congrArg some hB6
  have eS:some BS=some (fx sp (dK sb (.slice pa p.length pcap) qv true 300 used s.st.length (.pointer none) cv (.slice na s.nodes.length ncap) mo)):=congrArg some hBS
  have hI:Inv w [] ([B4,B6,BS,BC]++aA sb mb es ck tv tr) S3 w':=by rw [hB4,hB6,hBS,hBC]; exact hI
  refine aB ?_
  refine af hI 2 eS dS gC rfl ?_
  refine eV gA ?_
  refine dA ?_
  refine aL (fun _=>?_) (fun h60=>?_)
  ·refine qX ?_
   refine aC (cs:=zPr) hI 1 e6 cM rfl rfl Fe fun w' hI=>?_
   refine bJ hI 1 cM rfl rfl ?_
   exact ⟨_,[],S3,rfl,hI.nil,hE23,rfl,_,_,false,rfl,yX S3,fun h=>by cases h⟩
  have h60:s.nodes.length<=60:=by omega
  obtain ⟨us,hus⟩:=tH hs.ok.good (s.nodes.map NI.goal) (qN fun t ht=>by
   obtain ⟨x,hx,rfl⟩:=eU.1 ht
   exact (hnd.ok x hx).1.1)
  have hul:=Fc hus
  rw [kR] at hul
  have hat:∀ (k:Nat) (h1:k<s.nodes.length) (h2:k<us.length),Res s.st (.one s.nodes[k].goal us[k]):=fun k h1 h2=>by
   have:=Fk hus k (by rw [kR]; exact h1) h2
   rwa [H6] at this
  have hI:=hI.rowNil ab 4
  have hI:Inv w [] (([B4,B6,BS,BC]++[aJ (.slice none 0 0) ab 4 []])++aA sb mb es ck tv tr) S3 _:=hI.perm (mA [_,_,_,_] [_] _)
  refine aB ?_
  refine af hI 2 eS dS gC rfl ?_
  refine eV gA ?_
  refine ⟨fun t58 t9 w'=>∃ (k:Nat) (css:List (List Value)) (S4:ae),k<=s.nodes.length/\t58=.int .i64 (k:Int)/\Ext w.heap.size [] S S4/\Sle S3 S4/\Rows 4 (RdT S4) css (us.take k)/\(us.take k).all bI=true/\Inv w [] (([B4,B6,BS,BC]++[aJ t9 ab 4 css])++aA sb mb es ck tv tr) S4 w',
   fun i _ _=>s.nodes.length - (intOf i).toNat,⟨0,[],S3,be _,rfl,hE23,Sle.refl _,Rows.nil _ _,rfl,hI⟩,?_⟩
  clear hI
  intro t58 _ t9 _ _ _ _ _ _ _ _ t13 t12 t71 t70 t62 t69 t68 t67 t66 t65 t64 t63 _ _ _ _ w'
  rintro ⟨k,css,S4,hk,rfl,hE4,hle4,hR,hall,hI⟩
  have hcl:=hR.hc
  rw [dX] at hcl
  refine bH ?_
  refine aL (fun hki=>?_) (fun hki=>?_)
  ·have hk':k<s.nodes.length:=by omega
   have hku:k<us.length:=by omega
   have hrk:=hat k hk' hku
   have hok:=(hnd.ok _ (bz hk')).1
   refine cL hI (hns.mono hle4 fun _ _=>RdNI.mono hle4) gA Pn hk' (fun _ _=>RdNI.length) fun cn hcn=>?_
   obtain ⟨a0,a1,a2,a3,rfl,hat1⟩:=hcn
   refine aT hI Wa fun b11 w' hI=>?_
   refine aC (cs:=#[a0,a1,a2,a3,.int .i64 s.nodes[k].up,.int .i64 s.nodes[k].clause]) hI 8 rfl Pn rfl rfl (OW hat1.one) fun w' hI=>?_
   have hI:Inv w [] ((([B4,B6,BS,BC]++[aJ t9 ab 4 css])++[.blk b11 (.cells #[a0,a1,a2,a3,.int .i64 s.nodes[k].up,.int .i64 s.nodes[k].clause] iY)])++aA sb mb es ck tv tr) S4 _:=hI.perm (mA [_,_,_,_,_] [_] _)
   obtain ⟨B11,hB11⟩:∃ B:Item,B=.blk b11 (.cells #[a0,a1,a2,a3,.int .i64 s.nodes[k].up,.int .i64 s.nodes[k].clause] iY):=⟨_,rfl⟩
   have e11:some B11=some (.blk b11 (.cells #[a0,a1,a2,a3,.int .i64 s.nodes[k].up,.int .i64 s.nodes[k].clause] iY)):=congrArg some hB11
   have hI:Inv w [] ([B4,B6,BS,BC,aJ t9 ab 4 css,B11]++aA sb mb es ck tv tr) S4 w':=by rw [hB11]; exact hI
   refine ⟨fun D vC wi O1 NG x3 Rk XO WI UG G1 Ln z4 w_=>Fx D 0 [z4=.pointer (some ⟨sp,0,none⟩),Ln=.pointer (some ⟨sp,0,none⟩),G1=.pointer (some ⟨sp,0,none⟩),UG=.pointer (some ⟨sb,0,none⟩),WI=.pointer (some ⟨b11,0,none⟩),XO=.agg [a0,a1,a2,a3].toArray,True,True,True,O1=.bool (bI us[k]),True,True,vC=.bool (bI us[k])]/\∃ SN cm b12,Ext w.heap.size [] S4 SN/\(D 6=true->Rk=.tuple #[.agg cm.toArray,.bool (bI us[k])]/\cm.length=4/\(∀ x∈cm,x.oneCell'=true)/\(bI us[k]=true->RdT SN cm us[k]))/\(D 7=true->D 6=true/\x3=.tuple #[.agg cm.toArray,.bool (bI us[k])])/\(D 8=true->D 6=true/\NG=.agg cm.toArray)/\(D 10=true->wi=.pointer (some ⟨b12,0,none⟩))/\(D 11=true->D 10=true/\D 8=true)/\Inv w [] (([B4,B6,BS,BC,aJ t9 ab 4 css,B11]++cond (D 10) [.blk b12 (.cells (cond (D 11) cm.toArray Zg) ab)] [])++aA sb mb es ck tv tr) SN w_,⟨Fx.nil _ _,⟨S4,[],0,Ext.refl _ _ _,aQ,aQ,aQ,aQ,aQ,hI.draw⟩⟩,⟨?_,?_,?_,?_,?_,?_,?_,?_,?_,?_,?_,?_,?_,trivial⟩,?_⟩
   all_goals (intro D bF; intros; rename_i vC wi O1 NG x3 Rk XO WI UG G1 Ln z4 w_ hA_; have hF_:=hA_.1; obtain ⟨⟨cj,ci,bR,ce,bP,bY,bZ,cH,c5,dI,bX,cr,cZ,_⟩,⟨SN,cm,b12,hN,k6,k7,k8,k10,k11,hI⟩⟩:=hA_)
   ·exact ⟨hF_.set 0 rfl,⟨SN,cm,b12,hN,k6,k7,k8,k10,k11,hI⟩⟩
   ·obtain rfl:=cj ‹_›
    refine aB ?_
    exact ⟨hF_.set 1 rfl,⟨SN,cm,b12,hN,k6,k7,k8,k10,k11,hI⟩⟩
   ·obtain rfl:=ci ‹_›
    refine au fC ?_
    exact ⟨hF_.set 2 rfl,⟨SN,cm,b12,hN,k6,k7,k8,k10,k11,hI⟩⟩
   ·obtain rfl:=bR ‹_›
    refine aN hI 2 fh eS rfl ?_
    exact ⟨hF_.set 3 rfl,⟨SN,cm,b12,hN,k6,k7,k8,k10,k11,hI⟩⟩
   ·refine au SL ?_
    exact ⟨hF_.set 4 rfl,⟨SN,cm,b12,hN,k6,k7,k8,k10,k11,hI⟩⟩
   ·obtain rfl:=bP ‹_›
    refine di hI 5 [a0,a1,a2,a3] ad e11 rfl KL ?_
    exact ⟨hF_.set 5 rfl,⟨SN,cm,b12,hN,k6,k7,k8,k10,k11,hI⟩⟩
   ·obtain rfl:=ce ‹_›
    obtain rfl:=bY ‹_›
    have f11:D 11=false:=bB.2 fun h=>by rw [(k8 (k11 h).2).1] at bF; cases bF
    refine Run.callE (A:=[B4,B6,BS,BC,aJ t9 ab 4 css,B11]++cond (D 10) [.blk b12 (.cells (cond (D 11) cm.toArray Zg) ab)] []) gi gt hI (mt hs.ok.good hrk hok (hat1.mono hN.1) (hkm.upS (hle4.trans hN.1))) fun v' I' SM w_=>?_
    rintro ⟨rfl,cn,hl4,ho4,rfl,hR4⟩ hM hI
    have hN:=hN.trans hM
    have k6:=fun (_:aD D 6 6=true)=>(⟨rfl,hl4,ho4,hR4⟩:Value.tuple #[.agg cn.toArray,.bool (bI us[k])]=.tuple #[.agg cn.toArray,.bool (bI us[k])]/\cn.length=4/\(∀ x∈cn,x.oneCell'=true)/\(bI us[k]=true->RdT SM cn us[k]))
    have k7:aD D 6 7=true->aD D 6 6=true/\x3=.tuple #[.agg cn.toArray,.bool (bI us[k])]:=fun h=>by rw [(k7 h).1] at bF; cases bF
    have k8:aD D 6 8=true->aD D 6 6=true/\NG=.agg cn.toArray:=fun h=>by rw [(k8 h).1] at bF; cases bF
    rw [f11] at hI
    have hI:Inv w [] (([B4,B6,BS,BC,aJ t9 ab 4 css,B11]++cond (D 10) [.blk b12 (.cells (cond (D 11) cn.toArray Zg) ab)] [])++aA sb mb es ck tv tr) SM w_:=by rw [f11]; exact hI
    obtain ⟨SN,hSN⟩:∃ SN,SN=SM:=⟨_,rfl⟩
    subst hSN
    obtain ⟨cm,hcm⟩:∃ cm,cm=cn:=⟨_,rfl⟩
    subst hcm
    exact ⟨hF_.set 6 (by first|assumption|trivial),⟨SN,cm,b12,hN,k6,k7,k8,k10,k11,hI⟩⟩
   ·have NF:=bZ ‹_›
    have k7:=fun (_:aD D 7 7=true)=>(⟨‹D 6=true›,(k6 ‹D 6=true›).1⟩:D 6=true/\Rk=.tuple #[.agg cm.toArray,.bool (bI us[k])])
    exact ⟨hF_.set 7 (by first|assumption|trivial),⟨SN,cm,b12,hN,k6,k7,k8,k10,k11,hI⟩⟩
   ·have Io:=cH ‹_›
    have e7:=(k7 ‹D 7=true›).2
    have q6:=(k7 ‹D 7=true›).1
    rw [e7]
    refine ar (v:=.agg cm.toArray) rfl ?_
    rw [<- e7]
    have k8:=fun (_:aD D 8 8=true)=>(⟨q6,rfl⟩:D 6=true/\Value.agg cm.toArray=.agg cm.toArray)
    have k11:aD D 8 11=true->aD D 8 10=true/\aD D 8 8=true:=fun h=>⟨(k11 h).1,rfl⟩
    exact ⟨hF_.set 8 (by first|assumption|trivial),⟨SN,cm,b12,hN,k6,k7,k8,k10,k11,hI⟩⟩
   ·have Io:=cH ‹_›
    have e7:=(k7 ‹D 7=true›).2
    rw [e7]
    refine ar (v:=.bool (bI us[k])) rfl ?_
    rw [<- e7]
    exact ⟨hF_.set 9 rfl,⟨SN,cm,b12,hN,k6,k7,k8,k10,k11,hI⟩⟩
   ·have f11:D 11=false:=bB.2 fun h=>by rw [(k11 h).1] at bF; cases bF
    rw [bF] at hI
    refine aT hI aZ fun b12 w_ hI=>?_
    have k10:=fun (_:aD D 10 10=true)=>(rfl:Value.pointer (some ⟨b12,0,none⟩)=_)
    have k11:aD D 10 11=true->aD D 10 10=true/\aD D 10 8=true:=fun h=>by rw [show D 11=true from h] at f11; cases f11
    have hI:=hI.perm (mA [B4,B6,BS,BC,aJ t9 ab 4 css,B11] [_] (aA sb mb es ck tv tr))
    have hI:Inv w [] (([B4,B6,BS,BC,aJ t9 ab 4 css,B11]++[.blk b12 (.cells (cond (D 11) cm.toArray Zg) ab)])++aA sb mb es ck tv tr) SN w_:=by rw [f11]; exact hI
    exact ⟨hF_.set 10 (by first|assumption|trivial),⟨SN,cm,b12,hN,k6,k7,k8,k10,k11,hI⟩⟩
   ·have M1:=bX ‹_›
    have QF:=c5 ‹_›
    have e10:=k10 ‹D 10=true›
    have e8:=(k8 ‹D 8=true›).2
    obtain ⟨_,hl4,ho4,_⟩:=k6 (k8 ‹D 8=true›).1
    rw [e10,e8]
    rw [‹D 10=true›,bF] at hI
    refine aC hI 6 rfl ad (by simpa using hl4) rfl (by simpa using ho4) fun w_ hI=>?_
    rw [<- e10,<- e8]
    have k11:=fun (_:aD D 11 11=true)=>(⟨‹D 10=true›,‹D 8=true›⟩:D 10=true/\D 8=true)
    have hI:Inv w [] (([B4,B6,BS,BC,aJ t9 ab 4 css,B11]++cond (D 10) [.blk b12 (.cells cm.toArray ab)] [])++aA sb mb es ck tv tr) SN w_:=by rw [‹D 10=true›]; exact hI
    exact ⟨hF_.set 11 trivial,⟨SN,cm,b12,hN,k6,k7,k8,k10,k11,hI⟩⟩
   ·obtain rfl:=dI ‹_›
    exact ⟨hF_.set 12 rfl,⟨SN,cm,b12,hN,k6,k7,k8,k10,k11,hI⟩⟩
   obtain ⟨rfl,rfl,rfl,rfl,rfl,rfl,NF,Io,QF,rfl,M1,_,rfl,_⟩:=hF_.all
   have PC:D 6=true:=by assumption
   have XH:D 10=true:=by assumption
   have np:D 11=true:=by assumption
   clear hF_ cj ci bR ce bP bY bZ cH c5 dI bX cr cZ
   obtain ⟨_,hl4,ho4,hR4⟩:=k6 PC
   have e10:=k10 XH
   subst e10
   rw [XH,np] at hI
   have hI:Inv w [] (([B4,B6,BS,BC,aJ t9 ab 4 css,B11]++[.blk b12 (.cells cm.toArray ab)])++aA sb mb es ck tv tr) SN w_:=hI
   refine bQ ?_
   cases hsm:bI us[k] with
   | false=>
    refine aw (fun _=>?_) (fun h=>by cases h)
    refine qX ?_
    refine aC (cs:=zPr) hI 1 e6 cM rfl rfl Fe fun w' hI=>?_
    refine bJ hI 1 cM rfl rfl ?_
    exact ⟨_,[],SN,rfl,hI.nil,hE4.trans hN,rfl,_,_,false,rfl,yX SN,fun h=>by cases h⟩
   | true=>
    refine aw (fun h=>by cases h) (fun _=>?_)
    refine av hI 6 ad rfl (by simpa using hl4) ?_
    refine d6 hI 4 cm bo (by omega) (by omega) rfl hl4 ho4 (by omega) (by omega) fun v' w' hI=>?_
    refine bp (by omega) ?_
    have hI:Inv w [] (([B4,B6,BS,BC]++[aJ v' ab 4 (css++[cm])])++aA sb mb es ck tv tr) SN w':=hI.sub (List.Sublist.append (l₁:=[B4,B6,BS,BC,aJ v' ab 4 (css++[cm])]) (l₂:=[B4,B6,BS,BC,aJ v' ab 4 (css++[cm]),B11,.blk b12 (.cells cm.toArray ab)]) (dB [_,_,_,_,_] [_,_]) (List.Sublist.refl _))
    refine ⟨⟨k+1,css++[cm],SN,hk',rfl,hE4.trans hN,hle4.trans hN.1,?_,?_,hI⟩,by simp only [intOf,dv]; omega⟩
    ·rw [fl hku]
     exact (hR.monoR fun _ _=>RdT.mono hN.1).snoc (hR4 hsm) hl4
    ·rw [fl hku,List.all_append,hall]
     simp [hsm]
  ·have hke:k=us.length:=by omega
   rw [hke,fJ] at hR hall
   have huk:∀ u∈us,wT u<=840:=fun u hu=>by
    obtain ⟨i,hi,rfl⟩:=zo hu
    have hi':i<s.nodes.length:=by omega
    exact gj (dE.1 hall _ hu) (jD hs.ok.good (hat i hi' hi) (hnd.ok _ (bz hi')).1.1)
   have hws:=yZ us 840 huk
   have hmu:us.length * 840<=60 * 840:=ja _ (by omega)
   have hI:Inv w [] (([B4,B6,BS,BC]++aA sb mb es ck tv tr)++[aJ t9 ab 4 css]) S4 _:=hI.perm (mA [_,_,_,_] _ [_])
   obtain ⟨S5,hE5,hrd,hI⟩:=hI.lendExt
   have hgs:=RowRd.rows (hR.monoR fun _ _=>RdT.mono hE5.1) hrd
   have hE45:=hE4.trans hE5
   have hns5:RdSl S5 6 (RdNI S5) (.slice na s.nodes.length ncap) s.nodes:=hns.mono (hle4.trans hE5.1) fun _ _=>RdNI.mono (hle4.trans hE5.1)
   clear hrd
   obtain ⟨ga,gcap,hgv9,-⟩:=id hgs
   have hJ:=hI
   subst hgv9
   clear hI
   obtain ⟨zs,hzs⟩:∃ zs,zs=iK (cN us []) us:=⟨_,rfl⟩
   have hzl:zs.length=us.length:=by rw [hzs,l8]
   have hz0:0<zs.length:=by omega
   have hzg:zs[0]=g:=by
    have h0n:0<s.nodes.length:=by omega
    have h0u:0<us.length:=by omega
    have hn0:s.nodes[0].goal=g:=hnd.hd _ (gL h0n)
    have hu0:=hat 0 h0n h0u
    rw [hn0] at hu0
    have hu0:=G2 hou hgr hu0
    subst hzs
    cases us with
    | nil=>simp at h0u
    | cons u us=>
     simp only [lG] at hu0
     show pM _ u=g
     rw [hu0]
     exact Di g hgn
   have hwz:∀ t∈zs,wT t<=1048576:=fun t ht=>by
    have h1:=Fd (cN us []) us
    have h2:=js (ts:=iK (cN us []) us) (t:=t) (by rw [<- hzs]; exact ht)
    omega
   have hclz:∀ x∈s.nodes,-1<=x.clause/\x.clause<=20:=fun x hx=>⟨(hnd.ok x hx).2.1,by have:=(hnd.ok x hx).2.2; omega⟩
   refine ⟨fun D AJ IG IQ Kw GX Ks Hl HQ w_=>Fx D 0 [HQ=.pointer (some ⟨sp,0,none⟩),Hl=.pointer (some ⟨sp,0,none⟩),Ks=.pointer (some ⟨sp,10,none⟩),GX=.slice na s.nodes.length ncap,Kw=.slice ga us.length gcap,True,True,True,True]/\∃ SN u cx x b14,Ext w.heap.size [] S5 SN/\(D 5=true->IQ=u/\RdSl SN 4 (RdT SN) u zs)/\(D 6=true->D 5=true/\IG=.agg cx.toArray/\RdF SN cx x/\x.goal=g)/\(D 7=true->AJ=.pointer (some ⟨b14,0,none⟩))/\(D 8=true->D 7=true/\D 6=true)/\Inv w [] (([B4,B6,BS,BC]++aA sb mb es ck tv tr)++cond (D 7) [.blk b14 (.cells (cond (D 8) cx.toArray zPr) aK)] []) SN w_,⟨Fx.nil _ _,⟨S5,undef,[],.mk zT 0 [],0,Ext.refl _ _ _,aQ,aQ,aQ,aQ,hJ.draw⟩⟩,⟨?_,?_,?_,?_,?_,?_,?_,?_,?_,trivial⟩,?_⟩
   all_goals (intro D bF; intros; rename_i AJ IG IQ Kw GX Ks Hl HQ w_ hA_; have hF_:=hA_.1; obtain ⟨⟨cj,ci,bR,ce,bP,bY,bZ,cH,c5,_⟩,⟨SN,u,cx,x,b14,hN,k5,k6,k7,k8,hI⟩⟩:=hA_)
   ·exact ⟨hF_.set 0 rfl,⟨SN,u,cx,x,b14,hN,k5,k6,k7,k8,hI⟩⟩
   ·obtain rfl:=cj ‹_›
    refine aB ?_
    exact ⟨hF_.set 1 rfl,⟨SN,u,cx,x,b14,hN,k5,k6,k7,k8,hI⟩⟩
   ·obtain rfl:=ci ‹_›
    refine au dS ?_
    exact ⟨hF_.set 2 rfl,⟨SN,u,cx,x,b14,hN,k5,k6,k7,k8,hI⟩⟩
   ·obtain rfl:=bR ‹_›
    refine aN hI 2 gC eS rfl ?_
    exact ⟨hF_.set 3 rfl,⟨SN,u,cx,x,b14,hN,k5,k6,k7,k8,hI⟩⟩
   ·exact ⟨hF_.set 4 rfl,⟨SN,u,cx,x,b14,hN,k5,k6,k7,k8,hI⟩⟩
   ·obtain rfl:=bP ‹_›
    refine Run.call0E rQ rl hI (pi (hgs.monoT hN.1) (by omega)) fun v' I' SM w_=>?_
    rintro ⟨rfl,M,rfl,hT⟩ hM hI
    obtain ⟨SP,hI,hP,hins⟩:=Inv.pubExt hI
    have hr:=hT.rd hins fun _ _ _ hi h=>h.rd hi
    rw [<- hzs] at hr
    have hN:=(hN.trans hM).trans hP
    have k5:=fun (_:aD D 5 5=true)=>(⟨rfl,hr⟩:v'=v'/\RdSl SP 4 (RdT SP) v' zs)
    have k6:aD D 5 6=true->aD D 5 5=true/\IG=.agg cx.toArray/\RdF SP cx x/\x.goal=g:=fun h=>by rw [(k6 h).1] at bF; cases bF
    obtain ⟨SN,hSN⟩:∃ SN,SN=SP:=⟨_,rfl⟩
    subst hSN
    obtain ⟨u,hu⟩:∃ u,u=v':=⟨_,rfl⟩
    subst hu
    exact ⟨hF_.set 5 (by first|assumption|trivial),⟨SN,u,cx,x,b14,hN,k5,k6,k7,k8,hI⟩⟩
   ·obtain rfl:=ce ‹_›
    have Ro:=bY ‹_›
    obtain ⟨e5,hu⟩:=k5 ‹D 5=true›
    have f8:D 8=false:=bB.2 fun h=>by rw [(k8 h).2] at bF; cases bF
    rw [e5]
    refine Run.call0E zk yQ hI (JC (ns:=s.nodes) (gs:=zs) (by omega) h60 hclz hwz _ 0 rfl hz0 SN (.slice na s.nodes.length ncap) u (hns5.mono hN.1 fun _ _=>RdNI.mono hN.1) hu) fun v' I' SM w_=>?_
    rw [<- e5]
    rintro ⟨rfl,cy,y,rfl,hy,hyg⟩ hM hI
    rw [hzg] at hyg
    have hN:=hN.trans hM
    have k5:aD D 6 5=true->IQ=u/\RdSl SM 4 (RdT SM) u zs:=fun h=>⟨(k5 h).1,(k5 h).2.monoT hM.1⟩
    have k6:=fun (_:aD D 6 6=true)=>(⟨‹D 5=true›,rfl,hy,hyg⟩:D 5=true/\Value.agg cy.toArray=.agg cy.toArray/\RdF SM cy y/\y.goal=g)
    have k8:aD D 6 8=true->aD D 6 7=true/\aD D 6 6=true:=fun h=>⟨(k8 h).1,rfl⟩
    rw [f8] at hI
    have hI:Inv w [] (([B4,B6,BS,BC]++aA sb mb es ck tv tr)++cond (D 7) [.blk b14 (.cells (cond (D 8) cy.toArray zPr) aK)] []) SM w_:=by rw [f8]; simpa using hI
    obtain ⟨SN,hSN⟩:∃ SN,SN=SM:=⟨_,rfl⟩
    subst hSN
    obtain ⟨cx,hcx⟩:∃ cx,cx=cy:=⟨_,rfl⟩
    subst hcx
    obtain ⟨x,hxy⟩:∃ x,x=y:=⟨_,rfl⟩
    subst hxy
    exact ⟨hF_.set 6 (by first|assumption|trivial),⟨SN,u,cx,x,b14,hN,k5,k6,k7,k8,hI⟩⟩
   ·have f8:D 8=false:=bB.2 fun h=>by rw [(k8 h).1] at bF; cases bF
    rw [bF] at hI
    refine aT hI pl fun b14 w_ hI=>?_
    have k7:=fun (_:aD D 7 7=true)=>(rfl:Value.pointer (some ⟨b14,0,none⟩)=_)
    have k8:aD D 7 8=true->aD D 7 7=true/\aD D 7 6=true:=fun h=>by rw [show D 8=true from h] at f8; cases f8
    have hI:Inv w [] (([B4,B6,BS,BC]++aA sb mb es ck tv tr)++[.blk b14 (.cells (cond (D 8) cx.toArray zPr) aK)]) SN w_:=by rw [f8]; exact hI
    exact ⟨hF_.set 7 (by first|assumption|trivial),⟨SN,u,cx,x,b14,hN,k5,k6,k7,k8,hI⟩⟩
   ·have Io:=cH ‹_›
    have NF:=bZ ‹_›
    have e7:=k7 ‹D 7=true›
    obtain ⟨_,e86,hx,_⟩:=k6 ‹D 6=true›
    rw [e7,e86]
    rw [‹D 7=true›,bF] at hI
    refine aC hI 7 rfl cM (by simpa using hx.length) rfl (by simpa using hx.one) fun w_ hI=>?_
    rw [<- e7,<- e86]
    have k8:=fun (_:aD D 8 8=true)=>(⟨‹D 7=true›,‹D 6=true›⟩:D 7=true/\D 6=true)
    have hI:Inv w [] (([B4,B6,BS,BC]++aA sb mb es ck tv tr)++cond (D 7) [.blk b14 (.cells cx.toArray aK)] []) SN w_:=by rw [‹D 7=true›]; exact hI
    exact ⟨hF_.set 8 trivial,⟨SN,u,cx,x,b14,hN,k5,k6,k7,k8,hI⟩⟩
   obtain ⟨rfl,rfl,rfl,rfl,rfl,Ro,NF,Io,_,_⟩:=hF_.all
   have PC:D 6=true:=by assumption
   have AP:D 7=true:=by assumption
   have MV:D 8=true:=by assumption
   clear hF_ cj ci bR ce bP bY bZ cH c5
   obtain ⟨_,_,hx,hxg⟩:=k6 PC
   have e7:=k7 AP
   subst e7
   rw [AP,MV] at hI
   have hI:Inv w [] (([B4,B6,BS,BC]++aA sb mb es ck tv tr)++[.blk b14 (.cells cx.toArray aK)]) SN w_:=hI
   have hE:=hE45.trans hN
   have hxl:=hx.length
   refine av hI 7 cM rfl (by simpa using hxl) ?_
   refine Run.callPure ER EO hI (xi (h4.monoC hE.1) hx) fun w' hI=>?_
   refine bQ ?_
   cases hck:checkB p x with
   | false=>
    refine aw (fun _=>?_) (fun h=>by cases h)
    refine qX ?_
    refine aC (cs:=zPr) hI 1 e6 cM rfl rfl Fe fun w' hI=>?_
    refine bJ hI 1 cM rfl rfl ?_
    exact ⟨_,[],SN,rfl,hI.nil,hE,rfl,_,_,false,rfl,yX SN,fun h=>by cases h⟩
   | true=>
    refine aw (fun h=>by cases h) (fun _=>?_)
    refine av hI 7 cM rfl (by simpa using hxl) ?_
    refine aC hI 1 e6 cM (by simpa using hxl) rfl (by simpa using hx.one) fun w' hI=>?_
    refine bJ hI 1 cM rfl (by simpa using hxl) ?_
    exact ⟨_,[],SN,rfl,hI.nil,hE,rfl,cx,x,true,rfl,hx,fun _=>hxg⟩
 ·have hgs:gp.isSome=true:=by
   cases gp with
   | none=>
    generalize hgll:s.goals=gl at hG hgl
    cases hG with
    | nil=>exact absurd rfl hgl
   | some=>rfl
  rw [hgs]
  refine aw (fun _=>?_) (fun h=>by cases h)
  obtain ⟨o',e,hst,hnext⟩:∃ o' e,((used=300/\o'=none/\e=2) ∨ (used≠300/\StepI p true s o' e))/\((o'=none/\e≠-1) ∨ ∃ s' m,n=m+1/\o'=some s'/\StepI p true s (some s') e/\FindI p m s' o):=by
   rcases ho.invG hgl with ⟨rfl,_⟩|⟨m,o',e,rfl,h2,h3⟩
   ·exact ⟨none,2,.inl ⟨by omega,rfl,rfl⟩,.inl ⟨rfl,by decide⟩⟩
   ·refine ⟨o',e,.inr ⟨by omega,h2⟩,?_⟩
    rcases h3 with ⟨rfl,_⟩|⟨s',rfl,h3⟩
    ·exact .inl ⟨rfl,h2.ne⟩
    ·exact .inr ⟨s',m,rfl,rfl,h2,h3⟩
  refine Run.callE (A:=[_,_]) pf pC hI (GQ f1 f2 (by omega) ⟨hu,by omega⟩ hst hs.ok (by omega) (by omega) (by omega) (h4.monoC hE2.1) hG hK) fun v' I' S4 w4=>?_
  rintro ⟨rfl,used',hQ,hus⟩ hE4 hI4
  obtain ⟨es4,ck4,tv4,tr4,ms4,gv4,cv4,ccs4,nv4,ncs4,mo4,fr4,rfl,hsome⟩:=hQ
  refine ef ?_
  rcases hnext with ⟨rfl,hne⟩|⟨s',m,rfl,rfl,hst',ho'⟩
  ·rw [aP hne]
   refine aw (fun _=>?_) (fun h=>by cases h)
   refine qX ?_
   refine aC (cs:=zPr) hI4 1 rfl cM rfl rfl Fe fun w' hI=>?_
   refine bJ hI 1 cM rfl rfl ?_
   exact ⟨_,[],S4,rfl,hI.nil,hE2.trans hE4,rfl,_,_,false,rfl,yX S4,fun h=>by cases h⟩
  ·obtain ⟨j1,j2,j3,rfl,j5⟩:=hst'.ok f1 hs.ok s' rfl
   have j6:=hst'.chs
   obtain ⟨rfl,hG4,hK4⟩:=hsome s' rfl
   obtain rfl:=hus rfl
   rw [aI rfl]
   refine aw (fun h=>by cases h) (fun _=>?_)
   have hmul':26 * p.length * (m+1)=26 * p.length * m+26 * p.length:=Ii _ _
   have h26:=hs.h26
   obtain ⟨d1,d2⟩:=hst'.nd f1 hs.ok hnd (fun e0 x gs t hx ht=>by
    rcases hsn1 with rfl|h
    ·exact hres0 x gs t hx ht
    ·rw [e0] at h
     cases h) s' rfl
   refine ⟨⟨m,s',used+1,gv4,cv4,nv4,tv4,ms4,tr4,es4,ccs4,ncs4,ck4,mo4,S4,hE2.trans hE4,hle12.trans hE4.1,ho',⟨j1,by omega,by omega,by omega,by omega⟩,d1,.inr d2,by omega,by omega,hG4,hK4,hI4⟩,?_⟩
   have hf2:=hI4.fuN 2 rfl
   show fuN sp _<fuN sp _
   rw [hf2,hfn]
   omega
end
end
section
open Go Go.RowKit
def plT (t:T):Prop:=t.kind=3/\fS t=false/\cI t=false
theorem plT_hd:HdP plT:=⟨fun t u h hs=>⟨by rw [hs.1]; exact h.1,by rw [xT hs]; exact h.2.1,by rw [zO hs]; exact h.2.2⟩,fun _ h=>h.1⟩
theorem StepI.ends {p:List C} {s:SI} {o:Option SI} {e:Int} (h:StepI p false s o e) (hn:Nc plT s):o=none->e=3 ∨ e=0 ∨ e=8:=by
 have first:∀ {g:GI} {gs:List GI} {t:T},s.goals=g::gs->Res s.st (.one g.t t)->plT t:=fun hg ht=>by
  have h3:=hn.goals _ (by rw [hg]; exact aS ..)
  exact plT_hd.hd _ _ h3 (Ny ht (by have:=h3.1; omega))
 cases h with
 | large=>exact fun _=>.inl rfl
 | noCut _ _ _ _ h=>cases h
 | err hg ht _ _ hb _ _ _=>
  have:=(first hg ht).2.2
  rw [hb] at this
  cases this
 | unknown=>exact fun _=>.inr (.inr rfl)
 | cut=>intro h; cases h
 | solved=>intro h; cases h
 | fail hg ht _ _ hb _ _=>
  have:=(first hg ht).2.2
  rw [hb] at this
  cases this
 | took=>intro h; cases h
 | back=>rintro rfl; exact .inr (.inl rfl)
end
section
open Go Go.RowKit
theorem Rf (p:List C) (f:List T) {y:T} (h:y∈f):y∈eT p f:=Bh _ _ _ h
theorem UP {p:List C} {f:List T} (hl:(eT p f).length<=60) {y:T} (h:y∈fZ p f):y∈eT p f:=by
 rcases OK (fZ p f) f y h with h1|h1
 ·have h1:60<(eT p f).length:=h1
  omega
 ·exact h1
theorem Vu {p:List C} {f:List T} {y:T} (h:y∈eT p f):y∈f ∨ y∈fZ p f:=yG _ _ _ h
theorem JR (p:List C) (f:List T):f.length<=(eT p f).length:=(tD (fZ p f) f).1
theorem T1 (p:List C):∀ (k:Nat) (f:List T) (n:Nat),61<=k+f.length->(stS p k f n).1.length<=60->(eT p (stS p k f n).1).length=(stS p k f n).1.length
 | 0,f,n,h1,h2=>by rw [stS] at h2; simp only [] at h2; omega
 | k+1,f,n,h1,h2=>by
  rw [stS] at h2 ⊢
  split at h2
  ·rename_i hc
   rw [ai hc]
   rcases hc with hc|hc
   ·exact hc
   ·simp only [] at h2
    omega
  ·rename_i hc
   rw [ah hc]
   have:=JR p f
   exact T1 p k _ _ (by omega) h2
theorem Bw (p:List C):∀ (k:Nat) (f:List T) (n:Nat),n<=(stS p k f n).2/\(stS p k f n).2+f.length<=n+(stS p k f n).1.length
 | 0,f,n=>by rw [stS]; exact ⟨aW _,aW _⟩
 | k+1,f,n=>by
  rw [stS]
  split
  ·exact ⟨aW _,aW _⟩
  ·have h1:=JR p f
   have h2:=Bw p k (eT p f) (n+1)
   omega
theorem KE (p:List C):∀ (k:Nat) (f:List T) (n j:Nat),j+n=(stS p k f n).2->stS p j f n=stS p k f n
 | 0,f,n,j,h=>by
  rw [stS] at h ⊢
  have:j=0:=by simp only [] at h; omega
  subst this
  rw [stS]
 | k+1,f,n,j,h=>by
  rw [stS] at h ⊢
  split at h
  ·rename_i hc
   rw [ai hc]
   have:j=0:=by simp only [] at h; omega
   subst this
   rw [stS]
  ·rename_i hc
   rw [ah hc]
   have h2:=(Bw p k (eT p f) (n+1)).1
   obtain ⟨i,rfl⟩:∃ i,j=i+1:=⟨j - 1,by omega⟩
   rw [stS,ah hc]
   exact KE p k _ _ i (by omega)
theorem YV (a b:T):a=b ∨ a≠b:=by
 cases h:eqT a b
 ·exact .inr fun e=>by rw [(lU a b).2 e] at h; cases h
 ·exact .inl ((lU a b).1 h)
theorem vP:∀ {l:List T} {x:T},x∈l->∃ l':List T,l'.length+1=l.length/\∀ y,y∈l->y=x ∨ y∈l'
 | [],x,h=>by cases h
 | z::l,x,h=>by
  rcases YV z x with e|e
  ·exact ⟨l,rfl,fun y hy=>by rcases bN.1 hy with rfl|hy; exact .inl e; exact .inr hy⟩
  ·rcases bN.1 h with rfl|h
   ·exact absurd rfl e
   ·obtain ⟨l',h1,h2⟩:=vP h
    refine ⟨z::l',by simp [h1],fun y hy=>?_⟩
    rcases bN.1 hy with rfl|hy
    ·exact .inr (aS ..)
    ·exact (h2 y hy).imp_right fun h=>aV _ h
theorem wH:∀ {l m:List T},l.Nodup->(∀ x∈l,x∈m)->l.length<=m.length
 | [],_,_,_=>be _
 | x::l,m,h,hs=>by
  rw [Be] at h
  obtain ⟨m',h1,h2⟩:=vP (hs x (aS ..))
  have h3:=wH (l:=l) (m:=m') h.2 fun y hy=>by
   rcases h2 y (hs y (aV _ hy)) with e|h4
   ·rw [e] at hy; exact absurd hy h.1
   ·exact h4
  rw [bw]
  omega
theorem Sg {a b:List T} (ha:a.Nodup) (h:∀ x∈a,x∈b) (hl:b.length=a.length) {y:T} (hy:y∈b):y∈a:=by
 refine Classical.byContradiction fun hn=>?_
 have:=wH (l:=y::a) (m:=b) (Be.2 ⟨hn,ha⟩) fun x hx=>by
  rcases bN.1 hx with rfl|hx
  ·exact hy
  ·exact h x hx
 rw [bw] at this
 omega
theorem QK {p:List C} {m:List T} (hm:Fs m) (hl:m.length<=60) (hfix:(eT p m).length=m.length) {y:T} (hy:y∈fZ p m):y∈m:=
 Sg hm.sorted.nodup (fun x hx=>Rf p m hx) hfix (UP (by omega) hy)
theorem RP (h:T) (st:al):cD (vX h st)=cD h:=by
 cases h
 simp only [cD,vX,T.kind,T.name,T.kids,kR]
 rfl
theorem H4 {hd:T} {facts:List T}:∀ (gs:List T) (st:al) (y:T),y∈fG hd facts gs st->cD y=cD hd
 | [],st,y,h=>by
  rw [fG,cd] at h
  rw [h,RP]
 | g::gs,st,y,h=>by
  rw [fG,BT] at h
  obtain ⟨f,_,h⟩:=h
  split at h
  ·exact H4 gs _ y h
  ·cases h
theorem RV {p:List C} (h:fi p=true):∀ c∈p,cD c.head=true:=by
 intro c hc
 rw [fi,bu,dE] at h
 have:=h.2 c hc
 rw [gQ,bu,eE,bu] at this
 exact this.1.2
theorem uR {p:List C} (hp:fi p=true):∀ (k:Nat) (f:List T) (n:Nat),(∀ y∈f,cD y=true)->∀ y∈(stS p k f n).1,cD y=true
 | 0,f,n,hf,y,h=>hf y h
 | k+1,f,n,hf,y,h=>by
  rw [stS] at h
  split at h
  ·exact hf y h
  ·refine uR hp k _ _ (fun x hx=>?_) y h
   rcases Vu hx with hx|hx
   ·exact hf x hx
   ·rw [fZ,BT] at hx
    obtain ⟨c,hc,hx⟩:=hx
    rw [H4 _ _ _ hx]
    exact RV hp c hc
theorem RT {y:T} (h:GA y) (d:Int) (hd:1<=d):dV y d=true:=by
 obtain ⟨h1,h2,_⟩:=h
 obtain ⟨k,n,s,ks⟩:=y
 simp only [T.kids] at h2
 subst h2
 rw [dV,ah (by omega),h1,dJ]
 rfl
theorem CN (d:Int) (hd:1<=d):∀ ks:List T,(∀ y∈ks,GA y)->dJ ks d=true
 | [],_=>rfl
 | y::ks,h=>by
  rw [dJ,RT (h y (aS ..)) d hd,CN d hd ks fun z hz=>h z (aV _ hz)]
  rfl
theorem KQ:∀ ks:List T,(∀ y∈ks,GA y)->cV ks=ks.length
 | [],_=>rfl
 | y::ks,h=>by
  rw [cV,KQ ks fun z hz=>h z (aV _ hz)]
  obtain ⟨_,h2,_⟩:=h y (aS ..)
  obtain ⟨k,n,s,l⟩:=y
  simp only [T.kids] at h2
  subst h2
  rw [ew,cV,bw]
  omega
theorem Fct.valid {x:T} (h:Fct x):dt x=true:=by
 obtain ⟨hk,ho,hy⟩:=h
 have hlen:=(px ho).2
 obtain ⟨k,n,s,ks⟩:=x
 simp only [T.kids] at hy hlen
 rw [dt,dV,ah (by omega),ho,CN (30 - 1) (by omega) ks hy,ew,KQ ks hy,aI (by omega)]
 rfl
theorem Fct.fact {x:T} (h:Fct x) (hp:cD x=true):WX x=true:=by
 have hv:=h.valid
 have hg:Gl x:=⟨h.1,h.2.1,fun y hy=>⟨(h.2.2 y hy).1,(h.2.2 y hy).2.1⟩⟩
 have hvars:(fO x []).length=0:=by
  cases e:fO x [] with
  | nil=>rfl
  | cons a l=>
   have:a∈fO x []:=by rw [e]; exact aS ..
   rcases (G8 hg [] a).1 this with h1|⟨z,hz,hk,_⟩
   ·cases h1
   ·exact absurd hk (h.2.2 z hz).2.2
 rw [WX,hv,eE,hp,hvars]
 simp only [dg,TI,decide_true,dE]
 intro y hy
 rw [kj,(h.2.2 y hy).2.1]
 rfl
abbrev i7 (p:List C):List T:=(stS p 61 [] 0).1
theorem z8 {p:List C} (h:fi p=true):Fs (i7 p):=(LA (sZ h) 61 [] 0 Fs.nil (by simp)).1
theorem Jn {p:List C} (h:fi p=true) (hl:(i7 p).length<=60) {y:T} (hy:y∈fZ p (i7 p)):y∈i7 p:=
 QK (z8 h) hl (T1 p 61 [] 0 (by simp) hl) hy
theorem O6 {p:List C} (h:fi p=true) (hl:(i7 p).length<=60):RZ p (i7 p)=true:=by
 have hF:=z8 h
 have hP:=uR h 61 [] 0 (by simp)
 rw [RZ,h,Xh,aI hl]
 simp only [dg,TI,bu,dE]
 refine ⟨fun x hx=>(hF.fct x hx).fact (hP x hx),fun c hc=>?_⟩
 rw [TE,dE]
 intro y hy
 rw [VN]
 refine Jn h hl ?_
 rw [fZ,BT]
 exact ⟨c,hc,hy⟩
theorem H1 {p:List C} {r:Int} (h:(cw p r).2=true):fi p=true/\0<=r/\(stS p (iw r) [] 0).1.length<=60/\(cw p r).1=(stS p (iw r) [] 0).1:=by
 unfold cw at h ⊢
 split at h
 ·rename_i h1
  rw [ai h1]
  rw [bu] at h1
  split at h
  ·rename_i h2
   rw [ai h2]
   refine ⟨h1.1,?_,h2,rfl⟩
   have:=h1.2
   simp at this
   omega
  ·cases h
 ·cases h
theorem Gb {p:List C} (h:(cw p 61).2=true):Fs (cw p 61).1/\RZ p (cw p 61).1=true/\0<=ou p/\ou p<=(cw p 61).1.length/\(cw p (ou p)).2=true/\(cw p (ou p)).1=(cw p 61).1/\(cw p 61).1.length<=60:=by
 obtain ⟨hf,_,hl,e⟩:=H1 h
 have hl:(i7 p).length<=60:=hl
 have e:(cw p 61).1=i7 p:=e
 have hr:ou p=((stS p 61 [] 0).2:Int):=by
  rw [ou,ai hf,ai hl]
 have hc:=(Bw p 61 [] 0).2
 simp only [bU,wV,cq] at hc
 have hc:(stS p 61 [] 0).2<=(i7 p).length:=hc
 have hst:stS p (iw (ou p)) [] 0=stS p 61 [] 0:=by
  rw [hr,iw,ah (by omega),dv]
  exact KE p 61 [] 0 _ (by simp)
 have hsr:cw p (ou p)=(i7 p,true):=by
  unfold cw
  rw [hst,hf,hr,aP (by omega),Bool.not_false,TI,ai rfl,ai hl]
 refine ⟨by rw [e]; exact z8 hf,by rw [e]; exact O6 hf hl,by rw [hr]; omega,by rw [hr,e]; omega,by rw [hsr],by rw [hsr,e],by rw [e]; exact hl⟩
end
section
open Go Go.RowKit
def k7 (_:Int):T:=.mk 7 0 emptyB []
theorem aas {N:Nat} {g:T} (hg:okU N g) {n:Int} (hn:n∈cN [g] []) (hk:g.kind=3) (hl:∀ y∈g.kids,y.kind≠1->y.kids=[]):∃ y∈g.kids,y.kind=1/\y.n=n:=by
 have h1:n∈fO g []:=hn
 rw [<- Ku g [] hg] at h1
 rcases (F6 g [] hg n).1 h1 with h|⟨m,hm,rfl⟩
 ·cases h
 rw [oF (by omega),nQ] at hm
 obtain ⟨y,hy,hm⟩:=hm
 by_cases h1:y.kind=1
 ·rw [jX h1,cd] at hm
  have:=(kP hg.kids y hy).var h1
  exact ⟨y,hy,h1,by omega⟩
 ·rw [oF h1,hl y hy h1] at hm
  cases hm
end
section
open Go Go.RowKit
def FlT (t:T):Prop:=t.kind=3/\(∀ k∈t.kids,k.kids=[])/\t.kids.length<=119
def LfM (st:al):Prop:=∀ t,some t∈st->t.kids=[]
theorem LfM.grow {st:al} (h:LfM st) (k:Nat):LfM (st++List.replicate k none):=fun t ht=>by
 rcases bO.1 ht with ht|ht
 ·exact h t ht
 ·have:=KN ht
  cases this
theorem LfM.set {st:al} (h:LfM st) (n:Nat) {u:T} (hu:u.kids=[]):LfM (st.set n (some u)):=fun t ht=>by
 rcases sC ht with ht|ht
 ·exact h t ht
 ·cases ht
  exact hu
theorem o7 {st:al} (hl:LfM st) {t v:T} (h:dF st t v):t.kids=[]->v.kids=[]:=by
 induction h with
 | stop=>exact fun h=>h
 | step hk _ ih=>exact fun _=>ih (hl _ (cz (dr.1 hk).2))
theorem tk {st:al} {t v:T} (h:dF st t v) (hk:t.kind≠1):v=t:=by
 cases h with
 | stop=>rfl
 | step hl _=>exact absurd (dr.1 hl).1 hk
def LfJ:Job->Prop
 | .one a b=>(a.kids=[]/\b.kids=[]) ∨ (a.kind=3/\b.kind=3/\(∀ k∈a.kids,k.kids=[])/\∀ k∈b.kids,k.kids=[])
 | .list xs ys=>(∀ k∈xs,k.kids=[])/\∀ k∈ys,k.kids=[]
theorem Uni.leaf {st st':al} {j:Job} {r:Bool} (h:Uni st j r st'):LfM st->LfJ j->LfM st':=by
 induction h with
 | same=>exact fun h _=>h
 | occA=>exact fun h _=>h
 | occB=>exact fun h _=>h
 | clash=>exact fun h _=>h
 | nil=>exact fun h _=>h
 | bindA ha hb hk=>
  intro hl hj
  rcases hj with ⟨h1,h2⟩|⟨h1,_⟩
  ·exact hl.set _ (o7 hl hb h2)
  ·rw [tk ha (by omega)] at hk
   omega
 | bindB ha hb _ hk=>
  intro hl hj
  rcases hj with ⟨h1,h2⟩|⟨_,h1,_⟩
  ·exact hl.set _ (o7 hl ha h1)
  ·rw [tk hb (by omega)] at hk
   omega
 | kids ha hb _ _ _ _ ih=>
  intro hl hj
  refine ih hl ?_
  rcases hj with ⟨h1,h2⟩|⟨h1,h2,h3,h4⟩
  ·rw [LfJ,o7 hl ha h1,o7 hl hb h2]
   exact ⟨fun k hk=>by (cases hk),fun k hk=>by cases hk⟩
  ·rw [tk ha (by omega),tk hb (by omega)]
   exact ⟨h3,h4⟩
 | stop _ ih=>exact fun hl hj=>ih hl (.inl ⟨hj.1 _ (aS ..),hj.2 _ (aS ..)⟩)
 | go _ _ ih1 ih2=>exact fun hl hj=>ih2 (ih1 hl (.inl ⟨hj.1 _ (aS ..),hj.2 _ (aS ..)⟩)) ⟨fun k hk=>hj.1 k (aV _ hk),fun k hk=>hj.2 k (aV _ hk)⟩
theorem Lm {st:al} (hl:LfM st):∀ {ts us:List T},Res st (.list ts us)->(∀ k∈ts,k.kids=[])->∀ k∈us,k.kids=[]
 | _,_,.nil,_,k,hk=>by cases hk
 | _,_,.cons h1 h2,hts,k,hk=>by
  rcases bN.1 hk with rfl|hk
  ·cases h1 with
   | one hw hr=>
    have:=o7 hl hw (hts _ (aS ..))
    rw [this] at hr
    cases hr
    rfl
  ·exact Lm hl h2 (fun x hx=>hts x (aV _ hx)) k hk
theorem VP {st:al} (hl:LfM st) {t u:T} (h:Res st (.one t u)) (ht:FlT t):FlT u:=by
 have hd:=Ny h (by have:=ht.1; omega)
 cases h with
 | one hw hr=>
  rw [tk hw (by have:=ht.1; omega)] at hr hd ⊢
  exact ⟨ht.1,Lm hl hr ht.2.1,by rw [hd.2.2]; exact ht.2.2⟩
theorem Q4 {t:T} (h:FlT t):bI t=true:=by
 obtain ⟨_,h2,h3⟩:=h
 have hc:∀ ts:List T,(∀ k∈ts,k.kids=[])->cV ts=ts.length/\LX ts 29=true:=by
  intro ts
  induction ts with
  | nil=>intro _; exact ⟨rfl,rfl⟩
  | cons x ts ih=>
   intro h
   obtain ⟨i1,i2⟩:=ih fun k hk=>h k (aV _ hk)
   have hx:=h x (aS ..)
   cases x with
   | mk k n s ks=>
    simp only [T.kids] at hx
    subst hx
    refine ⟨?_,?_⟩
    ·rw [cV,i1,yf,cV,bw]
     omega
    ·rw [LX,i2,Pu,LX]
     decide
 obtain ⟨c1,c2⟩:=hc t.kids h2
 cases t with
 | mk k n s ks=>
  simp only [T.kids] at c1 c2 h3
  rw [bI,bu,bk]
  refine ⟨by rw [yf,c1]; omega,?_⟩
  rw [Pu,show (30:Int) - 1=29 from rfl,c2]
  decide
theorem FlT.shift {t:T} (h:FlT t) (m:Int):FlT (dx m t):=by
 have hd:=sameHd.shift m t (by have:=h.1; omega)
 refine ⟨hd.1.trans h.1,fun k hk=>?_,by rw [hd.2.2]; exact h.2.2⟩
 cases t with
 | mk kk n s ks=>
  rw [dx] at hk
  simp only [T.kids] at hk
  rw [mi] at hk
  obtain ⟨x,hx,rfl⟩:=eU.1 hk
  have:=h.2.1 x hx
  cases x with
  | mk a b c d=>
   simp only [T.kids] at this
   subst this
   rfl
structure LfS (s:SI):Prop where
 st:LfM s.st
 goals:∀ g∈s.goals,FlT g.t
 chs:∀ c∈s.chs,LfM c.binds/\FlT c.goal/\∀ g∈c.rest,FlT g.t
theorem TryI.leaf {p:List C} (hf:∀ cl∈p,FlT cl.head) {g:T} (hg:FlT g) {l:List Int} {st:al} {o:Option HI} {n:Nat} (h:TryI p g l st o n):LfM st->∀ r,o=some r->LfM r.st/\r.cl∈p:=by
 have job:∀ {cl:C} {m:Int},cl∈p->LfJ (.one g (dx m cl.head)):=fun hc=>by
  have:=(hf _ hc).shift
  exact .inr ⟨hg.1,(this _).1,hg.2.1,(this _).2.1⟩
 induction h with
 | nil=>intro _ r h; cases h
 | hit hi hu=>intro hl r h; cases h; exact ⟨hu.leaf (hl.grow 26) (job (cz hi)),cz hi⟩
 | miss _ _ _ ih=>intro hl; exact ih (hl.grow 26)
theorem KC {p:List C} (hb:∀ cl∈p,∀ b∈cl.body,FlT b) {cs:List CI} {ns:List NI} {g:T} {a:Int} {rest:List GI} {b:al} {r:HI} (hr:LfM r.st/\r.cl∈p) (hg:FlT g) (hbd:LfM b) (h1:∀ c∈cs,LfM c.binds/\FlT c.goal/\∀ g∈c.rest,FlT g.t) (h2:∀ g∈rest,FlT g.t):LfS (kX cs ns g a rest b r):=by
 refine ⟨hr.1,fun x hx=>?_,fun c hc=>?_⟩
 ·have hx':x∈nX r.cl r.by_ cs.length a rest:=hx
  unfold nX at hx'
  rcases bO.1 hx' with hx'|hx'
  ·obtain ⟨t,ht,rfl⟩:=eU.1 hx'
   exact (hb _ hr.2 t ht).shift _
  ·exact h2 x hx'
 ·have hc':c∈cs++(if r.l=[] then [] else [(⟨g,a,rest,r.l,b,ns.length⟩:CI)]):=hc
  rcases bO.1 hc' with hc'|hc'
  ·exact h1 c hc'
  ·split at hc'
   ·cases hc'
   ·rw [cd.1 hc']; exact ⟨hbd,hg,h2⟩
theorem BackI.leaf {p:List C} (hf:∀ cl∈p,FlT cl.head) (hb:∀ cl∈p,∀ b∈cl.body,FlT b) {cs:List CI} {n:Nat} {ns:List NI} {o:Option SI} (h:BackI p cs n ns o):(∀ c∈cs,LfM c.binds/\FlT c.goal/\∀ g∈c.rest,FlT g.t)->∀ s,o=some s->LfS s:=by
 induction h with
 | nil=>intro _ s h; cases h
 | @hit cs c n m ns r ht=>
  intro h1 s h
  cases h
  obtain ⟨k1,k2,k3⟩:=h1 c (by simp)
  have hg:LfM (cF c.binds n):=k1.grow _
  exact KC hb (ht.leaf hf k2 hg r rfl) k2 hg (fun x hx=>h1 x (dy _ hx)) k3
 | miss ht _ ih=>intro h1; exact ih fun c hc=>h1 c (dy _ hc)
theorem StepI.leaf {p:List C} (hf:∀ cl∈p,FlT cl.head) (hb:∀ cl∈p,∀ b∈cl.body,FlT b) {s:SI} {o:Option SI} {e:Int} (h:StepI p false s o e) (hn:Nc plT s) (hs:LfS s):(∀ s',o=some s'->LfS s')/\(o=none->e=0 ∨ e=8):=by
 have first:∀ {g:GI} {gs:List GI} {t:T},s.goals=g::gs->Res s.st (.one g.t t)->plT t/\FlT t/\∀ x∈gs,FlT x.t:=fun hg ht=>by
  have h3:=hn.goals _ (by rw [hg]; exact aS ..)
  exact ⟨plT_hd.hd _ _ h3 (Ny ht (by have:=h3.1; omega)),VP hs.st ht (hs.goals _ (by rw [hg]; exact aS ..)),fun x hx=>hs.goals x (by rw [hg]; exact aV _ hx)⟩
 cases h with
 | large hg ht hsm=>
  rw [Q4 (first hg ht).2.1] at hsm
  cases hsm
 | noCut _ _ _ _ h=>cases h
 | err hg ht _ _ hbl _ _ _=>
  have:=(first hg ht).1.2.2
  rw [hbl] at this
  cases this
 | unknown=>exact ⟨fun s' h=>(by cases h),fun _=>.inr rfl⟩
 | cut hg ht _ hc _=>
  have:=(first hg ht).1.2.1
  rw [hc] at this
  cases this
 | solved hg ht _ _ hbl _=>
  have:=(first hg ht).1.2.2
  rw [hbl] at this
  cases this
 | fail hg ht _ _ hbl _ _=>
  have:=(first hg ht).1.2.2
  rw [hbl] at this
  cases this
 | took hg ht _ _ _ _ hT=>
  refine ⟨fun s' h=>?_,fun h=>by cases h⟩
  cases h
  obtain ⟨_,h2,h3⟩:=first hg ht
  exact KC hb (hT.leaf hf h2 hs.st _ rfl) h2 hs.st hs.chs h3
 | back hg ht _ _ _ _ _ ho=>
  refine ⟨ho.leaf hf hb hs.chs,?_⟩
  rintro rfl
  exact .inl rfl
theorem RunI.ends {p:List C} (hf:∀ cl∈p,FlT cl.head) (hb:∀ cl∈p,∀ b∈cl.body,FlT b) (hpl:∀ cl∈p,∀ b∈cl.body,plT b) {most n:Nat} {s:SI} {out:List (List T)} {r:List (List T) × Int} (h:RunI p [] most n s out r) :
  Nc plT s->LfS s->r.2=0 ∨ r.2=1 ∨ r.2=2 ∨ r.2=8:=by
 induction h with
 | fuel=>exact fun _ _=>.inr (.inr (.inl rfl))
 | more=>exact fun _ _=>.inr (.inl rfl)
 | large _ _ hv=>
  intro _ _
  obtain ⟨us,hus,ho⟩:=hv
  cases hus
  cases ho
 | stop _ hst=>
  intro hn hl
  rcases (hst.leaf hf hb hn hl).2 rfl with h|h
  ·exact .inl h
  ·exact .inr (.inr (.inr h))
 | step _ hst _ ih=>exact fun hn hl=>ih (hst.nc plT_hd hpl hn _ rfl) ((hst.leaf hf hb hn hl).1 _ rfl)
 | last=>exact fun _ _=>.inl rfl
 | next _ _ _ hbk _ ih=>exact fun hn hl=>ih (hbk.nc plT_hd hpl hn.chs _ rfl) (hbk.leaf hf hb hl.chs _ rfl)
theorem Vw {p:List C} {g:T} (h:(cw p 61).2=true) (hg:g∈(cw p 61).1) {most fuel:Nat} {r:List (List T) × Int} (hr:SolR p [g] most fuel r):r.2=0 ∨ r.2=1 ∨ r.2=2 ∨ r.2=8:=by
 obtain ⟨hf,_,hl,e⟩:=H1 h
 have hl:(i7 p).length<=60:=hl
 have e:(cw p 61).1=i7 p:=e
 rw [e] at hg
 have hF:=(z8 hf).fct g hg
 have hpl:∀ y∈i7 p,cD y=true:=uR hf 61 [] 0 (by simp)
 have hgp:=hpl g hg
 have hpv:de p=true:=by rw [fi,bu] at hf; exact hf.1
 have hgb:eq g=true:=by rw [eq,hF.valid,hgp]; simp
 have hpt:∀ t:T,cD t=true->plT t:=fun t h=>by
  obtain ⟨q1,q2⟩:=Kk h rfl
  rw [cD,bu,bk] at h
  exact ⟨h.1,q1,q2⟩
 have hP:=sZ hf
 have gl:∀ {t:T},Gl t->FlT t:=fun h=>⟨h.1,fun k hk=>(h.2.2 k hk).2,by have:=(px h.2.1).2; omega⟩
 have hv:cN [g] []=[]:=by
  have hn:∀ n,n ∉ cN [g] []:=fun n hn=>by
   obtain ⟨y,hy,h1,_⟩:=aas (io hF.valid) hn hF.1 fun y hy _=>(hF.2.2 y hy).2.1
   exact (hF.2.2 y hy).2.2 h1
  exact List.eq_nil_iff_forall_not_mem.2 hn
 have hgf:FlT g:=⟨hF.1,fun k hk=>(hF.2.2 k hk).2.1,by have:=(px hF.2.1).2; omega⟩
 rcases hr with ⟨_,hr⟩|⟨hb,_⟩
 ·rw [hv] at hr
  refine hr.ends (fun cl hc=>gl (hP.parts cl hc).1) (fun cl hc b hb=>gl ((hP.parts cl hc).2.1 b hb)) (fun cl hc b hb=>hpt b (RW hf hc hb)) (WW fun t ht=>by rw [cd.1 ht]; exact hpt g hgp) ⟨fun t ht=>?_,fun x hx=>?_,fun c hc=>by cases hc⟩
  ·have ht:some t∈List.replicate 26 (none:Option T):=ht
   have:=KN ht
   cases this
  ·obtain ⟨t,ht,rfl⟩:=eU.1 hx
   rw [cd.1 ht]
   exact hgf
 ·rw [hpv] at hb
  simp [eN,hgb] at hb
end
section
open Go Go.RowKit
section
variable {br:Nat} {sl:Value} {ys:List Nat} {S:ae}
attribute [local irreducible] Run CondV az aO
theorem GD (S:ae):Tri Tryz.prog Mb [] [] S fun v I' S'=>I'=[]/\∃ l,RdSl S' 1 zV v l/\l.length=6/\l.all okS=true:=by
 intro w hI
 refine wx.2 ?_
 dsimp only[wx,rv]
 refine um hI (by kernel_rfl) rfl (by omega) fun v S1 w' hE1 hv hI=>?_
 exact ⟨_,[],S1,rfl,hI,hE1,rfl,_,hv,rfl,by decide +kernel⟩
abbrev YK (br:Nat) (sl:Value) (p k:Nat):Value->List Item->ae->Prop:=fun u I' S'=>∃ p',p'<=p+k/\I'=[rdI br sl p']/\∃ ps,RdSl S' 5 (RdC S') u ps/\Light 8 200 ps/\0<ps.length
theorem Cr {p:Nat} (hrd:RdSl S 1 mE sl ys) (hp:p<=10000000):Tri Tryz.prog HC [rdP br] [rdI br sl p] S (YK br sl p 3):=by
 intro w hI
 refine rC.2 ?_
 dsimp only[rC,aM]
 refine Run.call0E Js JK hI (GD S) fun v' I' S1 w'=>?_
 rintro ⟨rfl,l,hl,hl6,hok⟩ hE1 hI
 have hI:Inv w [br] [rdI br sl p] S1 w':=hI
 refine aF hl cR ?_
 refine Run.callL cP cO hI (eH (n:=l.length) (hrd.monoU hE1.1) (by omega) (by omega)) rfl fun v' I' S1 w'=>?_
 rintro ⟨rfl,rfl,k,hk,rfl⟩ _ hI
 have hI:Inv w [br] [rdI br sl (p+1)] S1 w':=hI
 refine i5 hI hl cR aU hk (fun cs hcs=>hcs) ?_
 rw [dE] at hok
 refine Run.call0E om og hI (Kh (hok _ (bz hk))) fun v I' S3 w'=>?_
 rintro ⟨u,css,ps,rfl,rfl,hR,h0,hps,_⟩ hE3 hI
 have hI:Inv w [br] [aJ u aq 5 css,rdI br sl (p+1)] S3 w':=hI.last 0 rfl
 obtain ⟨S4,hE4,hI,hr⟩:=ud hI hR
 have hE4:=hE1.trans (hE3.trans hE4)
 refine ar (v:=u) rfl ?_
 refine ar (v:=.bool true) rfl ?_
 refine ⟨fun t w'=>∃ (p2:Nat) (S5:ae) (q:List C),p2<=p+3/\Ext w.heap.size [br] S S5/\RdSl S5 5 (RdC S5) t q/\Light 8 200 q/\0<q.length/\Inv w [br] [rdI br sl p2] S5 w',?_,?_⟩
 ·refine Run.callL cP cO hI (eH (n:=8) (hrd.monoU hE4.1) (by omega) (by omega)) rfl fun v' I' S2 w'=>?_
  rintro ⟨rfl,rfl,k2,hk2,rfl⟩ _ hI
  refine bl ?_
  refine aL (fun _=>?_) (fun _=>⟨p+2,_,ps,by omega,hE4,hr,hps,h0,hI⟩)
  refine Run.callL Fz GV hI (E0 (p:=p+1+1) (hrd.monoU hE4.1) (by omega)) rfl fun v1 I' S5 w'=>?_
  rintro ⟨p2,css1,q1,hp2,rfl,hR1,hq1,h1,_⟩ hE5 hI
  obtain ⟨S6,hE6,hI,hr6⟩:=ud (A:=[rdI br sl p2]) hI hR1
  exact ⟨p2,S6,q1,by omega,hE4.trans (hE5.trans hE6),hr6,hq1,h1,hI⟩
 intro t4 _ _ _ _ _ w'
 rintro ⟨p2,S5,q,hp2,hE5,hr,hl,h0,hI⟩
 exact ⟨_,_,S5,rfl,hI,hE5,p2,hp2,rfl,q,hr,hl,h0⟩
abbrev XY (v':Value) (I':List Item) (S':ae):Prop:=I'=[]/\∃ q,RdSl S' 5 (RdC S') v' q/\Light 30 900 q
theorem r9 {v:Value} (h:RdSl S 1 mE v ys):Tri Tryz.prog vu [v] [] S XY:=by
 intro w hI
 refine kS.2 ?_
 dsimp only[kS,aM]
 refine Run.call0E Nw MR hI (Rc h) fun v1 I' S1 w'=>?_
 rintro ⟨rfl,br,sl,ys',rfl,rfl,hrd⟩ _ hI
 have hI:Inv w [] [rdI br sl 0] S1 w':=hI
 refine Run.callL ET EE hI (Cr (p:=0) hrd (by omega)) rfl fun v2 I' S2 w'=>?_
 rintro ⟨p1,hp1,rfl,ps,hps,hlp,h0⟩ hE2 hI
 have hI:Inv w [] [rdI br sl p1] S2 w':=hI
 refine Run.callL Cj BQ hI (zx (m:=200) (p:=p1) (hrd.monoU hE2.1) hps ⟨by have:=hlp.1; omega,hlp.2⟩ h0 (by omega) (by omega)) rfl fun v3 I' S5 w'=>?_
 rintro ⟨p3,hp3,rfl,q2,hr2,hq2⟩ hE5 hI
 exact ⟨_,[],S5,rfl,Inv.nil hI,hE2.trans hE5,rfl,q2,hr2,hq2⟩
theorem uA {v:Value} (h:RdSl S 1 mE v ys):Tri Tryz.prog xp [v] [] S XY:=by
 intro w hI
 refine lF.2 ?_
 dsimp only[lF,aM]
 refine Run.call0E ux tW hI (r9 h) fun v I' S2 w'=>?_
 rintro ⟨rfl,q,hr,hl⟩ hE2 hI
 exact ⟨_,[],S2,rfl,hI,hE2,rfl,q,hr,hl⟩
end
end
section
open Go Go.RowKit
section
variable {w w0:World} {X:List Nat} {L A:List Item} {S:ae} {K:Value->World->Prop}
attribute [local irreducible] Run CondV az aO
end
end
section
open Go Go.RowKit
section
variable {w w0:World} {X:List Nat} {L A:List Item} {S:ae} {K:Value->World->Prop}
attribute [local irreducible] Run CondV az aO
end
end
section
open Go Go.RowKit
section
variable {w w0:World} {X:List Nat} {L:List Item} {S:ae} {K:Value->World->Prop}
attribute [local irreducible] Run CondV az aO
theorem Run.pubTreeB {f:FuncId} {fn:Func} {args:List Value} {ys:List T} {b:Bool} (hf:Tryz.prog.funcs[f]?=some fn) (hn:(fn.name == "runtime.NumGoroutine" || fn.body.isNone)=false) (hI:Inv w0 X L S w)
  (hc:Tri Tryz.prog f args [] S (B9 ys b)) (hk:∀ u S' w',Sle S S'->RdSl S' 4 (RdT S') u ys->Inv w0 X L S' w'->K (.tuple #[u,.bool b]) w'):Run Tryz.prog (eM (.func (.func f) #[] #[]) args) w K:=by
 refine Run.call0 hf hn hI hc fun v' I' S' w'=>?_
 rintro ⟨u,M,rfl,rfl,hT⟩ hle hI
 obtain ⟨S1,hle1,hins,hI,_⟩:=Inv.lendAll M hI
 exact hk _ _ _ (hle.trans hle1) (hT.rd hins fun _ _ _ hi h=>h.rd hi) hI
end
section
attribute [local irreducible] Run CondV az aO
end
end
section
open Go Go.RowKit
theorem Xj {g:T} (h:Fct g):vT g=[]:=by
 rw [oF (by have:=h.1; omega)]
 have:∀ ts:List T,(∀ y∈ts,GA y)->vTL ts=[]:=by
  intro ts
  induction ts with
  | nil=>intro _; rfl
  | cons t ts ih=>
   intro h
   obtain ⟨_,h2,h3⟩:=h t (aS ..)
   rw [vTL,ih fun y hy=>h y (aV _ hy),oF h3,h2]
   rfl
 exact this g.kids h.2.2
theorem XA {g:T} (h:Fct g) (σ:Int->T):sbT σ g=g:=by
 rw [UB σ (by have:=h.1; omega)]
 have:∀ ts:List T,(∀ y∈ts,GA y)->sbL σ ts=ts:=by
  intro ts
  induction ts with
  | nil=>intro _; rfl
  | cons t ts ih=>
   intro h
   obtain ⟨_,h2,h3⟩:=h t (aS ..)
   rw [sbL,ih fun y hy=>h y (aV _ hy),UB σ h3,h2]
   congr 1
   cases t
   simp only [T.kids] at h2
   subst h2
   rfl
 rw [this g.kids h.2.2]
 cases g
 rfl
section
variable {S:ae} {ys:List Nat} {v:Value}
attribute [local irreducible] Run CondV az aO
set_option maxHeartbeats 1000000 in
theorem G4 {v2:Value} {zs:List Nat} (h:RdSl S 1 mE v ys) (h2:RdSl S 1 mE v2 zs):Pure Tryz.prog c9 [v,v2] S (.bool true):=by
 intro w hI
 have hzl:=h2.le
 simp only [maxLen] at hzl
 refine ov.2 ?_
 dsimp only[ov,aY]
 refine ⟨fun q w'=>∃ b,q=.bool b/\Inv w [] [] S w',?_,?_⟩
 ·refine aF h ec ?_
  refine dA ?_
  cases hd:decide ((ys.length:Int) > 1048576)
  ·refine rpG ?_
   refine aF h2 ec ?_
   refine dA ?_
   refine rpG ?_
   exact ⟨_,rfl,hI⟩
  ·refine rpG ?_
   exact ⟨_,rfl,hI⟩
 intro q _ _ _ _ _ _ _ w'
 rintro ⟨b,rfl,hI⟩
 refine aw (fun _=>done hI rfl) (fun _=>?_)
 refine Run.call0E ve u9 hI (uA h) fun pu I' S1 w'=>?_
 rintro ⟨rfl,p,hp,hlp⟩ hE1 hI
 have hI:Inv w [] [] S1 w':=hI
 have hwp:wP p<=1048576:=by have:=hlp.le; omega
 refine Run.pubTreeB EA Eh hI (wQ hp hwp) fun a S2 w' hle2 ha hI=>?_
 have hp:=hp.monoC hle2
 refine ar (v:=a) rfl ?_
 refine ar (v:=.bool (cw p 61).2) rfl ?_
 refine Run.pubTreeB El Ex hI (wO hp hwp) fun b S3 w' hle3 hb hI=>?_
 have hp:=hp.monoC hle3
 have ha:=ha.monoT hle3
 have hle13:=hE1.1.trans (hle2.trans hle3)
 refine ar (v:=b) rfl ?_
 refine ar (v:=.bool (cw p 61).2) rfl ?_
 obtain ⟨m,hm⟩:∃ m,m=(cw p 61).1:=⟨_,rfl⟩
 rw [<- hm] at ha hb
 obtain ⟨aa,ac,rfl,_⟩:=id ha
 refine ⟨fun t w'=>t=.bool (!(cw p 61).2 || decide (m.length=0))/\Inv w [] [] S3 w',?_,?_⟩
 ·refine VQ E9 ?_
  rw [SF]
  refine rpG ?_
  refine Run.callPure AG yq hI (vV ha hb) fun w' hI=>?_
  refine bQ ?_
  refine rpG ?_
  refine bQ ?_
  cases hok:(cw p 61).2
  ·refine rpG ?_
   exact ⟨rfl,hI⟩
  refine rpG ?_
  refine eV ag ?_
  refine bl ?_
  rw [show decide ((m.length:Int)=0)=decide (m.length=0) by rw [fg]; omega]
  refine rpG ?_
  exact ⟨rfl,hI⟩
 intro q _ _ _ _ _ _ _ _ _ _ _ _ _ _ _ _ _ w'
 rintro ⟨rfl,hI⟩
 refine aw (fun _=>?_) (fun hbb=>?_)
 ·refine aac E9 ?_
  rw [SF]
  refine rpG ?_
  refine Run.callPure AG yq hI (vV ha hb) fun w' hI=>?_
  refine rpG ?_
  exact fT hI hle13 rfl
 rw [KU,rK,jC] at hbb
 obtain ⟨hok,hm0⟩:=hbb
 obtain ⟨k,hk⟩:∃ k:Nat,k=zs.length % m.length:=⟨_,rfl⟩
 have hkm:k<m.length:=by
  rw [hk]
  exact un _ (by omega)
 refine aF h2 ec ?_
 refine eV ag ?_
 refine VW (by omega) ?_
 rw [show (zs.length:Int).tmod (m.length:Int)=(k:Int) by rw [hk]; rfl]
 refine cL hI ha ag ad hkm (fun _ _=>RdT.length) fun cs hcs=>?_
 obtain ⟨g,hg⟩:∃ g,g=m[k]:=⟨_,rfl⟩
 rw [<- hg] at hcs
 have hgm:g∈(cw p 61).1:=by rw [<- hm,hg]; exact bz hkm
 have hF:=(Gb hok).1.fct g hgm
 have hmb:=(Gb hok).2.1
 obtain ⟨hfl,_,_,e⟩:=H1 hok
 have e:(cw p 61).1=i7 p:=e
 have hgp:cD g=true:=(uR hfl 61 [] 0 (by simp):∀ y∈i7 p,cD y=true) g (by have h9:=hgm; rw [e] at h9; exact h9)
 have hpv:de p=true:=by rw [fi,bu] at hfl; exact hfl.1
 have hgb:eq g=true:=by rw [eq,hF.valid,hgp]; simp
 have hcl:=hcs.length
 refine aT hI aZ fun b10 w' hI=>?_
 refine aC hI 0 rfl ad (by simpa using hcl) rfl (by simpa using hcs.one) fun w' hI=>?_
 have hI:Inv w [] [.blk b10 (.cells cs.toArray ab)] S3 w':=hI
 refine av hI 0 ad rfl (by simpa using hcl) ?_
 refine Run.call0E G0 Gm hI (Em hpv hgb (XA hF) (Xj hF) hp hcs) fun t I' S4 w'=>?_
 rintro ⟨rfl,cx,x,fb,rfl,hx,hxg⟩ hE4 hI
 have hxl:=hx.length
 have hI:Inv w [] [.blk b10 (.cells cs.toArray ab)] S4 w':=by simpa using hI
 refine ar (v:=.agg cx.toArray) rfl ?_
 refine ar (v:=.bool fb) rfl ?_
 refine aT hI pl fun b11 w' hI=>?_
 refine aC hI 1 rfl cM (by simpa using hxl) rfl (by simpa using hx.one) fun w' hI=>?_
 have hI:Inv w [] [.blk b10 (.cells cs.toArray ab),.blk b11 (.cells cx.toArray aK)] S4 w':=hI
 refine av hI 0 ad rfl (by simpa using hcl) ?_
 refine Zy hI (hcs.mono hE4.1) fun qv S5 w' hE5 hq hI=>?_
 obtain ⟨r,hr⟩:=SolR.ex p [g] 1 300
 have hend:=Vw hok hgm hr
 have hE45:=hE4.trans hE5
 refine Run.call0E Ss R0 hI (Pp (most:=1) (fuel:=300) (hp.monoC hE45.1) hq (by omega) (by omega) hr) fun t I' S6 w'=>?_
 rintro ⟨rfl,v1,rfl,hv1⟩ hE6 hI
 have hI:Inv w [] [.blk b10 (.cells cs.toArray ab),.blk b11 (.cells cx.toArray aK)] S6 w':=by simpa using hI
 have hle:=hle13.trans (hE45.trans hE6).1
 have hcs6:=hcs.mono (hE45.trans hE6).1
 have hx6:=hx.mono (hE5.trans hE6).1
 refine ar (v:=v1) rfl ?_
 refine ar (v:=.int .i64 r.2) rfl ?_
 refine bQ ?_
 cases hfb:fb
 ·refine rpG ?_
  refine bl ?_
  by_cases h2e:r.2=2
  ·rw [aI h2e]
   refine rpG ?_
   exact fT hI hle rfl
  rw [aP h2e]
  refine rpG ?_
  refine bl ?_
  by_cases h8e:r.2=8
  ·rw [aI h8e]
   refine rpG ?_
   exact fT hI hle rfl
  rw [aP h8e]
  refine rpG ?_
  refine bl ?_
  by_cases h1e:r.2=1
  ·rw [aI h1e]
   refine rpG ?_
   exact fT hI hle rfl
  rw [aP h1e]
  refine rpG ?_
  refine bl ?_
  rw [aI (by omega)]
  refine rpG ?_
  exact fT hI hle rfl
 ·refine rpG ?_
  obtain ⟨kv,kp,rfl,hgx,_,_⟩:=RdF.iff.1 hx6
  refine au ib ?_
  refine di hI 1 [.int .i64 x.goal.kind,.int .i64 x.goal.n,.string x.goal.name,kv] ad rfl rfl KL ?_
  refine av hI 0 ad rfl (by simpa using hcl) ?_
  refine Run.callPure iH iL hI (ig _ _ S6 _ _ hgx hcs6) fun w' hI=>?_
  rw [hxg hfb,Qz]
  refine rpG ?_
  exact fT hI hle rfl
end
end
section
open Go Go.ChangeShapes Go.WideShapes Go.RowKit
def TM:List (String × DataW Unit):=[("math/bits.deBruijn32tab",Rows.laid_math_bits_deBruijn32tab),("math/bits.deBruijn64tab",Rows.laid_math_bits_deBruijn64tab),("internal/strconv.uint64pow10",Rows.laid_internal_strconv_uint64pow10)]
theorem X6 (os:Os) (args:Array Value):laidMetH Tryz.prog TM ((World.doorLaid Tryz.prog 24 os).forCall (fun _ _=>0) ⟨#[],args,[]⟩).memory:=
 laidMetH_of_parts3 (fuel:=8) (laidMet_of_run' 8 (by kernel_rfl) (by kernel_rfl)) (by kernel_rfl) (by kernel_rfl)
end
end Go.Proofs.YtgllldjiaglkcaaGreatDoor
