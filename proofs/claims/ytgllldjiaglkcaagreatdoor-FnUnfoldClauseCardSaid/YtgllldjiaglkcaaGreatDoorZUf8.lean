/- spec.l15Resolvent. -/
import Derived.Test.YtgllldjiaglkcaaGreatDoorZUf7
namespace Go.Proofs.YtgllldjiaglkcaaGreatDoor
section
open Go Go.RowKit
def iB:Option (Option C)->Bool
 | none=>false
 | _=>true
def jp:Option (Option C)->Bool
 | none=>true
 | some none=>false
 | some (some r)=>bt r
def xI:Option (Option C)->Bool
 | some (some r)=>bt r
 | _=>false
def RS:C:=⟨⟨0,0,⟨#[]⟩,[]⟩,[]⟩
def clO:Option (Option C)->C
 | some (some r)=>r
 | _=>RS
theorem TU (z:Array Value) (f:z=#[.int .i64 0,.int .i64 0,.string ⟨#[]⟩,.slice none 0 0]) (S:ae):KnU S ((Array.range 208).map (z[· % z.size]!)) stU:=by
 subst f;refine ⟨by simp [stU],fun i g=>⟨fun _=>?_,fun t a=>?_⟩⟩
 ·simp only [stU,Ju] at g;apply vO;intro j;rw [aX,wh]
  match j with
  | 0|1|2|3=>
   rw [ai (by omega),z6,YO,Array.getElem?_map,Array.getElem?_range,ai (by omega)];simp only [wV,List.size_toArray,bq,bW];first
    | rw [show (i * 4+0) % 4=0 by omega]; rfl
    | rw [show (i * 4+1) % 4=1 by omega]; rfl
    | rw [show (i * 4+2) % 4=2 by omega]; rfl
    | rw [show (i * 4+3) % 4=3 by omega]; rfl
  | j+4=>
   rw [ag (by omega)];rfl
 ·have e:stU[i]=none:=by simp only [stU,Ue]
  rw [e] at a;cases a
theorem Jl:∀ (l:List T) (h:0<l.length) (d:T),l.headD d=l[0]
 | _::_,_,_=>rfl
 | [],h,_=>by simp at h
def Y3 (c:C) (f k:Bool):Value->List Item->ae->Prop:=fun q I' S'=>I'=[]/\∃ cs:List Value,q=.tuple #[.agg cs.toArray,.bool f,.bool k]/\RdC S' cs c
theorem Ay:∀ x∈([.int .i64 0,.int .i64 0,.string ⟨#[]⟩,.slice none 0 0,.slice none 0 0]:List Value),x.oneCell'=true:=by simp [Value.oneCell']
section
variable {P:Program} {w:World} {K:Value->World->Prop}
attribute [local irreducible] Run
theorem YP {T:TypeId} {f g:Bool} {a b:Int} (h:-9223372036854775808<=a * b/\a * b<=9223372036854775807) (hk:K (.int .i64 (a * b)) w):Run P (c9 .mul T f g (.int .i64 a) (.int .i64 b)) w K:=by
 refine Run.of ?_ hk;simp [c9,c8,binOp,Op.intArith,IntWalk.i64_in _ h]
end
section
attribute [local irreducible] Run CondV aq aK
set_option maxHeartbeats 2000000 in
theorem wO {g d0:C} {o:Option (Option C)} (hc:bt g=true) (hd:bt d0=true) (j5:wC g<=1048576) (h9:wC d0<=1048576) (hb:g.body≠[]) (ho:RO g d0 o) {S:ae} {cs ds:List Value} (h:RdC S cs g) (h':RdC S ds d0) :
  Tri Tryz.prog Ad [.agg cs.toArray,.agg ds.toArray] [] S (Y3 (clO o) (iB o) (jp o)):=by
 intro w f;have f:Inv w [] [] S w:=f;have r3:=h.length;have o0:=h'.length;obtain ⟨d1,d2,_⟩:=dU hd;have e4:=Bn hc hd;have d3:=sD hc hd;have g6:=pe hc hd j5 h9 hb;obtain ⟨r,st,hu,c4⟩:=ho;obtain ⟨hg,_⟩:=hu.good js g6;have h0:=h;obtain ⟨q7,ks,rfl,h1,h2⟩:=h;have o1:=h1;obtain ⟨U,rfl,g1,g2,g3,g4⟩:=RdT.iff.1 h1;have j0:0<g.body.length:=UM.2 hb;obtain ⟨bb,bo,N,bc,bE,q8,rfl,n2,n3⟩:=h2.at_ j0;have g7:g.body.headD ⟨0,0,⟨#[]⟩,[]⟩=g.body[0]:=Jl _ j0 _;rw [g7] at hu g6;refine nS.2 ?_;dsimp only[nS,bm];refine bJ f fun b2 w' f=>?_;refine bJ f fun b3 w' f=>?_;refine aQ f cX fun b4 w' f=>?_;refine aC f 1 aH rfl (by simpa [Value.cells] using o0) ?_;refine Run.call0E H2 HA f (Gm (Nv:=26) (by omega) 26 (by omega) (by omega) h' d1 d2 h9) fun v' I' S0 w'=>?_;rintro ⟨rfl,es,L,rfl,rfl,hT⟩ m5 f;obtain ⟨S1,f,n4,k2⟩:=f.pubExt;have hE:=m5.trans n4;have he:=hT.rd k2;obtain ⟨B,i4⟩:∃ B,B=Vp 26 d0:=⟨_,rfl⟩
 rw [<- i4] at he;have o2:bp 26 d0.head=B.head:=by rw [i4]; rfl
 have l0:dM 26 d0.body=B.body:=by rw [i4]; rfl
 rw [o2] at hu g6;have l1:iN g d0=g.head::(B.body++g.body.drop 1):=by rw [iN,l0]
 rw [l1] at c4 e4 d3;have o3:=he;obtain ⟨eh,q9,rfl,k3,k4⟩:=he;have l2:=k3;obtain ⟨V,rfl,_⟩:=RdT.iff.1 k3;obtain ⟨ea,O,rfl,_⟩:=id k4;refine aQ f cX fun b8 w' f=>?_;refine au f 3 rfl aH rfl rfl (by simpa using o3.one) fun w' f=>?_;refine YP (by omega) ?_;refine Ko (n:=52) f bn (by omega) (by omega) (by omega) fun kb w' f=>?_;have h6:=TU _ rfl S1;obtain ⟨kc,g9⟩:∃ kc,kc=(Array.range 208).map ((#[.int .i64 0,.int .i64 0,.string ⟨#[]⟩,.slice none 0 0]:Array Value)[· % (#[.int .i64 0,.int .i64 0,.string ⟨#[]⟩,.slice none 0 0]:Array Value).size]!):=⟨_,rfl⟩
 rw [<- g9] at h6;have f:Inv w [] [.blk b2 (.cells #[.int .i64 g.head.kind,.int .i64 g.head.n,.string g.head.name,U,.slice (some ⟨bb,bo,none⟩) g.body.length N] ac),.blk b3 (.cells ds.toArray ac),.blk b4 (.cells #[.int .i64 0,.int .i64 0,.string ⟨#[]⟩,.slice none 0 0,.slice none 0 0] ac),.blk b8 (.cells #[.int .i64 B.head.kind,.int .i64 B.head.n,.string B.head.name,V,.slice ea B.body.length O] ac),.blk kb (.cells kc ab)] S1 w':=by rw [g9]; exact f
 have l3:=hE.1 _ _ n2;have h7:=n3.mono hE.1;have j1:=Hz (kp:=52) (by omega) js g6 hu S1 _ _ kb kc h7 l2 h6;refine ⟨fun D ir ji jv pn kV fN lP r4 pR w_=>Fx D 0 [pR=.pointer (some ⟨b2,4,none⟩),r4=.slice (some ⟨bb,bo,none⟩) g.body.length N,lP=.pointer (some ⟨bb,bo+0 * 4,none⟩),fN=.agg (aX bc (bo+0 * 4) 4).toArray,kV=.pointer (some ⟨b8,0,none⟩),pn=.agg #[.int .i64 B.head.kind,.int .i64 B.head.n,.string B.head.name,V],jv=kvU kb 52 52,ji=.bool r,ir=.bool (!r)]/\(D 7=false->Inv w [] [.blk b2 (.cells #[.int .i64 g.head.kind,.int .i64 g.head.n,.string g.head.name,U,.slice (some ⟨bb,bo,none⟩) g.body.length N] ac),.blk b3 (.cells ds.toArray ac),.blk b4 (.cells #[.int .i64 0,.int .i64 0,.string ⟨#[]⟩,.slice none 0 0,.slice none 0 0] ac),.blk b8 (.cells #[.int .i64 B.head.kind,.int .i64 B.head.n,.string B.head.name,V,.slice ea B.body.length O] ac),.blk kb (.cells kc ab)] S1 w_)/\(D 7=true->∃ Z,KnU S1 Z st/\Inv w [] [.blk b2 (.cells #[.int .i64 g.head.kind,.int .i64 g.head.n,.string g.head.name,U,.slice (some ⟨bb,bo,none⟩) g.body.length N] ac),.blk b3 (.cells ds.toArray ac),.blk b4 (.cells #[.int .i64 0,.int .i64 0,.string ⟨#[]⟩,.slice none 0 0,.slice none 0 0] ac),.blk b8 (.cells #[.int .i64 B.head.kind,.int .i64 B.head.n,.string B.head.name,V,.slice ea B.body.length O] ac),.blk kb (.cells Z ab)] S1 w_)/\∃ a8,Inv w [] [.blk b2 (.cells #[.int .i64 g.head.kind,.int .i64 g.head.n,.string g.head.name,U,.slice (some ⟨bb,bo,none⟩) g.body.length N] ac),.blk b3 (.cells ds.toArray ac),.blk b4 (.cells #[.int .i64 0,.int .i64 0,.string ⟨#[]⟩,.slice none 0 0,.slice none 0 0] ac),.blk b8 (.cells #[.int .i64 B.head.kind,.int .i64 B.head.n,.string B.head.name,V,.slice ea B.body.length O] ac),.blk kb (.cells a8 ab)] S1 w_,⟨Fx.nil _ _,⟨fun _=>f.draw,aI,kc,f.draw⟩⟩,⟨?_,?_,?_,?_,?_,?_,?_,?_,?_,trivial⟩,?_⟩;all_goals (intro D bH; intros; rename_i ir ji jv pn kV fN lP r4 pR w_ b9; have J:=b9.1; obtain ⟨⟨cI,cJ,cH,cD,cL,cN,cq,dg,dG,_⟩,⟨b0,b1,a8,f⟩⟩:=b9)
 ·refine aw aU ?_;exact ⟨J.set 0 rfl,⟨b0,b1,a8,f⟩⟩
 ·obtain rfl:=cI ‹_›;refine aT f 0 al rfl rfl ?_;exact ⟨J.set 1 rfl,⟨b0,b1,a8,f⟩⟩
 ·obtain rfl:=cJ ‹_›;refine az (i:=0) ah j0 ?_;exact ⟨J.set 2 rfl,⟨b0,b1,a8,f⟩⟩
 ·obtain rfl:=cH ‹_›;refine ci ad h7.length (fun j v hj=>by rw [f.cellS l3]; exact aF rfl j v hj) ?_;exact ⟨J.set 3 rfl,⟨b0,b1,a8,f⟩⟩
 ·refine aw bO ?_;exact ⟨J.set 4 rfl,⟨b0,b1,a8,f⟩⟩
 ·obtain rfl:=cL ‹_›;refine dC f 3 [.int .i64 B.head.kind,.int .i64 B.head.n,.string B.head.name,V] ad rfl rfl Ax ?_;exact ⟨J.set 5 rfl,⟨b0,b1,a8,f⟩⟩
 ·exact ⟨J.set 6 rfl,⟨b0,b1,a8,f⟩⟩
 ·obtain rfl:=cD ‹_›;obtain rfl:=cN ‹_›;obtain rfl:=cq ‹_›;refine Run.call (A:=[_,_,_,_]) qQ qC (b0 bH) j1 fun v' I' S' w_=>?_;rintro ⟨eS,rfl,Z,rfl,d7⟩ _ f;rw [eS] at f;have b0:=fun (h:ao D 7 7=false)=>(Bool.noConfusion h:Inv w [] [.blk b2 (.cells #[.int .i64 g.head.kind,.int .i64 g.head.n,.string g.head.name,U,.slice (some ⟨bb,bo,none⟩) g.body.length N] ac),.blk b3 (.cells ds.toArray ac),.blk b4 (.cells #[.int .i64 0,.int .i64 0,.string ⟨#[]⟩,.slice none 0 0,.slice none 0 0] ac),.blk b8 (.cells #[.int .i64 B.head.kind,.int .i64 B.head.n,.string B.head.name,V,.slice ea B.body.length O] ac),.blk kb (.cells kc ab)] S1 w_)
  have b1:=fun (_:ao D 7 7=true)=>(⟨Z,d7,f⟩:∃ Z,KnU S1 Z st/\Inv w [] [.blk b2 (.cells #[.int .i64 g.head.kind,.int .i64 g.head.n,.string g.head.name,U,.slice (some ⟨bb,bo,none⟩) g.body.length N] ac),.blk b3 (.cells ds.toArray ac),.blk b4 (.cells #[.int .i64 0,.int .i64 0,.string ⟨#[]⟩,.slice none 0 0,.slice none 0 0] ac),.blk b8 (.cells #[.int .i64 B.head.kind,.int .i64 B.head.n,.string B.head.name,V,.slice ea B.body.length O] ac),.blk kb (.cells Z ab)] S1 w_)
  obtain ⟨a8,f⟩:∃ a8,Inv w [] [.blk b2 (.cells #[.int .i64 g.head.kind,.int .i64 g.head.n,.string g.head.name,U,.slice (some ⟨bb,bo,none⟩) g.body.length N] ac),.blk b3 (.cells ds.toArray ac),.blk b4 (.cells #[.int .i64 0,.int .i64 0,.string ⟨#[]⟩,.slice none 0 0,.slice none 0 0] ac),.blk b8 (.cells #[.int .i64 B.head.kind,.int .i64 B.head.n,.string B.head.name,V,.slice ea B.body.length O] ac),.blk kb (.cells a8 ab)] S1 w_:=⟨Z,f⟩
  exact ⟨J.set 7 rfl,⟨b0,b1,a8,f⟩⟩
 ·obtain rfl:=dg ‹_›;refine cw ?_;exact ⟨J.set 8 rfl,⟨b0,b1,a8,f⟩⟩
 obtain ⟨rfl,rfl,rfl,rfl,rfl,rfl,rfl,rfl,rfl,_⟩:=J.all;have vm:D 7=true:=by assumption
 clear J cI cJ cH cD cL cN cq dg dG;obtain ⟨Z,d7,f⟩:=b1 vm;clear b0 b1;refine aD (fun i1=>?_) (fun i1=>?_)
 ·have hr:r=false:=by simpa using i1
  have o4:o=none:=by
   rcases c4 with ⟨_,h⟩|⟨h,_⟩
   ·exact h
   ·rw [hr] at h; cases h
  subst o4;refine jx ?_;refine au f 2 rfl aH rfl rfl Ay fun w' f=>?_;refine bB f 2 aH rfl rfl ?_;exact ⟨_,_,_,rfl,f.nil,hE,rfl,[.int .i64 0,.int .i64 0,.string ⟨#[]⟩,.slice none 0 0,.slice none 0 0],rfl,RdC.zero _⟩
 have hr:r=true:=by simpa using i1
 obtain ⟨us,i6,k5⟩:∃ us,Res st (.list (g.head::(B.body++g.body.drop 1)) us)/\((us.all bv=false/\o=some none) ∨ (us.all bv=true/\o=some (some (vd (bX (ofL us)) (ofL us))))):=by
  rcases c4 with ⟨h,_⟩|⟨_,h⟩
  ·rw [hr] at h; cases h
  ·exact h
 clear c4;have l4:=o1.mono hE.1;have o5:=h2.monoT hE.1;refine ⟨fun D Mh tU xC oJ qd vj sy sr Ab AE CS w_=>Fx D 0 [CS=.pointer (some ⟨b2,0,none⟩),AE=.agg #[.int .i64 g.head.kind,.int .i64 g.head.n,.string g.head.name,U],True,sr=.pointer (some ⟨b8,4,none⟩),sy=.slice ea B.body.length O,True,qd=.pointer (some ⟨b2,4,none⟩),oJ=.slice (some ⟨bb,bo,none⟩) g.body.length N,True,True,True]/\∃ rows:List Item,(D 2=false->rows=[])/\(D 2=true->D 5=false->∃ css,rows=[aA Ab ab 4 css]/\Rows 4 (RdT S1) css [g.head])/\(D 5=true->D 9=false->∃ css,rows=[aA vj ab 4 css]/\Rows 4 (RdT S1) css (g.head::B.body))/\(D 9=true->∃ css,rows=[aA tU ab 4 css]/\Rows 4 (RdT S1) css (g.head::(B.body++g.body.drop 1)))/\(D 10=true->Mh=tU)/\(D 10=true->D 9=true)/\(D 5=true->D 2=true)/\(D 9=true->D 5=true)/\(D 8=true->RdSl S1 4 (RdT S1) xC (g.body.drop 1))/\Inv w [] ([.blk b2 (.cells #[.int .i64 g.head.kind,.int .i64 g.head.n,.string g.head.name,U,.slice (some ⟨bb,bo,none⟩) g.body.length N] ac),.blk b3 (.cells ds.toArray ac),.blk b4 (.cells #[.int .i64 0,.int .i64 0,.string ⟨#[]⟩,.slice none 0 0,.slice none 0 0] ac),.blk b8 (.cells #[.int .i64 B.head.kind,.int .i64 B.head.n,.string B.head.name,V,.slice ea B.body.length O] ac),.blk kb (.cells Z ab)]++rows) S1 w_,⟨Fx.nil _ _,⟨[],fun _=>rfl,aI,aI,aI,aI,aI,aI,aI,aI,f.draw⟩⟩,⟨?_,?_,?_,?_,?_,?_,?_,?_,?_,?_,?_,trivial⟩,?_⟩;all_goals (intro D bH; intros; rename_i Mh tU xC oJ qd vj sy sr Ab AE CS w_ b9; have J:=b9.1; obtain ⟨⟨cI,cJ,cH,cD,cL,cN,cq,dg,dG,dL,cT,_⟩,⟨rows,e2,a3,a4,e9,a7,Y,a5,a6,e8,f⟩⟩:=b9)
 ·refine aw bO ?_;exact ⟨J.set 0 rfl,⟨rows,e2,a3,a4,e9,a7,Y,a5,a6,e8,f⟩⟩
 ·obtain rfl:=cI ‹_›;refine dC f 0 [.int .i64 g.head.kind,.int .i64 g.head.n,.string g.head.name,U] ad rfl rfl Ax ?_;exact ⟨J.set 1 rfl,⟨rows,e2,a3,a4,e9,a7,Y,a5,a6,e8,f⟩⟩
 ·obtain rfl:=cJ ‹_›;have q:=e2 bH;subst q;have f5:D 5=false:=bx.2 fun h=>by rw [a5 h] at bH; cases bH
  have f9:D 9=false:=bx.2 fun h=>by rw [a6 h] at f5; cases f5
  rw [bV] at f;refine dB f bn (by simp [Value.cells]) (by omega) (by omega) fun b7 w_ f=>?_;have f:=Inv.closeRow (A:=[.blk b2 (.cells #[.int .i64 g.head.kind,.int .i64 g.head.n,.string g.head.name,U,.slice (some ⟨bb,bo,none⟩) g.body.length N] ac),.blk b3 (.cells ds.toArray ac),.blk b4 (.cells #[.int .i64 0,.int .i64 0,.string ⟨#[]⟩,.slice none 0 0,.slice none 0 0] ac),.blk b8 (.cells #[.int .i64 B.head.kind,.int .i64 B.head.n,.string B.head.name,V,.slice ea B.body.length O] ac),.blk kb (.cells Z ab)]) (cap:=1) (k:=4) (n:=1) f (by omega) (by simp [maxLen]) (by simp [Value.cells]);have hR:Rows 4 (RdT S1) [[.int .i64 g.head.kind,.int .i64 g.head.n,.string g.head.name,U]] [g.head]:=Rows.one l4 l4.length;obtain ⟨rows,a2⟩:∃ rows,rows=[aA (.slice (some ⟨b7,0,none⟩) 1 1) ab 4 [[.int .i64 g.head.kind,.int .i64 g.head.n,.string g.head.name,U]]]:=⟨_,rfl⟩
  have f:Inv w [] ([.blk b2 (.cells #[.int .i64 g.head.kind,.int .i64 g.head.n,.string g.head.name,U,.slice (some ⟨bb,bo,none⟩) g.body.length N] ac),.blk b3 (.cells ds.toArray ac),.blk b4 (.cells #[.int .i64 0,.int .i64 0,.string ⟨#[]⟩,.slice none 0 0,.slice none 0 0] ac),.blk b8 (.cells #[.int .i64 B.head.kind,.int .i64 B.head.n,.string B.head.name,V,.slice ea B.body.length O] ac),.blk kb (.cells Z ab)]++rows) S1 w_:=by rw [a2]; exact f
  have e2:=fun (h:ao D 2 2=false)=>(Bool.noConfusion h:rows=[])
  have a3:=fun (_:ao D 2 2=true) (_:ao D 2 5=false)=>(⟨_,a2,hR⟩:∃ css,rows=[aA (.slice (some ⟨b7,0,none⟩) 1 1) ab 4 css]/\Rows 4 (RdT S1) css [g.head])
  have a4:=fun (h:ao D 2 5=true) (_:ao D 2 9=false)=>(Bool.noConfusion (f5.symm.trans h):∃ css,rows=[aA vj ab 4 css]/\Rows 4 (RdT S1) css (g.head::B.body))
  have e9:=fun (h:ao D 2 9=true)=>(Bool.noConfusion (f9.symm.trans h):∃ css,rows=[aA tU ab 4 css]/\Rows 4 (RdT S1) css (g.head::(B.body++g.body.drop 1)))
  have a5:=fun (_:ao D 2 5=true)=>(rfl:ao D 2 2=true)
  exact ⟨J.set 2 (by first|assumption|trivial),⟨rows,e2,a3,a4,e9,a7,Y,a5,a6,e8,f⟩⟩
 ·refine aw aU ?_;exact ⟨J.set 3 rfl,⟨rows,e2,a3,a4,e9,a7,Y,a5,a6,e8,f⟩⟩
 ·obtain rfl:=cD ‹_›;refine aT f 3 al rfl rfl ?_;exact ⟨J.set 4 rfl,⟨rows,e2,a3,a4,e9,a7,Y,a5,a6,e8,f⟩⟩
 ·have YE:=cH ‹_›;obtain rfl:=cL ‹_›;obtain ⟨css,q,hR⟩:=a3 ‹D 2=true› bH;subst q;have f9:D 9=false:=bx.2 fun h=>by rw [a6 h] at bH; cases bH
  have c6:=hR.hc;refine i5 f 5 bn (by omega) rfl k4 (fun _ _=>RdT.length) (fun _ _=>RdT.one) (by simp at c6 e4; omega) (by omega) fun v5 w_ e1 i2 f=>?_;have hR:=hR.append i2;obtain ⟨rows,a2⟩:∃ rows,rows=[aA v5 ab 4 (css++e1)]:=⟨_,rfl⟩
  have f:Inv w [] ([.blk b2 (.cells #[.int .i64 g.head.kind,.int .i64 g.head.n,.string g.head.name,U,.slice (some ⟨bb,bo,none⟩) g.body.length N] ac),.blk b3 (.cells ds.toArray ac),.blk b4 (.cells #[.int .i64 0,.int .i64 0,.string ⟨#[]⟩,.slice none 0 0,.slice none 0 0] ac),.blk b8 (.cells #[.int .i64 B.head.kind,.int .i64 B.head.n,.string B.head.name,V,.slice ea B.body.length O] ac),.blk kb (.cells Z ab)]++rows) S1 w_:=by rw [a2]; exact f
  have e2:=fun (h:ao D 5 2=false)=>(Bool.noConfusion (‹D 2=true›.symm.trans h):rows=[])
  have a3:=fun (_:ao D 5 2=true) (h:ao D 5 5=false)=>(Bool.noConfusion h:∃ css,rows=[aA Ab ab 4 css]/\Rows 4 (RdT S1) css [g.head])
  have a4:=fun (_:ao D 5 5=true) (_:ao D 5 9=false)=>(⟨_,a2,hR⟩:∃ css,rows=[aA v5 ab 4 css]/\Rows 4 (RdT S1) css (g.head::B.body))
  have e9:=fun (h:ao D 5 9=true)=>(Bool.noConfusion (f9.symm.trans h):∃ css,rows=[aA tU ab 4 css]/\Rows 4 (RdT S1) css (g.head::(B.body++g.body.drop 1)))
  have a5:=fun (_:ao D 5 5=true)=>‹D 2=true›;have a6:=fun (_:ao D 5 9=true)=>(rfl:ao D 5 5=true)
  exact ⟨J.set 5 (by first|assumption|trivial),⟨rows,e2,a3,a4,e9,a7,Y,a5,a6,e8,f⟩⟩
 ·refine aw aU ?_;exact ⟨J.set 6 rfl,⟨rows,e2,a3,a4,e9,a7,Y,a5,a6,e8,f⟩⟩
 ·obtain rfl:=cq ‹_›;refine aT f 0 al rfl rfl ?_;exact ⟨J.set 7 rfl,⟨rows,e2,a3,a4,e9,a7,Y,a5,a6,e8,f⟩⟩
 ·obtain rfl:=dg ‹_›;refine fk (l:=1) ah o5 (by omega) fun v8 m8=>?_;have e8:=fun (_:ao D 8 8=true)=>m8;exact ⟨J.set 8 (by first|assumption|trivial),⟨rows,e2,a3,a4,e9,a7,Y,a5,a6,e8,f⟩⟩
 ·have Hj:=cN ‹_›;have DH:=dG ‹_›;obtain ⟨css,q,hR⟩:=a4 ‹D 5=true› bH;subst q;have o6:D 10=false:=by cases hq:D 10 with|false=>rfl|true=>exact absurd (Y hq) (by rw [bH]; decide)
  have c6:=hR.hc;have o7:=e8 ‹D 8=true›;refine i5 f 5 bn (by omega) rfl o7 (fun _ _=>RdT.length) (fun _ _=>RdT.one) (by simp only [mi]; simp at c6 e4; omega) (by omega) fun v9 w_ e1 i2 f=>?_;have hR:=hR.append i2;rw [dS] at hR;obtain ⟨rows,a2⟩:∃ rows,rows=[aA v9 ab 4 (css++e1)]:=⟨_,rfl⟩
  have f:Inv w [] ([.blk b2 (.cells #[.int .i64 g.head.kind,.int .i64 g.head.n,.string g.head.name,U,.slice (some ⟨bb,bo,none⟩) g.body.length N] ac),.blk b3 (.cells ds.toArray ac),.blk b4 (.cells #[.int .i64 0,.int .i64 0,.string ⟨#[]⟩,.slice none 0 0,.slice none 0 0] ac),.blk b8 (.cells #[.int .i64 B.head.kind,.int .i64 B.head.n,.string B.head.name,V,.slice ea B.body.length O] ac),.blk kb (.cells Z ab)]++rows) S1 w_:=by rw [a2]; exact f
  have o8:=a5 ‹D 5=true›;have e2:=fun (h:ao D 9 2=false)=>(Bool.noConfusion (o8.symm.trans h):rows=[])
  have a3:=fun (_:ao D 9 2=true) (h:ao D 9 5=false)=>(Bool.noConfusion (‹D 5=true›.symm.trans h):∃ css,rows=[aA Ab ab 4 css]/\Rows 4 (RdT S1) css [g.head])
  have a4:=fun (_:ao D 9 5=true) (h:ao D 9 9=false)=>(Bool.noConfusion h:∃ css,rows=[aA vj ab 4 css]/\Rows 4 (RdT S1) css (g.head::B.body))
  have e9:=fun (_:ao D 9 9=true)=>(⟨_,a2,hR⟩:∃ css,rows=[aA v9 ab 4 css]/\Rows 4 (RdT S1) css (g.head::(B.body++g.body.drop 1)))
  have a7:=fun (h:ao D 9 10=true)=>(Bool.noConfusion (o6.symm.trans h):Mh=v9)
  have a6:=fun (_:ao D 9 9=true)=>‹D 5=true›;have Y:=fun (_:ao D 9 10=true)=>(rfl:ao D 9 9=true)
  exact ⟨J.set 9 (by first|assumption|trivial),⟨rows,e2,a3,a4,e9,a7,Y,a5,a6,e8,f⟩⟩
 ·have Eb:=dL ‹_›;have a7:=fun (_:ao D 10 10=true)=>(rfl:tU=tU)
  have Y:=fun (_:ao D 10 10=true)=>‹D 9=true›;exact ⟨J.set 10 (by first|assumption|trivial),⟨rows,e2,a3,a4,e9,a7,Y,a5,a6,e8,f⟩⟩
 obtain ⟨rfl,rfl,YE,rfl,rfl,Hj,rfl,rfl,DH,Eb,AB,_⟩:=J.all;have OK:D 9=true:=by assumption
 have Dy:D 10=true:=by assumption
 clear J cI cJ cH cD cL cN cq dg dG dL cT;obtain ⟨css,rfl,hR⟩:=e9 OK;have o9:=a7 Dy;subst o9;clear e2 a3 a4 e9 a7 Y a5 a6 e8;obtain ⟨S2,i7,n5,f⟩:=Inv.lendExt (A:=[.blk b2 (.cells #[.int .i64 g.head.kind,.int .i64 g.head.n,.string g.head.name,U,.slice (some ⟨bb,bo,none⟩) g.body.length N] ac),.blk b3 (.cells ds.toArray ac),.blk b4 (.cells #[.int .i64 0,.int .i64 0,.string ⟨#[]⟩,.slice none 0 0,.slice none 0 0] ac),.blk b8 (.cells #[.int .i64 B.head.kind,.int .i64 B.head.n,.string B.head.name,V,.slice ea B.body.length O] ac),.blk kb (.cells Z ab)]) f;have c9:=RowRd.rows (hR.monoR fun _ _ h=>RdT.mono i7.1 h) n5;have l5:=hE.trans i7;have d7:=d7.mono i7.1;refine ei f bn fun m9 w' f=>?_;obtain ⟨n6,k6⟩:=fj hg i6 d3;have c5:us.length=(g.head::(B.body++g.body.drop 1)).length:=k6;generalize m4:g.head::(B.body++g.body.drop 1)=xs at i6 e4 d3 c9 c5;have l6:∀ x∈xs,wT x<=1048576:=by
  intro x hx;rw [<- m4] at hx;unfold wC at j5 h9;rcases bY.1 hx with rfl|hx
  ·omega
  ·rcases bF.1 hx with hx|hx
   ·have:=nY hx;rw [<- l0,zr] at this;omega
   ·have:=nY (xz hx);omega
 have f:Inv w [] [.blk b2 (.cells #[.int .i64 g.head.kind,.int .i64 g.head.n,.string g.head.name,U,.slice (some ⟨bb,bo,none⟩) g.body.length N] ac),.blk b3 (.cells ds.toArray ac),.blk b4 (.cells #[.int .i64 0,.int .i64 0,.string ⟨#[]⟩,.slice none 0 0,.slice none 0 0] ac),.blk b8 (.cells #[.int .i64 B.head.kind,.int .i64 B.head.n,.string B.head.name,V,.slice ea B.body.length O] ac),aA m9 ab 4 [],.blk kb (.cells Z ab)] S2 w':=f.perm (List.Perm.cons _ (List.Perm.cons _ (List.Perm.cons _ (List.Perm.cons _ (List.Perm.swap _ _ _)))));refine ⟨fun i t w'=>∃ (j:Nat) (css:List (List Value)) (S':ae),j<=us.length/\i=.int .i64 j/\Ext w.heap.size [] S2 S'/\Rows 4 (RdT S') css (us.take j)/\(∀ k (_:k<us.length),k<j->bv us[k]=true)/\Inv w [] [.blk b2 (.cells #[.int .i64 g.head.kind,.int .i64 g.head.n,.string g.head.name,U,.slice (some ⟨bb,bo,none⟩) g.body.length N] ac),.blk b3 (.cells ds.toArray ac),.blk b4 (.cells #[.int .i64 0,.int .i64 0,.string ⟨#[]⟩,.slice none 0 0,.slice none 0 0] ac),.blk b8 (.cells #[.int .i64 B.head.kind,.int .i64 B.head.n,.string B.head.name,V,.slice ea B.body.length O] ac),aA t ab 4 css,.blk kb (.cells Z ab)] S' w',
  fun i _ _=>us.length - (intOf i).toNat,⟨0,[],S2,bk _,rfl,Ext.refl _ _ _,Rows.nil _ _,fun k _ h=>by omega,f⟩,?_⟩
 intro q2 _ _ f0 _ _ _ _ t6 t5 _ _ _ _ _ _ _ _ _ _ _ _ _ _ _ _ _ _ w';rintro ⟨j,c3,S3,hj,rfl,d6,f6,d9,f⟩;refine aJ (c9.monoT d6.1) ah ?_;refine bS ?_;refine aL (fun n0=>?_) (fun n0=>?_)
 ·have g8:j<us.length:=by omega
  have j2:j<xs.length:=by omega
  have l7:=bG j2;have l8:=f6.hc;rw [cM] at l8;refine co f (c9.monoT d6.1) ah ad j2 (fun _ _=>RdT.length) fun q3 k0=>?_;have f:Inv w [] ([.blk b2 (.cells #[.int .i64 g.head.kind,.int .i64 g.head.n,.string g.head.name,U,.slice (some ⟨bb,bo,none⟩) g.body.length N] ac),.blk b3 (.cells ds.toArray ac),.blk b4 (.cells #[.int .i64 0,.int .i64 0,.string ⟨#[]⟩,.slice none 0 0,.slice none 0 0] ac),.blk b8 (.cells #[.int .i64 B.head.kind,.int .i64 B.head.n,.string B.head.name,V,.slice ea B.body.length O] ac),aA f0 ab 4 c3]++[.blk kb (.cells Z ab)]) S3 w':=f;refine Run.callE Lw K5 f (HZ (kp:=52) hg (BH i6 j j2 g8) ⟨fM d3 _ l7,l6 _ l7⟩ k0 (d7.mono d6.1)) fun v' I' S4 w'=>?_;rintro ⟨rfl,f8,g0,j6,rfl,j7⟩ i0 f;refine av rfl ?_;refine av rfl ?_;refine aQ f bj fun k1 w' f=>?_;have f:=f.perm (M:=.blk k1 _::[.blk b2 (.cells #[.int .i64 g.head.kind,.int .i64 g.head.n,.string g.head.name,U,.slice (some ⟨bb,bo,none⟩) g.body.length N] ac),.blk b3 (.cells ds.toArray ac),.blk b4 (.cells #[.int .i64 0,.int .i64 0,.string ⟨#[]⟩,.slice none 0 0,.slice none 0 0] ac),.blk b8 (.cells #[.int .i64 B.head.kind,.int .i64 B.head.n,.string B.head.name,V,.slice ea B.body.length O] ac),aA f0 ab 4 c3,.blk kb (.cells Z ab)]) (cj (l₁:=[_]));refine au f 0 rfl ad (by simpa using g0) rfl (by simpa using j6) fun w' f=>?_;refine cw ?_;refine aD (fun i3=>?_) (fun i3=>?_)
  ·have l9:bv us[j]=false:=by simpa using i3
   have p0:o=some none:=by
    rcases k5 with ⟨_,h⟩|⟨h,_⟩
    ·exact h
    ·rw [dD] at h;rw [h _ (bG g8)] at l9;cases l9
   subst p0;refine jx ?_;have f:Inv w [] [.blk k1 (.cells f8.toArray ab),.blk b2 (.cells #[.int .i64 g.head.kind,.int .i64 g.head.n,.string g.head.name,U,.slice (some ⟨bb,bo,none⟩) g.body.length N] ac),.blk b3 (.cells ds.toArray ac),.blk b4 (.cells #[.int .i64 0,.int .i64 0,.string ⟨#[]⟩,.slice none 0 0,.slice none 0 0] ac),.blk b8 (.cells #[.int .i64 B.head.kind,.int .i64 B.head.n,.string B.head.name,V,.slice ea B.body.length O] ac),aA f0 ab 4 c3,.blk kb (.cells Z ab)] S4 w':=f;refine au f 3 rfl aH rfl rfl Ay fun w' f=>?_;refine bB f 3 aH rfl rfl ?_;exact ⟨_,_,_,rfl,f.nil,(l5.trans d6).trans i0,rfl,[.int .i64 0,.int .i64 0,.string ⟨#[]⟩,.slice none 0 0,.slice none 0 0],rfl,RdC.zero _⟩
  ·have m0:bv us[j]=true:=by simpa using i3
   have p1:=j7 m0;refine aC f 0 ad rfl (by simpa using g0) ?_;refine de f 5 f8 bn (by omega) (by omega) rfl g0 j6 (by omega) (by omega) fun n1 w' f=>?_;have f:Inv w [] [.blk b2 (.cells #[.int .i64 g.head.kind,.int .i64 g.head.n,.string g.head.name,U,.slice (some ⟨bb,bo,none⟩) g.body.length N] ac),.blk b3 (.cells ds.toArray ac),.blk b4 (.cells #[.int .i64 0,.int .i64 0,.string ⟨#[]⟩,.slice none 0 0,.slice none 0 0] ac),.blk b8 (.cells #[.int .i64 B.head.kind,.int .i64 B.head.n,.string B.head.name,V,.slice ea B.body.length O] ac),aA n1 ab 4 (c3++[f8]),.blk kb (.cells Z ab)] S4 w':=f.sub (fH _ _);refine bC (by omega) ?_;refine ⟨⟨j+1,c3++[f8],S4,g8,rfl,d6.trans i0,?_,fun k hk q4=>?_,f⟩,by simp [intOf]; omega⟩
   ·rw [eV g8];exact (f6.monoR fun _ _ h=>RdT.mono i0.1 h).snoc p1 g0
   ·by_cases e:k=j
    ·subst e; exact m0
    ·exact d9 k hk (by omega)
 ·have p2:j=us.length:=by omega
  subst p2;rw [d4] at f6;have h8:us.all bv=true:=by
   rw [dD];intro x hx;obtain ⟨k,hk,rfl⟩:=mT.1 hx;exact d9 k hk hk
  have j3:o=some (some (vd (bX (ofL us)) (ofL us))):=by
   rcases k5 with ⟨h,_⟩|⟨_,h⟩
   ·rw [h8] at h; cases h
   ·exact h
  have m2:=yW h8 n6;have f:Inv w [] ([.blk b2 (.cells #[.int .i64 g.head.kind,.int .i64 g.head.n,.string g.head.name,U,.slice (some ⟨bb,bo,none⟩) g.body.length N] ac),.blk b3 (.cells ds.toArray ac),.blk b4 (.cells #[.int .i64 0,.int .i64 0,.string ⟨#[]⟩,.slice none 0 0,.slice none 0 0] ac),.blk b8 (.cells #[.int .i64 B.head.kind,.int .i64 B.head.n,.string B.head.name,V,.slice ea B.body.length O] ac)]++[aA f0 ab 4 c3]) S3 w':=f.pick [true,true,true,true,true,false];obtain ⟨S5,k7,k8,f⟩:=f.lendExt;have p3:=RowRd.rows (f6.monoR fun _ _ h=>RdT.mono k7.1 h) k8;have p4:=(l5.trans d6).trans k7;refine Run.call0E DK Dm f (A2 p3 (by omega)) fun q5 I' S6 w'=>?_;rintro ⟨rfl,M,rfl,m6⟩ m7 f;obtain ⟨S7,f,n7,i8⟩:=f.pubExt;have e5:=m6.rd i8 fun _ _ _ hi h=>h.rd hi;have p5:=(p4.trans m7).trans n7;obtain ⟨u0,c1,rfl⟩:∃ u0 c1,us=u0::c1:=by
   cases us with
   | nil=>rw [<- m4] at c5; simp at c5
   | cons u c1=>exact ⟨u,c1,rfl⟩
  have c6:clO o=⟨dq (c7 (u0::c1) []) u0,er (c7 (u0::c1) []) c1⟩:=by rw [j3]; rfl
  have p6:iB o=true:=by rw [j3]; rfl
  have p7:jp o=bt (clO o):=by rw [j3]; rfl
  rw [er] at e5;generalize r5:c7 (u0::c1) []=vs at e5 c6;obtain ⟨G,h4⟩:∃ G,G=dq vs u0:=⟨_,rfl⟩
  obtain ⟨c2,e3⟩:∃ c2,c2=er vs c1:=⟨_,rfl⟩
  rw [<- h4,<- e3] at e5 c6;have p8:wC (clO o)<=1048576:=by
   rw [c6];have h1:wT G=wT u0:=by rw [h4,D0]
   have h2:wL c2=wL c1:=by rw [e3,Eg]
   have h3:c2.length=c1.length:=by rw [e3,mc]
   rw [wL] at m2;simp only [bq] at m2 c5 e4;simp only [wC];omega
  obtain ⟨nb,no,h5,nc,nE,r0,rfl,n8,g5⟩:=e5.at_ (i:=0) (by simp);rw [lc] at g5;obtain ⟨kn,ec,f1,f2,f3,f4⟩:=RdT.iff.1 g5;rw [ec] at g5;have f:Inv w [] [.blk b2 (.cells #[.int .i64 g.head.kind,.int .i64 g.head.n,.string g.head.name,U,.slice (some ⟨bb,bo,none⟩) g.body.length N] ac),.blk b3 (.cells ds.toArray ac),.blk b4 (.cells #[.int .i64 0,.int .i64 0,.string ⟨#[]⟩,.slice none 0 0,.slice none 0 0] ac),.blk b8 (.cells #[.int .i64 B.head.kind,.int .i64 B.head.n,.string B.head.name,V,.slice ea B.body.length O] ac)] S7 w':=f;have i9:∃ a n m,kn=.slice a n m:=by
   obtain ⟨a,m,e,_⟩:=f4;exact ⟨_,_,_,e⟩
  obtain ⟨ka,r1,r2,i9⟩:=i9;refine ⟨fun D wt V5 Xs X5 j8 ZR j9 w_=>Fx D 0 [j9=.slice (some ⟨nb,no,none⟩) (c2.length+1) h5,ZR=.pointer (some ⟨nb,no+0 * 4,none⟩),j8=.agg #[.int .i64 G.kind,.int .i64 G.n,.string G.name,kn],X5=.slice (some ⟨nb,no,none⟩) (c2.length+1) h5,RdSl S7 4 (RdT S7) Xs c2,∃ kb,V5=.agg #[.int .i64 G.kind,.int .i64 G.n,.string G.name,kn,kb]/\RdSl S7 4 (RdT S7) kb c2,True,True]/\∃ a0 B15,(D 6=true->wt=.pointer (some ⟨a0,0,none⟩))/\(D 7=true->D 6=true)/\(D 7=false->B15=#[.int .i64 0,.int .i64 0,.string ⟨#[]⟩,.slice none 0 0,.slice none 0 0])/\(D 7=true->∃ kb,B15=#[.int .i64 G.kind,.int .i64 G.n,.string G.name,kn,kb]/\RdSl S7 4 (RdT S7) kb c2)/\Inv w [] ([.blk b2 (.cells #[.int .i64 g.head.kind,.int .i64 g.head.n,.string g.head.name,U,.slice (some ⟨bb,bo,none⟩) g.body.length N] ac),.blk b3 (.cells ds.toArray ac),.blk b4 (.cells #[.int .i64 0,.int .i64 0,.string ⟨#[]⟩,.slice none 0 0,.slice none 0 0] ac),.blk b8 (.cells #[.int .i64 B.head.kind,.int .i64 B.head.n,.string B.head.name,V,.slice ea B.body.length O] ac)]++cond (D 6) [.blk a0 (.cells B15 ac)] []) S7 w_,⟨Fx.nil _ _,⟨0,_,aI,aI,fun _=>rfl,aI,f.draw⟩⟩,⟨?_,?_,?_,?_,?_,?_,?_,?_,trivial⟩,?_⟩;all_goals (intro D bH; intros; rename_i wt V5 Xs X5 j8 ZR j9 w_ b9; have J:=b9.1; obtain ⟨⟨cI,cJ,cH,cD,cL,cN,cq,dg,_⟩,⟨a0,B15,e6,b5,b6,e7,f⟩⟩:=b9)
  ·exact ⟨J.set 0 rfl,⟨a0,B15,e6,b5,b6,e7,f⟩⟩
  ·obtain rfl:=cI ‹_›;refine az (i:=0) ah (by simp) ?_;exact ⟨J.set 1 rfl,⟨a0,B15,e6,b5,b6,e7,f⟩⟩
  ·obtain rfl:=cJ ‹_›;refine ci (cs:=[.int .i64 G.kind,.int .i64 G.n,.string G.name,kn]) ad rfl (fun j v hj=>by rw [f.cellS n8]; exact aF ec j v hj) ?_;exact ⟨J.set 2 rfl,⟨a0,B15,e6,b5,b6,e7,f⟩⟩
  ·exact ⟨J.set 3 rfl,⟨a0,B15,e6,b5,b6,e7,f⟩⟩
  ·obtain rfl:=cD ‹_›;refine fk (l:=1) ah e5 (by simp) fun a9 c8=>?_;rw [Um,ym] at c8;exact ⟨J.set 4 (by first|assumption|trivial),⟨a0,B15,e6,b5,b6,e7,f⟩⟩
  ·obtain rfl:=cH ‹_›;have D1:=cL ‹_›;refine kJ ?_ ?_
   ·obtain ⟨a,m,e,_⟩:=D1;exact ⟨_,_,_,e⟩
   have q1:∃ kb,Value.agg #[.int .i64 G.kind,.int .i64 G.n,.string G.name,kn,Xs]=.agg #[.int .i64 G.kind,.int .i64 G.n,.string G.name,kn,kb]/\RdSl S7 4 (RdT S7) kb c2:=⟨_,rfl,D1⟩
   exact ⟨J.set 5 (by first|assumption|trivial),⟨a0,B15,e6,b5,b6,e7,f⟩⟩
  ·have f7:D 7=false:=bx.2 fun h=>by rw [b5 h] at bH; cases bH
   rw [bH] at f;refine aQ f cX fun a0 w_ f=>?_;have hB:=b6 f7;have e6:=fun (_:ao D 6 6=true)=>(rfl:Value.pointer (some ⟨a0,0,none⟩)=_)
   have b5:=fun (_:ao D 6 7=true)=>(rfl:ao D 6 6=true)
   have f:Inv w [] ([.blk b2 (.cells #[.int .i64 g.head.kind,.int .i64 g.head.n,.string g.head.name,U,.slice (some ⟨bb,bo,none⟩) g.body.length N] ac),.blk b3 (.cells ds.toArray ac),.blk b4 (.cells #[.int .i64 0,.int .i64 0,.string ⟨#[]⟩,.slice none 0 0,.slice none 0 0] ac),.blk b8 (.cells #[.int .i64 B.head.kind,.int .i64 B.head.n,.string B.head.name,V,.slice ea B.body.length O] ac)]++cond true [.blk a0 (.cells B15 ac)] []) S7 w_:=by rw [hB]; exact f
   exact ⟨J.set 6 (by first|assumption|trivial),⟨a0,B15,e6,b5,b6,e7,f⟩⟩
  ·have Me:=cq ‹_›;have Hj:=cN ‹_›;have q6:=e6 ‹D 6=true›;subst q6;obtain ⟨a9,n9,c8⟩:=Hj;rw [‹D 6=true›,b6 bH] at f;obtain ⟨a1,m1,k9,_⟩:=id c8;subst n9;refine au f 4 rfl aH rfl rfl (by simp [Value.oneCell',i9,k9]) fun w_ f=>?_;obtain ⟨B15,hq⟩:∃ B15,B15=(#[.int .i64 G.kind,.int .i64 G.n,.string G.name,kn,a9]:Array Value):=⟨_,rfl⟩
   have b5:=fun (_:ao D 7 7=true)=>‹D 6=true›;have b6:=fun (h:ao D 7 7=false)=>(Bool.noConfusion h:B15=#[.int .i64 0,.int .i64 0,.string ⟨#[]⟩,.slice none 0 0,.slice none 0 0])
   have e7:=fun (_:ao D 7 7=true)=>(⟨a9,hq,c8⟩:∃ kb,B15=#[.int .i64 G.kind,.int .i64 G.n,.string G.name,kn,kb]/\RdSl S7 4 (RdT S7) kb c2)
   have f:Inv w [] ([.blk b2 (.cells #[.int .i64 g.head.kind,.int .i64 g.head.n,.string g.head.name,U,.slice (some ⟨bb,bo,none⟩) g.body.length N] ac),.blk b3 (.cells ds.toArray ac),.blk b4 (.cells #[.int .i64 0,.int .i64 0,.string ⟨#[]⟩,.slice none 0 0,.slice none 0 0] ac),.blk b8 (.cells #[.int .i64 B.head.kind,.int .i64 B.head.n,.string B.head.name,V,.slice ea B.body.length O] ac)]++cond (D 6) [.blk a0 (.cells B15 ac)] []) S7 w_:=by rw [‹D 6=true›,hq]; exact f
   exact ⟨J.set 7 trivial,⟨a0,B15,e6,b5,b6,e7,f⟩⟩
  obtain ⟨rfl,rfl,rfl,rfl,D1,Hj,Me,_,_⟩:=J.all;have OQ:D 6=true:=by assumption
  have vm:D 7=true:=by assumption
  clear J cI cJ cH cD cL cN cq dg;have p9:=e6 OQ;subst p9;obtain ⟨a9,rfl,c8⟩:=e7 vm;rw [OQ] at f;clear e6 b5 b6 e7;obtain ⟨a1,m1,k9,_⟩:=id c8;have f:Inv w [] [.blk b2 (.cells #[.int .i64 g.head.kind,.int .i64 g.head.n,.string g.head.name,U,.slice (some ⟨bb,bo,none⟩) g.body.length N] ac),.blk b3 (.cells ds.toArray ac),.blk b4 (.cells #[.int .i64 0,.int .i64 0,.string ⟨#[]⟩,.slice none 0 0,.slice none 0 0] ac),.blk b8 (.cells #[.int .i64 B.head.kind,.int .i64 B.head.n,.string B.head.name,V,.slice ea B.body.length O] ac),.blk a0 (.cells #[.int .i64 G.kind,.int .i64 G.n,.string G.name,kn,a9] ac)] S7 w_:=f;have j4:RdC S7 [.int .i64 G.kind,.int .i64 G.n,.string G.name,kn,a9] (clO o):=by
   rw [c6];exact ⟨_,_,rfl,g5,c8⟩
  have m3:∀ x∈([.int .i64 G.kind,.int .i64 G.n,.string G.name,kn,a9]:List Value),x.oneCell'=true:=j4.one;refine ⟨fun D x6 x5 Ud Wu Ws w_=>Fx D 0 [Ws=.agg #[.int .i64 G.kind,.int .i64 G.n,.string G.name,kn,a9],Wu=.agg #[.int .i64 G.kind,.int .i64 G.n,.string G.name,kn,a9],Ud=.bool (bt (clO o)),True,x5=.bool true,x6=.bool (bt (clO o))]/\Inv w [] [.blk b2 (.cells #[.int .i64 g.head.kind,.int .i64 g.head.n,.string g.head.name,U,.slice (some ⟨bb,bo,none⟩) g.body.length N] ac),.blk b3 (.cells ds.toArray ac),.blk b4 (.cells (cond (D 3) #[.int .i64 G.kind,.int .i64 G.n,.string G.name,kn,a9] #[.int .i64 0,.int .i64 0,.string ⟨#[]⟩,.slice none 0 0,.slice none 0 0]) ac),.blk b8 (.cells #[.int .i64 B.head.kind,.int .i64 B.head.n,.string B.head.name,V,.slice ea B.body.length O] ac),.blk a0 (.cells #[.int .i64 G.kind,.int .i64 G.n,.string G.name,kn,a9] ac)] S7 w_,⟨Fx.nil _ _,f.draw⟩,⟨?_,?_,?_,?_,?_,?_,trivial⟩,?_⟩;all_goals (intro D bH; intros; rename_i x6 x5 Ud Wu Ws w_ b9; have J:=b9.1; obtain ⟨⟨cI,cJ,cH,cD,cL,cN,_⟩,f⟩:=b9)
  ·refine aC f 4 aH rfl rfl ?_;exact ⟨J.set 0 rfl,f⟩
  ·refine aC f 4 aH rfl rfl ?_;exact ⟨J.set 1 rfl,f⟩
  ·obtain rfl:=cJ ‹_›;refine Run.callPure kj kq f (iY j4 p8) fun w_ f=>?_;exact ⟨J.set 2 rfl,f⟩
  ·obtain rfl:=cI ‹_›;rw [bH] at f;refine au f 2 rfl aH rfl rfl m3 fun w_ f=>?_;exact ⟨J.set 3 trivial,f⟩
  ·exact ⟨J.set 4 rfl,f⟩
  ·obtain rfl:=cH ‹_›;exact ⟨J.set 5 rfl,f⟩
  obtain ⟨rfl,rfl,rfl,_,rfl,rfl,_⟩:=J.all;have q0:D 3=true:=by assumption
  clear J cI cJ cH cD cL cN;rw [q0] at f;refine bB (c:=#[.int .i64 G.kind,.int .i64 G.n,.string G.name,kn,a9]) f 2 aH rfl rfl ?_;exact ⟨_,_,_,rfl,f.nil,p5,rfl,[.int .i64 G.kind,.int .i64 G.n,.string G.name,kn,a9],by rw [p6,p7],j4⟩
end
end
section
open Go Go.RowKit

abbrev Bs:=List UInt8
abbrev bs (s:ByteArray):Bs:=s.data.toList
abbrev st (l:Bs):ByteArray:=⟨l.toArray⟩
theorem JT (l:Bs):bs (st l)=l:=by simp [bs]
theorem nt (l:Bs):(st l).size=l.length:=by simp [ByteArray.size]

def sgn (s:Bs) (i:Nat) (c:Nat):Bool:=match s[i]? with
 | some b=>decide (b.toNat=c)
 | none=>false
def btw (s:Bs) (i:Nat) (a b:Nat):Bool:=match s[i]? with
 | some x=>decide (a<=x.toNat) && decide (x.toNat<=b)
 | none=>false
def sml (s:Bs) (i:Nat):Bool:=btw s i 97 122
def dig (s:Bs) (i:Nat):Bool:=btw s i 48 57
def upp (s:Bs) (i:Nat):Bool:=btw s i 65 90
def cut (s:Bs) (a b:Nat):Bs:=(s.take b).drop a

def Dz (s:Bs):Nat->Nat->Nat
 | 0,e=>e
 | n+1,e=>if sml s e=true then Dz s n (e+1) else e
def jR (s:Bs) (i:Nat):List ByteArray->Bs->Bs
 | [],b=>b
 | x::l,b=>jR s i l (if decide (i+x.size<=s.length)=true/\cut s i (i+x.size)=bs x/\b.length<x.size then bs x else b)
def zI (s:Bs) (i:Nat):Option (Bs × Nat):=
 let e:=Dz s (s.length - i) i
 if i+6<e then none else if i<e then some (cut s i e,e) else
  let b:=jR s i signs []
  if b=[] then none else some (b,i+b.length)
def vq (s:Bs):Nat->Nat->Nat
 | 0,e=>e
 | n+1,e=>if dig s e=true then vq s n (e+1) else e
def HE:Bs->Nat->Nat
 | [],n=>n
 | b::l,n=>HE l (n * 10+(b.toNat - 48))
def Uq (s:Bs) (i:Nat):Option (T × Nat):=
 let from_:=if sgn s i 45=true then i+1 else i
 let e:=vq s 4 from_
 let d:=cut s from_ e
 let n:=HE d 0
 if d=[] ∨ (sgn d 0 48=true/\1<d.length) ∨ (i<from_/\n=0) ∨ 999<n then none
 else some (.mk 2 (if i<from_ then -(n:Int) else n) emptyB [],e)
def Mk (name:Bs) (kids:List T):T:=.mk 3 0 (st name) kids
def Yh:T:=Mk [91,93] []
def Ne (a b:T):T:=Mk [46] [a,b]
def jV:List T->T->T
 | [],t=>t
 | a::l,t=>Ne a (jV l t)
def opF (s:Bs) (i:Nat):Option (Bs × Nat):=
 let from_:=if sgn s i 32=true then i+1 else i
 if s.length<=from_ then none else match zI s from_ with
  | none=>none
  | some (name,next)=>
   let word:=decide (name=[105,115]) || decide (name=[109,111,100])
   if cS (st name)=0 ∨ word≠decide (i<from_) ∨ (word=true/\sgn s next 32=false) then none
   else some (name,if word=true then next+1 else next)
mutual
def ld:Nat->Bs->Nat->Nat->Nat->Option (T × Nat)
 | 0,_,_,_,_=>none
 | f+1,s,i,d,0=>wQ f s i d
 | f+1,s,i,d,l+1=>match ld f s i d l with
  | none=>none
  | some (t,n)=>Nf f s n d l t
def Nf:Nat->Bs->Nat->Nat->Nat->T->Option (T × Nat)
 | 0,_,_,_,_,_=>none
 | f+1,s,i,d,l,t=>match opF s i with
  | none=>some (t,i)
  | some (name,after)=>if cS (st name)=((l+1:Nat):Int) then match ld f s after d l with
    | none=>none
    | some (r,e)=>if l=2 then some (Mk name [t,r],e) else Nf f s e d l (Mk name [t,r])
   else some (t,i)
def wQ:Nat->Bs->Nat->Nat->Option (T × Nat)
 | 0,_,_,_=>none
 | f+1,s,i,d=>if d=0 ∨ s.length<=i then none else if sgn s i 40=true then match ld f s (i+1) d 3 with
    | none=>none
    | some (t,n)=>if sgn s n 41=true then some (t,n+1) else none
  else if sgn s i 91=true/\sgn s (i+1) 93=false then match jA f s (i+1) (d - 1) 93 124 [] with
    | none=>none
    | some (ts,n)=>if sgn s n 93=true then some (jV ts Yh,n+1) else match ld f s (n+1) (d - 1) 3 with
     | none=>none
     | some (t,e)=>if sgn s e 93=true then some (jV ts t,e+1) else none
  else if upp s i=true then some (.mk 1 ((s.getD i 0).toNat - 65) emptyB [],i+1)
  else if dig s i=true ∨ (sgn s i 45=true/\dig s (i+1)=true) then Uq s i
  else match zI s i with
   | none=>none
   | some (name,n)=>if sgn s n 40=false then some (Mk name [],n) else match jA f s (n+1) (d - 1) 41 41 [] with
    | none=>none
    | some (ts,e)=>some (Mk name ts,e+1)
def jA:Nat->Bs->Nat->Nat->Nat->Nat->List T->Option (List T × Nat)
 | 0,_,_,_,_,_,_=>none
 | f+1,s,i,d,e,o,acc=>match ld f s i d 3 with
  | none=>none
  | some (t,n)=>if sgn s n e=true ∨ sgn s n o=true then some (acc++[t],n) else if sgn s n 44=true then jA f s (n+1) d e o (acc++[t]) else none
end

def qT (t:T):Bool:=decide (t.kind=3) && (decide (t.kids.length=2) && decide (0<cS t.name))
def Gv (t:T):Bool:=decide (t.kind=3) && (decide (t.name=st [46]) && decide (t.kids.length=2))
def Wl (t:T):Bool:=decide (t.kind=3) && (decide (t.name=st [91,93]) && decide (t.kids.length=0))
def CK (t:T):Bool:=decide (t.kind=3) && (decide (t.kids.length=0) && decide (0<cS t.name))
def Kp (s:Bs):Bool:=sml s 0 || (dig s 0 || (upp s 0 || (sgn s 0 91 || sgn s 0 40)))
def ju (n:Bs):Bs:=if n=[105,115] ∨ n=[109,111,100] then 32::(n++[32]) else n
def HP:Nat->Nat->Bs->Option Bs
 | 0,_,_=>none
 | f+1,n,out=>if 9<n then HP f (n / 10) (UInt8.ofNat (48+n % 10)::out) else some (UInt8.ofNat (48+n)::out)
def YR (n:Int):Option Bs:=if n<0 then (HP 20 (-n).toNat []).map fun l=>45::l else HP 20 n.toNat []
def Ut (t:T):Option Bs:=if t.kind=1 then (if 0<=t.n/\t.n<=25 then some [UInt8.ofNat (65+t.n.toNat)] else none)
 else if t.kind=2 then (if -999<=t.n/\t.n<=999 then YR t.n else none) else if t.kids.length=0 then some (bs t.name) else none
mutual
def KX:Nat->T->Option Bs
 | 0,_=>none
 | f+1,t=>if Gv t=true then JP f t [] else if qT t=true then match t.kids with
   | [a,b]=>match RH f a (if cS t.name=3 then 2 else cS t.name),KG f b (cS t.name - 1) with
    | some x,some y=>some (x++ju (bs t.name)++y)
    | _,_=>none
   | _=>none
  else if t.kind=3/\0<t.kids.length then match rW f t.kids [] with
   | some x=>some (bs t.name++[40]++x++[41])
   | none=>none
  else Ut t
def JP:Nat->T->List T->Option Bs
 | 0,_,_=>none
 | f+1,t,items=>if Gv t=true then match t.kids with
   | [a,b]=>JP f b (items++[a])
   | _=>none
  else match rW f items [] with
   | none=>none
   | some x=>if Wl t=true then some ([91]++x++[93]) else match KX f t with
    | none=>none
    | some y=>some ([91]++x++[124]++y++[93])
def rW:Nat->List T->Bs->Option Bs
 | 0,_,_=>none
 | _+1,[],out=>some out
 | f+1,t::l,out=>match KX f t with
  | none=>none
  | some x=>rW f l (out++x++(if l=[] then [] else [44]))
def uq:Nat->T->Int->Option Bs
 | 0,_,_=>none
 | f+1,t,l=>match KX f t with
  | none=>none
  | some x=>some (if qT t=true/\l<cS t.name then [40]++x++[41] else x)
def RH:Nat->T->Int->Option Bs
 | 0,_,_=>none
 | f+1,t,l=>if CK t=true then match KX f t with
   | none=>none
   | some x=>some ([40]++x++[41])
  else uq f t l
def KG:Nat->T->Int->Option Bs
 | 0,_,_=>none
 | f+1,t,l=>match uq f t l with
  | none=>none
  | some x=>if x=[] then none else some (if CK t=true ∨ Kp x=false then [40]++x++[41] else x)
end
def C6 (f:Nat):List T->Bool->Bs->Option Bs
 | [],_,out=>some out
 | t::l,first,out=>match KX f t with
  | none=>none
  | some x=>C6 f l false (out++(if first=true then [58,45] else [44])++x)
def Ro (f:Nat) (c:C):Option Bs:=match KX f c.head with
 | none=>none
 | some x=>match C6 f c.body true x with
  | none=>none
  | some y=>some (y++[46])

def re (f:Nat):Nat->Bs->Nat->List T->Option (List T × Nat)
 | 0,_,_,_=>none
 | k+1,s,i,acc=>if 6<acc.length then none else match ld f s i 30 3 with
  | none=>none
  | some (t,n)=>if sgn s n 44=true then re f k s (n+1) (acc++[t]) else some (acc++[t],n)
def SH (f:Nat) (s:Bs) (c:C) (n:Nat):Option C:=
 if n+1=s.length/\sgn s n 46=true/\bt c=true/\wC c<=200/\Ro f c=some s then some c else none
def xK (f:Nat) (s:Bs):Option C:=if 1000<s.length then none else match ld f s 0 30 3 with
 | none=>none
 | some (h,n)=>if sgn s n 58=true/\sgn s (n+1) 45=true then match re f 8 s (n+2) [] with
   | none=>none
   | some (b,n2)=>SH f s ⟨h,b⟩ n2
  else SH f s ⟨h,[]⟩ n
def Ie (s:Bs) (c:Nat):Nat->Nat->Nat->List Bs->List Bs
 | 0,i,from_,acc=>acc++[cut s from_ i]
 | n+1,i,from_,acc=>if sgn s i c=true then Ie s c n (i+1) (i+1) (acc++[cut s from_ i]) else Ie s c n (i+1) from_ acc
def VW (s:Bs):List Bs:=Ie s 10 s.length 0 0 []
def mw (f:Nat):List Bs->List C->Option (List C)
 | [],acc=>some acc
 | l::ls,acc=>match xK f l with
  | none=>none
  | some c=>mw f ls (acc++[c])
def R2 (f:Nat) (s:Bs):Option (List C):=
 let ls:=VW s
 if 21<ls.length ∨ ls.getLast?≠some [] then none else mw f ls.dropLast []
def Vx (s:Bs):Bool:=match R2 60 s with
 | some p=>decide (0<p.length) && (decide (p.length<=8) && p.all fun c=>bt c && decide (wC c<=200))
 | none=>false
end
section
open Go Go.RowKit
section
variable {P:Program} {w w0:World} {X:List Nat} {L:List Item} {S:ae} {K:Value->World->Prop}
theorem Gg {T:TypeId} {f g:Bool} {k:IntKind} {a b:Int} (h:a<b) (hk:K (.bool true) w):Run P (c9 .lss T f g (.int k a) (.int k b)) w K:=by
 refine bS ?_;rw [aN h];exact hk
theorem fw {T:TypeId} {f g:Bool} {k:IntKind} {a b:Int} (h:¬ (a<b)) (hk:K (.bool false) w):Run P (c9 .lss T f g (.int k a) (.int k b)) w K:=by
 refine bS ?_;rw [ba h];exact hk
theorem LM {T:TypeId} {f g:Bool} {k:IntKind} {a b:Int} (h:a<=b) (hk:K (.bool true) w):Run P (c9 .leq T f g (.int k a) (.int k b)) w K:=by
 refine fU ?_;rw [aN h];exact hk
theorem TS {T:TypeId} {f g:Bool} {k:IntKind} {a b:Int} (h:¬ (a<=b)) (hk:K (.bool false) w):Run P (c9 .leq T f g (.int k a) (.int k b)) w K:=by
 refine fU ?_;rw [ba h];exact hk
theorem Qw {T:TypeId} {f g:Bool} {k:IntKind} {a b:Int} (h:b<a) (hk:K (.bool true) w):Run P (c9 .gtr T f g (.int k a) (.int k b)) w K:=by
 refine eP ?_;rw [aN h];exact hk
theorem mz {T:TypeId} {f g:Bool} {k:IntKind} {a b:Int} (h:¬ (b<a)) (hk:K (.bool false) w):Run P (c9 .gtr T f g (.int k a) (.int k b)) w K:=by
 refine eP ?_;rw [ba h];exact hk
theorem qk {T:TypeId} {f g:Bool} {k:IntKind} {a b:Int} (h:b<=a) (hk:K (.bool true) w):Run P (c9 .geq T f g (.int k a) (.int k b)) w K:=by
 refine jM ?_;rw [aN h];exact hk
theorem Ap {T:TypeId} {f g:Bool} {k:IntKind} {a b:Int} (h:¬ (b<=a)) (hk:K (.bool false) w):Run P (c9 .geq T f g (.int k a) (.int k b)) w K:=by
 refine jM ?_;rw [ba h];exact hk
theorem gf {T:TypeId} {f g:Bool} {k:IntKind} {a b:Int} (h:a=b) (hk:K (.bool true) w):Run P (c9 .eql T f g (.int k a) (.int k b)) w K:=by
 refine bw ?_;rw [aN h];exact hk
theorem fc {T:TypeId} {f g:Bool} {k:IntKind} {a b:Int} (h:¬ (a=b)) (hk:K (.bool false) w):Run P (c9 .eql T f g (.int k a) (.int k b)) w K:=by
 refine bw ?_;rw [ba h];exact hk
theorem FD {T:TypeId} {f g:Bool} {a b:Int} (h:-9223372036854775808<=a * b/\a * b<=9223372036854775807) (hk:K (.int .i64 (a * b)) w):Run P (c9 .mul T f g (.int .i64 a) (.int .i64 b)) w K:=
 Run.of (by simp [c9,c8,binOp,Op.intArith,IntWalk.i64_in _ h]) hk
theorem YN {T:TypeId} {f g:Bool} {a b:Nat} (l:0<b) (m:a<=9223372036854775807) (hk:K (.int .i64 ((a / b:Nat):Int)) w):Run P (c9 .quo T f g (.int .i64 (a:Int)) (.int .i64 (b:Int))) w K:=by
 refine Run.of ?_ hk;have h:¬ ((b:Int)=0):=by omega
 have i:IntKind.i64.wrap ((a:Int).tdiv b)=((a / b:Nat):Int):=by
  rw [IntWalk.i64_quo _ _ (by omega)]; rfl
 simp only [c9,c8,binOp,Op.intDiv,Sem.run_bind,Result.andThen_ok,ag h,Sem.run_pure];exact congrArg (fun v=>Result.ok (Next.value (.int .i64 v)) w) i
theorem Pn {T:TypeId} {f g:Bool} {a b:Nat} (l:0<b) (hk:K (.int .i64 ((a % b:Nat):Int)) w):Run P (c9 .rem T f g (.int .i64 (a:Int)) (.int .i64 (b:Int))) w K:=by
 refine Run.of ?_ hk;have h:(a:Int).tmod b=((a % b:Nat):Int):=by
  rw [IntWalk.rem_in _ _ (by omega)]; rfl
 have i:¬ ((b:Int)=0):=by omega
 simp only [c9,c8,binOp,Op.intDiv,Sem.run_bind,Result.andThen_ok,ag i,Sem.run_pure];exact congrArg (fun v=>Result.ok (Next.value (.int .i64 v)) w) h
theorem Zc {T:TypeId} {f g:Bool} {a b:Nat} (h:a<4611686018427387904) (i:b<4611686018427387904) (hk:K (.int .i64 ((a ^^^ b:Nat):Int)) w):Run P (c9 .xor T f g (.int .i64 (a:Int)) (.int .i64 (b:Int))) w K:=by
 refine Run.of ?_ hk;have m:a ^^^ b<2 ^ 62:=Nat.xor_lt_two_pow (by simpa using h) (by simpa using i);have e1:(BitVec.ofInt 64 (a:Int)).toNat=a:=by rw [BitVec.toNat_ofInt]; omega
 have e2:(BitVec.ofInt 64 (b:Int)).toNat=b:=by rw [BitVec.toNat_ofInt]; omega
 have l:IntKind.i64.wrap ((BitVec.ofInt 64 (a:Int) ^^^ BitVec.ofInt 64 (b:Int)).toNat:Int)=((a ^^^ b:Nat):Int):=by
  rw [BitVec.toNat_xor,e1,e2];exact IntWalk.i64_in _ (by omega)
 simp only [c9,c8,binOp,Op.intBits,Sem.run_bind,Result.andThen_ok,Sem.run_pure];exact congrArg (fun v=>Result.ok (Next.value (.int .i64 v)) w) l
theorem Yi {T:TypeId} {f g:Bool} {k:IntKind} {a b c:Int} (h:k.wrap (a+b)=c) (hk:K (.int k c) w):Run P (c9 .add T f g (.int k a) (.int k b)) w K:=
 Run.of (by simp [c9,c8,binOp,Op.intArith,h]) hk
theorem VD {T:TypeId} {f g:Bool} {k:IntKind} {a b c:Int} (h:k.wrap (a - b)=c) (hk:K (.int k c) w):Run P (c9 .sub T f g (.int k a) (.int k b)) w K:=
 Run.of (by simp [c9,c8,binOp,Op.intArith,h]) hk
theorem sZ {a f ty:TypeId} {k k':IntKind} {n m:Int} {d:TypeDesc} (g:P.underlying a=some d) (hd:P.underlying f=some (.int k')) (h:k'.wrap n=m) (hk:K (.int k' m) w) :
  Run P (sOp (.convert a f (.const (.int k n))) ty) w K:=by
 refine Run.of ?_ hk;simp [sOp,execOp,ev0,evE,convert,run_underlying g,run_underlying hd,Conv.intToInt,h]
theorem X1 {T ty:TypeId} {n:Int} (a:-9223372036854775808<=-n/\-n<=9223372036854775807) (hk:K (.int .i64 (-n)) w):Run P (sOp (.unOp .neg T (.const (.int .i64 n))) ty) w K:=
 Run.of (by simp [sOp,execOp,ev0,evE,Op.unary,Op.intArith,Int.zero_sub,IntWalk.i64_in _ a]) hk
theorem YD (a b:Bs):st a++st b=st (a++b):=by
 apply ByteArray.ext;simp [st]
theorem ed {T:TypeId} {f g:Bool} {a b:Bs} (hl:a.length+b.length<=9223372036854775807) (hk:K (.string (st (a++b))) w):Run P (c9 .add T f g (.string (st a)) (.string (st b))) w K:=by
 refine Run.of ?_ hk;have h:¬ (9223372036854775807<(((st a).size+(st b).size:Nat):Int)):=by rw [nt,nt]; omega
 have i:IntKind.i64.max=9223372036854775807:=by decide
 simp only [c9,binOp,Op.stringOp,Sem.run_bind,sE,Result.andThen_ok,gt_iff_lt,i,ag h,Sem.run_pure,YD]
theorem Yj (s:Bs) (a b:Nat):(st s).extract a b=st (cut s a b):=by
 apply ByteArray.ext;apply FE.1;simp [cut,ByteArray.data_extract,List.drop_take]
theorem F5 {T ty:TypeId} {s:Bs} {a b:Nat} (h:P.underlying T=some .string) (f:a<=b) (i:b<=s.length) (hk:K (.string (st (cut s a b))) w) :
  Run P (sOp (.slice T (.const (.string (st s))) (some (.const (.int .i64 a))) (some (.const (.int .i64 b))) none) ty) w K:=by
 refine Run.of ?_ hk;have g:b<=(st s).size:=by rw [nt]; exact i
 simp [sOp,execOp,ev0,evE,Instr.sliceAt,Instr.slice,Instr.sliceBounds,run_underlying h,l9 f,l9 g,Yj]
theorem eW {T ty:TypeId} {s:Bs} {i:Nat} (f:P.underlying T=some .string) (g:i<s.length) (hk:K (.int .u8 s[i].toNat) w) :
  Run P (sOp (.index T (.const (.string (st s))) (.const (.int .i64 i))) ty) w K:=by
 have a:i<(st s).size:=by rw [nt]; exact g
 refine mj f a ?_;have:(st s)[i]=s[i]:=by simp [st,ByteArray.getElem_eq_getElem_data]
 rw [this];exact hk
theorem ge {T ty:TypeId} {cs:List Bool} {s:Bs} (a:P.underlying T=some .string) (hk:K (.int .i64 s.length) w):Run P (cm .len #[T] ty cs [.string (st s)]) w K:=by
 refine jw a ?_;rw [nt];exact hk
theorem GP {T:TypeId} {f g:Bool} {a b:Bs} (hk:K (.bool (decide (a=b))) w):Run P (c9 .eql T f g (.string (st a)) (.string (st b))) w K:=by
 refine bQ ?_;have:decide (st a=st b)=decide (a=b):=by
  rw [gB];exact ⟨fun h=>by rw [<- JT a,h,JT],fun h=>by rw [h]⟩
 rw [this];exact hk
theorem Rq {T:TypeId} {f g:Bool} {a b:Bs} (hk:K (.bool (!decide (a=b))) w):Run P (c9 .neq T f g (.string (st a)) (.string (st b))) w K:=by
 refine Ql ?_;have:decide (st a=st b)=decide (a=b):=by
  rw [gB];exact ⟨fun h=>by rw [<- JT a,h,JT],fun h=>by rw [h]⟩
 rw [this];exact hk
theorem FR (h:Inv w0 X L S w) {T T' D ty e:TypeId} {by_:Nat} {z:Value} {n:Nat} (g:oE P T=some (e,1,by_,z)) (i:P.underlying T'=some (.slice e)) (l:P.underlying e=some (.int .u8)) (m:P.underlying D=some .string)
  {K:Value->Value->World->Prop} (hk:∀ w',Inv w0 X L S w'->K (.slice (some ⟨w.heap.size,0,none⟩) 1 1) (.string (st [UInt8.ofNat n])) w') :
  Run P (cd T 1 [(0,.int .u8 (n:Int))]) w fun u w'=>Run P (sOp (.convert T' D (.const u)) ty) w' (K u):=by
 refine uP h g rfl (by omega) (by omega) fun w' f=>?_;have o:(L++[Item.blk w.heap.size (.cells (Value.int .u8 (n:Int)).cells e)])[L.length]?=some (.blk w.heap.size (.cells (Value.int .u8 (n:Int)).cells e)):=by
  rw [gG (aS _),ey]; rfl
 have hc:w'.cell? ⟨w.heap.size,0,none⟩=some (.int .u8 (n:Int)):=by rw [f.cellL o]; rfl
 have hl:=run_loadCells_list (P:=P) (w:=w') ⟨w.heap.size,0,none⟩ [.int .u8 (n:Int)] (fun j v a=>by
  match j with
  | 0=>simp only [IC,aY] at a; subst a; rw [om]; exact hc
  | j+1=>simp at a)
 simp only [bq,bW] at hl;refine Run.of (w':=w') ?_ (hk _ (f.sub (dt _ _)));simp [sOp,execOp,ev0,evE,convert,run_underlying i,run_underlying l,run_underlying m,Conv.bytesToString,hl,st];rfl
end
end
end Go.Proofs.YtgllldjiaglkcaaGreatDoor
