/- spec.l15Resolvent. -/
import Derived.Test.YtgllldjiaglkcaaGreatDoorZUf6
import Derived.Test.YtgllldjiaglkcaaGreatDoorZUf7
import Derived.Test.YtgllldjiaglkcaaGreatDoorZUf1
import Derived.Test.YtgllldjiaglkcaaGreatDoorZUf4
namespace Go.Proofs.YtgllldjiaglkcaaGreatDoor
section
open Go Go.RowKit
def iz:Option (Option C)->Bool
 | none=>false
 | _=>true
def jH:Option (Option C)->Bool
 | none=>true
 | some none=>false
 | some (some r)=>bt r
def yC:Option (Option C)->Bool
 | some (some r)=>bt r
 | _=>false
def R9:C:=⟨⟨0,0,⟨#[]⟩,[]⟩,[]⟩
def clO:Option (Option C)->C
 | some (some r)=>r
 | _=>R9
theorem Wz (z:Array Value) (f:z=#[.int .i64 0,.int .i64 0,.string ⟨#[]⟩,.slice none 0 0]) (S:ae):KnU S ((Array.range 208).map (z[· % z.size]!)) stU:=by
 subst f;refine ⟨by simp [stU],fun i g=>⟨fun _=>?_,fun t a=>?_⟩⟩
 ·simp only [stU,Jw] at g;apply wm;intro j;rw [aX,wl]
  match j with
  | 0|1|2|3=>
   rw [ai (by omega),zJ,YX,Array.getElem?_map,Array.getElem?_range,ai (by omega)];simp only [xA,List.size_toArray,bq,bW];first
    | rw [show (i * 4+0) % 4=0 by omega]; rfl
    | rw [show (i * 4+1) % 4=1 by omega]; rfl
    | rw [show (i * 4+2) % 4=2 by omega]; rfl
    | rw [show (i * 4+3) % 4=3 by omega]; rfl
  | j+4=>
   rw [ag (by omega)];rfl
 ·have e:stU[i]=none:=by simp only [stU,Wm]
  rw [e] at a;cases a
theorem IL:∀ (l:List T) (h:0<l.length) (d:T),l.headD d=l[0]
 | _::_,_,_=>rfl
 | [],h,_=>by simp at h
def Yl (c:C) (f k:Bool):Value->List Item->ae->Prop:=fun q I' S'=>I'=[]/\∃ cs:List Value,q=.tuple #[.agg cs.toArray,.bool f,.bool k]/\RdC S' cs c
theorem BA:∀ x∈([.int .i64 0,.int .i64 0,.string ⟨#[]⟩,.slice none 0 0,.slice none 0 0]:List Value),x.oneCell'=true:=by simp [Value.oneCell']
section
variable {P:Program} {w:World} {K:Value->World->Prop}
attribute [local irreducible] Run
theorem Y0 {T:TypeId} {f g:Bool} {a b:Int} (h:-9223372036854775808<=a * b/\a * b<=9223372036854775807) (hk:K (.int .i64 (a * b)) w):Run P (c9 .mul T f g (.int .i64 a) (.int .i64 b)) w K:=by
 refine Run.of ?_ hk;simp [c9,dc,binOp,Op.intArith,IntWalk.i64_in _ h]
end
section
attribute [local irreducible] Run CondV aq aK
set_option maxHeartbeats 2000000 in
theorem wV {g d0:C} {o:Option (Option C)} (hc:bt g=true) (hd:bt d0=true) (j5:wC g<=1048576) (h8:wC d0<=1048576) (hb:g.body≠[]) (ho:RO g d0 o) {S:ae} {cs ds:List Value} (h:RdC S cs g) (h':RdC S ds d0) :
  Tri Tryz.prog AH [.agg cs.toArray,.agg ds.toArray] [] S (Yl (clO o) (iz o) (jH o)):=by
 intro w f;have f:Inv w [] [] S w:=f;have r5:=h.length;have o2:=h'.length;obtain ⟨d1,d2,_⟩:=dS hd;have e3:=A4 hc hd;have d3:=sC hc hd;have g5:=pl hc hd j5 h8 hb;obtain ⟨r,st,hu,c4⟩:=ho;obtain ⟨hg,_⟩:=hu.good jl g5;have h0:=h;obtain ⟨q9,ks,rfl,h1,h2⟩:=h;have o3:=h1;obtain ⟨U,rfl,g1,g2,g3,g4⟩:=RdT.iff.1 h1;have j0:0<g.body.length:=VO.2 hb;obtain ⟨bb,bo,N,bc,bE,r0,rfl,n4,n5⟩:=h2.at_ j0;have g6:g.body.headD ⟨0,0,⟨#[]⟩,[]⟩=g.body[0]:=IL _ j0 _;rw [g6] at hu g5;refine nQ.2 ?_;dsimp only[nQ,bm];refine bJ f fun b2 w' f=>?_;refine bJ f fun b3 w' f=>?_;refine aQ f cV fun b4 w' f=>?_;refine aC f 1 aH rfl (by simpa [Value.cells] using o2) ?_;refine Run.call0E HF H1 f (Gj (Nv:=26) (by omega) 26 (by omega) (by omega) h' d1 d2 h8) fun v' I' S0 w'=>?_;rintro ⟨rfl,es,L,rfl,rfl,hT⟩ m7 f;obtain ⟨S1,f,n6,k3⟩:=f.pubExt;have hE:=m7.trans n6;have he:=hT.rd k3;obtain ⟨B,i4⟩:∃ B,B=Ud 26 d0:=⟨_,rfl⟩
 rw [<- i4] at he;have o4:bp 26 d0.head=B.head:=by rw [i4]; rfl
 have l1:dM 26 d0.body=B.body:=by rw [i4]; rfl
 rw [o4] at hu g5;have l2:iR g d0=g.head::(B.body++g.body.drop 1):=by rw [iR,l1]
 rw [l2] at c4 e3 d3;have o5:=he;obtain ⟨eh,r1,rfl,k4,k5⟩:=he;have l3:=k4;obtain ⟨V,rfl,_⟩:=RdT.iff.1 k4;obtain ⟨ea,O,rfl,_⟩:=id k5;refine aQ f cV fun b8 w' f=>?_;refine au f 3 rfl aH rfl rfl (by simpa using o5.one) fun w' f=>?_;refine Y0 (by omega) ?_;refine Kv (n:=52) f bn (by omega) (by omega) (by omega) fun kb w' f=>?_;have h5:=Wz _ rfl S1;obtain ⟨kc,g8⟩:∃ kc,kc=(Array.range 208).map ((#[.int .i64 0,.int .i64 0,.string ⟨#[]⟩,.slice none 0 0]:Array Value)[· % (#[.int .i64 0,.int .i64 0,.string ⟨#[]⟩,.slice none 0 0]:Array Value).size]!):=⟨_,rfl⟩
 rw [<- g8] at h5;have f:Inv w [] [.blk b2 (.cells #[.int .i64 g.head.kind,.int .i64 g.head.n,.string g.head.name,U,.slice (some ⟨bb,bo,none⟩) g.body.length N] ac),.blk b3 (.cells ds.toArray ac),.blk b4 (.cells #[.int .i64 0,.int .i64 0,.string ⟨#[]⟩,.slice none 0 0,.slice none 0 0] ac),.blk b8 (.cells #[.int .i64 B.head.kind,.int .i64 B.head.n,.string B.head.name,V,.slice ea B.body.length O] ac),.blk kb (.cells kc ab)] S1 w':=by rw [g8]; exact f
 have l4:=hE.1 _ _ n4;have h6:=n5.mono hE.1;have j1:=Il (kp:=52) (by omega) jl g5 hu S1 _ _ kb kc h6 l3 h5;refine ⟨fun D ik ji jw oP kT fN lK rW qb w_=>Fx D 0 [qb=.pointer (some ⟨b2,4,none⟩),rW=.slice (some ⟨bb,bo,none⟩) g.body.length N,lK=.pointer (some ⟨bb,bo+0 * 4,none⟩),fN=.agg (aX bc (bo+0 * 4) 4).toArray,kT=.pointer (some ⟨b8,0,none⟩),oP=.agg #[.int .i64 B.head.kind,.int .i64 B.head.n,.string B.head.name,V],jw=kvU kb 52 52,ji=.bool r,ik=.bool (!r)]/\(D 7=false->Inv w [] [.blk b2 (.cells #[.int .i64 g.head.kind,.int .i64 g.head.n,.string g.head.name,U,.slice (some ⟨bb,bo,none⟩) g.body.length N] ac),.blk b3 (.cells ds.toArray ac),.blk b4 (.cells #[.int .i64 0,.int .i64 0,.string ⟨#[]⟩,.slice none 0 0,.slice none 0 0] ac),.blk b8 (.cells #[.int .i64 B.head.kind,.int .i64 B.head.n,.string B.head.name,V,.slice ea B.body.length O] ac),.blk kb (.cells kc ab)] S1 w_)/\(D 7=true->∃ Z,KnU S1 Z st/\Inv w [] [.blk b2 (.cells #[.int .i64 g.head.kind,.int .i64 g.head.n,.string g.head.name,U,.slice (some ⟨bb,bo,none⟩) g.body.length N] ac),.blk b3 (.cells ds.toArray ac),.blk b4 (.cells #[.int .i64 0,.int .i64 0,.string ⟨#[]⟩,.slice none 0 0,.slice none 0 0] ac),.blk b8 (.cells #[.int .i64 B.head.kind,.int .i64 B.head.n,.string B.head.name,V,.slice ea B.body.length O] ac),.blk kb (.cells Z ab)] S1 w_)/\∃ a8,Inv w [] [.blk b2 (.cells #[.int .i64 g.head.kind,.int .i64 g.head.n,.string g.head.name,U,.slice (some ⟨bb,bo,none⟩) g.body.length N] ac),.blk b3 (.cells ds.toArray ac),.blk b4 (.cells #[.int .i64 0,.int .i64 0,.string ⟨#[]⟩,.slice none 0 0,.slice none 0 0] ac),.blk b8 (.cells #[.int .i64 B.head.kind,.int .i64 B.head.n,.string B.head.name,V,.slice ea B.body.length O] ac),.blk kb (.cells a8 ab)] S1 w_,⟨Fx.nil _ _,⟨fun _=>f.draw,aI,kc,f.draw⟩⟩,⟨?_,?_,?_,?_,?_,?_,?_,?_,?_,trivial⟩,?_⟩;all_goals (intro D bI; intros; rename_i ik ji jw oP kT fN lK rW qb w_ b9; have J:=b9.1; obtain ⟨⟨cJ,cH,cI,cD,cM,cO,cq,dg,dF,_⟩,⟨b0,b1,a8,f⟩⟩:=b9)
 ·refine aw aT ?_;exact ⟨J.set 0 rfl,⟨b0,b1,a8,f⟩⟩
 ·obtain rfl:=cJ ‹_›;refine aU f 0 al rfl rfl ?_;exact ⟨J.set 1 rfl,⟨b0,b1,a8,f⟩⟩
 ·obtain rfl:=cH ‹_›;refine az (i:=0) ah j0 ?_;exact ⟨J.set 2 rfl,⟨b0,b1,a8,f⟩⟩
 ·obtain rfl:=cI ‹_›;refine ci ad h6.length (fun j v hj=>by rw [f.cellS l4]; exact aF rfl j v hj) ?_;exact ⟨J.set 3 rfl,⟨b0,b1,a8,f⟩⟩
 ·refine aw bO ?_;exact ⟨J.set 4 rfl,⟨b0,b1,a8,f⟩⟩
 ·obtain rfl:=cM ‹_›;refine dB f 3 [.int .i64 B.head.kind,.int .i64 B.head.n,.string B.head.name,V] ad rfl rfl Bz ?_;exact ⟨J.set 5 rfl,⟨b0,b1,a8,f⟩⟩
 ·exact ⟨J.set 6 rfl,⟨b0,b1,a8,f⟩⟩
 ·obtain rfl:=cD ‹_›;obtain rfl:=cO ‹_›;obtain rfl:=cq ‹_›;refine Run.call (A:=[_,_,_,_]) qk rj (b0 bI) j1 fun v' I' S' w_=>?_;rintro ⟨eS,rfl,Z,rfl,d6⟩ _ f;rw [eS] at f;have b0:=fun (h:ao D 7 7=false)=>(Bool.noConfusion h:Inv w [] [.blk b2 (.cells #[.int .i64 g.head.kind,.int .i64 g.head.n,.string g.head.name,U,.slice (some ⟨bb,bo,none⟩) g.body.length N] ac),.blk b3 (.cells ds.toArray ac),.blk b4 (.cells #[.int .i64 0,.int .i64 0,.string ⟨#[]⟩,.slice none 0 0,.slice none 0 0] ac),.blk b8 (.cells #[.int .i64 B.head.kind,.int .i64 B.head.n,.string B.head.name,V,.slice ea B.body.length O] ac),.blk kb (.cells kc ab)] S1 w_)
  have b1:=fun (_:ao D 7 7=true)=>(⟨Z,d6,f⟩:∃ Z,KnU S1 Z st/\Inv w [] [.blk b2 (.cells #[.int .i64 g.head.kind,.int .i64 g.head.n,.string g.head.name,U,.slice (some ⟨bb,bo,none⟩) g.body.length N] ac),.blk b3 (.cells ds.toArray ac),.blk b4 (.cells #[.int .i64 0,.int .i64 0,.string ⟨#[]⟩,.slice none 0 0,.slice none 0 0] ac),.blk b8 (.cells #[.int .i64 B.head.kind,.int .i64 B.head.n,.string B.head.name,V,.slice ea B.body.length O] ac),.blk kb (.cells Z ab)] S1 w_)
  obtain ⟨a8,f⟩:∃ a8,Inv w [] [.blk b2 (.cells #[.int .i64 g.head.kind,.int .i64 g.head.n,.string g.head.name,U,.slice (some ⟨bb,bo,none⟩) g.body.length N] ac),.blk b3 (.cells ds.toArray ac),.blk b4 (.cells #[.int .i64 0,.int .i64 0,.string ⟨#[]⟩,.slice none 0 0,.slice none 0 0] ac),.blk b8 (.cells #[.int .i64 B.head.kind,.int .i64 B.head.n,.string B.head.name,V,.slice ea B.body.length O] ac),.blk kb (.cells a8 ab)] S1 w_:=⟨Z,f⟩
  exact ⟨J.set 7 rfl,⟨b0,b1,a8,f⟩⟩
 ·obtain rfl:=dg ‹_›;refine cw ?_;exact ⟨J.set 8 rfl,⟨b0,b1,a8,f⟩⟩
 obtain ⟨rfl,rfl,rfl,rfl,rfl,rfl,rfl,rfl,rfl,_⟩:=J.all;have vp:D 7=true:=by assumption
 clear J cJ cH cI cD cM cO cq dg dF;obtain ⟨Z,d6,f⟩:=b1 vp;clear b0 b1;refine aD (fun i1=>?_) (fun i1=>?_)
 ·have hr:r=false:=by simpa using i1
  have o6:o=none:=by
   rcases c4 with ⟨_,h⟩|⟨h,_⟩
   ·exact h
   ·rw [hr] at h; cases h
  subst o6;refine jp ?_;refine au f 2 rfl aH rfl rfl BA fun w' f=>?_;refine bB f 2 aH rfl rfl ?_;exact ⟨_,_,_,rfl,f.nil,hE,rfl,[.int .i64 0,.int .i64 0,.string ⟨#[]⟩,.slice none 0 0,.slice none 0 0],rfl,RdC.zero _⟩
 have hr:r=true:=by simpa using i1
 obtain ⟨us,i5,k6⟩:∃ us,Res st (.list (g.head::(B.body++g.body.drop 1)) us)/\((us.all bv=false/\o=some none) ∨ (us.all bv=true/\o=some (some (vq (bX (ofL us)) (ofL us))))):=by
  rcases c4 with ⟨h,_⟩|⟨_,h⟩
  ·rw [hr] at h; cases h
  ·exact h
 clear c4;have l5:=o3.mono hE.1;have o7:=h2.monoT hE.1;refine ⟨fun D Mh sE xC oK qd vg sy sg Ab BF CK w_=>Fx D 0 [CK=.pointer (some ⟨b2,0,none⟩),BF=.agg #[.int .i64 g.head.kind,.int .i64 g.head.n,.string g.head.name,U],True,sg=.pointer (some ⟨b8,4,none⟩),sy=.slice ea B.body.length O,True,qd=.pointer (some ⟨b2,4,none⟩),oK=.slice (some ⟨bb,bo,none⟩) g.body.length N,True,True,True]/\∃ rows:List Item,(D 2=false->rows=[])/\(D 2=true->D 5=false->∃ css,rows=[aA Ab ab 4 css]/\Rows 4 (RdT S1) css [g.head])/\(D 5=true->D 9=false->∃ css,rows=[aA vg ab 4 css]/\Rows 4 (RdT S1) css (g.head::B.body))/\(D 9=true->∃ css,rows=[aA sE ab 4 css]/\Rows 4 (RdT S1) css (g.head::(B.body++g.body.drop 1)))/\(D 10=true->Mh=sE)/\(D 10=true->D 9=true)/\(D 5=true->D 2=true)/\(D 9=true->D 5=true)/\(D 8=true->RdSl S1 4 (RdT S1) xC (g.body.drop 1))/\Inv w [] ([.blk b2 (.cells #[.int .i64 g.head.kind,.int .i64 g.head.n,.string g.head.name,U,.slice (some ⟨bb,bo,none⟩) g.body.length N] ac),.blk b3 (.cells ds.toArray ac),.blk b4 (.cells #[.int .i64 0,.int .i64 0,.string ⟨#[]⟩,.slice none 0 0,.slice none 0 0] ac),.blk b8 (.cells #[.int .i64 B.head.kind,.int .i64 B.head.n,.string B.head.name,V,.slice ea B.body.length O] ac),.blk kb (.cells Z ab)]++rows) S1 w_,⟨Fx.nil _ _,⟨[],fun _=>rfl,aI,aI,aI,aI,aI,aI,aI,aI,f.draw⟩⟩,⟨?_,?_,?_,?_,?_,?_,?_,?_,?_,?_,?_,trivial⟩,?_⟩;all_goals (intro D bI; intros; rename_i Mh sE xC oK qd vg sy sg Ab BF CK w_ b9; have J:=b9.1; obtain ⟨⟨cJ,cH,cI,cD,cM,cO,cq,dg,dF,dL,cT,_⟩,⟨rows,e2,a3,a4,e9,a7,Y,a5,a6,e8,f⟩⟩:=b9)
 ·refine aw bO ?_;exact ⟨J.set 0 rfl,⟨rows,e2,a3,a4,e9,a7,Y,a5,a6,e8,f⟩⟩
 ·obtain rfl:=cJ ‹_›;refine dB f 0 [.int .i64 g.head.kind,.int .i64 g.head.n,.string g.head.name,U] ad rfl rfl Bz ?_;exact ⟨J.set 1 rfl,⟨rows,e2,a3,a4,e9,a7,Y,a5,a6,e8,f⟩⟩
 ·obtain rfl:=cH ‹_›;have q:=e2 bI;subst q;have f5:D 5=false:=bx.2 fun h=>by rw [a5 h] at bI; cases bI
  have f9:D 9=false:=bx.2 fun h=>by rw [a6 h] at f5; cases f5
  rw [bU] at f;refine dC f bn (by simp [Value.cells]) (by omega) (by omega) fun b7 w_ f=>?_;have f:=Inv.closeRow (A:=[.blk b2 (.cells #[.int .i64 g.head.kind,.int .i64 g.head.n,.string g.head.name,U,.slice (some ⟨bb,bo,none⟩) g.body.length N] ac),.blk b3 (.cells ds.toArray ac),.blk b4 (.cells #[.int .i64 0,.int .i64 0,.string ⟨#[]⟩,.slice none 0 0,.slice none 0 0] ac),.blk b8 (.cells #[.int .i64 B.head.kind,.int .i64 B.head.n,.string B.head.name,V,.slice ea B.body.length O] ac),.blk kb (.cells Z ab)]) (cap:=1) (k:=4) (n:=1) f (by omega) (by simp [maxLen]) (by simp [Value.cells]);have hR:Rows 4 (RdT S1) [[.int .i64 g.head.kind,.int .i64 g.head.n,.string g.head.name,U]] [g.head]:=Rows.one l5 l5.length;obtain ⟨rows,a2⟩:∃ rows,rows=[aA (.slice (some ⟨b7,0,none⟩) 1 1) ab 4 [[.int .i64 g.head.kind,.int .i64 g.head.n,.string g.head.name,U]]]:=⟨_,rfl⟩
  have f:Inv w [] ([.blk b2 (.cells #[.int .i64 g.head.kind,.int .i64 g.head.n,.string g.head.name,U,.slice (some ⟨bb,bo,none⟩) g.body.length N] ac),.blk b3 (.cells ds.toArray ac),.blk b4 (.cells #[.int .i64 0,.int .i64 0,.string ⟨#[]⟩,.slice none 0 0,.slice none 0 0] ac),.blk b8 (.cells #[.int .i64 B.head.kind,.int .i64 B.head.n,.string B.head.name,V,.slice ea B.body.length O] ac),.blk kb (.cells Z ab)]++rows) S1 w_:=by rw [a2]; exact f
  have e2:=fun (h:ao D 2 2=false)=>(Bool.noConfusion h:rows=[])
  have a3:=fun (_:ao D 2 2=true) (_:ao D 2 5=false)=>(⟨_,a2,hR⟩:∃ css,rows=[aA (.slice (some ⟨b7,0,none⟩) 1 1) ab 4 css]/\Rows 4 (RdT S1) css [g.head])
  have a4:=fun (h:ao D 2 5=true) (_:ao D 2 9=false)=>(Bool.noConfusion (f5.symm.trans h):∃ css,rows=[aA vg ab 4 css]/\Rows 4 (RdT S1) css (g.head::B.body))
  have e9:=fun (h:ao D 2 9=true)=>(Bool.noConfusion (f9.symm.trans h):∃ css,rows=[aA sE ab 4 css]/\Rows 4 (RdT S1) css (g.head::(B.body++g.body.drop 1)))
  have a5:=fun (_:ao D 2 5=true)=>(rfl:ao D 2 2=true)
  exact ⟨J.set 2 (by first|assumption|trivial),⟨rows,e2,a3,a4,e9,a7,Y,a5,a6,e8,f⟩⟩
 ·refine aw aT ?_;exact ⟨J.set 3 rfl,⟨rows,e2,a3,a4,e9,a7,Y,a5,a6,e8,f⟩⟩
 ·obtain rfl:=cD ‹_›;refine aU f 3 al rfl rfl ?_;exact ⟨J.set 4 rfl,⟨rows,e2,a3,a4,e9,a7,Y,a5,a6,e8,f⟩⟩
 ·have Yy:=cI ‹_›;obtain rfl:=cM ‹_›;obtain ⟨css,q,hR⟩:=a3 ‹D 2=true› bI;subst q;have f9:D 9=false:=bx.2 fun h=>by rw [a6 h] at bI; cases bI
  have c6:=hR.hc;refine i8 f 5 bn (by omega) rfl k5 (fun _ _=>RdT.length) (fun _ _=>RdT.one) (by simp at c6 e3; omega) (by omega) fun v5 w_ d9 i2 f=>?_;have hR:=hR.append i2;obtain ⟨rows,a2⟩:∃ rows,rows=[aA v5 ab 4 (css++d9)]:=⟨_,rfl⟩
  have f:Inv w [] ([.blk b2 (.cells #[.int .i64 g.head.kind,.int .i64 g.head.n,.string g.head.name,U,.slice (some ⟨bb,bo,none⟩) g.body.length N] ac),.blk b3 (.cells ds.toArray ac),.blk b4 (.cells #[.int .i64 0,.int .i64 0,.string ⟨#[]⟩,.slice none 0 0,.slice none 0 0] ac),.blk b8 (.cells #[.int .i64 B.head.kind,.int .i64 B.head.n,.string B.head.name,V,.slice ea B.body.length O] ac),.blk kb (.cells Z ab)]++rows) S1 w_:=by rw [a2]; exact f
  have e2:=fun (h:ao D 5 2=false)=>(Bool.noConfusion (‹D 2=true›.symm.trans h):rows=[])
  have a3:=fun (_:ao D 5 2=true) (h:ao D 5 5=false)=>(Bool.noConfusion h:∃ css,rows=[aA Ab ab 4 css]/\Rows 4 (RdT S1) css [g.head])
  have a4:=fun (_:ao D 5 5=true) (_:ao D 5 9=false)=>(⟨_,a2,hR⟩:∃ css,rows=[aA v5 ab 4 css]/\Rows 4 (RdT S1) css (g.head::B.body))
  have e9:=fun (h:ao D 5 9=true)=>(Bool.noConfusion (f9.symm.trans h):∃ css,rows=[aA sE ab 4 css]/\Rows 4 (RdT S1) css (g.head::(B.body++g.body.drop 1)))
  have a5:=fun (_:ao D 5 5=true)=>‹D 2=true›;have a6:=fun (_:ao D 5 9=true)=>(rfl:ao D 5 5=true)
  exact ⟨J.set 5 (by first|assumption|trivial),⟨rows,e2,a3,a4,e9,a7,Y,a5,a6,e8,f⟩⟩
 ·refine aw aT ?_;exact ⟨J.set 6 rfl,⟨rows,e2,a3,a4,e9,a7,Y,a5,a6,e8,f⟩⟩
 ·obtain rfl:=cq ‹_›;refine aU f 0 al rfl rfl ?_;exact ⟨J.set 7 rfl,⟨rows,e2,a3,a4,e9,a7,Y,a5,a6,e8,f⟩⟩
 ·obtain rfl:=dg ‹_›;refine fo (l:=1) ah o7 (by omega) fun v8 n0=>?_;have e8:=fun (_:ao D 8 8=true)=>n0;exact ⟨J.set 8 (by first|assumption|trivial),⟨rows,e2,a3,a4,e9,a7,Y,a5,a6,e8,f⟩⟩
 ·have Hj:=cO ‹_›;have Dx:=dF ‹_›;obtain ⟨css,q,hR⟩:=a4 ‹D 5=true› bI;subst q;have o8:D 10=false:=by cases hq:D 10 with|false=>rfl|true=>exact absurd (Y hq) (by rw [bI]; decide)
  have c6:=hR.hc;have o9:=e8 ‹D 8=true›;refine i8 f 5 bn (by omega) rfl o9 (fun _ _=>RdT.length) (fun _ _=>RdT.one) (by simp only [mK]; simp at c6 e3; omega) (by omega) fun v9 w_ d9 i2 f=>?_;have hR:=hR.append i2;rw [dV] at hR;obtain ⟨rows,a2⟩:∃ rows,rows=[aA v9 ab 4 (css++d9)]:=⟨_,rfl⟩
  have f:Inv w [] ([.blk b2 (.cells #[.int .i64 g.head.kind,.int .i64 g.head.n,.string g.head.name,U,.slice (some ⟨bb,bo,none⟩) g.body.length N] ac),.blk b3 (.cells ds.toArray ac),.blk b4 (.cells #[.int .i64 0,.int .i64 0,.string ⟨#[]⟩,.slice none 0 0,.slice none 0 0] ac),.blk b8 (.cells #[.int .i64 B.head.kind,.int .i64 B.head.n,.string B.head.name,V,.slice ea B.body.length O] ac),.blk kb (.cells Z ab)]++rows) S1 w_:=by rw [a2]; exact f
  have p0:=a5 ‹D 5=true›;have e2:=fun (h:ao D 9 2=false)=>(Bool.noConfusion (p0.symm.trans h):rows=[])
  have a3:=fun (_:ao D 9 2=true) (h:ao D 9 5=false)=>(Bool.noConfusion (‹D 5=true›.symm.trans h):∃ css,rows=[aA Ab ab 4 css]/\Rows 4 (RdT S1) css [g.head])
  have a4:=fun (_:ao D 9 5=true) (h:ao D 9 9=false)=>(Bool.noConfusion h:∃ css,rows=[aA vg ab 4 css]/\Rows 4 (RdT S1) css (g.head::B.body))
  have e9:=fun (_:ao D 9 9=true)=>(⟨_,a2,hR⟩:∃ css,rows=[aA v9 ab 4 css]/\Rows 4 (RdT S1) css (g.head::(B.body++g.body.drop 1)))
  have a7:=fun (h:ao D 9 10=true)=>(Bool.noConfusion (o8.symm.trans h):Mh=v9)
  have a6:=fun (_:ao D 9 9=true)=>‹D 5=true›;have Y:=fun (_:ao D 9 10=true)=>(rfl:ao D 9 9=true)
  exact ⟨J.set 9 (by first|assumption|trivial),⟨rows,e2,a3,a4,e9,a7,Y,a5,a6,e8,f⟩⟩
 ·have D1:=dL ‹_›;have a7:=fun (_:ao D 10 10=true)=>(rfl:sE=sE)
  have Y:=fun (_:ao D 10 10=true)=>‹D 9=true›;exact ⟨J.set 10 (by first|assumption|trivial),⟨rows,e2,a3,a4,e9,a7,Y,a5,a6,e8,f⟩⟩
 obtain ⟨rfl,rfl,Yy,rfl,rfl,Hj,rfl,rfl,Dx,D1,AB,_⟩:=J.all;have Nw:D 9=true:=by assumption
 have DX:D 10=true:=by assumption
 clear J cJ cH cI cD cM cO cq dg dF dL cT;obtain ⟨css,rfl,hR⟩:=e9 Nw;have p1:=a7 DX;subst p1;clear e2 a3 a4 e9 a7 Y a5 a6 e8;obtain ⟨S2,i6,n7,f⟩:=Inv.lendExt (A:=[.blk b2 (.cells #[.int .i64 g.head.kind,.int .i64 g.head.n,.string g.head.name,U,.slice (some ⟨bb,bo,none⟩) g.body.length N] ac),.blk b3 (.cells ds.toArray ac),.blk b4 (.cells #[.int .i64 0,.int .i64 0,.string ⟨#[]⟩,.slice none 0 0,.slice none 0 0] ac),.blk b8 (.cells #[.int .i64 B.head.kind,.int .i64 B.head.n,.string B.head.name,V,.slice ea B.body.length O] ac),.blk kb (.cells Z ab)]) f;have c9:=RowRd.rows (hR.monoR fun _ _ h=>RdT.mono i6.1 h) n7;have l6:=hE.trans i6;have d6:=d6.mono i6.1;refine ei f bn fun n1 w' f=>?_;obtain ⟨n8,k7⟩:=fg hg i5 d3;have c5:us.length=(g.head::(B.body++g.body.drop 1)).length:=k7;generalize m6:g.head::(B.body++g.body.drop 1)=xs at i5 e3 d3 c9 c5;have l7:∀ x∈xs,wT x<=1048576:=by
  intro x hx;rw [<- m6] at hx;unfold wC at j5 h8;rcases bY.1 hx with rfl|hx
  ·omega
  ·rcases bF.1 hx with hx|hx
   ·have:=mZ hx;rw [<- l1,zB] at this;omega
   ·have:=mZ (xg hx);omega
 have f:Inv w [] [.blk b2 (.cells #[.int .i64 g.head.kind,.int .i64 g.head.n,.string g.head.name,U,.slice (some ⟨bb,bo,none⟩) g.body.length N] ac),.blk b3 (.cells ds.toArray ac),.blk b4 (.cells #[.int .i64 0,.int .i64 0,.string ⟨#[]⟩,.slice none 0 0,.slice none 0 0] ac),.blk b8 (.cells #[.int .i64 B.head.kind,.int .i64 B.head.n,.string B.head.name,V,.slice ea B.body.length O] ac),aA n1 ab 4 [],.blk kb (.cells Z ab)] S2 w':=f.perm (List.Perm.cons _ (List.Perm.cons _ (List.Perm.cons _ (List.Perm.cons _ (List.Perm.swap _ _ _)))));refine ⟨fun i t w'=>∃ (j:Nat) (css:List (List Value)) (S':ae),j<=us.length/\i=.int .i64 j/\Ext w.heap.size [] S2 S'/\Rows 4 (RdT S') css (us.take j)/\(∀ k (_:k<us.length),k<j->bv us[k]=true)/\Inv w [] [.blk b2 (.cells #[.int .i64 g.head.kind,.int .i64 g.head.n,.string g.head.name,U,.slice (some ⟨bb,bo,none⟩) g.body.length N] ac),.blk b3 (.cells ds.toArray ac),.blk b4 (.cells #[.int .i64 0,.int .i64 0,.string ⟨#[]⟩,.slice none 0 0,.slice none 0 0] ac),.blk b8 (.cells #[.int .i64 B.head.kind,.int .i64 B.head.n,.string B.head.name,V,.slice ea B.body.length O] ac),aA t ab 4 css,.blk kb (.cells Z ab)] S' w',
  fun i _ _=>us.length - (intOf i).toNat,⟨0,[],S2,bk _,rfl,Ext.refl _ _ _,Rows.nil _ _,fun k _ h=>by omega,f⟩,?_⟩
 intro q4 _ _ e5 _ _ _ _ t6 t5 _ _ _ _ _ _ _ _ _ _ _ _ _ _ _ _ _ _ w';rintro ⟨j,c3,S3,hj,rfl,d4,f0,d7,f⟩;refine aJ (c9.monoT d4.1) ah ?_;refine bT ?_;refine aL (fun n2=>?_) (fun n2=>?_)
 ·have g7:j<us.length:=by omega
  have j2:j<xs.length:=by omega
  have l8:=bG j2;have m0:=f0.hc;rw [cL] at m0;refine cn f (c9.monoT d4.1) ah ad j2 (fun _ _=>RdT.length) fun q5 k1=>?_;have f:Inv w [] ([.blk b2 (.cells #[.int .i64 g.head.kind,.int .i64 g.head.n,.string g.head.name,U,.slice (some ⟨bb,bo,none⟩) g.body.length N] ac),.blk b3 (.cells ds.toArray ac),.blk b4 (.cells #[.int .i64 0,.int .i64 0,.string ⟨#[]⟩,.slice none 0 0,.slice none 0 0] ac),.blk b8 (.cells #[.int .i64 B.head.kind,.int .i64 B.head.n,.string B.head.name,V,.slice ea B.body.length O] ac),aA e5 ab 4 c3]++[.blk kb (.cells Z ab)]) S3 w':=f;refine Run.callE LU Lq f (HE (kp:=52) hg (AW i5 j j2 g7) ⟨fH d3 _ l8,l7 _ l8⟩ k1 (d6.mono d4.1)) fun v' I' S4 w'=>?_;rintro ⟨rfl,f6,f8,j6,rfl,j8⟩ h9 f;refine av rfl ?_;refine av rfl ?_;refine aQ f bj fun k2 w' f=>?_;have f:=f.perm (M:=.blk k2 _::[.blk b2 (.cells #[.int .i64 g.head.kind,.int .i64 g.head.n,.string g.head.name,U,.slice (some ⟨bb,bo,none⟩) g.body.length N] ac),.blk b3 (.cells ds.toArray ac),.blk b4 (.cells #[.int .i64 0,.int .i64 0,.string ⟨#[]⟩,.slice none 0 0,.slice none 0 0] ac),.blk b8 (.cells #[.int .i64 B.head.kind,.int .i64 B.head.n,.string B.head.name,V,.slice ea B.body.length O] ac),aA e5 ab 4 c3,.blk kb (.cells Z ab)]) (cj (l₁:=[_]));refine au f 0 rfl ad (by simpa using f8) rfl (by simpa using j6) fun w' f=>?_;refine cw ?_;refine aD (fun i3=>?_) (fun i3=>?_)
  ·have m2:bv us[j]=false:=by simpa using i3
   have p2:o=some none:=by
    rcases k6 with ⟨_,h⟩|⟨h,_⟩
    ·exact h
    ·rw [dE] at h;rw [h _ (bG g7)] at m2;cases m2
   subst p2;refine jp ?_;have f:Inv w [] [.blk k2 (.cells f6.toArray ab),.blk b2 (.cells #[.int .i64 g.head.kind,.int .i64 g.head.n,.string g.head.name,U,.slice (some ⟨bb,bo,none⟩) g.body.length N] ac),.blk b3 (.cells ds.toArray ac),.blk b4 (.cells #[.int .i64 0,.int .i64 0,.string ⟨#[]⟩,.slice none 0 0,.slice none 0 0] ac),.blk b8 (.cells #[.int .i64 B.head.kind,.int .i64 B.head.n,.string B.head.name,V,.slice ea B.body.length O] ac),aA e5 ab 4 c3,.blk kb (.cells Z ab)] S4 w':=f;refine au f 3 rfl aH rfl rfl BA fun w' f=>?_;refine bB f 3 aH rfl rfl ?_;exact ⟨_,_,_,rfl,f.nil,(l6.trans d4).trans h9,rfl,[.int .i64 0,.int .i64 0,.string ⟨#[]⟩,.slice none 0 0,.slice none 0 0],rfl,RdC.zero _⟩
  ·have m3:bv us[j]=true:=by simpa using i3
   have p3:=j8 m3;refine aC f 0 ad rfl (by simpa using f8) ?_;refine de f 5 f6 bn (by omega) (by omega) rfl f8 j6 (by omega) (by omega) fun n3 w' f=>?_;have f:Inv w [] [.blk b2 (.cells #[.int .i64 g.head.kind,.int .i64 g.head.n,.string g.head.name,U,.slice (some ⟨bb,bo,none⟩) g.body.length N] ac),.blk b3 (.cells ds.toArray ac),.blk b4 (.cells #[.int .i64 0,.int .i64 0,.string ⟨#[]⟩,.slice none 0 0,.slice none 0 0] ac),.blk b8 (.cells #[.int .i64 B.head.kind,.int .i64 B.head.n,.string B.head.name,V,.slice ea B.body.length O] ac),aA n3 ab 4 (c3++[f6]),.blk kb (.cells Z ab)] S4 w':=f.sub (fI _ _);refine bC (by omega) ?_;refine ⟨⟨j+1,c3++[f6],S4,g7,rfl,d4.trans h9,?_,fun k hk q7=>?_,f⟩,by simp [intOf]; omega⟩
   ·rw [eT g7];exact (f0.monoR fun _ _ h=>RdT.mono h9.1 h).snoc p3 f8
   ·by_cases e:k=j
    ·subst e; exact m3
    ·exact d7 k hk (by omega)
 ·have p4:j=us.length:=by omega
  subst p4;rw [ed] at f0;have h7:us.all bv=true:=by
   rw [dE];intro x hx;obtain ⟨k,hk,rfl⟩:=mG.1 hx;exact d7 k hk hk
  have j3:o=some (some (vq (bX (ofL us)) (ofL us))):=by
   rcases k6 with ⟨h,_⟩|⟨_,h⟩
   ·rw [h7] at h; cases h
   ·exact h
  have m4:=zR h7 n8;have f:Inv w [] ([.blk b2 (.cells #[.int .i64 g.head.kind,.int .i64 g.head.n,.string g.head.name,U,.slice (some ⟨bb,bo,none⟩) g.body.length N] ac),.blk b3 (.cells ds.toArray ac),.blk b4 (.cells #[.int .i64 0,.int .i64 0,.string ⟨#[]⟩,.slice none 0 0,.slice none 0 0] ac),.blk b8 (.cells #[.int .i64 B.head.kind,.int .i64 B.head.n,.string B.head.name,V,.slice ea B.body.length O] ac)]++[aA e5 ab 4 c3]) S3 w':=f.pick [true,true,true,true,true,false];obtain ⟨S5,k8,k9,f⟩:=f.lendExt;have p5:=RowRd.rows (f0.monoR fun _ _ h=>RdT.mono k8.1 h) k9;have p6:=(l6.trans d4).trans k8;refine Run.call0E DS DF f (Ai p5 (by omega)) fun q8 I' S6 w'=>?_;rintro ⟨rfl,M,rfl,m8⟩ m9 f;obtain ⟨S7,f,n9,i7⟩:=f.pubExt;have e4:=m8.rd i7 fun _ _ _ hi h=>h.rd hi;have p7:=(p6.trans m9).trans n9;obtain ⟨u0,c1,rfl⟩:∃ u0 c1,us=u0::c1:=by
   cases us with
   | nil=>rw [<- m6] at c5; simp at c5
   | cons u c1=>exact ⟨u,c1,rfl⟩
  have c6:clO o=⟨dq (c7 (u0::c1) []) u0,er (c7 (u0::c1) []) c1⟩:=by rw [j3]; rfl
  have p8:iz o=true:=by rw [j3]; rfl
  have p9:jH o=bt (clO o):=by rw [j3]; rfl
  rw [er] at e4;generalize r6:c7 (u0::c1) []=vs at e4 c6;obtain ⟨G,g9⟩:∃ G,G=dq vs u0:=⟨_,rfl⟩
  obtain ⟨c2,e1⟩:∃ c2,c2=er vs c1:=⟨_,rfl⟩
  rw [<- g9,<- e1] at e4 c6;have q0:wC (clO o)<=1048576:=by
   rw [c6];have h1:wT G=wT u0:=by rw [g9,Ee]
   have h2:wL c2=wL c1:=by rw [e1,Ea]
   have h3:c2.length=c1.length:=by rw [e1,l9]
   rw [wL] at m4;simp only [bq] at m4 c5 e3;simp only [wC];omega
  obtain ⟨nb,no,h4,nc,nE,r2,rfl,o0,g0⟩:=e4.at_ (i:=0) (by simp);rw [kX] at g0;obtain ⟨kn,ec,f1,f2,f3,f4⟩:=RdT.iff.1 g0;rw [ec] at g0;have f:Inv w [] [.blk b2 (.cells #[.int .i64 g.head.kind,.int .i64 g.head.n,.string g.head.name,U,.slice (some ⟨bb,bo,none⟩) g.body.length N] ac),.blk b3 (.cells ds.toArray ac),.blk b4 (.cells #[.int .i64 0,.int .i64 0,.string ⟨#[]⟩,.slice none 0 0,.slice none 0 0] ac),.blk b8 (.cells #[.int .i64 B.head.kind,.int .i64 B.head.n,.string B.head.name,V,.slice ea B.body.length O] ac)] S7 w':=f;have i9:∃ a n m,kn=.slice a n m:=by
   obtain ⟨a,m,e,_⟩:=f4;exact ⟨_,_,_,e⟩
  obtain ⟨ka,r3,r4,i9⟩:=i9;refine ⟨fun D vA UL XI X9 Z2 j9 k0 w_=>Fx D 0 [k0=.slice (some ⟨nb,no,none⟩) (c2.length+1) h4,j9=.pointer (some ⟨nb,no+0 * 4,none⟩),Z2=.agg #[.int .i64 G.kind,.int .i64 G.n,.string G.name,kn],X9=.slice (some ⟨nb,no,none⟩) (c2.length+1) h4,RdSl S7 4 (RdT S7) XI c2,∃ kb,UL=.agg #[.int .i64 G.kind,.int .i64 G.n,.string G.name,kn,kb]/\RdSl S7 4 (RdT S7) kb c2,True,True]/\∃ a0 B15,(D 6=true->vA=.pointer (some ⟨a0,0,none⟩))/\(D 7=true->D 6=true)/\(D 7=false->B15=#[.int .i64 0,.int .i64 0,.string ⟨#[]⟩,.slice none 0 0,.slice none 0 0])/\(D 7=true->∃ kb,B15=#[.int .i64 G.kind,.int .i64 G.n,.string G.name,kn,kb]/\RdSl S7 4 (RdT S7) kb c2)/\Inv w [] ([.blk b2 (.cells #[.int .i64 g.head.kind,.int .i64 g.head.n,.string g.head.name,U,.slice (some ⟨bb,bo,none⟩) g.body.length N] ac),.blk b3 (.cells ds.toArray ac),.blk b4 (.cells #[.int .i64 0,.int .i64 0,.string ⟨#[]⟩,.slice none 0 0,.slice none 0 0] ac),.blk b8 (.cells #[.int .i64 B.head.kind,.int .i64 B.head.n,.string B.head.name,V,.slice ea B.body.length O] ac)]++cond (D 6) [.blk a0 (.cells B15 ac)] []) S7 w_,⟨Fx.nil _ _,⟨0,_,aI,aI,fun _=>rfl,aI,f.draw⟩⟩,⟨?_,?_,?_,?_,?_,?_,?_,?_,trivial⟩,?_⟩;all_goals (intro D bI; intros; rename_i vA UL XI X9 Z2 j9 k0 w_ b9; have J:=b9.1; obtain ⟨⟨cJ,cH,cI,cD,cM,cO,cq,dg,_⟩,⟨a0,B15,e6,b5,b6,e7,f⟩⟩:=b9)
  ·exact ⟨J.set 0 rfl,⟨a0,B15,e6,b5,b6,e7,f⟩⟩
  ·obtain rfl:=cJ ‹_›;refine az (i:=0) ah (by simp) ?_;exact ⟨J.set 1 rfl,⟨a0,B15,e6,b5,b6,e7,f⟩⟩
  ·obtain rfl:=cH ‹_›;refine ci (cs:=[.int .i64 G.kind,.int .i64 G.n,.string G.name,kn]) ad rfl (fun j v hj=>by rw [f.cellS o0]; exact aF ec j v hj) ?_;exact ⟨J.set 2 rfl,⟨a0,B15,e6,b5,b6,e7,f⟩⟩
  ·exact ⟨J.set 3 rfl,⟨a0,B15,e6,b5,b6,e7,f⟩⟩
  ·obtain rfl:=cD ‹_›;refine fo (l:=1) ah e4 (by simp) fun a9 c8=>?_;rw [Wu,xL] at c8;exact ⟨J.set 4 (by first|assumption|trivial),⟨a0,B15,e6,b5,b6,e7,f⟩⟩
  ·obtain rfl:=cI ‹_›;have D9:=cM ‹_›;refine kK ?_ ?_
   ·obtain ⟨a,m,e,_⟩:=D9;exact ⟨_,_,_,e⟩
   have q3:∃ kb,Value.agg #[.int .i64 G.kind,.int .i64 G.n,.string G.name,kn,XI]=.agg #[.int .i64 G.kind,.int .i64 G.n,.string G.name,kn,kb]/\RdSl S7 4 (RdT S7) kb c2:=⟨_,rfl,D9⟩
   exact ⟨J.set 5 (by first|assumption|trivial),⟨a0,B15,e6,b5,b6,e7,f⟩⟩
  ·have f7:D 7=false:=bx.2 fun h=>by rw [b5 h] at bI; cases bI
   rw [bI] at f;refine aQ f cV fun a0 w_ f=>?_;have hB:=b6 f7;have e6:=fun (_:ao D 6 6=true)=>(rfl:Value.pointer (some ⟨a0,0,none⟩)=_)
   have b5:=fun (_:ao D 6 7=true)=>(rfl:ao D 6 6=true)
   have f:Inv w [] ([.blk b2 (.cells #[.int .i64 g.head.kind,.int .i64 g.head.n,.string g.head.name,U,.slice (some ⟨bb,bo,none⟩) g.body.length N] ac),.blk b3 (.cells ds.toArray ac),.blk b4 (.cells #[.int .i64 0,.int .i64 0,.string ⟨#[]⟩,.slice none 0 0,.slice none 0 0] ac),.blk b8 (.cells #[.int .i64 B.head.kind,.int .i64 B.head.n,.string B.head.name,V,.slice ea B.body.length O] ac)]++cond true [.blk a0 (.cells B15 ac)] []) S7 w_:=by rw [hB]; exact f
   exact ⟨J.set 6 (by first|assumption|trivial),⟨a0,B15,e6,b5,b6,e7,f⟩⟩
  ·have L6:=cq ‹_›;have Hj:=cO ‹_›;have q6:=e6 ‹D 6=true›;subst q6;obtain ⟨a9,o1,c8⟩:=Hj;rw [‹D 6=true›,b6 bI] at f;obtain ⟨a1,m1,l0,_⟩:=id c8;subst o1;refine au f 4 rfl aH rfl rfl (by simp [Value.oneCell',i9,l0]) fun w_ f=>?_;obtain ⟨B15,hq⟩:∃ B15,B15=(#[.int .i64 G.kind,.int .i64 G.n,.string G.name,kn,a9]:Array Value):=⟨_,rfl⟩
   have b5:=fun (_:ao D 7 7=true)=>‹D 6=true›;have b6:=fun (h:ao D 7 7=false)=>(Bool.noConfusion h:B15=#[.int .i64 0,.int .i64 0,.string ⟨#[]⟩,.slice none 0 0,.slice none 0 0])
   have e7:=fun (_:ao D 7 7=true)=>(⟨a9,hq,c8⟩:∃ kb,B15=#[.int .i64 G.kind,.int .i64 G.n,.string G.name,kn,kb]/\RdSl S7 4 (RdT S7) kb c2)
   have f:Inv w [] ([.blk b2 (.cells #[.int .i64 g.head.kind,.int .i64 g.head.n,.string g.head.name,U,.slice (some ⟨bb,bo,none⟩) g.body.length N] ac),.blk b3 (.cells ds.toArray ac),.blk b4 (.cells #[.int .i64 0,.int .i64 0,.string ⟨#[]⟩,.slice none 0 0,.slice none 0 0] ac),.blk b8 (.cells #[.int .i64 B.head.kind,.int .i64 B.head.n,.string B.head.name,V,.slice ea B.body.length O] ac)]++cond (D 6) [.blk a0 (.cells B15 ac)] []) S7 w_:=by rw [‹D 6=true›,hq]; exact f
   exact ⟨J.set 7 trivial,⟨a0,B15,e6,b5,b6,e7,f⟩⟩
  obtain ⟨rfl,rfl,rfl,rfl,D9,Hj,L6,_,_⟩:=J.all;have OQ:D 6=true:=by assumption
  have vp:D 7=true:=by assumption
  clear J cJ cH cI cD cM cO cq dg;have q1:=e6 OQ;subst q1;obtain ⟨a9,rfl,c8⟩:=e7 vp;rw [OQ] at f;clear e6 b5 b6 e7;obtain ⟨a1,m1,l0,_⟩:=id c8;have f:Inv w [] [.blk b2 (.cells #[.int .i64 g.head.kind,.int .i64 g.head.n,.string g.head.name,U,.slice (some ⟨bb,bo,none⟩) g.body.length N] ac),.blk b3 (.cells ds.toArray ac),.blk b4 (.cells #[.int .i64 0,.int .i64 0,.string ⟨#[]⟩,.slice none 0 0,.slice none 0 0] ac),.blk b8 (.cells #[.int .i64 B.head.kind,.int .i64 B.head.n,.string B.head.name,V,.slice ea B.body.length O] ac),.blk a0 (.cells #[.int .i64 G.kind,.int .i64 G.n,.string G.name,kn,a9] ac)] S7 w_:=f;have j4:RdC S7 [.int .i64 G.kind,.int .i64 G.n,.string G.name,kn,a9] (clO o):=by
   rw [c6];exact ⟨_,_,rfl,g0,c8⟩
  have m5:∀ x∈([.int .i64 G.kind,.int .i64 G.n,.string G.name,kn,a9]:List Value),x.oneCell'=true:=j4.one;refine ⟨fun D x6 x5 Ww TU V1 w_=>Fx D 0 [V1=.agg #[.int .i64 G.kind,.int .i64 G.n,.string G.name,kn,a9],TU=.agg #[.int .i64 G.kind,.int .i64 G.n,.string G.name,kn,a9],Ww=.bool (bt (clO o)),True,x5=.bool true,x6=.bool (bt (clO o))]/\Inv w [] [.blk b2 (.cells #[.int .i64 g.head.kind,.int .i64 g.head.n,.string g.head.name,U,.slice (some ⟨bb,bo,none⟩) g.body.length N] ac),.blk b3 (.cells ds.toArray ac),.blk b4 (.cells (cond (D 3) #[.int .i64 G.kind,.int .i64 G.n,.string G.name,kn,a9] #[.int .i64 0,.int .i64 0,.string ⟨#[]⟩,.slice none 0 0,.slice none 0 0]) ac),.blk b8 (.cells #[.int .i64 B.head.kind,.int .i64 B.head.n,.string B.head.name,V,.slice ea B.body.length O] ac),.blk a0 (.cells #[.int .i64 G.kind,.int .i64 G.n,.string G.name,kn,a9] ac)] S7 w_,⟨Fx.nil _ _,f.draw⟩,⟨?_,?_,?_,?_,?_,?_,trivial⟩,?_⟩;all_goals (intro D bI; intros; rename_i x6 x5 Ww TU V1 w_ b9; have J:=b9.1; obtain ⟨⟨cJ,cH,cI,cD,cM,cO,_⟩,f⟩:=b9)
  ·refine aC f 4 aH rfl rfl ?_;exact ⟨J.set 0 rfl,f⟩
  ·refine aC f 4 aH rfl rfl ?_;exact ⟨J.set 1 rfl,f⟩
  ·obtain rfl:=cH ‹_›;refine Run.callPure j7 kl f (i0 j4 q0) fun w_ f=>?_;exact ⟨J.set 2 rfl,f⟩
  ·obtain rfl:=cJ ‹_›;rw [bI] at f;refine au f 2 rfl aH rfl rfl m5 fun w_ f=>?_;exact ⟨J.set 3 trivial,f⟩
  ·exact ⟨J.set 4 rfl,f⟩
  ·obtain rfl:=cI ‹_›;exact ⟨J.set 5 rfl,f⟩
  obtain ⟨rfl,rfl,rfl,_,rfl,rfl,_⟩:=J.all;have q2:D 3=true:=by assumption
  clear J cJ cH cI cD cM cO;rw [q2] at f;refine bB (c:=#[.int .i64 G.kind,.int .i64 G.n,.string G.name,kn,a9]) f 2 aH rfl rfl ?_;exact ⟨_,_,_,rfl,f.nil,p7,rfl,[.int .i64 G.kind,.int .i64 G.n,.string G.name,kn,a9],by rw [p8,p9],j4⟩
end
end
section
open Go Go.RowKit

abbrev Bs:=List UInt8
abbrev bs (s:ByteArray):Bs:=s.data.toList
abbrev st (l:Bs):ByteArray:=⟨l.toArray⟩
theorem Jb (l:Bs):bs (st l)=l:=by simp [bs]
theorem nj (l:Bs):(st l).size=l.length:=by simp [ByteArray.size]

def sgn (s:Bs) (i:Nat) (c:Nat):Bool:=match s[i]? with
 | some b=>decide (b.toNat=c)
 | none=>false
def btw (s:Bs) (i:Nat) (a b:Nat):Bool:=match s[i]? with
 | some x=>decide (a<=x.toNat) && decide (x.toNat<=b)
 | none=>false
def sml (s:Bs) (i:Nat):Bool:=btw s i 97 122
def dig (s:Bs) (i:Nat):Bool:=btw s i 48 57
def upp (s:Bs) (i:Nat):Bool:=btw s i 65 90
def cut (s:Bs) (a b:Nat):Bs:=(s.take b).drop a

def DB (s:Bs):Nat->Nat->Nat
 | 0,e=>e
 | n+1,e=>if sml s e=true then DB s n (e+1) else e
def jS (s:Bs) (i:Nat):List ByteArray->Bs->Bs
 | [],b=>b
 | x::l,b=>jS s i l (if decide (i+x.size<=s.length)=true/\cut s i (i+x.size)=bs x/\b.length<x.size then bs x else b)
def yh (s:Bs) (i:Nat):Option (Bs × Nat):=
 let e:=DB s (s.length - i) i
 if i+6<e then none else if i<e then some (cut s i e,e) else
  let b:=jS s i signs []
  if b=[] then none else some (b,i+b.length)
def vx (s:Bs):Nat->Nat->Nat
 | 0,e=>e
 | n+1,e=>if dig s e=true then vx s n (e+1) else e
def Hz:Bs->Nat->Nat
 | [],n=>n
 | b::l,n=>Hz l (n * 10+(b.toNat - 48))
def VV (s:Bs) (i:Nat):Option (T × Nat):=
 let from_:=if sgn s i 45=true then i+1 else i
 let e:=vx s 4 from_
 let d:=cut s from_ e
 let n:=Hz d 0
 if d=[] ∨ (sgn d 0 48=true/\1<d.length) ∨ (i<from_/\n=0) ∨ 999<n then none
 else some (.mk 2 (if i<from_ then -(n:Int) else n) emptyB [],e)
def Nf (name:Bs) (kids:List T):T:=.mk 3 0 (st name) kids
def Yk:T:=Nf [91,93] []
def Mn (a b:T):T:=Nf [46] [a,b]
def kq:List T->T->T
 | [],t=>t
 | a::l,t=>Mn a (kq l t)
def opF (s:Bs) (i:Nat):Option (Bs × Nat):=
 let from_:=if sgn s i 32=true then i+1 else i
 if s.length<=from_ then none else match yh s from_ with
  | none=>none
  | some (name,next)=>
   let word:=decide (name=[105,115]) || decide (name=[109,111,100])
   if cR (st name)=0 ∨ word≠decide (i<from_) ∨ (word=true/\sgn s next 32=false) then none
   else some (name,if word=true then next+1 else next)
mutual
def kW:Nat->Bs->Nat->Nat->Nat->Option (T × Nat)
 | 0,_,_,_,_=>none
 | f+1,s,i,d,0=>xm f s i d
 | f+1,s,i,d,l+1=>match kW f s i d l with
  | none=>none
  | some (t,n)=>MV f s n d l t
def MV:Nat->Bs->Nat->Nat->Nat->T->Option (T × Nat)
 | 0,_,_,_,_,_=>none
 | f+1,s,i,d,l,t=>match opF s i with
  | none=>some (t,i)
  | some (name,after)=>if cR (st name)=((l+1:Nat):Int) then match kW f s after d l with
    | none=>none
    | some (r,e)=>if l=2 then some (Nf name [t,r],e) else MV f s e d l (Nf name [t,r])
   else some (t,i)
def xm:Nat->Bs->Nat->Nat->Option (T × Nat)
 | 0,_,_,_=>none
 | f+1,s,i,d=>if d=0 ∨ s.length<=i then none else if sgn s i 40=true then match kW f s (i+1) d 3 with
    | none=>none
    | some (t,n)=>if sgn s n 41=true then some (t,n+1) else none
  else if sgn s i 91=true/\sgn s (i+1) 93=false then match jI f s (i+1) (d - 1) 93 124 [] with
    | none=>none
    | some (ts,n)=>if sgn s n 93=true then some (kq ts Yk,n+1) else match kW f s (n+1) (d - 1) 3 with
     | none=>none
     | some (t,e)=>if sgn s e 93=true then some (kq ts t,e+1) else none
  else if upp s i=true then some (.mk 1 ((s.getD i 0).toNat - 65) emptyB [],i+1)
  else if dig s i=true ∨ (sgn s i 45=true/\dig s (i+1)=true) then VV s i
  else match yh s i with
   | none=>none
   | some (name,n)=>if sgn s n 40=false then some (Nf name [],n) else match jI f s (n+1) (d - 1) 41 41 [] with
    | none=>none
    | some (ts,e)=>some (Nf name ts,e+1)
def jI:Nat->Bs->Nat->Nat->Nat->Nat->List T->Option (List T × Nat)
 | 0,_,_,_,_,_,_=>none
 | f+1,s,i,d,e,o,acc=>match kW f s i d 3 with
  | none=>none
  | some (t,n)=>if sgn s n e=true ∨ sgn s n o=true then some (acc++[t],n) else if sgn s n 44=true then jI f s (n+1) d e o (acc++[t]) else none
end

def qT (t:T):Bool:=decide (t.kind=3) && (decide (t.kids.length=2) && decide (0<cR t.name))
def FL (t:T):Bool:=decide (t.kind=3) && (decide (t.name=st [46]) && decide (t.kids.length=2))
def TX (t:T):Bool:=decide (t.kind=3) && (decide (t.name=st [91,93]) && decide (t.kids.length=0))
def BT (t:T):Bool:=decide (t.kind=3) && (decide (t.kids.length=0) && decide (0<cR t.name))
def Ks (s:Bs):Bool:=sml s 0 || (dig s 0 || (upp s 0 || (sgn s 0 91 || sgn s 0 40)))
def jC (n:Bs):Bs:=if n=[105,115] ∨ n=[109,111,100] then 32::(n++[32]) else n
def Hr:Nat->Nat->Bs->Option Bs
 | 0,_,_=>none
 | f+1,n,out=>if 9<n then Hr f (n / 10) (UInt8.ofNat (48+n % 10)::out) else some (UInt8.ofNat (48+n)::out)
def Yq (n:Int):Option Bs:=if n<0 then (Hr 20 (-n).toNat []).map fun l=>45::l else Hr 20 n.toNat []
def Vi (t:T):Option Bs:=if t.kind=1 then (if 0<=t.n/\t.n<=25 then some [UInt8.ofNat (65+t.n.toNat)] else none)
 else if t.kind=2 then (if -999<=t.n/\t.n<=999 then Yq t.n else none) else if t.kids.length=0 then some (bs t.name) else none
mutual
def Kz:Nat->T->Option Bs
 | 0,_=>none
 | f+1,t=>if FL t=true then IG f t [] else if qT t=true then match t.kids with
   | [a,b]=>match Ru f a (if cR t.name=3 then 2 else cR t.name),LP f b (cR t.name - 1) with
    | some x,some y=>some (x++jC (bs t.name)++y)
    | _,_=>none
   | _=>none
  else if t.kind=3/\0<t.kids.length then match rz f t.kids [] with
   | some x=>some (bs t.name++[40]++x++[41])
   | none=>none
  else Vi t
def IG:Nat->T->List T->Option Bs
 | 0,_,_=>none
 | f+1,t,items=>if FL t=true then match t.kids with
   | [a,b]=>IG f b (items++[a])
   | _=>none
  else match rz f items [] with
   | none=>none
   | some x=>if TX t=true then some ([91]++x++[93]) else match Kz f t with
    | none=>none
    | some y=>some ([91]++x++[124]++y++[93])
def rz:Nat->List T->Bs->Option Bs
 | 0,_,_=>none
 | _+1,[],out=>some out
 | f+1,t::l,out=>match Kz f t with
  | none=>none
  | some x=>rz f l (out++x++(if l=[] then [] else [44]))
def sX:Nat->T->Int->Option Bs
 | 0,_,_=>none
 | f+1,t,l=>match Kz f t with
  | none=>none
  | some x=>some (if qT t=true/\l<cR t.name then [40]++x++[41] else x)
def Ru:Nat->T->Int->Option Bs
 | 0,_,_=>none
 | f+1,t,l=>if BT t=true then match Kz f t with
   | none=>none
   | some x=>some ([40]++x++[41])
  else sX f t l
def LP:Nat->T->Int->Option Bs
 | 0,_,_=>none
 | f+1,t,l=>match sX f t l with
  | none=>none
  | some x=>if x=[] then none else some (if BT t=true ∨ Ks x=false then [40]++x++[41] else x)
end
def Cv (f:Nat):List T->Bool->Bs->Option Bs
 | [],_,out=>some out
 | t::l,first,out=>match Kz f t with
  | none=>none
  | some x=>Cv f l false (out++(if first=true then [58,45] else [44])++x)
def Sj (f:Nat) (c:C):Option Bs:=match Kz f c.head with
 | none=>none
 | some x=>match Cv f c.body true x with
  | none=>none
  | some y=>some (y++[46])

def qP (f:Nat):Nat->Bs->Nat->List T->Option (List T × Nat)
 | 0,_,_,_=>none
 | k+1,s,i,acc=>if 6<acc.length then none else match kW f s i 30 3 with
  | none=>none
  | some (t,n)=>if sgn s n 44=true then qP f k s (n+1) (acc++[t]) else some (acc++[t],n)
def TH (f:Nat) (s:Bs) (c:C) (n:Nat):Option C:=
 if n+1=s.length/\sgn s n 46=true/\bt c=true/\wC c<=200/\Sj f c=some s then some c else none
def zH (f:Nat) (s:Bs):Option C:=if 1000<s.length then none else match kW f s 0 30 3 with
 | none=>none
 | some (h,n)=>if sgn s n 58=true/\sgn s (n+1) 45=true then match qP f 8 s (n+2) [] with
   | none=>none
   | some (b,n2)=>TH f s ⟨h,b⟩ n2
  else TH f s ⟨h,[]⟩ n
def H5 (s:Bs) (c:Nat):Nat->Nat->Nat->List Bs->List Bs
 | 0,i,from_,acc=>acc++[cut s from_ i]
 | n+1,i,from_,acc=>if sgn s i c=true then H5 s c n (i+1) (i+1) (acc++[cut s from_ i]) else H5 s c n (i+1) from_ acc
def Up (s:Bs):List Bs:=H5 s 10 s.length 0 0 []
def mz (f:Nat):List Bs->List C->Option (List C)
 | [],acc=>some acc
 | l::ls,acc=>match zH f l with
  | none=>none
  | some c=>mz f ls (acc++[c])
def Rf (f:Nat) (s:Bs):Option (List C):=
 let ls:=Up s
 if 21<ls.length ∨ ls.getLast?≠some [] then none else mz f ls.dropLast []
def VF (s:Bs):Bool:=match Rf 60 s with
 | some p=>decide (0<p.length) && (decide (p.length<=8) && p.all fun c=>bt c && decide (wC c<=200))
 | none=>false
end
section
open Go Go.RowKit
section
variable {P:Program} {w w0:World} {X:List Nat} {L:List Item} {S:ae} {K:Value->World->Prop}
theorem GD {T:TypeId} {f g:Bool} {k:IntKind} {a b:Int} (h:a<b) (hk:K (.bool true) w):Run P (c9 .lss T f g (.int k a) (.int k b)) w K:=by
 refine bT ?_;rw [aN h];exact hk
theorem fp {T:TypeId} {f g:Bool} {k:IntKind} {a b:Int} (h:¬ (a<b)) (hk:K (.bool false) w):Run P (c9 .lss T f g (.int k a) (.int k b)) w K:=by
 refine bT ?_;rw [aZ h];exact hk
theorem L4 {T:TypeId} {f g:Bool} {k:IntKind} {a b:Int} (h:a<=b) (hk:K (.bool true) w):Run P (c9 .leq T f g (.int k a) (.int k b)) w K:=by
 refine fP ?_;rw [aN h];exact hk
theorem T4 {T:TypeId} {f g:Bool} {k:IntKind} {a b:Int} (h:¬ (a<=b)) (hk:K (.bool false) w):Run P (c9 .leq T f g (.int k a) (.int k b)) w K:=by
 refine fP ?_;rw [aZ h];exact hk
theorem Qh {T:TypeId} {f g:Bool} {k:IntKind} {a b:Int} (h:b<a) (hk:K (.bool true) w):Run P (c9 .gtr T f g (.int k a) (.int k b)) w K:=by
 refine eP ?_;rw [aN h];exact hk
theorem mn {T:TypeId} {f g:Bool} {k:IntKind} {a b:Int} (h:¬ (b<a)) (hk:K (.bool false) w):Run P (c9 .gtr T f g (.int k a) (.int k b)) w K:=by
 refine eP ?_;rw [aZ h];exact hk
theorem qf {T:TypeId} {f g:Bool} {k:IntKind} {a b:Int} (h:b<=a) (hk:K (.bool true) w):Run P (c9 .geq T f g (.int k a) (.int k b)) w K:=by
 refine jM ?_;rw [aN h];exact hk
theorem AL {T:TypeId} {f g:Bool} {k:IntKind} {a b:Int} (h:¬ (b<=a)) (hk:K (.bool false) w):Run P (c9 .geq T f g (.int k a) (.int k b)) w K:=by
 refine jM ?_;rw [aZ h];exact hk
theorem gf {T:TypeId} {f g:Bool} {k:IntKind} {a b:Int} (h:a=b) (hk:K (.bool true) w):Run P (c9 .eql T f g (.int k a) (.int k b)) w K:=by
 refine bw ?_;rw [aN h];exact hk
theorem fe {T:TypeId} {f g:Bool} {k:IntKind} {a b:Int} (h:¬ (a=b)) (hk:K (.bool false) w):Run P (c9 .eql T f g (.int k a) (.int k b)) w K:=by
 refine bw ?_;rw [aZ h];exact hk
theorem E9 {T:TypeId} {f g:Bool} {a b:Int} (h:-9223372036854775808<=a * b/\a * b<=9223372036854775807) (hk:K (.int .i64 (a * b)) w):Run P (c9 .mul T f g (.int .i64 a) (.int .i64 b)) w K:=
 Run.of (by simp [c9,dc,binOp,Op.intArith,IntWalk.i64_in _ h]) hk
theorem Yx {T:TypeId} {f g:Bool} {a b:Nat} (l:0<b) (m:a<=9223372036854775807) (hk:K (.int .i64 ((a / b:Nat):Int)) w):Run P (c9 .quo T f g (.int .i64 (a:Int)) (.int .i64 (b:Int))) w K:=by
 refine Run.of ?_ hk;have h:¬ ((b:Int)=0):=by omega
 have i:IntKind.i64.wrap ((a:Int).tdiv b)=((a / b:Nat):Int):=by
  rw [IntWalk.i64_quo _ _ (by omega)]; rfl
 simp only [c9,dc,binOp,Op.intDiv,Sem.run_bind,Result.andThen_ok,ag h,Sem.run_pure];exact congrArg (fun v=>Result.ok (Next.value (.int .i64 v)) w) i
theorem Qj {T:TypeId} {f g:Bool} {a b:Nat} (l:0<b) (hk:K (.int .i64 ((a % b:Nat):Int)) w):Run P (c9 .rem T f g (.int .i64 (a:Int)) (.int .i64 (b:Int))) w K:=by
 refine Run.of ?_ hk;have h:(a:Int).tmod b=((a % b:Nat):Int):=by
  rw [IntWalk.rem_in _ _ (by omega)]; rfl
 have i:¬ ((b:Int)=0):=by omega
 simp only [c9,dc,binOp,Op.intDiv,Sem.run_bind,Result.andThen_ok,ag i,Sem.run_pure];exact congrArg (fun v=>Result.ok (Next.value (.int .i64 v)) w) h
theorem Y3 {T:TypeId} {f g:Bool} {a b:Nat} (h:a<4611686018427387904) (i:b<4611686018427387904) (hk:K (.int .i64 ((a ^^^ b:Nat):Int)) w):Run P (c9 .xor T f g (.int .i64 (a:Int)) (.int .i64 (b:Int))) w K:=by
 refine Run.of ?_ hk;have m:a ^^^ b<2 ^ 62:=Nat.xor_lt_two_pow (by simpa using h) (by simpa using i);have e1:(BitVec.ofInt 64 (a:Int)).toNat=a:=by rw [BitVec.toNat_ofInt]; omega
 have e2:(BitVec.ofInt 64 (b:Int)).toNat=b:=by rw [BitVec.toNat_ofInt]; omega
 have l:IntKind.i64.wrap ((BitVec.ofInt 64 (a:Int) ^^^ BitVec.ofInt 64 (b:Int)).toNat:Int)=((a ^^^ b:Nat):Int):=by
  rw [BitVec.toNat_xor,e1,e2];exact IntWalk.i64_in _ (by omega)
 simp only [c9,dc,binOp,Op.intBits,Sem.run_bind,Result.andThen_ok,Sem.run_pure];exact congrArg (fun v=>Result.ok (Next.value (.int .i64 v)) w) l
theorem Yn {T:TypeId} {f g:Bool} {k:IntKind} {a b c:Int} (h:k.wrap (a+b)=c) (hk:K (.int k c) w):Run P (c9 .add T f g (.int k a) (.int k b)) w K:=
 Run.of (by simp [c9,dc,binOp,Op.intArith,h]) hk
theorem VU {T:TypeId} {f g:Bool} {k:IntKind} {a b c:Int} (h:k.wrap (a - b)=c) (hk:K (.int k c) w):Run P (c9 .sub T f g (.int k a) (.int k b)) w K:=
 Run.of (by simp [c9,dc,binOp,Op.intArith,h]) hk
theorem uj {a f ty:TypeId} {k k':IntKind} {n m:Int} {d:TypeDesc} (g:P.underlying a=some d) (hd:P.underlying f=some (.int k')) (h:k'.wrap n=m) (hk:K (.int k' m) w) :
  Run P (sOp (.convert a f (.const (.int k n))) ty) w K:=by
 refine Run.of ?_ hk;simp [sOp,execOp,ev0,evE,convert,run_underlying g,run_underlying hd,Conv.intToInt,h]
theorem X4 {T ty:TypeId} {n:Int} (a:-9223372036854775808<=-n/\-n<=9223372036854775807) (hk:K (.int .i64 (-n)) w):Run P (sOp (.unOp .neg T (.const (.int .i64 n))) ty) w K:=
 Run.of (by simp [sOp,execOp,ev0,evE,Op.unary,Op.intArith,Int.zero_sub,IntWalk.i64_in _ a]) hk
theorem YB (a b:Bs):st a++st b=st (a++b):=by
 apply ByteArray.ext;simp [st]
theorem d6 {T:TypeId} {f g:Bool} {a b:Bs} (hl:a.length+b.length<=9223372036854775807) (hk:K (.string (st (a++b))) w):Run P (c9 .add T f g (.string (st a)) (.string (st b))) w K:=by
 refine Run.of ?_ hk;have h:¬ (9223372036854775807<(((st a).size+(st b).size:Nat):Int)):=by rw [nj,nj]; omega
 have i:IntKind.i64.max=9223372036854775807:=by decide
 simp only [c9,binOp,Op.stringOp,Sem.run_bind,ue,Result.andThen_ok,gt_iff_lt,i,ag h,Sem.run_pure,YB]
theorem YT (s:Bs) (a b:Nat):(st s).extract a b=st (cut s a b):=by
 apply ByteArray.ext;apply GE.1;simp [cut,ByteArray.data_extract,List.drop_take]
theorem Gi {T ty:TypeId} {s:Bs} {a b:Nat} (h:P.underlying T=some .string) (f:a<=b) (i:b<=s.length) (hk:K (.string (st (cut s a b))) w) :
  Run P (sOp (.slice T (.const (.string (st s))) (some (.const (.int .i64 a))) (some (.const (.int .i64 b))) none) ty) w K:=by
 refine Run.of ?_ hk;have g:b<=(st s).size:=by rw [nj]; exact i
 simp [sOp,execOp,ev0,evE,Instr.sliceAt,Instr.slice,Instr.sliceBounds,run_underlying h,mf f,mf g,YT]
theorem eV {T ty:TypeId} {s:Bs} {i:Nat} (f:P.underlying T=some .string) (g:i<s.length) (hk:K (.int .u8 s[i].toNat) w) :
  Run P (sOp (.index T (.const (.string (st s))) (.const (.int .i64 i))) ty) w K:=by
 have a:i<(st s).size:=by rw [nj]; exact g
 refine mC f a ?_;have:(st s)[i]=s[i]:=by simp [st,ByteArray.getElem_eq_getElem_data]
 rw [this];exact hk
theorem gg {T ty:TypeId} {cs:List Bool} {s:Bs} (a:P.underlying T=some .string) (hk:K (.int .i64 s.length) w):Run P (co .len #[T] ty cs [.string (st s)]) w K:=by
 refine jG a ?_;rw [nj];exact hk
theorem FO {T:TypeId} {f g:Bool} {a b:Bs} (hk:K (.bool (decide (a=b))) w):Run P (c9 .eql T f g (.string (st a)) (.string (st b))) w K:=by
 refine bR ?_;have:decide (st a=st b)=decide (a=b):=by
  rw [fY];exact ⟨fun h=>by rw [<- Jb a,h,Jb],fun h=>by rw [h]⟩
 rw [this];exact hk
theorem Rv {T:TypeId} {f g:Bool} {a b:Bs} (hk:K (.bool (!decide (a=b))) w):Run P (c9 .neq T f g (.string (st a)) (.string (st b))) w K:=by
 refine PO ?_;have:decide (st a=st b)=decide (a=b):=by
  rw [fY];exact ⟨fun h=>by rw [<- Jb a,h,Jb],fun h=>by rw [h]⟩
 rw [this];exact hk
theorem Fr (h:Inv w0 X L S w) {T T' D ty e:TypeId} {by_:Nat} {z:Value} {n:Nat} (g:oy P T=some (e,1,by_,z)) (i:P.underlying T'=some (.slice e)) (l:P.underlying e=some (.int .u8)) (m:P.underlying D=some .string)
  {K:Value->Value->World->Prop} (hk:∀ w',Inv w0 X L S w'->K (.slice (some ⟨w.heap.size,0,none⟩) 1 1) (.string (st [UInt8.ofNat n])) w') :
  Run P (cd T 1 [(0,.int .u8 (n:Int))]) w fun u w'=>Run P (sOp (.convert T' D (.const u)) ty) w' (K u):=by
 refine uP h g rfl (by omega) (by omega) fun w' f=>?_;have o:(L++[Item.blk w.heap.size (.cells (Value.int .u8 (n:Int)).cells e)])[L.length]?=some (.blk w.heap.size (.cells (Value.int .u8 (n:Int)).cells e)):=by
  rw [gC (aS _),ew]; rfl
 have hc:w'.cell? ⟨w.heap.size,0,none⟩=some (.int .u8 (n:Int)):=by rw [f.cellL o]; rfl
 have hl:=run_loadCells_list (P:=P) (w:=w') ⟨w.heap.size,0,none⟩ [.int .u8 (n:Int)] (fun j v a=>by
  match j with
  | 0=>simp only [JF,aY] at a; subst a; rw [nN]; exact hc
  | j+1=>simp at a)
 simp only [bq,bW] at hl;refine Run.of (w':=w') ?_ (hk _ (f.sub (dw _ _)));simp [sOp,execOp,ev0,evE,convert,run_underlying i,run_underlying l,run_underlying m,Conv.bytesToString,hl,st];rfl
end
end
end Go.Proofs.YtgllldjiaglkcaaGreatDoor
