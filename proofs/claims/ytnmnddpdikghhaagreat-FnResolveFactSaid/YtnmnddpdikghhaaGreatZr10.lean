/- spec.l15Resolvent. -/
import Derived.Test.YtnmnddpdikghhaaGreatZr9
import Derived.Test.YtnmnddpdikghhaaGreatZr7
import Derived.Test.YtnmnddpdikghhaaGreatZr3
namespace Go.Proofs.YtnmnddpdikghhaaGreat
open Go Go.RowKit
def Bz:Option (Option C)->Bool
 | none=>false
 | _=>true
def Lg:Option (Option C)->Bool
 | none=>true
 | some none=>false
 | some (some r)=>bG r
def HD:Option (Option C)->Bool
 | some (some r)=>bG r
 | _=>false
def Ih:C:=⟨⟨0,0,⟨#[]⟩,[]⟩,[]⟩
def clO:Option (Option C)->C
 | some (some r)=>r
 | _=>Ih
theorem Kj (z:Array Value) (hz:z=#[.int .i64 0,.int .i64 0,.string ⟨#[]⟩,.slice none 0 0]) (S:ay):KnU S ((Array.range 208).map (z[· % z.size]!)) stU:=by
 subst hz
 refine ⟨by simp [stU],fun i hi=>⟨fun _=>?_,fun t ht=>?_⟩⟩
 ·simp only [stU,List.length_replicate] at hi
  apply List.ext_getElem?
  intro j
  rw [bJ,List.getElem?_take]
  match j with
  | 0|1|2|3=>
   rw [if_pos (by omega),List.getElem?_drop,Array.getElem?_toList,Array.getElem?_map,Array.getElem?_range,if_pos (by omega)]
   simp only [Option.map_some,List.size_toArray,List.length_cons,List.length_nil]
   first
    | rw [show (i * 4+0) % 4=0 by omega]; rfl
    | rw [show (i * 4+1) % 4=1 by omega]; rfl
    | rw [show (i * 4+2) % 4=2 by omega]; rfl
    | rw [show (i * 4+3) % 4=3 by omega]; rfl
  | j+4=>
   rw [if_neg (by omega)]
   rfl
 ·have e:stU[i]=none:=by simp only [stU,List.getElem_replicate]
  rw [e] at ht
  cases ht
theorem A7:∀ (l:List T) (h:0<l.length) (d:T),l.headD d=l[0]
 | _::_,_,_=>rfl
 | [],h,_=>by simp at h
def LC (c:C) (f k:Bool):Value->List Item->ay->Prop:=fun q I' S'=>I'=[]/\∃ cs:List Value,q=.tuple #[.agg cs.toArray,.bool f,.bool k]/\RdC S' cs c
theorem tE:∀ x∈([.int .i64 0,.int .i64 0,.string ⟨#[]⟩,.slice none 0 0,.slice none 0 0]:List Value),x.oneCell'=true:=by simp [Value.oneCell']
section
variable {P:Program} {w:World} {K:Value->World->Prop}
attribute [local irreducible] Run
end
section
attribute [local irreducible] Run CondV ai a4
set_option maxHeartbeats 2000000 in
theorem qy {c0 d0:C} {o:Option (Option C)} (hc:bG c0=true) (hd:bG d0=true) (hwc:wC c0<=1048576) (hwd:wC d0<=1048576) (hb:c0.body≠[]) (ho:RO c0 d0 o) {S:ay} {cs ds:List Value} (h:RdC S cs c0) (h':RdC S ds d0) :
  Tri Tryz.prog tQ [.agg cs.toArray,.agg ds.toArray] [] S (LC (clO o) (Bz o) (Lg o)):=by
 intro w hI
 have hI:Inv w [] [] S w:=hI
 have hlc:=h.length
 have hld:=h'.length
 obtain ⟨d1,d2,_⟩:=gr hd
 have hrl:=tW hc hd
 have hrok:=nT hc hd
 have hj0:=lB hc hd hwc hwd hb
 obtain ⟨r,st,hu,hcase⟩:=ho
 obtain ⟨hg,_⟩:=hu.good iZ hj0
 have h0:=h
 obtain ⟨hd0,ks,rfl,h1,h2⟩:=h
 have h1':=h1
 obtain ⟨kc0,rfl,g1,g2,g3,g4⟩:=RdT.iff.1 h1
 have hb0:0<c0.body.length:=List.length_pos_iff.2 hb
 obtain ⟨bb,bo,bcap,bc,bE,bfz,rfl,hbS,hbR⟩:=h2.at_ hb0
 have hfirst:c0.body.headD ⟨0,0,⟨#[]⟩,[]⟩=c0.body[0]:=A7 _ hb0 _
 rw [hfirst] at hu hj0
 refine nX ?_
 unfold ko
 refine bN hI fun b2 w' hI=>?_
 refine bN hI fun b3 w' hI=>?_
 refine a9 hI bM fun b4 w' hI=>?_
 refine aO hI 1 aI rfl (by simpa [Value.cells] using hld) ?_
 refine Run.call0E zR zQ hI (zb (Nv:=26) (by omega) 26 (by omega) (by omega) h' d1 d2 hwd) fun v' I' S0 w'=>?_
 rintro ⟨rfl,es,L,rfl,rfl,hT⟩ hE0 hI
 obtain ⟨S1,hI,hE1,hins⟩:=hI.pubExt
 have hE:=hE0.trans hE1
 have he:=hT.rd hins
 obtain ⟨e0,hee⟩:∃ e0,e0=Jy 26 d0:=⟨_,rfl⟩
 rw [<- hee] at he
 have heh:dR 26 d0.head=e0.head:=by rw [hee]; rfl
 have heb:ed 26 d0.body=e0.body:=by rw [hee]; rfl
 rw [heh] at hu hj0
 have hrle:iC c0 d0=c0.head::(e0.body++c0.body.drop 1):=by rw [iC,heb]
 rw [hrle] at hcase hrl hrok
 have he0:=he
 obtain ⟨eh,ebv,rfl,he1,he2⟩:=he
 have he1':=he1
 obtain ⟨ke0,rfl,_⟩:=RdT.iff.1 he1
 obtain ⟨ea,ecap,rfl,_⟩:=id he2
 refine a9 hI bM fun b8 w' hI=>?_
 refine aM hI 3 rfl aI rfl rfl (by simpa using he0.one) fun w' hI=>?_
 refine yw (by omega) ?_
 refine C4 (n:=52) hI bC (by omega) (by omega) (by omega) fun kb w' hI=>?_
 have hkc0:=Kj _ rfl S1
 obtain ⟨kc,hkce⟩:∃ kc,kc=(Array.range 208).map ((#[.int .i64 0,.int .i64 0,.string ⟨#[]⟩,.slice none 0 0]:Array Value)[· % (#[.int .i64 0,.int .i64 0,.string ⟨#[]⟩,.slice none 0 0]:Array Value).size]!):=⟨_,rfl⟩
 rw [<- hkce] at hkc0
 have hI:Inv w [] [.blk b2 (.cells #[.int .i64 c0.head.kind,.int .i64 c0.head.n,.string c0.head.name,kc0,.slice (some ⟨bb,bo,none⟩) c0.body.length bcap] ac),.blk b3 (.cells ds.toArray ac),.blk b4 (.cells #[.int .i64 0,.int .i64 0,.string ⟨#[]⟩,.slice none 0 0,.slice none 0 0] ac),.blk b8 (.cells #[.int .i64 e0.head.kind,.int .i64 e0.head.n,.string e0.head.name,ke0,.slice ea e0.body.length ecap] ac),.blk kb (.cells kc ab)] S1 w':=by rw [hkce]; exact hI
 have hbS1:=hE.1 _ _ hbS
 have hbR1:=hbR.mono hE.1
 have hcall:=As (kp:=52) (by omega) iZ hj0 hu S1 _ _ kb kc hbR1 he1' hkc0
 refine ⟨fun D dx c4 db c7 cB bV cJ dz dg w_=>(D 0=true->dg=.pointer (some ⟨b2,4,none⟩))/\(D 1=true->dz=.slice (some ⟨bb,bo,none⟩) c0.body.length bcap)/\(D 2=true->cJ=.pointer (some ⟨bb,bo+0 * 4,none⟩))/\(D 3=true->bV=.agg (bJ bc (bo+0 * 4) 4).toArray)/\(D 4=true->cB=.pointer (some ⟨b8,0,none⟩))/\(D 5=true->c7=.agg #[.int .i64 e0.head.kind,.int .i64 e0.head.n,.string e0.head.name,ke0])/\(D 6=true->db=kvU kb 52 52)/\(D 7=true->c4=.bool r)/\(D 8=true->dx=.bool (!r))/\(D 7=false->Inv w [] [.blk b2 (.cells #[.int .i64 c0.head.kind,.int .i64 c0.head.n,.string c0.head.name,kc0,.slice (some ⟨bb,bo,none⟩) c0.body.length bcap] ac),.blk b3 (.cells ds.toArray ac),.blk b4 (.cells #[.int .i64 0,.int .i64 0,.string ⟨#[]⟩,.slice none 0 0,.slice none 0 0] ac),.blk b8 (.cells #[.int .i64 e0.head.kind,.int .i64 e0.head.n,.string e0.head.name,ke0,.slice ea e0.body.length ecap] ac),.blk kb (.cells kc ab)] S1 w_)/\(D 7=true->∃ kc2,KnU S1 kc2 st/\Inv w [] [.blk b2 (.cells #[.int .i64 c0.head.kind,.int .i64 c0.head.n,.string c0.head.name,kc0,.slice (some ⟨bb,bo,none⟩) c0.body.length bcap] ac),.blk b3 (.cells ds.toArray ac),.blk b4 (.cells #[.int .i64 0,.int .i64 0,.string ⟨#[]⟩,.slice none 0 0,.slice none 0 0] ac),.blk b8 (.cells #[.int .i64 e0.head.kind,.int .i64 e0.head.n,.string e0.head.name,ke0,.slice ea e0.body.length ecap] ac),.blk kb (.cells kc2 ab)] S1 w_)/\∃ kc3,Inv w [] [.blk b2 (.cells #[.int .i64 c0.head.kind,.int .i64 c0.head.n,.string c0.head.name,kc0,.slice (some ⟨bb,bo,none⟩) c0.body.length bcap] ac),.blk b3 (.cells ds.toArray ac),.blk b4 (.cells #[.int .i64 0,.int .i64 0,.string ⟨#[]⟩,.slice none 0 0,.slice none 0 0] ac),.blk b8 (.cells #[.int .i64 e0.head.kind,.int .i64 e0.head.n,.string e0.head.name,ke0,.slice ea e0.body.length ecap] ac),.blk kb (.cells kc3 ab)] S1 w_,⟨af,af,af,af,af,af,af,af,af,⟨fun _=>hI.draw,af,kc,hI.draw⟩⟩,⟨?_,?_,?_,?_,?_,?_,?_,?_,?_,trivial⟩,?_⟩
 ·intro D aS  dx c4 db c7 cB bV cJ dz dg w_
  rintro ⟨aA,az,aB,ax,aD,aC,aw,aJ,aN,⟨hI0,hI1,kc3,hI⟩⟩
  refine bj bl ?_
  exact ⟨fun _=>rfl,az,aB,ax,aD,aC,aw,aJ,aN,⟨hI0,hI1,kc3,hI⟩⟩
 ·intro D aS cA dx c4 db c7 cB bV cJ dz dg w_
  rintro ⟨aA,az,aB,ax,aD,aC,aw,aJ,aN,⟨hI0,hI1,kc3,hI⟩⟩
  obtain rfl:=aA cA
  refine bB hI 0 aL rfl rfl ?_
  exact ⟨aA,fun _=>rfl,aB,ax,aD,aC,aw,aJ,aN,⟨hI0,hI1,kc3,hI⟩⟩
 ·intro D aS dB dx c4 db c7 cB bV cJ dz dg w_
  rintro ⟨aA,az,aB,ax,aD,aC,aw,aJ,aN,⟨hI0,hI1,kc3,hI⟩⟩
  obtain rfl:=az dB
  refine bq (i:=0) aG hb0 ?_
  exact ⟨aA,az,fun _=>rfl,ax,aD,aC,aw,aJ,aN,⟨hI0,hI1,kc3,hI⟩⟩
 ·intro D aS cM dx c4 db c7 cB bV cJ dz dg w_
  rintro ⟨aA,az,aB,ax,aD,aC,aw,aJ,aN,⟨hI0,hI1,kc3,hI⟩⟩
  obtain rfl:=aB cM
  refine dF ag hbR1.length (fun j v hj=>by rw [hI.cellS hbS1]; exact bx rfl j v hj) ?_
  exact ⟨aA,az,aB,fun _=>rfl,aD,aC,aw,aJ,aN,⟨hI0,hI1,kc3,hI⟩⟩
 ·intro D aS  dx c4 db c7 cB bV cJ dz dg w_
  rintro ⟨aA,az,aB,ax,aD,aC,aw,aJ,aN,⟨hI0,hI1,kc3,hI⟩⟩
  refine bj bQ ?_
  exact ⟨aA,az,aB,ax,fun _=>rfl,aC,aw,aJ,aN,⟨hI0,hI1,kc3,hI⟩⟩
 ·intro D aS fO dx c4 db c7 cB bV cJ dz dg w_
  rintro ⟨aA,az,aB,ax,aD,aC,aw,aJ,aN,⟨hI0,hI1,kc3,hI⟩⟩
  obtain rfl:=aD fO
  refine cY hI 3 [.int .i64 e0.head.kind,.int .i64 e0.head.n,.string e0.head.name,ke0] ag rfl rfl n3 ?_
  exact ⟨aA,az,aB,ax,aD,fun _=>rfl,aw,aJ,aN,⟨hI0,hI1,kc3,hI⟩⟩
 ·intro D aS  dx c4 db c7 cB bV cJ dz dg w_
  rintro ⟨aA,az,aB,ax,aD,aC,aw,aJ,aN,⟨hI0,hI1,kc3,hI⟩⟩
  exact ⟨aA,az,aB,ax,aD,aC,fun _=>rfl,aJ,aN,⟨hI0,hI1,kc3,hI⟩⟩
 ·intro D aS dh eF kK dx c4 db c7 cB bV cJ dz dg w_
  rintro ⟨aA,az,aB,ax,aD,aC,aw,aJ,aN,⟨hI0,hI1,kc3,hI⟩⟩
  obtain rfl:=ax dh
  obtain rfl:=aC eF
  obtain rfl:=aw kK
  refine Run.call (A:=[_,_,_,_]) lR l8 (hI0 aS) hcall fun v' I' S' w_=>?_
  rintro ⟨eS,rfl,kc2,rfl,hk2⟩ _ hI
  rw [eS] at hI
  have hI0:=fun (h:ao D 7 7=false)=>(Bool.noConfusion h:Inv w [] [.blk b2 (.cells #[.int .i64 c0.head.kind,.int .i64 c0.head.n,.string c0.head.name,kc0,.slice (some ⟨bb,bo,none⟩) c0.body.length bcap] ac),.blk b3 (.cells ds.toArray ac),.blk b4 (.cells #[.int .i64 0,.int .i64 0,.string ⟨#[]⟩,.slice none 0 0,.slice none 0 0] ac),.blk b8 (.cells #[.int .i64 e0.head.kind,.int .i64 e0.head.n,.string e0.head.name,ke0,.slice ea e0.body.length ecap] ac),.blk kb (.cells kc ab)] S1 w_)
  have hI1:=fun (_:ao D 7 7=true)=>(⟨kc2,hk2,hI⟩:∃ kc2,KnU S1 kc2 st/\Inv w [] [.blk b2 (.cells #[.int .i64 c0.head.kind,.int .i64 c0.head.n,.string c0.head.name,kc0,.slice (some ⟨bb,bo,none⟩) c0.body.length bcap] ac),.blk b3 (.cells ds.toArray ac),.blk b4 (.cells #[.int .i64 0,.int .i64 0,.string ⟨#[]⟩,.slice none 0 0,.slice none 0 0] ac),.blk b8 (.cells #[.int .i64 e0.head.kind,.int .i64 e0.head.n,.string e0.head.name,ke0,.slice ea e0.body.length ecap] ac),.blk kb (.cells kc2 ab)] S1 w_)
  obtain ⟨kc3,hI⟩:∃ kc3,Inv w [] [.blk b2 (.cells #[.int .i64 c0.head.kind,.int .i64 c0.head.n,.string c0.head.name,kc0,.slice (some ⟨bb,bo,none⟩) c0.body.length bcap] ac),.blk b3 (.cells ds.toArray ac),.blk b4 (.cells #[.int .i64 0,.int .i64 0,.string ⟨#[]⟩,.slice none 0 0,.slice none 0 0] ac),.blk b8 (.cells #[.int .i64 e0.head.kind,.int .i64 e0.head.n,.string e0.head.name,ke0,.slice ea e0.body.length ecap] ac),.blk kb (.cells kc3 ab)] S1 w_:=⟨kc2,hI⟩
  exact ⟨aA,az,aB,ax,aD,aC,aw,fun _=>rfl,aN,⟨hI0,hI1,kc3,hI⟩⟩
 ·intro D aS eo dx c4 db c7 cB bV cJ dz dg w_
  rintro ⟨aA,az,aB,ax,aD,aC,aw,aJ,aN,⟨hI0,hI1,kc3,hI⟩⟩
  obtain rfl:=aJ eo
  refine cN ?_
  exact ⟨aA,az,aB,ax,aD,aC,aw,aJ,fun _=>rfl,⟨hI0,hI1,kc3,hI⟩⟩
 intro D g7 gc fj ft fL fX fM fP fY dx c4 db c7 cB bV cJ dz dg w_
 rintro ⟨aA,az,aB,ax,aD,aC,aw,aJ,aN,⟨hI0,hI1,kc3,hI⟩⟩
 obtain rfl:=aN g7
 obtain rfl:=aJ gc
 obtain rfl:=aw fj
 obtain rfl:=aC ft
 obtain rfl:=aD fL
 obtain rfl:=ax fX
 obtain rfl:=aB fM
 obtain rfl:=az fP
 obtain rfl:=aA fY
 clear aA az aB ax aD aC aw aJ aN
 obtain ⟨kc2,hk2,hI⟩:=hI1 gc
 clear hI0 hI1
 refine a7 (fun hbr=>?_) (fun hbr=>?_)
 ·have hr:r=false:=by simpa using hbr
  have hoN:o=none:=by
   rcases hcase with ⟨_,h⟩|⟨h,_⟩
   ·exact h
   ·rw [hr] at h; cases h
  subst hoN
  refine dL ?_
  refine aM hI 2 rfl aI rfl rfl tE fun w' hI=>?_
  refine bA hI 2 aI rfl rfl ?_
  exact ⟨_,_,_,rfl,hI.nil,hE,rfl,[.int .i64 0,.int .i64 0,.string ⟨#[]⟩,.slice none 0 0,.slice none 0 0],rfl,RdC.zero _⟩
 have hr:r=true:=by simpa using hbr
 obtain ⟨us,hus,hsm⟩:∃ us,Res st (.list (c0.head::(e0.body++c0.body.drop 1)) us)/\((us.all dO=false/\o=some none) ∨ (us.all dO=true/\o=some (some (ir (bD (ofL us)) (ofL us))))):=by
  rcases hcase with ⟨h,_⟩|⟨_,h⟩
  ·rw [hr] at h; cases h
  ·exact h
 clear hcase
 have h1S:=h1'.mono hE.1
 have h2S:=h2.monoT hE.1
 refine ⟨fun D lD er lY g9 jv jh gj gp gW jj g8 w_=>(D 0=true->g8=.pointer (some ⟨b2,0,none⟩))/\(D 1=true->jj=.agg #[.int .i64 c0.head.kind,.int .i64 c0.head.n,.string c0.head.name,kc0])/\(D 2=true->True)/\(D 3=true->gp=.pointer (some ⟨b8,4,none⟩))/\(D 4=true->gj=.slice ea e0.body.length ecap)/\(D 5=true->True)/\(D 6=true->jv=.pointer (some ⟨b2,4,none⟩))/\(D 7=true->g9=.slice (some ⟨bb,bo,none⟩) c0.body.length bcap)/\(D 8=true->True)/\(D 9=true->True)/\(D 10=true->True)/\∃ rows:List Item,(D 2=false->rows=[])/\(D 2=true->D 5=false->∃ css,rows=[a5 gW ab 4 css]/\Rows 4 (RdT S1) css [c0.head])/\(D 5=true->D 9=false->∃ css,rows=[a5 jh ab 4 css]/\Rows 4 (RdT S1) css (c0.head::e0.body))/\(D 9=true->∃ css,rows=[a5 er ab 4 css]/\Rows 4 (RdT S1) css (c0.head::(e0.body++c0.body.drop 1)))/\(D 10=true->lD=er)/\(D 10=true->D 9=true)/\(D 5=true->D 2=true)/\(D 9=true->D 5=true)/\(D 8=true->RdSl S1 4 (RdT S1) lY (c0.body.drop 1))/\Inv w [] ([.blk b2 (.cells #[.int .i64 c0.head.kind,.int .i64 c0.head.n,.string c0.head.name,kc0,.slice (some ⟨bb,bo,none⟩) c0.body.length bcap] ac),.blk b3 (.cells ds.toArray ac),.blk b4 (.cells #[.int .i64 0,.int .i64 0,.string ⟨#[]⟩,.slice none 0 0,.slice none 0 0] ac),.blk b8 (.cells #[.int .i64 e0.head.kind,.int .i64 e0.head.n,.string e0.head.name,ke0,.slice ea e0.body.length ecap] ac),.blk kb (.cells kc2 ab)]++rows) S1 w_,⟨af,af,af,af,af,af,af,af,af,af,af,⟨[],fun _=>rfl,af,af,af,af,af,af,af,af,hI.draw⟩⟩,⟨?_,?_,?_,?_,?_,?_,?_,?_,?_,?_,?_,trivial⟩,?_⟩
 ·intro D aS  lD er lY g9 jv jh gj gp gW jj g8 w_
  rintro ⟨aA,az,aB,ax,aD,aC,aw,aJ,aN,aR,aq,⟨rows,e2,e25,e59,e9,e10,k109,k52,k95,e8,hI⟩⟩
  refine bj bQ ?_
  exact ⟨fun _=>rfl,az,aB,ax,aD,aC,aw,aJ,aN,aR,aq,⟨rows,e2,e25,e59,e9,e10,k109,k52,k95,e8,hI⟩⟩
 ·intro D aS cA lD er lY g9 jv jh gj gp gW jj g8 w_
  rintro ⟨aA,az,aB,ax,aD,aC,aw,aJ,aN,aR,aq,⟨rows,e2,e25,e59,e9,e10,k109,k52,k95,e8,hI⟩⟩
  obtain rfl:=aA cA
  refine cY hI 0 [.int .i64 c0.head.kind,.int .i64 c0.head.n,.string c0.head.name,kc0] ag rfl rfl n3 ?_
  exact ⟨aA,fun _=>rfl,aB,ax,aD,aC,aw,aJ,aN,aR,aq,⟨rows,e2,e25,e59,e9,e10,k109,k52,k95,e8,hI⟩⟩
 ·intro D aS dB lD er lY g9 jv jh gj gp gW jj g8 w_
  rintro ⟨aA,az,aB,ax,aD,aC,aw,aJ,aN,aR,aq,⟨rows,e2,e25,e59,e9,e10,k109,k52,k95,e8,hI⟩⟩
  obtain rfl:=az dB
  have q:=e2 aS
  subst q
  have f5:D 5=false:=Bool.eq_false_iff.2 fun h=>by rw [k52 h] at aS; cases aS
  have f9:D 9=false:=Bool.eq_false_iff.2 fun h=>by rw [k95 h] at f5; cases f5
  rw [List.append_nil] at hI
  refine dJ hI bC (by simp [Value.cells]) (by omega) (by omega) fun b7 w_ hI=>?_
  have hI:=Inv.closeRow (A:=[.blk b2 (.cells #[.int .i64 c0.head.kind,.int .i64 c0.head.n,.string c0.head.name,kc0,.slice (some ⟨bb,bo,none⟩) c0.body.length bcap] ac),.blk b3 (.cells ds.toArray ac),.blk b4 (.cells #[.int .i64 0,.int .i64 0,.string ⟨#[]⟩,.slice none 0 0,.slice none 0 0] ac),.blk b8 (.cells #[.int .i64 e0.head.kind,.int .i64 e0.head.n,.string e0.head.name,ke0,.slice ea e0.body.length ecap] ac),.blk kb (.cells kc2 ab)]) (cap:=1) (k:=4) (n:=1) hI (by omega) (by simp [maxLen]) (by simp [Value.cells])
  have hR:Rows 4 (RdT S1) [[.int .i64 c0.head.kind,.int .i64 c0.head.n,.string c0.head.name,kc0]] [c0.head]:=Rows.one h1S h1S.length
  obtain ⟨rows,hrows⟩:∃ rows,rows=[a5 (.slice (some ⟨b7,0,none⟩) 1 1) ab 4 [[.int .i64 c0.head.kind,.int .i64 c0.head.n,.string c0.head.name,kc0]]]:=⟨_,rfl⟩
  have hI:Inv w [] ([.blk b2 (.cells #[.int .i64 c0.head.kind,.int .i64 c0.head.n,.string c0.head.name,kc0,.slice (some ⟨bb,bo,none⟩) c0.body.length bcap] ac),.blk b3 (.cells ds.toArray ac),.blk b4 (.cells #[.int .i64 0,.int .i64 0,.string ⟨#[]⟩,.slice none 0 0,.slice none 0 0] ac),.blk b8 (.cells #[.int .i64 e0.head.kind,.int .i64 e0.head.n,.string e0.head.name,ke0,.slice ea e0.body.length ecap] ac),.blk kb (.cells kc2 ab)]++rows) S1 w_:=by rw [hrows]; exact hI
  have e2:=fun (h:ao D 2 2=false)=>(Bool.noConfusion h:rows=[])
  have e25:=fun (_:ao D 2 2=true) (_:ao D 2 5=false)=>(⟨_,hrows,hR⟩:∃ css,rows=[a5 (.slice (some ⟨b7,0,none⟩) 1 1) ab 4 css]/\Rows 4 (RdT S1) css [c0.head])
  have e59:=fun (h:ao D 2 5=true) (_:ao D 2 9=false)=>(Bool.noConfusion (f5.symm.trans h):∃ css,rows=[a5 jh ab 4 css]/\Rows 4 (RdT S1) css (c0.head::e0.body))
  have e9:=fun (h:ao D 2 9=true)=>(Bool.noConfusion (f9.symm.trans h):∃ css,rows=[a5 er ab 4 css]/\Rows 4 (RdT S1) css (c0.head::(e0.body++c0.body.drop 1)))
  have k52:=fun (_:ao D 2 5=true)=>(rfl:ao D 2 2=true)
  exact ⟨aA,az,fun _=>by first|assumption|trivial,ax,aD,aC,aw,aJ,aN,aR,aq,⟨rows,e2,e25,e59,e9,e10,k109,k52,k95,e8,hI⟩⟩
 ·intro D aS  lD er lY g9 jv jh gj gp gW jj g8 w_
  rintro ⟨aA,az,aB,ax,aD,aC,aw,aJ,aN,aR,aq,⟨rows,e2,e25,e59,e9,e10,k109,k52,k95,e8,hI⟩⟩
  refine bj bl ?_
  exact ⟨aA,az,aB,fun _=>rfl,aD,aC,aw,aJ,aN,aR,aq,⟨rows,e2,e25,e59,e9,e10,k109,k52,k95,e8,hI⟩⟩
 ·intro D aS dh lD er lY g9 jv jh gj gp gW jj g8 w_
  rintro ⟨aA,az,aB,ax,aD,aC,aw,aJ,aN,aR,aq,⟨rows,e2,e25,e59,e9,e10,k109,k52,k95,e8,hI⟩⟩
  obtain rfl:=ax dh
  refine bB hI 3 aL rfl rfl ?_
  exact ⟨aA,az,aB,ax,fun _=>rfl,aC,aw,aJ,aN,aR,aq,⟨rows,e2,e25,e59,e9,e10,k109,k52,k95,e8,hI⟩⟩
 ·intro D aS cM eD lD er lY g9 jv jh gj gp gW jj g8 w_
  rintro ⟨aA,az,aB,ax,aD,aC,aw,aJ,aN,aR,aq,⟨rows,e2,e25,e59,e9,e10,k109,k52,k95,e8,hI⟩⟩
  have LD:=aB cM
  obtain rfl:=aD eD
  obtain ⟨css,q,hR⟩:=e25 cM aS
  subst q
  have f9:D 9=false:=Bool.eq_false_iff.2 fun h=>by rw [k95 h] at aS; cases aS
  have hcl:=hR.hc
  refine j3 hI 5 bC (by omega) rfl he2 (fun _ _=>RdT.length) (fun _ _=>RdT.one) (by simp at hcl hrl; omega) (by omega) fun v5 w_ css2 hR2 hI=>?_
  have hR:=hR.append hR2
  obtain ⟨rows,hrows⟩:∃ rows,rows=[a5 v5 ab 4 (css++css2)]:=⟨_,rfl⟩
  have hI:Inv w [] ([.blk b2 (.cells #[.int .i64 c0.head.kind,.int .i64 c0.head.n,.string c0.head.name,kc0,.slice (some ⟨bb,bo,none⟩) c0.body.length bcap] ac),.blk b3 (.cells ds.toArray ac),.blk b4 (.cells #[.int .i64 0,.int .i64 0,.string ⟨#[]⟩,.slice none 0 0,.slice none 0 0] ac),.blk b8 (.cells #[.int .i64 e0.head.kind,.int .i64 e0.head.n,.string e0.head.name,ke0,.slice ea e0.body.length ecap] ac),.blk kb (.cells kc2 ab)]++rows) S1 w_:=by rw [hrows]; exact hI
  have e2:=fun (h:ao D 5 2=false)=>(Bool.noConfusion (cM.symm.trans h):rows=[])
  have e25:=fun (_:ao D 5 2=true) (h:ao D 5 5=false)=>(Bool.noConfusion h:∃ css,rows=[a5 gW ab 4 css]/\Rows 4 (RdT S1) css [c0.head])
  have e59:=fun (_:ao D 5 5=true) (_:ao D 5 9=false)=>(⟨_,hrows,hR⟩:∃ css,rows=[a5 v5 ab 4 css]/\Rows 4 (RdT S1) css (c0.head::e0.body))
  have e9:=fun (h:ao D 5 9=true)=>(Bool.noConfusion (f9.symm.trans h):∃ css,rows=[a5 er ab 4 css]/\Rows 4 (RdT S1) css (c0.head::(e0.body++c0.body.drop 1)))
  have k52:=fun (_:ao D 5 5=true)=>cM
  have k95:=fun (_:ao D 5 9=true)=>(rfl:ao D 5 5=true)
  exact ⟨aA,az,aB,ax,aD,fun _=>by first|assumption|trivial,aw,aJ,aN,aR,aq,⟨rows,e2,e25,e59,e9,e10,k109,k52,k95,e8,hI⟩⟩
 ·intro D aS  lD er lY g9 jv jh gj gp gW jj g8 w_
  rintro ⟨aA,az,aB,ax,aD,aC,aw,aJ,aN,aR,aq,⟨rows,e2,e25,e59,e9,e10,k109,k52,k95,e8,hI⟩⟩
  refine bj bl ?_
  exact ⟨aA,az,aB,ax,aD,aC,fun _=>rfl,aJ,aN,aR,aq,⟨rows,e2,e25,e59,e9,e10,k109,k52,k95,e8,hI⟩⟩
 ·intro D aS bW lD er lY g9 jv jh gj gp gW jj g8 w_
  rintro ⟨aA,az,aB,ax,aD,aC,aw,aJ,aN,aR,aq,⟨rows,e2,e25,e59,e9,e10,k109,k52,k95,e8,hI⟩⟩
  obtain rfl:=aw bW
  refine bB hI 0 aL rfl rfl ?_
  exact ⟨aA,az,aB,ax,aD,aC,aw,fun _=>rfl,aN,aR,aq,⟨rows,e2,e25,e59,e9,e10,k109,k52,k95,e8,hI⟩⟩
 ·intro D aS eo lD er lY g9 jv jh gj gp gW jj g8 w_
  rintro ⟨aA,az,aB,ax,aD,aC,aw,aJ,aN,aR,aq,⟨rows,e2,e25,e59,e9,e10,k109,k52,k95,e8,hI⟩⟩
  obtain rfl:=aJ eo
  refine je (l:=1) aG h2S (by omega) fun v8 hv8=>?_
  have e8:=fun (_:ao D 8 8=true)=>hv8
  exact ⟨aA,az,aB,ax,aD,aC,aw,aJ,fun _=>by first|assumption|trivial,aR,aq,⟨rows,e2,e25,e59,e9,e10,k109,k52,k95,e8,hI⟩⟩
 ·intro D aS dT fT KP lD er lY g9 jv jh gj gp gW jj g8 w_
  rintro ⟨aA,az,aB,ax,aD,aC,aw,aJ,aN,aR,aq,⟨rows,e2,e25,e59,e9,e10,k109,k52,k95,e8,hI⟩⟩
  have zK:=aC dT
  have E3:=aN fT
  obtain ⟨css,q,hR⟩:=e59 dT aS
  subst q
  have f10:D 10=false:=by cases hq:D 10 with|false=>rfl|true=>exact absurd (k109 hq) (by rw [aS]; decide)
  have hcl:=hR.hc
  have hr8:=e8 fT
  refine j3 hI 5 bC (by omega) rfl hr8 (fun _ _=>RdT.length) (fun _ _=>RdT.one) (by simp only [List.length_drop]; simp at hcl hrl; omega) (by omega) fun v9 w_ css2 hR2 hI=>?_
  have hR:=hR.append hR2
  rw [List.cons_append] at hR
  obtain ⟨rows,hrows⟩:∃ rows,rows=[a5 v9 ab 4 (css++css2)]:=⟨_,rfl⟩
  have hI:Inv w [] ([.blk b2 (.cells #[.int .i64 c0.head.kind,.int .i64 c0.head.n,.string c0.head.name,kc0,.slice (some ⟨bb,bo,none⟩) c0.body.length bcap] ac),.blk b3 (.cells ds.toArray ac),.blk b4 (.cells #[.int .i64 0,.int .i64 0,.string ⟨#[]⟩,.slice none 0 0,.slice none 0 0] ac),.blk b8 (.cells #[.int .i64 e0.head.kind,.int .i64 e0.head.n,.string e0.head.name,ke0,.slice ea e0.body.length ecap] ac),.blk kb (.cells kc2 ab)]++rows) S1 w_:=by rw [hrows]; exact hI
  have d2':=k52 dT
  have e2:=fun (h:ao D 9 2=false)=>(Bool.noConfusion (d2'.symm.trans h):rows=[])
  have e25:=fun (_:ao D 9 2=true) (h:ao D 9 5=false)=>(Bool.noConfusion (dT.symm.trans h):∃ css,rows=[a5 gW ab 4 css]/\Rows 4 (RdT S1) css [c0.head])
  have e59:=fun (_:ao D 9 5=true) (h:ao D 9 9=false)=>(Bool.noConfusion h:∃ css,rows=[a5 jh ab 4 css]/\Rows 4 (RdT S1) css (c0.head::e0.body))
  have e9:=fun (_:ao D 9 9=true)=>(⟨_,hrows,hR⟩:∃ css,rows=[a5 v9 ab 4 css]/\Rows 4 (RdT S1) css (c0.head::(e0.body++c0.body.drop 1)))
  have e10:=fun (h:ao D 9 10=true)=>(Bool.noConfusion (f10.symm.trans h):lD=v9)
  have k95:=fun (_:ao D 9 9=true)=>dT
  have k109:=fun (_:ao D 9 10=true)=>(rfl:ao D 9 9=true)
  exact ⟨aA,az,aB,ax,aD,aC,aw,aJ,aN,fun _=>by first|assumption|trivial,aq,⟨rows,e2,e25,e59,e9,e10,k109,k52,k95,e8,hI⟩⟩
 ·intro D aS o3 eQ kS mL kN qx oV th ug Hw Jt Lb lD er lY g9 jv jh gj gp gW jj g8 w_
  rintro ⟨aA,az,aB,ax,aD,aC,aw,aJ,aN,aR,aq,⟨rows,e2,e25,e59,e9,e10,k109,k52,k95,e8,hI⟩⟩
  have HC:=aR o3
  have e10:=fun (_:ao D 10 10=true)=>(rfl:er=er)
  have k109:=fun (_:ao D 10 10=true)=>o3
  exact ⟨aA,az,aB,ax,aD,aC,aw,aJ,aN,aR,fun _=>by first|assumption|trivial,⟨rows,e2,e25,e59,e9,e10,k109,k52,k95,e8,hI⟩⟩
 intro D fg jA g7 gc fj ft fL fX fM fP fY lD er lY g9 jv jh gj gp gW jj g8 w_
 rintro ⟨aA,az,aB,ax,aD,aC,aw,aJ,aN,aR,aq,⟨rows,e2,e25,e59,e9,e10,k109,k52,k95,e8,hI⟩⟩
 have EZ:=aq fg
 have HC:=aR jA
 have E3:=aN g7
 obtain rfl:=aJ gc
 obtain rfl:=aw fj
 have zK:=aC ft
 obtain rfl:=aD fL
 obtain rfl:=ax fX
 have LD:=aB fM
 obtain rfl:=az fP
 obtain rfl:=aA fY
 clear aA az aB ax aD aC aw aJ aN aR aq
 obtain ⟨css,rfl,hR⟩:=e9 jA
 have q10:=e10 fg
 subst q10
 clear e2 e25 e59 e9 e10 k109 k52 k95 e8
 obtain ⟨S2,hE2,hrd,hI⟩:=Inv.lendExt (A:=[.blk b2 (.cells #[.int .i64 c0.head.kind,.int .i64 c0.head.n,.string c0.head.name,kc0,.slice (some ⟨bb,bo,none⟩) c0.body.length bcap] ac),.blk b3 (.cells ds.toArray ac),.blk b4 (.cells #[.int .i64 0,.int .i64 0,.string ⟨#[]⟩,.slice none 0 0,.slice none 0 0] ac),.blk b8 (.cells #[.int .i64 e0.head.kind,.int .i64 e0.head.n,.string e0.head.name,ke0,.slice ea e0.body.length ecap] ac),.blk kb (.cells kc2 ab)]) hI
 have hlist:=RowRd.rows (hR.monoR fun _ _ h=>RdT.mono hE2.1 h) hrd
 have hEa:=hE.trans hE2
 have hk2:=hk2.mono hE2.1
 refine gN hI bC fun v42 w' hI=>?_
 obtain ⟨hlu,hlen⟩:=xq hg hus hrok
 have hlen':us.length=(c0.head::(e0.body++c0.body.drop 1)).length:=hlen
 generalize hxs:c0.head::(e0.body++c0.body.drop 1)=xs at hus hrl hrok hlist hlen'
 have hwxs:∀ x∈xs,wT x<=1048576:=by
  intro x hx
  rw [<- hxs] at hx
  unfold wC at hwc hwd
  rcases List.mem_cons.1 hx with rfl|hx
  ·omega
  ·rcases List.mem_append.1 hx with hx|hx
   ·have:=kf hx
    rw [<- heb,rS] at this
    omega
   ·have:=kf (List.mem_of_mem_drop hx)
    omega
 have hI:Inv w [] [.blk b2 (.cells #[.int .i64 c0.head.kind,.int .i64 c0.head.n,.string c0.head.name,kc0,.slice (some ⟨bb,bo,none⟩) c0.body.length bcap] ac),.blk b3 (.cells ds.toArray ac),.blk b4 (.cells #[.int .i64 0,.int .i64 0,.string ⟨#[]⟩,.slice none 0 0,.slice none 0 0] ac),.blk b8 (.cells #[.int .i64 e0.head.kind,.int .i64 e0.head.n,.string e0.head.name,ke0,.slice ea e0.body.length ecap] ac),a5 v42 ab 4 [],.blk kb (.cells kc2 ab)] S2 w':=hI.perm (List.Perm.cons _ (List.Perm.cons _ (List.Perm.cons _ (List.Perm.cons _ (List.Perm.swap _ _ _)))))
 refine ⟨fun i t w'=>∃ (j:Nat) (css:List (List Value)) (S':ay),j<=us.length/\i=.int .i64 j/\Ext w.heap.size [] S2 S'/\Rows 4 (RdT S') css (us.take j)/\(∀ k (_:k<us.length),k<j->dO us[k]=true)/\Inv w [] [.blk b2 (.cells #[.int .i64 c0.head.kind,.int .i64 c0.head.n,.string c0.head.name,kc0,.slice (some ⟨bb,bo,none⟩) c0.body.length bcap] ac),.blk b3 (.cells ds.toArray ac),.blk b4 (.cells #[.int .i64 0,.int .i64 0,.string ⟨#[]⟩,.slice none 0 0,.slice none 0 0] ac),.blk b8 (.cells #[.int .i64 e0.head.kind,.int .i64 e0.head.n,.string e0.head.name,ke0,.slice ea e0.body.length ecap] ac),a5 t ab 4 css,.blk kb (.cells kc2 ab)] S' w',
  fun i _ _=>us.length - (intOf i).toNat,⟨0,[],S2,Nat.zero_le _,rfl,Ext.refl _ _ _,Rows.nil _ _,fun k _ h=>by omega,hI⟩,?_⟩
 intro t12 _ _ t11 _ _ _ _ t6 t5 _ _ _ _ _ _ _ _ _ _ _ _ _ _ _ _ _ _ w'
 rintro ⟨j,css3,S3,hj,rfl,hE3,hR3,hdone,hI⟩
 refine bm (hlist.monoT hE3.1) aG ?_
 refine cF ?_
 refine bF (fun hji=>?_) (fun hji=>?_)
 ·have hj1:j<us.length:=by omega
  have hj2:j<xs.length:=by omega
  have hm2:=List.getElem_mem hj2
  have hcl3:=hR3.hc
  rw [List.length_take] at hcl3
  refine dN hI (hlist.monoT hE3.1) aG ag hj2 (fun _ _=>RdT.length) fun cs1 hcs1=>?_
  have hI:Inv w [] ([.blk b2 (.cells #[.int .i64 c0.head.kind,.int .i64 c0.head.n,.string c0.head.name,kc0,.slice (some ⟨bb,bo,none⟩) c0.body.length bcap] ac),.blk b3 (.cells ds.toArray ac),.blk b4 (.cells #[.int .i64 0,.int .i64 0,.string ⟨#[]⟩,.slice none 0 0,.slice none 0 0] ac),.blk b8 (.cells #[.int .i64 e0.head.kind,.int .i64 e0.head.n,.string e0.head.name,ke0,.slice ea e0.body.length ecap] ac),a5 t11 ab 4 css3]++[.blk kb (.cells kc2 ab)]) S3 w':=hI
  refine Run.callE CY BX hI (Ah (kp:=52) hg (GS hus j hj2 hj1) ⟨jL hrok _ hm2,hwxs _ hm2⟩ hcs1 (hk2.mono hE3.1)) fun v' I' S4 w'=>?_
  rintro ⟨rfl,cs4,hl4,ho4,rfl,hrd4⟩ hE4 hI
  refine aT rfl ?_
  refine aT rfl ?_
  refine a9 hI bt fun b13 w' hI=>?_
  have hI:=hI.perm (M:=.blk b13 _::[.blk b2 (.cells #[.int .i64 c0.head.kind,.int .i64 c0.head.n,.string c0.head.name,kc0,.slice (some ⟨bb,bo,none⟩) c0.body.length bcap] ac),.blk b3 (.cells ds.toArray ac),.blk b4 (.cells #[.int .i64 0,.int .i64 0,.string ⟨#[]⟩,.slice none 0 0,.slice none 0 0] ac),.blk b8 (.cells #[.int .i64 e0.head.kind,.int .i64 e0.head.n,.string e0.head.name,ke0,.slice ea e0.body.length ecap] ac),a5 t11 ab 4 css3,.blk kb (.cells kc2 ab)]) (List.perm_append_comm (l₁:=[_]))
  refine aM hI 0 rfl ag (by simpa using hl4) rfl (by simpa using ho4) fun w' hI=>?_
  refine cN ?_
  refine a7 (fun hsb=>?_) (fun hsb=>?_)
  ·have hsf:dO us[j]=false:=by simpa using hsb
   have hoS:o=some none:=by
    rcases hsm with ⟨_,h⟩|⟨h,_⟩
    ·exact h
    ·rw [List.all_eq_true] at h
     rw [h _ (List.getElem_mem hj1)] at hsf
     cases hsf
   subst hoS
   refine dL ?_
   have hI:Inv w [] [.blk b13 (.cells cs4.toArray ab),.blk b2 (.cells #[.int .i64 c0.head.kind,.int .i64 c0.head.n,.string c0.head.name,kc0,.slice (some ⟨bb,bo,none⟩) c0.body.length bcap] ac),.blk b3 (.cells ds.toArray ac),.blk b4 (.cells #[.int .i64 0,.int .i64 0,.string ⟨#[]⟩,.slice none 0 0,.slice none 0 0] ac),.blk b8 (.cells #[.int .i64 e0.head.kind,.int .i64 e0.head.n,.string e0.head.name,ke0,.slice ea e0.body.length ecap] ac),a5 t11 ab 4 css3,.blk kb (.cells kc2 ab)] S4 w':=hI
   refine aM hI 3 rfl aI rfl rfl tE fun w' hI=>?_
   refine bA hI 3 aI rfl rfl ?_
   exact ⟨_,_,_,rfl,hI.nil,(hEa.trans hE3).trans hE4,rfl,[.int .i64 0,.int .i64 0,.string ⟨#[]⟩,.slice none 0 0,.slice none 0 0],rfl,RdC.zero _⟩
  ·have hst:dO us[j]=true:=by simpa using hsb
   have hR4:=hrd4 hst
   refine aO hI 0 ag rfl (by simpa using hl4) ?_
   refine eL hI 5 cs4 bC (by omega) (by omega) rfl hl4 ho4 (by omega) (by omega) fun v64 w' hI=>?_
   have hI:Inv w [] [.blk b2 (.cells #[.int .i64 c0.head.kind,.int .i64 c0.head.n,.string c0.head.name,kc0,.slice (some ⟨bb,bo,none⟩) c0.body.length bcap] ac),.blk b3 (.cells ds.toArray ac),.blk b4 (.cells #[.int .i64 0,.int .i64 0,.string ⟨#[]⟩,.slice none 0 0,.slice none 0 0] ac),.blk b8 (.cells #[.int .i64 e0.head.kind,.int .i64 e0.head.n,.string e0.head.name,ke0,.slice ea e0.body.length ecap] ac),a5 v64 ab 4 (css3++[cs4]),.blk kb (.cells kc2 ab)] S4 w':=hI.sub (List.sublist_cons_self _ _)
   refine bR (by omega) ?_
   refine ⟨⟨j+1,css3++[cs4],S4,hj1,rfl,hE3.trans hE4,?_,fun k hk hkj=>?_,hI⟩,by simp [intOf]; omega⟩
   ·rw [List.take_succ_eq_append_getElem hj1]
    exact (hR3.monoR fun _ _ h=>RdT.mono hE4.1 h).snoc hR4 hl4
   ·by_cases e:k=j
    ·subst e; exact hst
    ·exact hdone k hk (by omega)
 ·have hje:j=us.length:=by omega
  subst hje
  rw [List.take_length] at hR3
  have hall:us.all dO=true:=by
   rw [List.all_eq_true]
   intro x hx
   obtain ⟨k,hk,rfl⟩:=List.mem_iff_getElem.1 hx
   exact hdone k hk hk
  have hoY:o=some (some (ir (bD (ofL us)) (ofL us))):=by
   rcases hsm with ⟨h,_⟩|⟨_,h⟩
   ·rw [hall] at h; cases h
   ·exact h
  have hwu:=r3 hall hlu
  have hI:Inv w [] ([.blk b2 (.cells #[.int .i64 c0.head.kind,.int .i64 c0.head.n,.string c0.head.name,kc0,.slice (some ⟨bb,bo,none⟩) c0.body.length bcap] ac),.blk b3 (.cells ds.toArray ac),.blk b4 (.cells #[.int .i64 0,.int .i64 0,.string ⟨#[]⟩,.slice none 0 0,.slice none 0 0] ac),.blk b8 (.cells #[.int .i64 e0.head.kind,.int .i64 e0.head.n,.string e0.head.name,ke0,.slice ea e0.body.length ecap] ac)]++[a5 t11 ab 4 css3]) S3 w':=hI.pick [true,true,true,true,true,false]
  obtain ⟨S5,hE5,hrd5,hI⟩:=hI.lendExt
  have hru:=RowRd.rows (hR3.monoR fun _ _ h=>RdT.mono hE5.1 h) hrd5
  have hEb:=(hEa.trans hE3).trans hE5
  refine Run.call0E wQ wZ hI (tK hru (by omega)) fun v66 I' S6 w'=>?_
  rintro ⟨rfl,M,rfl,hT6⟩ hE6 hI
  obtain ⟨S7,hI,hE7,hins7⟩:=hI.pubExt
  have hrn:=hT6.rd hins7 fun _ _ _ hi h=>h.rd hi
  have hEc:=(hEb.trans hE6).trans hE7
  obtain ⟨u0,us',rfl⟩:∃ u0 us',us=u0::us':=by
   cases us with
   | nil=>rw [<- hxs] at hlen'; simp at hlen'
   | cons u us'=>exact ⟨u,us',rfl⟩
  have hcl:clO o=⟨c5 (cW (u0::us') []) u0,dM (cW (u0::us') []) us'⟩:=by rw [hoY]; rfl
  have hfo:Bz o=true:=by rw [hoY]; rfl
  have hok:Lg o=bG (clO o):=by rw [hoY]; rfl
  rw [dM] at hrn
  generalize hvs:cW (u0::us') []=vs at hrn hcl
  obtain ⟨hd',hhd'⟩:∃ hd',hd'=c5 vs u0:=⟨_,rfl⟩
  obtain ⟨bd',hbd'⟩:∃ bd',bd'=dM vs us':=⟨_,rfl⟩
  rw [<- hhd',<- hbd'] at hrn hcl
  have hwR:wC (clO o)<=1048576:=by
   rw [hcl]
   have h1:wT hd'=wT u0:=by rw [hhd',CD]
   have h2:wL bd'=wL us':=by rw [hbd',xt]
   have h3:bd'.length=us'.length:=by rw [hbd',jD]
   rw [wL] at hwu
   simp only [List.length_cons] at hwu hlen' hrl
   simp only [wC]
   omega
  obtain ⟨nb,no,ncap,nc,nE,nfz,rfl,hnS,hnR⟩:=hrn.at_ (i:=0) (by simp)
  rw [List.getElem_cons_zero] at hnR
  obtain ⟨kn,ec,f1,f2,f3,f4⟩:=RdT.iff.1 hnR
  rw [ec] at hnR
  have hI:Inv w [] [.blk b2 (.cells #[.int .i64 c0.head.kind,.int .i64 c0.head.n,.string c0.head.name,kc0,.slice (some ⟨bb,bo,none⟩) c0.body.length bcap] ac),.blk b3 (.cells ds.toArray ac),.blk b4 (.cells #[.int .i64 0,.int .i64 0,.string ⟨#[]⟩,.slice none 0 0,.slice none 0 0] ac),.blk b8 (.cells #[.int .i64 e0.head.kind,.int .i64 e0.head.n,.string e0.head.name,ke0,.slice ea e0.body.length ecap] ac)] S7 w':=hI
  have hkn:∃ a n m,kn=.slice a n m:=by
   obtain ⟨a,m,e,_⟩:=f4
   exact ⟨_,_,_,e⟩
  obtain ⟨ka,kn1,kn2,hkn⟩:=hkn
  refine ⟨fun D fh eX fU gb f0 fV fW w_=>(D 0=true->fW=.slice (some ⟨nb,no,none⟩) (bd'.length+1) ncap)/\(D 1=true->fV=.pointer (some ⟨nb,no+0 * 4,none⟩))/\(D 2=true->f0=.agg #[.int .i64 hd'.kind,.int .i64 hd'.n,.string hd'.name,kn])/\(D 3=true->gb=.slice (some ⟨nb,no,none⟩) (bd'.length+1) ncap)/\(D 4=true->RdSl S7 4 (RdT S7) fU bd')/\(D 5=true->∃ kb,eX=.agg #[.int .i64 hd'.kind,.int .i64 hd'.n,.string hd'.name,kn,kb]/\RdSl S7 4 (RdT S7) kb bd')/\(D 6=true->True)/\(D 7=true->True)/\∃ b15 B15,(D 6=true->fh=.pointer (some ⟨b15,0,none⟩))/\(D 7=true->D 6=true)/\(D 7=false->B15=#[.int .i64 0,.int .i64 0,.string ⟨#[]⟩,.slice none 0 0,.slice none 0 0])/\(D 7=true->∃ kb,B15=#[.int .i64 hd'.kind,.int .i64 hd'.n,.string hd'.name,kn,kb]/\RdSl S7 4 (RdT S7) kb bd')/\Inv w [] ([.blk b2 (.cells #[.int .i64 c0.head.kind,.int .i64 c0.head.n,.string c0.head.name,kc0,.slice (some ⟨bb,bo,none⟩) c0.body.length bcap] ac),.blk b3 (.cells ds.toArray ac),.blk b4 (.cells #[.int .i64 0,.int .i64 0,.string ⟨#[]⟩,.slice none 0 0,.slice none 0 0] ac),.blk b8 (.cells #[.int .i64 e0.head.kind,.int .i64 e0.head.n,.string e0.head.name,ke0,.slice ea e0.body.length ecap] ac)]++cond (D 6) [.blk b15 (.cells B15 ac)] []) S7 w_,⟨af,af,af,af,af,af,af,af,⟨0,_,af,af,fun _=>rfl,af,hI.draw⟩⟩,⟨?_,?_,?_,?_,?_,?_,?_,?_,trivial⟩,?_⟩
  ·intro D aS  fh eX fU gb f0 fV fW w_
   rintro ⟨aA,az,aB,ax,aD,aC,aw,aJ,⟨b15,B15,e6,k76,e7f,e7,hI⟩⟩
   exact ⟨fun _=>rfl,az,aB,ax,aD,aC,aw,aJ,⟨b15,B15,e6,k76,e7f,e7,hI⟩⟩
  ·intro D aS cA fh eX fU gb f0 fV fW w_
   rintro ⟨aA,az,aB,ax,aD,aC,aw,aJ,⟨b15,B15,e6,k76,e7f,e7,hI⟩⟩
   obtain rfl:=aA cA
   refine bq (i:=0) aG (by simp) ?_
   exact ⟨aA,fun _=>rfl,aB,ax,aD,aC,aw,aJ,⟨b15,B15,e6,k76,e7f,e7,hI⟩⟩
  ·intro D aS dB fh eX fU gb f0 fV fW w_
   rintro ⟨aA,az,aB,ax,aD,aC,aw,aJ,⟨b15,B15,e6,k76,e7f,e7,hI⟩⟩
   obtain rfl:=az dB
   refine dF (cs:=[.int .i64 hd'.kind,.int .i64 hd'.n,.string hd'.name,kn]) ag rfl (fun j v hj=>by rw [hI.cellS hnS]; exact bx ec j v hj) ?_
   exact ⟨aA,az,fun _=>rfl,ax,aD,aC,aw,aJ,⟨b15,B15,e6,k76,e7f,e7,hI⟩⟩
  ·intro D aS  fh eX fU gb f0 fV fW w_
   rintro ⟨aA,az,aB,ax,aD,aC,aw,aJ,⟨b15,B15,e6,k76,e7f,e7,hI⟩⟩
   exact ⟨aA,az,aB,fun _=>rfl,aD,aC,aw,aJ,⟨b15,B15,e6,k76,e7f,e7,hI⟩⟩
  ·intro D aS dh fh eX fU gb f0 fV fW w_
   rintro ⟨aA,az,aB,ax,aD,aC,aw,aJ,⟨b15,B15,e6,k76,e7f,e7,hI⟩⟩
   obtain rfl:=ax dh
   refine je (l:=1) aG hrn (by simp) fun kb1 hkb=>?_
   rw [List.drop_succ_cons,List.drop_zero] at hkb
   exact ⟨aA,az,aB,ax,fun _=>by first|assumption|trivial,aC,aw,aJ,⟨b15,B15,e6,k76,e7f,e7,hI⟩⟩
  ·intro D aS cM eD fh eX fU gb f0 fV fW w_
   rintro ⟨aA,az,aB,ax,aD,aC,aw,aJ,⟨b15,B15,e6,k76,e7f,e7,hI⟩⟩
   obtain rfl:=aB cM
   have Dl:=aD eD
   refine iV ?_ ?_
   ·obtain ⟨a,m,e,_⟩:=Dl
    exact ⟨_,_,_,e⟩
   have hnew:∃ kb,Value.agg #[.int .i64 hd'.kind,.int .i64 hd'.n,.string hd'.name,kn,fU]=.agg #[.int .i64 hd'.kind,.int .i64 hd'.n,.string hd'.name,kn,kb]/\RdSl S7 4 (RdT S7) kb bd':=⟨_,rfl,Dl⟩
   exact ⟨aA,az,aB,ax,aD,fun _=>by first|assumption|trivial,aw,aJ,⟨b15,B15,e6,k76,e7f,e7,hI⟩⟩
  ·intro D aS  fh eX fU gb f0 fV fW w_
   rintro ⟨aA,az,aB,ax,aD,aC,aw,aJ,⟨b15,B15,e6,k76,e7f,e7,hI⟩⟩
   have f7:D 7=false:=Bool.eq_false_iff.2 fun h=>by rw [k76 h] at aS; cases aS
   rw [aS] at hI
   refine a9 hI bM fun b15 w_ hI=>?_
   have hB:=e7f f7
   have e6:=fun (_:ao D 6 6=true)=>(rfl:Value.pointer (some ⟨b15,0,none⟩)=_)
   have k76:=fun (_:ao D 6 7=true)=>(rfl:ao D 6 6=true)
   have hI:Inv w [] ([.blk b2 (.cells #[.int .i64 c0.head.kind,.int .i64 c0.head.n,.string c0.head.name,kc0,.slice (some ⟨bb,bo,none⟩) c0.body.length bcap] ac),.blk b3 (.cells ds.toArray ac),.blk b4 (.cells #[.int .i64 0,.int .i64 0,.string ⟨#[]⟩,.slice none 0 0,.slice none 0 0] ac),.blk b8 (.cells #[.int .i64 e0.head.kind,.int .i64 e0.head.n,.string e0.head.name,ke0,.slice ea e0.body.length ecap] ac)]++cond true [.blk b15 (.cells B15 ac)] []) S7 w_:=by rw [hB]; exact hI
   exact ⟨aA,az,aB,ax,aD,aC,fun _=>by first|assumption|trivial,aJ,⟨b15,B15,e6,k76,e7f,e7,hI⟩⟩
  ·intro D aS bW eF kS mL kN qx oV th ug fh eX fU gb f0 fV fW w_
   rintro ⟨aA,az,aB,ax,aD,aC,aw,aJ,⟨b15,B15,e6,k76,e7f,e7,hI⟩⟩
   have Fw:=aw bW
   have zK:=aC eF
   have q6:=e6 bW
   subst q6
   obtain ⟨kb1,q72,hkb⟩:=zK
   rw [bW,e7f aS] at hI
   obtain ⟨a1,m1,hka,_⟩:=id hkb
   subst q72
   refine aM hI 4 rfl aI rfl rfl (by simp [Value.oneCell',hkn,hka]) fun w_ hI=>?_
   obtain ⟨B15,hq⟩:∃ B15,B15=(#[.int .i64 hd'.kind,.int .i64 hd'.n,.string hd'.name,kn,kb1]:Array Value):=⟨_,rfl⟩
   have k76:=fun (_:ao D 7 7=true)=>bW
   have e7f:=fun (h:ao D 7 7=false)=>(Bool.noConfusion h:B15=#[.int .i64 0,.int .i64 0,.string ⟨#[]⟩,.slice none 0 0,.slice none 0 0])
   have e7:=fun (_:ao D 7 7=true)=>(⟨kb1,hq,hkb⟩:∃ kb,B15=#[.int .i64 hd'.kind,.int .i64 hd'.n,.string hd'.name,kn,kb]/\RdSl S7 4 (RdT S7) kb bd')
   have hI:Inv w [] ([.blk b2 (.cells #[.int .i64 c0.head.kind,.int .i64 c0.head.n,.string c0.head.name,kc0,.slice (some ⟨bb,bo,none⟩) c0.body.length bcap] ac),.blk b3 (.cells ds.toArray ac),.blk b4 (.cells #[.int .i64 0,.int .i64 0,.string ⟨#[]⟩,.slice none 0 0,.slice none 0 0] ac),.blk b8 (.cells #[.int .i64 e0.head.kind,.int .i64 e0.head.n,.string e0.head.name,ke0,.slice ea e0.body.length ecap] ac)]++cond (D 6) [.blk b15 (.cells B15 ac)] []) S7 w_:=by rw [bW,hq]; exact hI
   exact ⟨aA,az,aB,ax,aD,aC,aw,fun _=>trivial,⟨b15,B15,e6,k76,e7f,e7,hI⟩⟩
  intro D gc fj ft fL fX fM fP fY fh eX fU gb f0 fV fW w_
  rintro ⟨aA,az,aB,ax,aD,aC,aw,aJ,⟨b15,B15,e6,k76,e7f,e7,hI⟩⟩
  have Fw:=aw fj
  have zK:=aC ft
  have Dl:=aD fL
  obtain rfl:=ax fX
  obtain rfl:=aB fM
  obtain rfl:=az fP
  obtain rfl:=aA fY
  clear aA az aB ax aD aC aw aJ
  have q15:=e6 fj
  subst q15
  obtain ⟨kb1,rfl,hkb⟩:=e7 gc
  rw [fj] at hI
  clear e6 k76 e7f e7
  obtain ⟨a1,m1,hka,_⟩:=id hkb
  have hI:Inv w [] [.blk b2 (.cells #[.int .i64 c0.head.kind,.int .i64 c0.head.n,.string c0.head.name,kc0,.slice (some ⟨bb,bo,none⟩) c0.body.length bcap] ac),.blk b3 (.cells ds.toArray ac),.blk b4 (.cells #[.int .i64 0,.int .i64 0,.string ⟨#[]⟩,.slice none 0 0,.slice none 0 0] ac),.blk b8 (.cells #[.int .i64 e0.head.kind,.int .i64 e0.head.n,.string e0.head.name,ke0,.slice ea e0.body.length ecap] ac),.blk b15 (.cells #[.int .i64 hd'.kind,.int .i64 hd'.n,.string hd'.name,kn,kb1] ac)] S7 w_:=hI
  have hRC:RdC S7 [.int .i64 hd'.kind,.int .i64 hd'.n,.string hd'.name,kn,kb1] (clO o):=by
   rw [hcl]
   exact ⟨_,_,rfl,hnR,hkb⟩
  have hone:∀ x∈([.int .i64 hd'.kind,.int .i64 hd'.n,.string hd'.name,kn,kb1]:List Value),x.oneCell'=true:=hRC.one
  refine ⟨fun D x6 x5 eZ eY fa w_=>(D 0=true->fa=.agg #[.int .i64 hd'.kind,.int .i64 hd'.n,.string hd'.name,kn,kb1])/\(D 1=true->eY=.agg #[.int .i64 hd'.kind,.int .i64 hd'.n,.string hd'.name,kn,kb1])/\(D 2=true->eZ=.bool (bG (clO o)))/\(D 3=true->True)/\(D 4=true->x5=.bool true)/\(D 5=true->x6=.bool (bG (clO o)))/\Inv w [] [.blk b2 (.cells #[.int .i64 c0.head.kind,.int .i64 c0.head.n,.string c0.head.name,kc0,.slice (some ⟨bb,bo,none⟩) c0.body.length bcap] ac),.blk b3 (.cells ds.toArray ac),.blk b4 (.cells (cond (D 3) #[.int .i64 hd'.kind,.int .i64 hd'.n,.string hd'.name,kn,kb1] #[.int .i64 0,.int .i64 0,.string ⟨#[]⟩,.slice none 0 0,.slice none 0 0]) ac),.blk b8 (.cells #[.int .i64 e0.head.kind,.int .i64 e0.head.n,.string e0.head.name,ke0,.slice ea e0.body.length ecap] ac),.blk b15 (.cells #[.int .i64 hd'.kind,.int .i64 hd'.n,.string hd'.name,kn,kb1] ac)] S7 w_,⟨af,af,af,af,af,af,hI.draw⟩,⟨?_,?_,?_,?_,?_,?_,trivial⟩,?_⟩
  ·intro D aS  x6 x5 eZ eY fa w_
   rintro ⟨aA,az,aB,ax,aD,aC,hI⟩
   refine aO hI 4 aI rfl rfl ?_
   exact ⟨fun _=>rfl,az,aB,ax,aD,aC,hI⟩
  ·intro D aS  x6 x5 eZ eY fa w_
   rintro ⟨aA,az,aB,ax,aD,aC,hI⟩
   refine aO hI 4 aI rfl rfl ?_
   exact ⟨aA,fun _=>rfl,aB,ax,aD,aC,hI⟩
  ·intro D aS dB x6 x5 eZ eY fa w_
   rintro ⟨aA,az,aB,ax,aD,aC,hI⟩
   obtain rfl:=az dB
   refine Run.callPure gz gx hI (fH hRC hwR) fun w_ hI=>?_
   exact ⟨aA,az,fun _=>rfl,ax,aD,aC,hI⟩
  ·intro D aS cA EP kS x6 x5 eZ eY fa w_
   rintro ⟨aA,az,aB,ax,aD,aC,hI⟩
   obtain rfl:=aA cA
   rw [aS] at hI
   refine aM hI 2 rfl aI rfl rfl hone fun w_ hI=>?_
   exact ⟨aA,az,aB,fun _=>trivial,aD,aC,hI⟩
  ·intro D aS dh Mn LZ x6 x5 eZ eY fa w_
   rintro ⟨aA,az,aB,ax,aD,aC,hI⟩
   exact ⟨aA,az,aB,ax,fun _=>rfl,aC,hI⟩
  ·intro D aS cM eD kS mL kN qx oV x6 x5 eZ eY fa w_
   rintro ⟨aA,az,aB,ax,aD,aC,hI⟩
   obtain rfl:=aB cM
   exact ⟨aA,az,aB,ax,aD,fun _=>rfl,hI⟩
  intro D ft fL fX fM fP fY x6 x5 eZ eY fa w_
  rintro ⟨aA,az,aB,ax,aD,aC,hI⟩
  obtain rfl:=aC ft
  obtain rfl:=aD fL
  obtain rfl:=aB fM
  obtain rfl:=az fP
  obtain rfl:=aA fY
  clear aA az aB ax aD aC
  rw [fX] at hI
  refine bA (c:=#[.int .i64 hd'.kind,.int .i64 hd'.n,.string hd'.name,kn,kb1]) hI 2 aI rfl rfl ?_
  exact ⟨_,_,_,rfl,hI.nil,hEc,rfl,[.int .i64 hd'.kind,.int .i64 hd'.n,.string hd'.name,kn,kb1],by rw [hfo,hok],hRC⟩
end

end Go.Proofs.YtnmnddpdikghhaaGreat

/- Variables numbered anew, the plain law: numbering twice is numbering once, validity is kept, heads are variants. -/
namespace Go.Proofs.YtnmnddpdikghhaaGreat
open Go Go.RowKit
mutual
def mvT (f:Int->Int):T->T
 | .mk k n s ks=>.mk k (if k=1 then f n else n) s (mvL f ks)
def mvL (f:Int->Int):List T->List T
 | []=>[]
 | t::ts=>mvT f t::mvL f ts
end
theorem HS (f:Int->Int):∀ ts:List T,(mvL f ts).length=ts.length
 | []=>rfl
 | t::ts=>by rw [mvL,List.length_cons,List.length_cons,HS f ts]
mutual
theorem yr (vs:List Int):∀ t:T,c5 vs t=mvT (fun n=>iF vs n n 0) t
 | .mk k n s ks=>by rw [c5,mvT,rV vs ks]
theorem rV (vs:List Int):∀ ts:List T,dM vs ts=mvL (fun n=>iF vs n n 0) ts
 | []=>rfl
 | t::ts=>by rw [dM,mvL,yr vs t,rV vs ts]
end
mutual
theorem xp {f g:Int->Int} {ws:List Int} (h:∀ n∈ws,f n=g n):∀ t:T,inT ws t->mvT f t=mvT g t
 | .mk k n s ks,hi=>by
  rw [inT] at hi
  rw [mvT,mvT,te h ks hi.2]
  split
  ·rename_i hk; rw [h n (hi.1 hk)]
  ·rfl
theorem te {f g:Int->Int} {ws:List Int} (h:∀ n∈ws,f n=g n):∀ ts:List T,inL ws ts->mvL f ts=mvL g ts
 | [],_=>rfl
 | t::ts,hi=>by
  rw [inL] at hi
  rw [mvL,mvL,xp h t hi.1,te h ts hi.2]
end
mutual
theorem El (f g:Int->Int):∀ t:T,mvT f (mvT g t)=mvT (fun n=>f (g n)) t
 | .mk k n s ks=>by
  rw [mvT,mvT,mvT,zl f g ks]
  split <;> rfl
theorem zl (f g:Int->Int):∀ ts:List T,mvL f (mvL g ts)=mvL (fun n=>f (g n)) ts
 | []=>rfl
 | t::ts=>by rw [mvL,mvL,mvL,El f g t,zl f g ts]
end
theorem Ke {f:Int->Int} {l:List Int} {n:Int} (h:∀ m∈l,f m=f n->m=n):iA (l.map f) (f n)=(iA l n).map f:=by
 have e:wh (l.map f) (f n)=wh l n:=by
  rw [Bool.eq_iff_iff,oi,oi,List.mem_map]
  constructor
  ·rintro ⟨m,hm,e⟩
   rw [<- h m hm e]; exact hm
  ·intro hn
   exact ⟨n,hn,rfl⟩
 unfold iA
 rw [e]
 split
 ·rfl
 ·simp
mutual
theorem JB {f:Int->Int} {ws:List Int} (hf:∀ a∈ws,∀ b∈ws,f a=f b->a=b):∀ (t:T) (l:List Int),(∀ m∈l,m∈ws)->inT ws t->ge (mvT f t) (l.map f)=(ge t l).map f/\∀ m∈ge t l,m∈ws
 | .mk k n s ks,l,hl,hi=>by
  rw [inT] at hi
  rw [mvT,ge,ge]
  by_cases hk:k=1
  ·rw [if_pos hk,if_pos hk,if_pos hk,Ke fun m hm e=>hf m (hl m hm) n (hi.1 hk) e]
   refine sV hf ks _ (fun m hm=>?_) hi.2
   unfold iA at hm
   split at hm
   ·exact hl m hm
   ·rcases List.mem_append.1 hm with hm|hm
    ·exact hl m hm
    ·rw [List.mem_singleton.1 hm]; exact hi.1 hk
  ·rw [if_neg hk,if_neg hk]
   exact sV hf ks l hl hi.2
theorem sV {f:Int->Int} {ws:List Int} (hf:∀ a∈ws,∀ b∈ws,f a=f b->a=b):∀ (ts:List T) (l:List Int),(∀ m∈l,m∈ws)->inL ws ts->dE (mvL f ts) (l.map f)=(dE ts l).map f/\∀ m∈dE ts l,m∈ws
 | [],l,hl,_=>⟨rfl,hl⟩
 | t::ts,l,hl,hi=>by
  rw [inL] at hi
  obtain ⟨e,h2⟩:=JB hf t l hl hi.1
  rw [mvL,dE,dE,e]
  exact sV hf ts _ h2 hi.2
end
theorem Fb:∀ (xs:List Int) (n:Int) (k:Nat),n∈xs->∃ i,xs[i]?=some n/\(c9 (σ:=Unit) (fun _ x=>(decide (n=x),())) () xs k).1=((k+i:Nat):Int)
 | x::xs,n,k,h=>by
  rw [c9]
  by_cases e:n=x
  ·subst e
   exact ⟨0,rfl,by simp⟩
  ·have h':n∈xs:=by
    rcases List.mem_cons.1 h with h|h
    ·exact absurd h e
    ·exact h
   obtain ⟨i,h1,h2⟩:=Fb xs n (k+1) h'
   refine ⟨i+1,h1,?_⟩
   rw [decide_eq_false e]
   simp only [Bool.false_eq_true,if_false]
   rw [h2]
   omega
theorem BD {xs:List Int} {n:Int} (h:n∈xs):∃ i:Nat,xs[i]?=some n/\jg xs n=(i:Int)/\i<xs.length:=by
 obtain ⟨i,h1,h2⟩:=Fb xs n 0 h
 exact ⟨i,h1,by rw [jg,h2,Nat.zero_add],(List.getElem?_eq_some_iff.1 h1).1⟩
theorem Eh {xs:List Int}:∀ a∈xs,∀ b∈xs,jg xs a=jg xs b->a=b:=by
 intro a ha b hb e
 obtain ⟨i,h1,h2,_⟩:=BD ha
 obtain ⟨j,h3,h4,_⟩:=BD hb
 have:i=j:=by omega
 subst this
 rw [h1] at h3
 exact Option.some.inj h3
theorem H0 {f:Int->Int} {n:Int}:∀ (xs:List Int) (k:Nat),(∀ m∈xs,f m=f n->m=n)->(c9 (σ:=Unit) (fun _ x=>(decide (f n=x),())) () (xs.map f) k).1=(c9 (σ:=Unit) (fun _ x=>(decide (n=x),())) () xs k).1
 | [],_,_=>rfl
 | x::xs,k,h=>by
  rw [List.map_cons,c9,c9]
  have:decide (f n=f x)=decide (n=x):=by
   rw [decide_eq_decide]
   exact ⟨fun e=>(h x (List.mem_cons_self ..) e.symm).symm,fun e=>by rw [e]⟩
  rw [this]
  have ih:=H0 xs (k+1) fun m hm=>h m (List.mem_cons_of_mem _ hm)
  split
  ·rfl
  ·exact ih
theorem JI {f:Int->Int} {xs:List Int} {n:Int} (h:∀ m∈xs,f m=f n->m=n):jg (xs.map f) (f n)=jg xs n:=H0 xs 0 h
/- validity -/
theorem Lm {c:C} (h:bG c=true):ir (bD c) c=⟨mvT (jg (bD c)) c.head,mvL (jg (bD c)) c.body⟩/\inT (bD c) c.head/\inL (bD c) c.body/\(bD c).Nodup:=by
 obtain ⟨hv,_,_⟩:=HA h
 have hin:=lz (c.head::c.body) []
 rw [hv,inL] at hin
 have hd:(bD c).Nodup:=by rw [<- hv]; exact g5 _ _ List.nodup_nil
 refine ⟨?_,hin.1,hin.2,hd⟩
 have hl:∀ n∈bD c,iF (bD c) n n 0=jg (bD c) n:=fun n hn=>lf _ n n 0 hn hd
 rw [ir,yr,rV,xp hl _ hin.1,te hl _ hin.2]
end Go.Proofs.YtnmnddpdikghhaaGreat

/- InstanceOf and FactsFor: both sides. -/
namespace Go.Proofs.YtnmnddpdikghhaaGreat
open Go Go.RowKit

def ER (u t:T):Bool:=d6 u && (d6 t && (dH t u st0).1)
section
attribute [local irreducible] Run CondV ai a4
theorem j4 {u t:T} {S:ay} {ds cs:List Value} (h:RdT S ds u) (h':RdT S cs t):Pure Tryz.prog yb [.agg ds.toArray,.agg cs.toArray] S (.bool (ER u t)):=by
 intro w hI
 have hds:=h
 have hcs:=h'
 obtain ⟨kv,rfl,_,_,_,hks⟩:=RdT.iff.1 h
 obtain ⟨kv',rfl,_,_,_,hks'⟩:=RdT.iff.1 h'
 obtain ⟨k,n,s,ks⟩:=u
 obtain ⟨k',n',s',ks'⟩:=t
 simp only [T.name,T.kids,T.kind,T.n] at hks hks' hds hcs ⊢
 refine p7 ?_
 unfold mn;dsimp only
 refine bN hI fun b1 w' hI=>?_
 refine bN hI fun b2 w' hI=>?_
 have hI:Inv w [] [.blk b1 (.cells #[.int .i64 k,.int .i64 n,.string s,kv] ab),.blk b2 (.cells #[.int .i64 k',.int .i64 n',.string s',kv'] ab)] S w':=hI
 refine aO hI 0 ag rfl rfl ?_
 refine Run.callPure hZ ik hI (gt hds) fun w' hI=>?_
 rw [ER]
 cases hv1:d6 (.mk k n s ks)
 ·repeat (first|refine ae ?_|refine ah (by decide) ?_|refine ad ?_|refine al ?_|refine aj ?_)
  exact done hI rfl
 repeat (first|refine ae ?_|refine ah (by decide) ?_|refine ad ?_|refine al ?_|refine aj ?_)
 refine aO hI 1 ag rfl rfl ?_
 refine Run.callPure hZ ik hI (gt hcs) fun w' hI=>?_
 cases hv2:d6 (.mk k' n' s' ks')
 ·repeat (first|refine ae ?_|refine ah (by decide) ?_|refine ad ?_|refine al ?_|refine aj ?_)
  exact done hI rfl
 repeat (first|refine ae ?_|refine ah (by decide) ?_|refine ad ?_|refine al ?_|refine aj ?_)
 refine aO hI 0 ag rfl rfl ?_
 refine aO hI 1 ag rfl rfl ?_
 refine ub hI fun mb w' hI=>?_
 refine Run.call (A:=[_,_]) pR pv hI (xZ _ _ S _ _ mb 0 #[] st0 hcs hds (s8 hv2).1 (s8 hv1).2 LB (KnownM.empty S)) fun v' I' S' w'=>?_
 rintro ⟨rfl,rfl,es,ck,rfl,_⟩ _ hI
 repeat (first|refine ae ?_|refine ah (by decide) ?_|refine ad ?_|refine al ?_|refine aj ?_)
 exact done hI rfl
end

end Go.Proofs.YtnmnddpdikghhaaGreat

/- Matching and substitution, in plain Lean: a match is found exactly if there is a substitution; subsumption is an order. -/
namespace Go.Proofs.YtnmnddpdikghhaaGreat
open Go Go.RowKit
mutual
def sbT (σ:Int->T):T->T
 | .mk k n s ks=>if k=1 then σ n else .mk k n s (sbL σ ks)
def sbL (σ:Int->T):List T->List T
 | []=>[]
 | t::ts=>sbT σ t::sbL σ ts
end
theorem xn (σ:Int->T):∀ ts:List T,(sbL σ ts).length=ts.length
 | []=>rfl
 | t::ts=>by rw [sbL,List.length_cons,xn σ ts,List.length_cons]
def idS (n:Int):T:=.mk 1 n emptyB []
/- a substitution that a table knows -/
def Agk (σ:Int->T) (st:bu):Prop:=∀ (i:Nat) (t:T),st[i]?=some (some t)->σ i=t
def Gek (st st':bu):Prop:=st'.length=st.length/\∀ (i:Nat) (t:T),st[i]?=some (some t)->st'[i]?=some (some t)
theorem Gek.refl (st:bu):Gek st st:=⟨rfl,fun _ _ h=>h⟩
theorem Gek.trans {a b c:bu} (h:Gek a b) (h':Gek b c):Gek a c:=⟨h'.1.trans h.1,fun i t hi=>h'.2 i t (h.2 i t hi)⟩
theorem Agk.less {σ:Int->T} {a b:bu} (h:Agk σ b) (hg:Gek a b):Agk σ a:=fun i t hi=>h i t (hg.2 i t hi)
theorem DL {t u:T}:jk t u=true↔t.kind=u.kind/\t.n=u.n/\t.name=u.name/\t.kids.length=u.kids.length:=by
 simp [jk]
mutual
theorem oL:∀ (t u:T) (st:bu),okV t->Gek st (dH t u st).2
 | .mk k n s ks,u,st,hv=>by
  rw [okV] at hv
  rw [dH]
  by_cases hk:k=1
  ·rw [if_pos hk]
   split
   ·exact Gek.refl _
   ·rename_i hno
    refine ⟨by simp,fun i t hi=>?_⟩
    rw [List.getElem?_set]
    split
    ·rename_i e
     subst e
     exact absurd hi (hno t)
    ·exact hi
  ·rw [if_neg hk]
   split
   ·exact uy ks u.kids st hv.2
   ·exact Gek.refl _
theorem uy:∀ (ts us:List T) (st:bu),li ts->Gek st (eJ ts us st).2
 | [],_,st,_=>by rw [eJ]; exact Gek.refl _
 | _::_,[],st,_=>by rw [eJ]; exact Gek.refl _
 | t::ts,u::us,st,hv=>by
  rw [li] at hv
  rw [eJ]
  split
  ·exact (oL t u st hv.1).trans (uy ts us _ hv.2)
  ·exact oL t u st hv.1
end
/- what is found is right -/
mutual
theorem rU (σ:Int->T):∀ (t u:T) (st:bu),okV t->st.length=26->(dH t u st).1=true->Agk σ (dH t u st).2->sbT σ t=u
 | .mk k n s ks,u,st,hv,hl,hm,ha=>by
  rw [okV] at hv
  rw [dH] at hm ha
  by_cases hk:k=1
  ·obtain ⟨h0,h1⟩:=hv.1 hk
   rw [if_pos hk] at hm ha
   rw [sbT,if_pos hk]
   split at hm
   ·rename_i t0 hst
    rw [hst] at ha
    have:=ha n.toNat t0 hst
    rw [Int.toNat_of_nonneg h0] at this
    rw [this]
    exact (xo _ _).1 hm
   ·rename_i hno
    split at ha
    ·rename_i t0 hst
     exact absurd hst (hno t0)
    ·have:=ha n.toNat u (by rw [List.getElem?_set_self (by omega)])
     rwa [Int.toNat_of_nonneg h0] at this
  ·rw [if_neg hk] at hm ha
   rw [sbT,if_neg hk]
   split at hm
   ·rename_i hh
    rw [if_pos hh] at ha
    obtain ⟨h1,h2,h3,h4⟩:=DL.1 hh
    have:=rR σ ks u.kids st hv.2 hl (Nat.le_of_eq h4) hm ha
    rw [this]
    cases u
    simp only [T.kind,T.n,T.name,T.kids] at h1 h2 h3 ⊢
    rw [h1,h2,h3]
    congr 1
    rw [List.take_of_length_le]
    simp only [T.kids] at h4
    omega
   ·cases hm
theorem rR (σ:Int->T):∀ (ts us:List T) (st:bu),li ts->st.length=26->ts.length<=us.length->(eJ ts us st).1=true->Agk σ (eJ ts us st).2->sbL σ ts=us.take ts.length
 | [],us,st,_,_,_,_,_=>by rw [sbL]; rfl
 | t::ts,[],st,_,_,hlen,_,_=>by simp at hlen
 | t::ts,u::us,st,hv,hl,hlen,hm,ha=>by
  rw [li] at hv
  rw [eJ] at hm ha
  split at hm
  ·rename_i h1
   rw [if_pos h1] at ha
   have hg:=oL t u st hv.1
   have hg2:=uy ts us (dH t u st).2 hv.2
   rw [sbL,List.length_cons,List.take_succ_cons,rU σ t u st hv.1 hl h1 (ha.less hg2),rR σ ts us _ hv.2 (hg.1.trans hl) (by simpa using hlen) hm ha]
  ·cases hm
end
/- what is right is found -/
mutual
theorem tg (σ:Int->T):∀ (t u:T) (st:bu),okV t->st.length=26->Agk σ st->sbT σ t=u->(dH t u st).1=true/\Agk σ (dH t u st).2
 | .mk k n s ks,u,st,hv,hl,ha,hs=>by
  rw [okV] at hv
  rw [dH]
  by_cases hk:k=1
  ·obtain ⟨h0,h1⟩:=hv.1 hk
   rw [sbT,if_pos hk] at hs
   rw [if_pos hk]
   split
   ·rename_i t0 hst
    have:=ha n.toNat t0 hst
    rw [Int.toNat_of_nonneg h0,hs] at this
    exact ⟨(xo _ _).2 this.symm,ha⟩
   ·refine ⟨rfl,fun i t hi=>?_⟩
    rw [List.getElem?_set] at hi
    split at hi
    ·rename_i e
     subst e
     rw [if_pos (by omega)] at hi
     simp only [Option.some.injEq] at hi
     rw [Int.toNat_of_nonneg h0,hs,hi]
    ·exact ha i t hi
  ·rw [sbT,if_neg hk] at hs
   subst hs
   rw [if_neg hk,if_pos ((DL (t:=.mk k n s ks) (u:=.mk k n s (sbL σ ks))).2 ⟨rfl,rfl,rfl,(xn σ ks).symm⟩)]
   exact tx σ ks (sbL σ ks) st hv.2 hl ha (by rw [List.take_of_length_le (by rw [xn]; exact Nat.le_refl _)])
theorem tx (σ:Int->T):∀ (ts us:List T) (st:bu),li ts->st.length=26->Agk σ st->sbL σ ts=us.take ts.length->(eJ ts us st).1=true/\Agk σ (eJ ts us st).2
 | [],us,st,_,_,ha,_=>by rw [eJ]; exact ⟨rfl,ha⟩
 | t::ts,[],st,_,_,_,hs=>by simp [sbL] at hs
 | t::ts,u::us,st,hv,hl,ha,hs=>by
  rw [li] at hv
  rw [sbL,List.length_cons,List.take_succ_cons,List.cons.injEq] at hs
  rw [eJ]
  obtain ⟨h1,h2⟩:=tg σ t u st hv.1 hl ha hs.1
  rw [if_pos h1]
  exact tx σ ts us _ hv.2 ((oL t u st hv.1).1.trans hl) h2 hs.2
end
def ofK (st:bu) (n:Int):T:=match st[n.toNat]? with
 | some (some t)=>t
 | _=>idS n
theorem KG (st:bu):Agk (ofK st) st:=fun i t h=>by rw [ofK,Int.toNat_natCast,h]
theorem KV (σ:Int->T):Agk σ st0:=fun i t h=>by
 simp only [st0,List.getElem?_replicate] at h
 split at h <;> cases h
theorem Iu {t u:T} (hv:okV t):(dH t u st0).1=true↔∃ σ,sbT σ t=u:=
 ⟨fun h=>⟨_,rU _ t u st0 hv (by simp [st0]) h (KG _)⟩,fun ⟨σ,h⟩=>(tg σ t u st0 hv (by simp [st0]) (KV σ) h).1⟩
theorem Jq {c:C} (h:bG c=true):okV c.head/\li c.body:=⟨(BF h).1.1,(BF h).2.1⟩
theorem uP {c:C} (h:bG c=true):d6 c.head=true:=by
 rw [bG] at h
 simp only [Bool.and_eq_true] at h
 exact h.2.2.1
end Go.Proofs.YtnmnddpdikghhaaGreat

/- impl: walks and occurrence. -/
namespace Go.Proofs.YtnmnddpdikghhaaGreat
open Go Go.RowKit
section
variable {P:Program} {w w0:World} {X:List Nat} {L:List Item} {S:ay} {K:Value->World->Prop}
attribute [local irreducible] Run CondV ai a4
theorem qh {T kt et ty:TypeId} {b clock:Nat} {es:Array MapEntry} {n:Int} {z v:Value} {ok c:Bool} (hb:w.heap[b]?=some (.map es clock)) (hT:P.underlying T=some (.map kt et)) (hkt:P.underlying kt=some (.int .i64))
  (hz:iJ P et=some z) (hf:(∃ j,Instr.findNow (.int .i64) (.int .i64 n) es.toList 0=some (some (j,v))/\ok=true) ∨ (Instr.findNow (.int .i64) (.int .i64 n) es.toList 0=some none/\v=z/\ok=false))
  (hk:K (cond c (.tuple #[v,.bool ok]) v) w):Run P (sOp (.lookup T (.const (.map (some b))) (.const (.int .i64 n)) c) ty) w K:=by
 have hck:∀ e,(Instr.checkKey e 10000 kt (.int .i64 n)).run P w=.ok () w:=fun e=>by
  rw [show (10000:Nat)=9999+1 from rfl,Instr.checkKey]
  simp [run_underlying hkt]
 obtain ⟨inf,hi1,hi2⟩:∃ inf,P.info? et=some inf/\inf.zero=some z:=by
  unfold iJ at hz
  cases hinf:P.info? et with
  | none=>rw [hinf] at hz; simp at hz
  | some inf=>rw [hinf] at hz; exact ⟨inf,rfl,by simpa using hz⟩
 have hzv:(zeroValue et).run P w=.ok z w:=by simp [zeroValue,typeInfo,hi1,hi2]
 refine Run.of ?_ hk
 have hg:(getObj b).run P w=.ok (.map es clock) w:=by simp [getObj,Sem.run,hb]
 rcases hf with ⟨j,hf,rfl⟩|⟨hf,rfl,rfl⟩
 ·have hfk:=ib (P:=P) (w:=w) hkt hf
  cases c <;> simp [sOp,execOp,ev0,evE,Instr.lookup,run_underlying hT,hg,hck,hfk]
 ·have hfk:=ib (P:=P) (w:=w) hkt hf
  cases c <;> simp [sOp,execOp,ev0,evE,Instr.lookup,run_underlying hT,hg,hck,hfk,hzv]
end
section
attribute [local irreducible] Run CondV ai a4
/- slices.ContainsFunc with a function that changes what it is lent -/
theorem z4 {f:FuncId} {fn:Func} {cap:List Value} {S0 S:ay} {v:Value} {xs:List T} (hf:Tryz.prog.funcs[f]?=some fn) (hn:(fn.name == "runtime.NumGoroutine" || fn.body.isNone)=false) (hle:Sle S0 S)
  (h:RdSl S0 4 (RdT S0) v xs) {J:Nat->List Item->Prop} {Fin:List Item->Prop}
  (hcall:∀ i (_:i<xs.length) (cs:List Value) (I:List Item),RdT S0 cs xs[i]->J i I->Tri Tryz.prog f (.agg cs.toArray::cap) I S fun r I' S'=>S'=S/\∃ b,r=.bool b/\(b=true->Fin I')/\(b=false->J (i+1) I'))
  {I:List Item} (hJ:J 0 I):Tri Tryz.prog jU [v,fv f cap] I S fun r I' S'=>S'=S/\∃ k:Int,r=.int .i64 k/\(0<=k->Fin I')/\(k<0->J xs.length I'):=by
 intro w hI
 have h:RdSl S 4 (RdT S0) v xs:=h.mono hle fun _ _ h=>h
 have hlen:=h.le
 simp only [maxLen] at hlen
 obtain ⟨X,hX⟩:∃ X,X=bS I:=⟨_,rfl⟩
 rw [<- hX] at hI ⊢
 refine ii ?_
 unfold gH
 refine bm h aG ?_
 refine ⟨fun i w'=>∃ (j:Nat) (I':List Item),j<=xs.length/\i=.int .i64 j/\J j I'/\Inv w X I' S w',fun i _=>xs.length - (intOf i).toNat,⟨0,I,Nat.zero_le _,rfl,hJ,hI⟩,?_⟩
 intro t8 _ _ _ _ _ _ _ _ _ _ _ _ w'
 rintro ⟨j,I',hj,rfl,hJ',hI⟩
 refine cF ?_
 refine bF (fun hji=>?_) (fun hji=>?_)
 ·have hj':j<xs.length:=by omega
  refine dN hI h aG ag hj' (fun _ _=>RdT.length) fun cs hcs=>?_
  have hI:Inv w X ([]++I') S w':=hI
  refine Run.callVE (A:=[]) hf hn hI (hcall j hj' cs I' hcs hJ') fun v' I2 S2 w'=>?_
  rintro ⟨eS,b,rfl,hb1,hb2⟩ _ hI
  rw [eS] at hI
  clear eS
  have hI:Inv w X I2 S w':=hI
  refine a7 (fun hb=>?_) (fun hb=>?_)
  ·exact ⟨_,_,_,rfl,hI,Ext.refl _ _ _,rfl,j,rfl,fun _=>hb1 hb,fun h=>by omega⟩
  ·refine bR (by omega) ?_
   exact ⟨⟨j+1,I2,hj',rfl,hb2 hb,hI⟩,by simp [intOf]; omega⟩
 ·have:j=xs.length:=by omega
  subst this
  exact ⟨_,_,_,rfl,hI,Ext.refl _ _ _,rfl,-1,rfl,fun h=>by omega,fun _=>hJ'⟩
theorem uN {f:FuncId} {fn:Func} {cap:List Value} {S0 S:ay} {v:Value} {xs:List T} (hf:Tryz.prog.funcs[f]?=some fn) (hn:(fn.name == "runtime.NumGoroutine" || fn.body.isNone)=false) (hle:Sle S0 S)
  (h:RdSl S0 4 (RdT S0) v xs) {J:Nat->List Item->Prop} {Fin:List Item->Prop}
  (hcall:∀ i (_:i<xs.length) (cs:List Value) (I:List Item),RdT S0 cs xs[i]->J i I->Tri Tryz.prog f (.agg cs.toArray::cap) I S fun r I' S'=>S'=S/\∃ b,r=.bool b/\(b=true->Fin I')/\(b=false->J (i+1) I'))
  {I:List Item} (hJ:J 0 I):Tri Tryz.prog iG [v,fv f cap] I S fun r I' S'=>S'=S/\∃ b,r=.bool b/\(b=true->Fin I')/\(b=false->J xs.length I'):=by
 intro w hI
 obtain ⟨X,hX⟩:∃ X,X=bS I:=⟨_,rfl⟩
 rw [<- hX] at hI ⊢
 refine gD ?_
 unfold fF
 have hI:Inv w X ([]++I) S w:=hI
 refine Run.callE (A:=[]) jm js hI (z4 hf hn hle h hcall hJ) fun v' I2 S2 w'=>?_
 rintro ⟨eS,k,rfl,h1,h2⟩ _ hI
 rw [eS] at hI
 refine kT ?_
 exact ⟨_,_,_,rfl,hI,Ext.refl _ _ _,rfl,_,rfl,fun hb=>h1 (of_decide_eq_true hb),fun hb=>h2 (by have:=of_decide_eq_false hb; omega)⟩
/- the store of impl in published memory -/
def StS (S0 S:ay) (sb:Nat) (st:bu):Prop:=∃ mb tv es ck E,S sb=some (.cells #[.map (some mb),tv] E)/\S mb=some (.map es ck)/\KnownM S0 es st
theorem StS.mono {S0 S S':ay} {sb:Nat} {st:bu} (h:StS S0 S sb st) (hs:Sle S S'):StS S0 S' sb st:=by
 obtain ⟨mb,tv,es,ck,E,h1,h2,h3⟩:=h
 exact ⟨mb,tv,es,ck,E,hs _ _ h1,hs _ _ h2,h3⟩
theorem StS.find {S0 S:ay} {sb:Nat} {N:Nat} {st:bu} (h:StS S0 S sb st) {t:T} (hk:t.kind=1) (ht:okU N t):∃ mb tv es ck E vv ok,S sb=some (.cells #[.map (some mb),tv] E)/\S mb=some (.map es ck)/\
  ((∃ j,Instr.findNow (.int .i64) (.int .i64 t.n) es.toList 0=some (some (j,.agg (List.toArray vv)))/\ok=true) ∨ (Instr.findNow (.int .i64) (.int .i64 t.n) es.toList 0=some none/\(Value.agg (List.toArray vv))=.agg #[.int .i64 0,.int .i64 0,.string ⟨#[]⟩,.slice none 0 0]/\ok=false))/\
  vv.length=4/\(∀ x∈vv,x.oneCell'=true)/\(ok=true->∃ u,gL st t=some u/\RdT S0 vv u)/\(ok=false->gL st t=none):=by
 obtain ⟨mb,tv,es,ck,E,h1,h2,h3⟩:=h
 obtain ⟨hn0,_⟩:=ht.var hk
 obtain ⟨j,hj⟩:∃ j:Nat,t.n=j:=⟨t.n.toNat,by omega⟩
 have hlk:gL st t=(st[j]?).join:=by rw [gL,if_pos hk,hj,Int.toNat_natCast]
 rw [hj,hlk]
 rcases h3.find j with ⟨q,v,u,cs,hf,rfl,hR,hs⟩|⟨hno,hf⟩
 ·exact ⟨mb,tv,es,ck,E,cs,true,h1,h2,.inl ⟨q,hf,rfl⟩,hR.length,hR.one,fun _=>⟨u,by rw [hs]; rfl,hR⟩,fun h=>by cases h⟩
 ·refine ⟨mb,tv,es,ck,E,[.int .i64 0,.int .i64 0,.string ⟨#[]⟩,.slice none 0 0],false,h1,h2,.inr ⟨hf,rfl,rfl⟩,rfl,by simp [Value.oneCell'],fun h=>(by cases h),fun _=>?_⟩
  cases hs:st[j]? with
  | none=>rfl
  | some o=>
   cases o with
   | none=>rfl
   | some u=>exact absurd hs (hno u)
theorem jw {N:Nat} {st:bu} (hg:Good N st) {t v:T} (hw:dy st t v) (ht:okU N t) {S0 S:ay} {cs:List Value} {sb:Nat} (hst:StS S0 S sb st) (h:RdT S0 cs t) :
  Tri Tryz.prog yZ [.pointer (some ⟨sb,0,none⟩),.agg cs.toArray] [] S fun r I' S'=>S'=S/\I'=[]/\∃ cs',r=.agg cs'.toArray/\RdT S0 cs' v:=by
 intro w hI
 have hI:Inv w [] [] S w:=hI
 obtain ⟨r,hr⟩:=hg.rk
 refine qk ?_
 unfold mF
 refine bN hI fun b3 w' hI=>?_
 refine a9 hI bt fun b4 w' hI=>?_
 have hI:Inv w [] [.blk b3 (.cells cs.toArray ab),.blk b4 (.cells #[.int .i64 0,.int .i64 0,.string ⟨#[]⟩,.slice none 0 0] ab)] S w':=hI
 refine ⟨fun w'=>∃ cs',RdT S0 cs' v/\Inv w [] [.blk b3 (.cells cs'.toArray ab),.blk b4 (.cells #[.int .i64 0,.int .i64 0,.string ⟨#[]⟩,.slice none 0 0] ab)] S w',?_,?_⟩
 ·refine ⟨fun w'=>∃ (t':T) (cs':List Value),dy st t' v/\okU N t'/\RdT S0 cs' t'/\Inv w [] [.blk b3 (.cells cs'.toArray ab),.blk b4 (.cells #[.int .i64 0,.int .i64 0,.string ⟨#[]⟩,.slice none 0 0] ab)] S w',
   fun w'=>vq b3 r st w',⟨t,cs,hw,ht,h,hI⟩,?_⟩
  intro _ _ _ t6 t5 t19 t18 t10 t17 t16 t15 t14 t13 t12 t11 _ _ _ w'
  rintro ⟨t',cs',hw',ht',hcs',hI⟩
  have hrank:=rO hI (i:=0) rfl hcs' r st
  have hcs0:=hcs'
  obtain ⟨kv,rfl,_⟩:=RdT.iff.1 hcs'
  refine ar hI 0 rfl bv bg rfl ?_
  refine bO ?_
  refine bF (fun hk1=>?_) (fun hk1=>?_)
  ·obtain ⟨mb,tv,es,ck,E,vv,ok,hsb,hmb,hfind,hvl,hvo,hyes,hno⟩:=hst.find hk1 ht'
   refine ⟨fun D x6 x5 cz ef lD dD dV fh hH j5 j2 mQ w_=>(D 0=true->mQ=.pointer (some ⟨sb,0,none⟩))/\(D 1=true->j2=.pointer (some ⟨sb,0,none⟩))/\(D 2=true->j5=.pointer (some ⟨sb,0,none⟩))/\(D 3=true->hH=.map (some mb))/\(D 4=true->fh=.pointer (some ⟨b3,1,none⟩))/\(D 5=true->dV=.int .i64 t'.n)/\(D 6=true->dD=.tuple #[.agg vv.toArray,.bool ok])/\(D 7=true->lD=.tuple #[.agg vv.toArray,.bool ok])/\(D 8=true->ef=.agg vv.toArray)/\(D 9=true->cz=.bool ok)/\(D 10=true->True)/\(D 11=true->True)/\(D 12=true->x6=.bool ok)/\∃ b5,(D 10=true->x5=.pointer (some ⟨b5,0,none⟩))/\(D 11=true->D 10=true)/\Inv w [] ([.blk b3 (.cells #[.int .i64 t'.kind,.int .i64 t'.n,.string t'.name,kv] ab),.blk b4 (.cells #[.int .i64 0,.int .i64 0,.string ⟨#[]⟩,.slice none 0 0] ab)]++cond (D 10) [.blk b5 (.cells (cond (D 11) vv.toArray #[.int .i64 0,.int .i64 0,.string ⟨#[]⟩,.slice none 0 0]) ab)] []) S w_,⟨af,af,af,af,af,af,af,af,af,af,af,af,af,⟨0,af,af,hI.draw⟩⟩,⟨?_,?_,?_,?_,?_,?_,?_,?_,?_,?_,?_,?_,?_,trivial⟩,?_⟩
   ·intro D aS  x6 x5 cz ef lD dD dV fh hH j5 j2 mQ w_
    rintro ⟨aA,az,aB,ax,aD,aC,aw,aJ,aN,aR,aq,au,aH,⟨b5,e5,k11,hI⟩⟩
    exact ⟨fun _=>rfl,az,aB,ax,aD,aC,aw,aJ,aN,aR,aq,au,aH,⟨b5,e5,k11,hI⟩⟩
   ·intro D aS cA x6 x5 cz ef lD dD dV fh hH j5 j2 mQ w_
    rintro ⟨aA,az,aB,ax,aD,aC,aw,aJ,aN,aR,aq,au,aH,⟨b5,e5,k11,hI⟩⟩
    obtain rfl:=aA cA
    refine cG ?_
    exact ⟨aA,fun _=>rfl,aB,ax,aD,aC,aw,aJ,aN,aR,aq,au,aH,⟨b5,e5,k11,hI⟩⟩
   ·intro D aS dB x6 x5 cz ef lD dD dV fh hH j5 j2 mQ w_
    rintro ⟨aA,az,aB,ax,aD,aC,aw,aJ,aN,aR,aq,au,aH,⟨b5,e5,k11,hI⟩⟩
    obtain rfl:=az dB
    refine bj vC ?_
    exact ⟨aA,az,fun _=>rfl,ax,aD,aC,aw,aJ,aN,aR,aq,au,aH,⟨b5,e5,k11,hI⟩⟩
   ·intro D aS cM x6 x5 cz ef lD dD dV fh hH j5 j2 mQ w_
    rintro ⟨aA,az,aB,ax,aD,aC,aw,aJ,aN,aR,aq,au,aH,⟨b5,e5,k11,hI⟩⟩
    obtain rfl:=aB cM
    refine eE (by decide +kernel) (by rw [hI.cellS hsb]; rfl) ?_
    exact ⟨aA,az,aB,fun _=>rfl,aD,aC,aw,aJ,aN,aR,aq,au,aH,⟨b5,e5,k11,hI⟩⟩
   ·intro D aS  x6 x5 cz ef lD dD dV fh hH j5 j2 mQ w_
    rintro ⟨aA,az,aB,ax,aD,aC,aw,aJ,aN,aR,aq,au,aH,⟨b5,e5,k11,hI⟩⟩
    refine bj bn ?_
    exact ⟨aA,az,aB,ax,fun _=>rfl,aC,aw,aJ,aN,aR,aq,au,aH,⟨b5,e5,k11,hI⟩⟩
   ·intro D aS fO x6 x5 cz ef lD dD dV fh hH j5 j2 mQ w_
    rintro ⟨aA,az,aB,ax,aD,aC,aw,aJ,aN,aR,aq,au,aH,⟨b5,e5,k11,hI⟩⟩
    obtain rfl:=aD fO
    refine bB hI 0 bg rfl rfl ?_
    exact ⟨aA,az,aB,ax,aD,fun _=>rfl,aw,aJ,aN,aR,aq,au,aH,⟨b5,e5,k11,hI⟩⟩
   ·intro D aS dh eF x6 x5 cz ef lD dD dV fh hH j5 j2 mQ w_
    rintro ⟨aA,az,aB,ax,aD,aC,aw,aJ,aN,aR,aq,au,aH,⟨b5,e5,k11,hI⟩⟩
    obtain rfl:=ax dh
    obtain rfl:=aC eF
    refine qh (ok:=ok) (v:=.agg vv.toArray) (hI.pub _ _ hmb).1 gK gJ bt hfind ?_
    exact ⟨aA,az,aB,ax,aD,aC,fun _=>rfl,aJ,aN,aR,aq,au,aH,⟨b5,e5,k11,hI⟩⟩
   ·intro D aS bW x6 x5 cz ef lD dD dV fh hH j5 j2 mQ w_
    rintro ⟨aA,az,aB,ax,aD,aC,aw,aJ,aN,aR,aq,au,aH,⟨b5,e5,k11,hI⟩⟩
    obtain rfl:=aw bW
    exact ⟨aA,az,aB,ax,aD,aC,aw,fun _=>rfl,aN,aR,aq,au,aH,⟨b5,e5,k11,hI⟩⟩
   ·intro D aS eo x6 x5 cz ef lD dD dV fh hH j5 j2 mQ w_
    rintro ⟨aA,az,aB,ax,aD,aC,aw,aJ,aN,aR,aq,au,aH,⟨b5,e5,k11,hI⟩⟩
    obtain rfl:=aJ eo
    refine aT rfl ?_
    exact ⟨aA,az,aB,ax,aD,aC,aw,aJ,fun _=>rfl,aR,aq,au,aH,⟨b5,e5,k11,hI⟩⟩
   ·intro D aS eo x6 x5 cz ef lD dD dV fh hH j5 j2 mQ w_
    rintro ⟨aA,az,aB,ax,aD,aC,aw,aJ,aN,aR,aq,au,aH,⟨b5,e5,k11,hI⟩⟩
    obtain rfl:=aJ eo
    refine aT rfl ?_
    exact ⟨aA,az,aB,ax,aD,aC,aw,aJ,aN,fun _=>rfl,aq,au,aH,⟨b5,e5,k11,hI⟩⟩
   ·intro D aS  x6 x5 cz ef lD dD dV fh hH j5 j2 mQ w_
    rintro ⟨aA,az,aB,ax,aD,aC,aw,aJ,aN,aR,aq,au,aH,⟨b5,e5,k11,hI⟩⟩
    have f11:D 11=false:=Bool.eq_false_iff.2 fun h=>by rw [k11 h] at aS; cases aS
    rw [aS] at hI
    refine a9 hI bt fun b5 w_ hI=>?_
    have e5:=fun (_:ao D 10 10=true)=>(rfl:Value.pointer (some ⟨b5,0,none⟩)=_)
    have k11:=fun (_:ao D 10 11=true)=>(rfl:ao D 10 10=true)
    have hI:Inv w [] ([.blk b3 (.cells #[.int .i64 t'.kind,.int .i64 t'.n,.string t'.name,kv] ab),.blk b4 (.cells #[.int .i64 0,.int .i64 0,.string ⟨#[]⟩,.slice none 0 0] ab)]++cond true [.blk b5 (.cells (cond (D 11) vv.toArray #[.int .i64 0,.int .i64 0,.string ⟨#[]⟩,.slice none 0 0]) ab)] []) S w_:=by rw [f11]; exact hI
    exact ⟨aA,az,aB,ax,aD,aC,aw,aJ,aN,aR,fun _=>by first|assumption|trivial,au,aH,⟨b5,e5,k11,hI⟩⟩
   ·intro D aS jP fT kS mL kN qx oV th ug Hw Jt LG x6 x5 cz ef lD dD dV fh hH j5 j2 mQ w_
    rintro ⟨aA,az,aB,ax,aD,aC,aw,aJ,aN,aR,aq,au,aH,⟨b5,e5,k11,hI⟩⟩
    have EZ:=aq jP
    obtain rfl:=aN fT
    have q5:=e5 jP
    subst q5
    rw [aS,jP] at hI
    refine aM hI 2 rfl ag (by simpa using hvl) rfl (by simpa using hvo) fun w_ hI=>?_
    have k11:=fun (_:ao D 11 11=true)=>jP
    have hI:Inv w [] ([.blk b3 (.cells #[.int .i64 t'.kind,.int .i64 t'.n,.string t'.name,kv] ab),.blk b4 (.cells #[.int .i64 0,.int .i64 0,.string ⟨#[]⟩,.slice none 0 0] ab)]++cond (D 10) [.blk b5 (.cells (cond true vv.toArray #[.int .i64 0,.int .i64 0,.string ⟨#[]⟩,.slice none 0 0]) ab)] []) S w_:=by rw [jP]; exact hI
    exact ⟨aA,az,aB,ax,aD,aC,aw,aJ,aN,aR,aq,fun _=>trivial,aH,⟨b5,e5,k11,hI⟩⟩
   ·intro D aS o3 Ns kS mL kN qx oV th ug Hw Jt Lb LF Ln x6 x5 cz ef lD dD dV fh hH j5 j2 mQ w_
    rintro ⟨aA,az,aB,ax,aD,aC,aw,aJ,aN,aR,aq,au,aH,⟨b5,e5,k11,hI⟩⟩
    obtain rfl:=aR o3
    exact ⟨aA,az,aB,ax,aD,aC,aw,aJ,aN,aR,aq,au,fun _=>rfl,⟨b5,e5,k11,hI⟩⟩
   intro D jV gw fg jA g7 gc fj ft fL fX fM fP fY x6 x5 cz ef lD dD dV fh hH j5 j2 mQ w_
   rintro ⟨aA,az,aB,ax,aD,aC,aw,aJ,aN,aR,aq,au,aH,⟨b5,e5,k11,hI⟩⟩
   obtain rfl:=aH jV
   have EZ:=aq fg
   obtain rfl:=aR jA
   obtain rfl:=aN g7
   obtain rfl:=aJ gc
   obtain rfl:=aw fj
   obtain rfl:=aC ft
   obtain rfl:=aD fL
   obtain rfl:=ax fX
   obtain rfl:=aB fM
   obtain rfl:=az fP
   obtain rfl:=aA fY
   clear aA az aB ax aD aC aw aJ aN aR aq au aH
   have q5:=e5 fg
   subst q5
   rw [fg,gw] at hI
   have hI:Inv w [] [.blk b3 (.cells #[.int .i64 t'.kind,.int .i64 t'.n,.string t'.name,kv] ab),.blk b4 (.cells #[.int .i64 0,.int .i64 0,.string ⟨#[]⟩,.slice none 0 0] ab),.blk b5 (.cells vv.toArray ab)] S w_:=hI
   refine cN ?_
   refine a7 (fun hb=>?_) (fun hb=>?_)
   ·have hok:ok=false:=by simpa using hb
    have hl:=hno hok
    have hv:v=t':=by
     cases hw' with
     | stop _=>rfl
     | step h1 _=>rw [h1] at hl; cases hl
    subst hv
    exact ⟨_,hcs0,hI.pick [true,true,false]⟩
   ·have hok:ok=true:=by simpa using hb
    obtain ⟨u,hl,hRu⟩:=hyes hok
    have hwu:dy st u v:=by
     cases hw' with
     | stop h0=>rw [hl] at h0; cases h0
     | step h1 h2=>rw [hl,Option.some.injEq] at h1; rw [h1]; exact h2
    refine aO hI 2 ag rfl (by simpa using hvl) ?_
    refine aM hI 0 rfl ag (by simpa using hvl) rfl (by simpa using hvo) fun w' hI=>?_
    have hI:Inv w [] [.blk b3 (.cells vv.toArray ab),.blk b4 (.cells #[.int .i64 0,.int .i64 0,.string ⟨#[]⟩,.slice none 0 0] ab)] S w':=hI.pick [true,true,false]
    refine ⟨⟨u,vv,hwu,(hg.look_ok hl).1,hRu,hI⟩,?_⟩
    have hrank2:=rO hI (i:=0) rfl hRu r st
    show vq b3 r st w'<vq b3 r st _
    have hl1:(gL st t').isSome=true:=by rw [hl]; rfl
    rw [hrank,hrank2,if_pos hl1]
    split
    ·rename_i hl2
     obtain ⟨u2,hl2⟩:=Option.isSome_iff_exists.1 hl2
     have:=hr _ u (dK.1 hl).2 u.n.toNat (by rw [iK (dK.1 hl2).1]; exact List.mem_singleton.2 rfl)
     omega
    ·omega
  ·have hv:v=t':=by
    cases hw' with
    | stop _=>rfl
    | step h1 _=>exact absurd (dK.1 h1).1 hk1
   subst hv
   exact ⟨_,hcs0,hI⟩
 ·intro _ _ _ _ _ _ _ _ _ _ _ _ _ _ _ _ _ _ w'
  rintro ⟨cs',hcs',hI⟩
  have hlc:=hcs'.length
  refine aO hI 0 ag rfl (by simpa using hlc) ?_
  refine aM hI 1 rfl ag (by simpa using hlc) rfl (by simpa using hcs'.one) fun w' hI=>?_
  refine bA hI 1 ag rfl (by simpa using hlc) ?_
  exact ⟨_,_,_,rfl,hI.nil,Ext.refl _ _ _,rfl,rfl,_,rfl,hcs'⟩
/- the variables that impl.occurs has met -/
def MetM (es:Array MapEntry) (met:Nat->Prop):Prop:=(∀ e∈es.toList,∃ n:Nat,e.key=.int .i64 n/\e.val=.bool true/\met n)/\∀ n,met n->∃ e∈es.toList,e.key=.int .i64 (n:Nat)
theorem MetM.find {es:Array MapEntry} {met:Nat->Prop} (h:MetM es met) (n:Nat):(met n/\∃ j,Instr.findNow (.int .i64) (.int .i64 n) es.toList 0=some (some (j,.bool true))) ∨ (¬ met n/\Instr.findNow (.int .i64) (.int .i64 n) es.toList 0=some none):=by
 rcases nM (n:=n) es.toList 0 (fun e he=>by obtain ⟨m,hk,_⟩:=h.1 e he; exact ⟨m,hk⟩) with ⟨j,e,he,hk,hf⟩|⟨hk,hf⟩
 ·obtain ⟨m,hk2,hv,hm⟩:=h.1 e he
  rw [hk] at hk2
  simp only [Value.int.injEq,true_and] at hk2
  have:n=m:=by omega
  subst this
  rw [hv] at hf
  exact .inl ⟨hm,j,hf⟩
 ·refine .inr ⟨fun hm=>?_,hf⟩
  obtain ⟨e,he,hk2⟩:=h.2 n hm
  exact hk e he hk2
theorem MetM.push {es:Array MapEntry} {met:Nat->Prop} (h:MetM es met) (n:Nat) (ck:Nat):MetM (es.push { key:=.int .i64 n,val:=.bool true,born:=ck }) (fun m=>met m ∨ m=n):=by
 refine ⟨fun e he=>?_,fun m hm=>?_⟩
 ·rw [Array.toList_push] at he
  rcases List.mem_append.1 he with he|he
  ·obtain ⟨m,hk,hv,hm⟩:=h.1 e he
   exact ⟨m,hk,hv,.inl hm⟩
  ·simp at he
   subst he
   exact ⟨n,rfl,rfl,.inr rfl⟩
 ·rw [Array.toList_push]
  rcases hm with hm|rfl
  ·obtain ⟨x,hx,hk⟩:=h.2 m hm
   exact ⟨x,List.mem_append_left _ hx,hk⟩
  ·exact ⟨_,List.mem_append_right _ (List.mem_singleton.2 rfl),rfl⟩
theorem MetM.empty:MetM #[] (fun _=>False):=⟨fun e he=>by simp at he,fun n h=>h.elim⟩
theorem Ba {st:bu} {r:Nat->Nat} (hr:∀ (n:Nat) (u:T),st[n]?=some (some u)->∀ m∈vT u,r m<r n) {t v:T} (hw:dy st t v):∀ u,gL st t=some u->∀ y∈vT v,r y<r t.n.toNat:=by
 induction hw with
 | stop h=>intro u hu; rw [h] at hu; cases hu
 | step hl hw' ih=>
  rename_i t u v
  intro u' _ y hy
  have h1:=hr _ u (dK.1 hl).2
  cases hl2:gL st u with
  | none=>
   have:v=u:=by
    cases hw' with
    | stop _=>rfl
    | step h3 _=>rw [h3] at hl2; cases hl2
   subst this
   exact h1 y hy
  | some u2=>
   have h2:=ih u2 hl2 y hy
   have h3:=h1 u.n.toNat (by rw [iK (dK.1 hl2).1]; exact List.mem_singleton.2 rfl)
   omega
theorem EX {N:Nat} {st:bu} {t v:T} (h:Good N st) (hw:dy st t v) (ht:okU N t):okU N v:=by
 induction hw with
 | stop=>exact ht
 | step hl _ ih=>exact ih (h.look_ok hl).1
theorem Kb {st:bu} {r:Nat->Nat} (hr:∀ (n:Nat) (u:T),st[n]?=some (some u)->∀ m∈vT u,r m<r n) {a c:Nat} (h:Rch st a c):r c<=r a:=by
 induction h with
 | refl=>exact Nat.le_refl _
 | step h1 h2 _ ih=>have:=hr _ _ h1 _ h2; omega
theorem FE {st:bu} {t v:T} (hw:dy st t v):∀ u,gL st t=some u->∀ y∈vT v,Rch st t.n.toNat y:=by
 induction hw with
 | stop h=>intro u hu; rw [h] at hu; cases hu
 | step hl hw' ih=>
  rename_i t u v
  intro u' _ y hy
  cases hl2:gL st u with
  | none=>
   have:v=u:=by
    cases hw' with
    | stop _=>rfl
    | step h3 _=>rw [h3] at hl2; cases hl2
   subst this
   exact .step (dK.1 hl).2 hy (.refl y)
  | some u2=>exact .step (dK.1 hl).2 (by rw [iK (dK.1 hl2).1]; exact List.mem_singleton.2 rfl) (ih u2 hl2 y hy)
/- what impl.occurs does -/
def OC (st:bu) (sb n:Nat) (t:T):Prop:=∀ (S0 S:ay) (cs:List Value) (mm ck:Nat) (es:Array MapEntry) (met:Nat->Prop),Sle S0 S->StS S0 S sb st->RdT S0 cs t->MetM es met->(∀ m,met m->(∃ x∈vT t,Rch st x m)->¬ Rch st m n)->
 Tri Tryz.prog tD [.pointer (some ⟨sb,0,none⟩),.int .i64 n,.agg cs.toArray,.map (some mm)] [.blk mm (.map es ck)] S fun r I' S'=>S'=S/\∃ es' ck',I'=[.blk mm (.map es' ck')]/\
  ((fi st n t/\r=.bool true) ∨ (¬ fi st n t/\r=.bool false/\∃ met',MetM es' met'/\(∀ m,met m->met' m)/\∀ m,met' m->met m ∨ ¬ Rch st m n))
theorem zk {st:bu} {sb n:Nat} {t:T} (hoc:OC st sb n t) {S0 S:ay} {cs:List Value} {mm ck b4 b5 b7:Nat} {E4 E5 E7:TypeId} {es:Array MapEntry} {met:Nat->Prop} (hle:Sle S0 S) (hst:StS S0 S sb st) (h:RdT S0 cs t) (hm:MetM es met)
  (hpre:∀ m,met m->(∃ x∈vT t,Rch st x m)->¬ Rch st m n) (h4:S b4=some (.cells #[.pointer (some ⟨sb,0,none⟩)] E4)) (h5:S b5=some (.cells #[.int .i64 n] E5)) (h7:S b7=some (.cells #[.map (some mm)] E7)) :
  Tri Tryz.prog pX [.agg cs.toArray,.pointer (some ⟨b4,0,none⟩),.pointer (some ⟨b5,0,none⟩),.pointer (some ⟨b7,0,none⟩)] [.blk mm (.map es ck)] S fun r I' S'=>S'=S/\∃ es' ck',I'=[.blk mm (.map es' ck')]/\
  ((fi st n t/\r=.bool true) ∨ (¬ fi st n t/\r=.bool false/\∃ met',MetM es' met'/\(∀ m,met m->met' m)/\∀ m,met' m->met m ∨ ¬ Rch st m n)):=by
 intro w hI
 have hlc:=h.length
 obtain ⟨X,hX⟩:∃ X,X=bS [Item.blk mm (.map es ck)]:=⟨_,rfl⟩
 rw [<- hX] at hI ⊢
 refine ma ?_
 unfold jo
 refine bN hI fun b1 w' hI=>?_
 have hI:Inv w X ([.blk b1 (.cells cs.toArray ab)]++[.blk mm (.map es ck)]) S w':=hI.perm (List.Perm.swap ..)
 refine eE qq (by rw [hI.cellS h4]; rfl) ?_
 refine eE bg (by rw [hI.cellS h5]; rfl) ?_
 refine aO hI 0 ag rfl (by simpa using hlc) ?_
 refine eE (by decide +kernel) (by rw [hI.cellS h7]; rfl) ?_
 refine Run.callE hY ig hI (hoc S0 S cs mm ck es met hle hst h hm hpre) fun v' I' S' w'=>?_
 rintro ⟨eS,es',ck',rfl,hres⟩ _ hI
 rw [eS] at hI
 exact ⟨_,_,_,rfl,hI.pick [false,true],Ext.refl _ _ _,rfl,es',ck',rfl,hres⟩
theorem DZ {N:Nat} {st:bu} (hg:Good N st) {sb n:Nat} (hn:∀ u,st[n]?≠some (some u)) (hnN:n<1000000000) {t v:T} (ho:okU N t) (hwv:dy st t v)
  (hv:t.kind=1->v.kind≠1->OC st sb n v) (hk:t.kind≠1->∀ x∈t.kids,OC st sb n x):OC st sb n t:=by
 intro S0 S cs mm ck es met hle hst h hmet hpre w hI
 have hlc:=h.length
 obtain ⟨X,hX⟩:∃ X,X=bS [Item.blk mm (.map es ck)]:=⟨_,rfl⟩
 rw [<- hX] at hI ⊢
 have h0:=h
 obtain ⟨kv,rfl,_,_,_,hks⟩:=RdT.iff.1 h
 refine oJ ?_
 unfold ki
 refine bN hI fun b4 w' hI=>?_
 refine bN hI fun b5 w' hI=>?_
 refine bN hI fun b6 w' hI=>?_
 refine bN hI fun b7 w' hI=>?_
 have hI:Inv w X [.blk mm (.map es ck),.blk b4 (.cells #[.pointer (some ⟨sb,0,none⟩)] jC),.blk b5 (.cells #[.int .i64 n] dw),.blk b6 (.cells #[.int .i64 t.kind,.int .i64 t.n,.string t.name,kv] ab),.blk b7 (.cells #[.map (some mm)] gX)] S w':=hI
 refine ar hI 3 rfl bv bg rfl ?_
 refine bO ?_
 refine bF (fun hk1=>?_) (fun hk1=>?_)
 ·obtain ⟨hn0,_⟩:=ho.var hk1
  obtain ⟨j,hj⟩:∃ j:Nat,t.n=j:=⟨t.n.toNat,by omega⟩
  have hvt:vT t=[j]:=by rw [iK hk1,hj,Int.toNat_natCast]
  have hzb:iJ Tryz.prog Ga=some (.bool false):=by kernel_rfl
  have hun:Tryz.prog.underlying gX=some (.map dw Ga):=by kernel_rfl
  refine bB hI 4 (by decide +kernel) rfl rfl ?_
  refine ar hI 3 rfl bn bg rfl ?_
  rw [hj] at hI ⊢
  rcases hmet.find j with ⟨hmj,q,hf⟩|⟨hmj,hf⟩
  ·refine qh (c:=false) (ok:=true) (v:=.bool true) (hI.its (.blk mm (.map es ck)) (by simp)) hun gJ hzb (.inl ⟨q,hf,rfl⟩) ?_
   refine a7 (fun _=>?_) (fun hb=>by cases hb)
   have hno:¬ fi st n t:=by
    rintro ⟨x,hx,hr⟩
    have hxj:=hx
    rw [hvt,List.mem_singleton] at hxj
    subst hxj
    exact hpre x hmj ⟨x,hx,.refl x⟩ hr
   exact ⟨_,_,_,rfl,hI.pick [true,false,false,false,false],Ext.refl _ _ _,rfl,es,ck,rfl,.inr ⟨hno,rfl,met,hmet,fun _ h=>h,fun _ h=>.inl h⟩⟩
  refine qh (c:=false) (ok:=false) (v:=.bool false) (hI.its (.blk mm (.map es ck)) (by simp)) hun gJ hzb (.inr ⟨hf,rfl,rfl⟩) ?_
  refine a7 (fun hb=>by cases hb) (fun _=>?_)
  refine bB hI 4 (by decide +kernel) rfl rfl ?_
  refine ar hI 3 rfl bn bg rfl ?_
  refine zf hI 0 hun gJ rfl hf fun w' hI=>?_
  have hmet2:=hmet.push j ck
  generalize hes2:es.push { key:=.int .i64 (j:Int),val:=.bool true,born:=ck }=es2 at hmet2
  rw [hes2] at hI
  have hI:Inv w X [.blk mm (.map es2 (ck+1)),.blk b4 (.cells #[.pointer (some ⟨sb,0,none⟩)] jC),.blk b5 (.cells #[.int .i64 n] dw),.blk b6 (.cells #[.int .i64 t.kind,.int .i64 j,.string t.name,kv] ab),.blk b7 (.cells #[.map (some mm)] gX)] S w':=hI
  refine bB hI 1 qq rfl rfl ?_
  refine aO hI 3 ag rfl rfl ?_
  rw [hj] at h0
  refine Run.call0 gT gQ hI (jw hg hwv ho hst h0) fun v' I' S' w'=>?_
  rintro ⟨eS,rfl,cs',rfl,hcs'⟩ _ hI
  rw [eS] at hI
  clear eS
  have hlc':=hcs'.length
  refine a9 hI bt fun b9 w' hI=>?_
  have hI:Inv w X [.blk mm (.map es2 (ck+1)),.blk b4 (.cells #[.pointer (some ⟨sb,0,none⟩)] jC),.blk b5 (.cells #[.int .i64 n] dw),.blk b6 (.cells #[.int .i64 t.kind,.int .i64 j,.string t.name,kv] ab),.blk b7 (.cells #[.map (some mm)] gX),.blk b9 _] S w':=hI
  refine aM hI 5 rfl ag (by simpa using hlc') rfl (by simpa using hcs'.one) fun w' hI=>?_
  have hcs0:=hcs'
  obtain ⟨kv',rfl,_⟩:=RdT.iff.1 hcs'
  have hI:Inv w X [.blk mm (.map es2 (ck+1)),.blk b4 (.cells #[.pointer (some ⟨sb,0,none⟩)] jC),.blk b5 (.cells #[.int .i64 n] dw),.blk b6 (.cells #[.int .i64 t.kind,.int .i64 j,.string t.name,kv] ab),.blk b7 (.cells #[.map (some mm)] gX),.blk b9 (.cells #[.int .i64 v.kind,.int .i64 v.n,.string v.name,kv'] ab)] S w':=hI
  have hocc:=JQ hwv hn
  have hmj2:∀ m,(met m ∨ m=j)->¬ fi st n t->met m ∨ ¬ Rch st m n:=by
   rintro m (hm|rfl) hno
   ·exact .inl hm
   ·exact .inr fun hr=>hno ⟨m,by rw [hvt]; exact List.mem_singleton.2 rfl,hr⟩
  refine ar hI 5 rfl bv bg rfl ?_
  refine bO ?_
  refine bF (fun hv1=>?_) (fun hv1=>?_)
  ·refine ar hI 5 rfl bn bg rfl ?_
   refine bB hI 2 bg rfl rfl ?_
   refine bO ?_
   have hiff:fi st n v↔v.n.toNat=n:=by
    have hfree:=uz.1 (iO hwv) hv1
    constructor
    ·rintro ⟨x,hx,hr⟩
     rw [iK hv1,List.mem_singleton] at hx
     subst hx
     cases hr with
     | refl=>rfl
     | step h1 _ _=>
      rcases hfree with e|e
      ·rw [e] at h1; cases h1
      ·rw [e] at h1; cases h1
    ·intro e
     exact ⟨n,by rw [iK hv1,e]; exact List.mem_singleton.2 rfl,.refl n⟩
   have hvn0:0<=v.n:=by
    exact ((EX hg hwv ho).var hv1).1
   have hres:decide (v.n=(n:Int))=decide (v.n.toNat=n):=by
    rw [Bool.eq_iff_iff,decide_eq_true_eq,decide_eq_true_eq]
    omega
   rw [hres]
   refine ⟨_,_,_,rfl,hI.pick [true,false,false,false,false,false],Ext.refl _ _ _,rfl,es2,ck+1,rfl,?_⟩
   by_cases e:v.n.toNat=n
   ·left
    exact ⟨hocc.2 (hiff.2 e),by rw [decide_eq_true e]⟩
   ·right
    have hno:¬ fi st n t:=fun h=>e (hiff.1 (hocc.1 h))
    exact ⟨hno,by rw [decide_eq_false e],_,hmet2,fun m hm=>.inl hm,fun m hm=>hmj2 m hm hno⟩
  ·refine bB hI 1 qq rfl rfl ?_
   refine bB hI 2 bg rfl rfl ?_
   refine aO hI 5 ag rfl rfl ?_
   refine bB hI 4 (by decide +kernel) rfl rfl ?_
   have hI:Inv w X ([.blk b4 (.cells #[.pointer (some ⟨sb,0,none⟩)] jC)]++[.blk mm (.map es2 (ck+1))]) S w':=(hI.pick [true,true,false,false,false,false]).perm (List.Perm.swap ..)
   have hlk:∃ u,gL st t=some u:=by
    cases hl:gL st t with
    | some u=>exact ⟨u,rfl⟩
    | none=>
     have:v=t:=by
      cases hwv with
      | stop _=>rfl
      | step h1 _=>rw [h1] at hl; cases hl
     rw [this] at hv1
     exact absurd hk1 hv1
   obtain ⟨u,hl⟩:=hlk
   obtain ⟨rk,hrk⟩:=hg.rk
   have hwr:=Ba hrk hwv u hl
   have hpre2:∀ m,(met m ∨ m=j)->(∃ x∈vT v,Rch st x m)->¬ Rch st m n:=by
    rintro m (hm|rfl) ⟨x,hx,hr⟩
    ·refine hpre m hm ⟨j,by rw [hvt]; exact List.mem_singleton.2 rfl,?_⟩
     have h1:=FE hwv u hl x hx
     rw [hj,Int.toNat_natCast] at h1
     exact h1.trans hr
    ·exfalso
     have h1:=hwr x hx
     have h2:=Kb hrk hr
     rw [hj,Int.toNat_natCast] at h1
     omega
   refine Run.callE hY ig hI (hv hk1 hv1 S0 S _ mm (ck+1) es2 _ hle hst hcs0 hmet2 hpre2) fun v' I' S' w'=>?_
   rintro ⟨eS,es3,ck3,rfl,hres⟩ _ hI
   rw [eS] at hI
   refine ⟨_,_,_,rfl,hI.pick [false,true],Ext.refl _ _ _,rfl,es3,ck3,rfl,?_⟩
   rcases hres with ⟨h1,rfl⟩|⟨h1,rfl,met3,hm3,h2,h3⟩
   ·exact .inl ⟨hocc.2 h1,rfl⟩
   ·have hno:¬ fi st n t:=fun h=>h1 (hocc.1 h)
    refine .inr ⟨hno,rfl,met3,hm3,fun m hm=>h2 m (.inl hm),fun m hm=>?_⟩
    rcases h3 m hm with h4|h4
    ·exact hmj2 m h4 hno
    ·exact .inr h4
 ·refine ar hI 3 rfl aP aL rfl ?_
  refine qc ?_
  have hvt:vT t=vTL t.kids:=xr hk1
  have hI:Inv w X ([.blk mm (.map es ck)]++bw [(b4,.cells #[.pointer (some ⟨sb,0,none⟩)] jC),(b5,.cells #[.int .i64 n] dw),(b7,.cells #[.map (some mm)] gX)]) S w':=hI.pick [true,true,true,false,true]
  obtain ⟨S1,hle1,hins,hI1,hback⟩:=Inv.lendAll _ hI
  have h4:=hins _ (List.mem_cons_self ..)
  have h5:=hins _ (List.mem_cons_of_mem _ (List.mem_cons_self ..))
  have h7:=hins _ (List.mem_cons_of_mem _ (List.mem_cons_of_mem _ (List.mem_cons_self ..)))
  have hI1:Inv w X ([]++[.blk mm (.map es ck)]) S1 w':=hI1
  refine Run.callE (A:=[]) fI fJ hI1 (uN oR oU (hle.trans hle1) hks
   (J:=fun i I=>∃ es' ck' met',I=[.blk mm (.map es' ck')]/\MetM es' met'/\(∀ m,met m->met' m)/\(∀ m,met' m->met m ∨ ¬ Rch st m n)/\∀ k (_:k<t.kids.length),k<i->¬ fi st n t.kids[k])
   (Fin:=fun I=>∃ es' ck',I=[.blk mm (.map es' ck')]/\fi st n t) ?_ ⟨es,ck,met,rfl,hmet,fun _ h=>h,fun _ h=>.inl h,fun k _ h=>by omega⟩) fun v' I2 S2 w'=>?_
  ·rintro i hi cs I hcs ⟨es',ck',met',rfl,hm',hsub,hnew,hdone⟩
   have hpre2:∀ m,met' m->(∃ x∈vT t.kids[i],Rch st x m)->¬ Rch st m n:=by
    rintro m hm ⟨x,hx,hr⟩
    rcases hnew m hm with h1|h1
    ·exact hpre m h1 ⟨x,by rw [hvt]; exact mf.2 ⟨_,List.getElem_mem hi,hx⟩,hr⟩
    ·exact h1
   intro w1 hI1
   refine (zk (hk hk1 _ (List.getElem_mem hi)) (hle.trans hle1) (hst.mono hle1) hcs hm' hpre2 h4 h5 h7 w1 hI1).mono ?_
   rintro e w2 ⟨v',I',S',rfl,hI2,hE,hS,es3,ck3,rfl,hres⟩
   refine ⟨_,_,_,rfl,hI2,hE,hS,?_⟩
   rcases hres with ⟨h1,rfl⟩|⟨h1,rfl,met3,hm3,h2,h3⟩
   ·obtain ⟨x,hx,hr⟩:=h1
    exact ⟨true,rfl,fun _=>⟨es3,ck3,rfl,x,by rw [hvt]; exact mf.2 ⟨_,List.getElem_mem hi,hx⟩,hr⟩,fun e=>by cases e⟩
   ·refine ⟨false,rfl,fun e=>(by cases e),fun _=>⟨es3,ck3,met3,rfl,hm3,fun m hm=>h2 m (hsub m hm),fun m hm=>?_,fun k hk2 hki=>?_⟩⟩
    ·rcases h3 m hm with h4|h4
     ·exact hnew m h4
     ·exact .inr h4
    ·by_cases e:k=i
     ·subst e; exact h1
     ·exact hdone k hk2 (by omega)
  rintro ⟨eS,b,rfl,hb1,hb2⟩ _ hI
  rw [eS] at hI
  have hI:Inv w X I2 S1 w':=hI
  have hI:=hback _ _ hI
  cases b with
  | true=>
   obtain ⟨es',ck',rfl,hocc⟩:=hb1 rfl
   exact ⟨_,_,_,rfl,hI.sub (List.sublist_append_left _ _),Ext.refl _ _ _,rfl,es',ck',rfl,.inl ⟨hocc,rfl⟩⟩
  | false=>
   obtain ⟨es',ck',met',rfl,hm',hsub,hnew,hdone⟩:=hb2 rfl
   have hno:¬ fi st n t:=by
    rintro ⟨x,hx,hr⟩
    rw [hvt] at hx
    obtain ⟨y,hy,hx⟩:=mf.1 hx
    obtain ⟨k,hk2,rfl⟩:=List.mem_iff_getElem.1 hy
    exact hdone k hk2 hk2 ⟨x,hx,hr⟩
   exact ⟨_,_,_,rfl,hI.sub (List.sublist_append_left _ _),Ext.refl _ _ _,rfl,es',ck',rfl,.inr ⟨hno,rfl,met',hm',hsub,hnew⟩⟩
theorem BO {N:Nat} {st:bu} (hg:Good N st) {sb n:Nat} (hn:∀ u,st[n]?≠some (some u)) (hnN:n<1000000000):∀ t:T,okU N t->OC st sb n t:=by
 obtain ⟨rk,hrk⟩:=hg.rk
 have hone:∀ (m:Nat) (a:T),(∀ x∈vT a,∀ u,st[x]?=some (some u)->rk x<m)->okU N a->OC st sb n a:=by
  intro m
  induction m using Nat.strongRecOn with
  | _ m ihm=>
   refine T.ind fun k n' s ks ih hr ho=>?_
   obtain ⟨v,hwv⟩:=HR hg (.mk k n' s ks)
   refine DZ hg hn hnN ho hwv (fun hk1 hv1=>?_) (fun hk1 x hx=>?_)
   ·cases hl:gL st (.mk k n' s ks) with
    | none=>
     have:v=.mk k n' s ks:=by
      cases hwv with
      | stop _=>rfl
      | step h1 _=>rw [h1] at hl; cases hl
     rw [this] at hv1
     exact absurd hk1 hv1
    | some u=>
     have hs:=(dK.1 hl).2
     have hlt:=hr _ (by rw [iK hk1]; exact List.mem_singleton.2 rfl) u hs
     exact ihm _ hlt v (fun x hx _ _=>Ba hrk hwv u hl x hx) (EX hg hwv ho)
   ·exact ih x hx (fun y hy u hs=>hr y (by rw [xr hk1]; exact mf.2 ⟨x,hx,hy⟩) u hs) (jL ho.kids x hx)
 have hM:∀ l:List Nat,∃ M,∀ m∈l,rk m<M:=by
  intro l
  induction l with
  | nil=>exact ⟨0,by simp⟩
  | cons x l ih=>
   obtain ⟨M,hM⟩:=ih
   refine ⟨M+rk x+1,fun m hm=>?_⟩
   rcases List.mem_cons.1 hm with rfl|hm
   ·omega
   ·have:=hM m hm; omega
 intro t ho
 obtain ⟨M,hM⟩:=hM (vT t)
 exact hone M t (fun x hx _ _=>hM x hx) ho
end

end Go.Proofs.YtnmnddpdikghhaaGreat
