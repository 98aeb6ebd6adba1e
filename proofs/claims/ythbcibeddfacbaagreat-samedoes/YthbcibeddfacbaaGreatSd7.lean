/- What comes out of same does what the unit by numbers does, at no more cost, with no less fuel left; and the other way round. No conditions. -/
import Derived.Test.YthbcibeddfacbaaGreatSd6
set_option maxRecDepth 8000
set_option maxHeartbeats 2000000
set_option linter.unusedSimpArgs false
set_option linter.unusedVariables false
set_option linter.unusedSectionVars false
namespace Go.Proofs.YthbcibeddfacbaaGreat
open Go
theorem y6w (l:List UInt8):∀ d,d<=100->LSCg l d
  | 0,h=>fun seen p g h1 h2 h3 h4 h5=>y2u l 0 h (fun m e=>by omega) seen p g h1 h2 h3 h4 h5
  | d+1,h=>fun seen p g h1 h2 h3 h4 h5=>y2u l (d+1) h (fun m e=>by obtain rfl:d=m:=oM0;exact y6w l d oM0) seen p g h1 h2 h3 h4 h5
theorem yg3 (l:List UInt8) (seen:List Int) (p:Plc) (g:Gn) (h1:InR g.types seen) (h2:p.small) (h3:g.pos+60*g.left<=900000) (h4:g.types.length+10*g.left<=900000) (h5:seen.length+10*g.left<=900000) :
    SC Tryz.prog 36 [.ptr 2001 0,.sl 2005 (seen.map eInt).length,.pv (plcv p),iInt 3] (gHr 2005 l g seen) (fun _=>False) (.pv (z0o (z2y l 3 seen p g).1)) (gHr 2005 l (z2y l 3 seen p g).2 seen):=SC.sw 2003 2005 (y6w l 3 oM0 seen p g h1 h2 h3 h4 h5)
def genF (l:List UInt8) (g:Gn) (ty:PV):HO:=.box [.pv (bts l),iInt (g.pos:Int),.pv ty,iInt (g.left:Int)]
theorem plc0_sub:PSub (.agg [vBool false,vBool false,.val (.slice none 0 0),.val (.slice none 0 0),.val (.slice none 0 0)]) (plcv plc0):=z18 [vBool false,vBool false,.val (.slice none 0 0),.val (.slice none 0 0),.val (.slice none 0 0)]
theorem y6v (l:List UInt8) (name:ByteArray) (params:List Int) (hpl:params.length<=10) (g:Gn) (hb:g.pos<=500000) (ty:PV):SC Tryz.prog 21 [.ptr 2001 0,iStr name,.pv (ints params)] [(2001,genF l g ty)] (fun _=>False) (.pv (.agg (z2s l name params g).1.enc)) [(2001,genF l (z2s l name params g).2 (ints (z2s l name params g).2.types))]:=by
  refine SC.ofC Tryz.func21 rfl (lb rfl) rfl fun F ρ w=>?_
  refine Tr.lenOf (t:=2) rfl (fun hl=>?_)
  simp only [List.length_map] at hl
  have hS:=(z24 params { g with types:=[],left:=30 }).1
  have hSl:=(z24 params { g with types:=[],left:=30 }).2
  have hSin:=InR.outs params { g with types:=[],left:=30 }
  have hst:(z0n params { g with types:=[],left:=30 }).2.types.length=params.length:=by rw [hS];simp
  have hsp:(z0n params { g with types:=[],left:=30 }).2.pos=g.pos/\(z0n params { g with types:=[],left:=30 }).2.left=30:=by rw [hS];exact ⟨rfl,rfl⟩
  have hbt:(z0b 2 (z0b 1 (z0n params { g with types:=[],left:=30 }).2).2).2.types.length=params.length+2:=by simp [z0b,hst]
  have hbp:(z0b 2 (z0b 1 (z0n params { g with types:=[],left:=30 }).2).2).2.pos=g.pos/\(z0b 2 (z0b 1 (z0n params { g with types:=[],left:=30 }).2).2).2.left=30:=hsp
  have hin:InR (z0b 2 (z0b 1 (z0n params { g with types:=[],left:=30 }).2).2).2.types ((z0n params { g with types:=[],left:=30 }).1++[(z0b 1 (z0n params { g with types:=[],left:=30 }).2).1,(z0b 2 (z0b 1 (z0n params { g with types:=[],left:=30 }).2).2).1]):=by
    refine (hSin.mono oM0).app fun s hs=>?_
    simp only [List.mem_cons,List.not_mem_nil,or_false] at hs
    rcases hs with rfl | rfl
    ·rw [hbt];simp only [z0b,hst];omega
    rw [hbt];simp only [z0b,List.length_append,List.length_cons,List.length_nil,hst];omega
  have hsl2:((z0n params { g with types:=[],left:=30 }).1.map eInt).length=(z0n params { g with types:=[],left:=30 }).1.length:=by simp
  refine tQ <| tG <| cE rfl (aLc (k:=106) rfl tZ51 rfl rfl rfl rfl) <| nL <| tQ <| tG <| sm 2 rfl <| cV rfl (nCk rfl rfl rfl) <| sm 1 rfl <| c0 (sBx rfl rfl rfl rfl ((fun h=>h)) tS35 (rfl) (lb rfl)) <| cV rfl (nCk rfl rfl rfl) <| sm 1 rfl ?_
  refine c0 (sBx rfl rfl rfl rfl ((fun h=>h)) tS3 (rfl) (lb rfl)) <| nL <| tQ <| Tr.growCell (k:=2002) (k2:=2001) (j:=2) ⟨3,1⟩ rfl rfl rfl rfl rfl rfl <| Tr.heap (σ':=look [(106,some (.box [.pv (vStr ⟨#[]⟩),iInt 0,iInt 0,.pv (.val (.slice none 0 0)),.pv (.val (.slice none 0 0))])),(2001,some (z3h l { g with types:=[],left:=30 })),(2002,some (rowI []))]) (lkq [106,2001,2002] rfl rfl ⟨rfl,rfl,rfl,trivial⟩) <| tG <| sm 2 rfl <| cE rfl (ok_calln (k0:=2005) (yg4 l params { g with types:=[],left:=30 } (by show 0+params.length<=1000000;omega)) y7e rfl rfl (sRf _ _) (po2 rfl rfl) rfl rfl rfl rfl rfl (fun k (h:_)=>.inr h) rfl (by rfl)) <| sm 1 rfl <| nL <| tQ <| tG ?_
  refine sm 1 rfl <| cE rfl (ocr (zf5 l 1 (z0n params { g with types:=[],left:=30 }).2 oM0) ent35 rfl (po2 rfl rfl) rfl (fun k (h:_)=>.inr h) rfl rfl) <| sm 1 rfl ?_
  refine cE rfl (ocr (zf5 l 2 (z0b 1 (z0n params { g with types:=[],left:=30 }).2).2 (by simp only [z0b,List.length_append,List.length_cons,List.length_nil];omega)) ent35 rfl (po2 rfl rfl) rfl (fun k (h:_)=>.inr h) rfl rfl) ?_
  refine sm 2 rfl <| nL <| tQ <| tG <| sm 1 rfl <| cE rfl (bSl rfl rfl uT35 tZ3 tS3 rfl rfl rfl rfl (fbk rfl) rfl) <| cV rfl (bPu rfl rfl tZ43 tP43 rfl (fbk rfl) rfl) <| WL.sub (Sub.cons2 (fun _ _ _ _ h=>z7l (z18 _) h) Sub.rfl') <| sm 1 rfl <| cE rfl (bSl rfl rfl uT35 tZ3 tS3 rfl rfl rfl rfl (fbk rfl) rfl) <| cV rfl (bPu rfl rfl tZ43 tP43 rfl (fbk rfl) rfl) <| WL.sub (Sub.cons2 (fun _ _ _ _ h=>z7l (z18 _) h) Sub.rfl') ?_
  refine cE rfl (z8h (k:=110) rfl rfl uT44 tZ43 tS43 rfl rfl rfl rfl (fbk rfl) rfl rfl rfl rfl rfl) <| sm 1 rfl <| nL <| tQ <| tG <| sm 3 rfl <| cE rfl (bSl rfl rfl uT35 tZ3 tS3 rfl rfl rfl rfl (fbk rfl) rfl) ?_
  refine cE rfl (aPp rfl rfl rfl rfl (by rfl) sI0 uT35 tB3 dC0 (by simp [z08]) (z5t (l:=[(z0b 1 (z0n params { g with types:=[],left:=30 }).2).1,(z0b 2 (z0b 1 (z0n params { g with types:=[],left:=30 }).2).2).1])) (by simp [maxLen,z08];omega) (by simp [z08];omega)) ?_
  refine sm 1 rfl <| nL <| tQ ?_
  refine Tr.heap (σ':=look [(106,some (.box [.pv (vStr ⟨#[]⟩),iInt 0,iInt 0,.pv (.val (.slice none 0 0)),.pv (.val (.slice none 0 0))])),(110,some (.row ⟨43,8⟩ ((zq3 (z0b 1 (z0n params { g with types:=[],left:=30 }).2).1 (z0b 2 (z0b 1 (z0n params { g with types:=[],left:=30 }).2).2).1).map Nd.enc))),(2005,some (rowI ((z0n params { g with types:=[],left:=30 }).1++[(z0b 1 (z0n params { g with types:=[],left:=30 }).2).1,(z0b 2 (z0b 1 (z0n params { g with types:=[],left:=30 }).2).2).1]))),(2001,some (z3h l (z0b 2 (z0b 1 (z0n params { g with types:=[],left:=30 }).2).2).2)),(2002,some (rowI (z0b 2 (z0b 1 (z0n params { g with types:=[],left:=30 }).2).2).2.types))]) (lkq [106,110,2005,2001,2002] rfl rfl ⟨rfl,rfl,(congrArg (fun z=>some (HO.row _ z)) (by simp [z08,eInt])),rfl,rfl,trivial⟩) ?_
  refine tG <| sm 3 rfl <| cV rfl (bPu rfl rfl tZ78 tP78 rfl (fbk rfl) rfl) ?_
  have hli:=z7o l 3 ((z0n params { g with types:=[],left:=30 }).1++[(z0b 1 (z0n params { g with types:=[],left:=30 }).2).1,(z0b 2 (z0b 1 (z0n params { g with types:=[],left:=30 }).2).2).1]) plc0 (z0b 2 (z0b 1 (z0n params { g with types:=[],left:=30 }).2).2).2 ⟨by simp [plc0],by simp [plc0],by simp [plc0]⟩
  have hrl:=zq4 l 3 ((z0n params { g with types:=[],left:=30 }).1++[(z0b 1 (z0n params { g with types:=[],left:=30 }).2).1,(z0b 2 (z0b 1 (z0n params { g with types:=[],left:=30 }).2).2).1]) plc0 (z0b 2 (z0b 1 (z0n params { g with types:=[],left:=30 }).2).2).2
  refine cE rfl (cRr (yg3 l ((z0n params { g with types:=[],left:=30 }).1++[(z0b 1 (z0n params { g with types:=[],left:=30 }).2).1,(z0b 2 (z0b 1 (z0n params { g with types:=[],left:=30 }).2).2).1]) plc0 (z0b 2 (z0b 1 (z0n params { g with types:=[],left:=30 }).2).2).2 hin ⟨by simp [plc0],by simp [plc0],by simp [plc0]⟩ oM0 oM0 (by simp;omega)) y9x rfl rfl (sSm rfl (sSm (congrArg (fun n=>IV.sl 2005 n) (by simp [z5r])) (Subs.cons (fun _ _ _ _ h=>z7l plc0_sub h) (sSm rfl Subs.nil)))) (po3 rfl rfl rfl) (by rfl) (fun k (h:_)=>.inr h) rfl (by rfl)) ?_
  refine cE rfl (aPp rfl rfl rfl rfl (by rfl) ((fun h=>h)) uT44 tB43 dC0 (hw_node) (yb6) (by simp [maxLen,z08];omega) (by simp [z08];omega)) ?_
  refine sm 1 rfl <| nL <| tQ ?_
  refine Tr.freeze (t:=10) (k:=110) rfl rfl (by simp [z08,zq3];omega) ?_
  refine Tr.freezeCell (k:=2002) (k2:=2001) (j:=2) (n:=((z2y l 3 ((z0n params { g with types:=[],left:=30 }).1++[(z0b 1 (z0n params { g with types:=[],left:=30 }).2).1,(z0b 2 (z0b 1 (z0n params { g with types:=[],left:=30 }).2).2).1]) plc0 (z0b 2 (z0b 1 (z0n params { g with types:=[],left:=30 }).2).2).2).2.types.map eInt).length) rfl rfl rfl rfl dC0 <| tG <| sm 2 rfl <| cV rfl (oSm uT35 rfl) <| sm 1 rfl <| cV rfl (nCk rfl rfl rfl) <| sm 3 rfl <| cV rfl (bPu rfl rfl tZ51 tP51 rfl (fbk rfl) rfl) <| c0 (sBA rfl rfl rfl rfl rfl ((fun h=>h)) tS51 (flk rfl) (lb rfl)) <| nL <| tRt <| rCk (.inl rfl) (fun _ _ ho=>lBP ho rfl rfl Tryz.underlying51 rfl tS51 (lb rfl) rfl trivial) ?_ (po1 rfl)
  rfl
set_option maxRecDepth 20000
set_option maxHeartbeats 2000000
theorem sc_made (l:List UInt8):SC Tryz.prog 10 [.pv (bts l)] [] (fun _=>False) (.pv (made l).enc) []:=by
  refine SC.anyR (SC.vc tb { ids:=[(7,2001)],gh:=[(5,[.fzC 104 1 116])] } [] Tryz.func10 rfl rfl ?_)
  have hb1:(z2s l z0d [] ⟨0,[],0⟩).2.pos<=2000:=ya8 l z0d [] ⟨0,[],0⟩ sI0 sI0
  have h1:=y6v l z0d [] sI0 ⟨0,[],0⟩ sI0 (.val (.slice none 0 0))
  have h2:=y6v l z3r [1,2] sI0 (z2s l z0d [] ⟨0,[],0⟩).2 oM0 (ints (z2s l z0d [] ⟨0,[],0⟩).2.types)
  exact ⟨[],h1,SubA.same (SubA.same (SubA.cons sN sR)),⟨rfl,trivial⟩,rfl,rfl,y7h rfl,by simp,rfl,[],h2,sR,⟨rfl,trivial⟩,rfl,rfl,y7h rfl,by simp,rfl,rfl,sI,trivial⟩
theorem sc_run0 (u:Un) (hu:u.arrays=[]) (hW:z0s u<=536870912) (hz:(z1b u).1=0) (ins:List Int) (fuel:Int) (d:Nat) (r:Int × Rs) (h:z3t u d (z05 z0d u.flows 0) [] (run0 ins fuel)=some r):SC Tryz.prog 17 [.pv u.enc,.pv (ints ins),iInt fuel] [] (fun _=>False) (.pv (runv (mEnd r))) []:=by
  obtain ⟨ar,fs⟩:=u
  obtain rfl:ar=[]:=hu
  exact yj7 fs hW hz ins fuel d r h
theorem y55 (N:Nat):∀ (l:List Nd),SizeOf.sizeOf l<N->SC Tryz.prog 24 [.pv (z0o l)] [] (fun _=>False) (iBool (onL [] l)) []:=by
  induction N with
  | zero=>intro l hN;exact absurd hN (Nat.not_lt_zero _)
  | succ N ih =>
    intro l hN
    refine SC.of Tryz.func24 rfl (lb rfl) fun F ρ w=>?_
    refine Tr.lenOf (t:=0) rfl (fun hl=>?_)
    simp only [List.length_map] at hl
    refine tQ <| tG <| sm 1 rfl <| nL <| tQ <| tQ <| tG <| sm 1 rfl <| nL <| tBk <| Tr.sub (Sub.of (fr':=[(3,iInt 0),(0,.pv (z0o l))]) ⟨rfl,rfl,trivial⟩) ?_
    refine Tr.loop (fun fr σ m=>∃ (k:Nat),(k<=l.length)/\(onL [] l=onL (l.take k) (l.drop k))/\fr=[(3,iInt k),(0,.pv (z0o l))] /\ σ = look []/\m=l.length - k) (n:=l.length - 0) ?_ ?_
    ·exact ⟨0,Nat.zero_le _,rfl,rfl,rfl,rfl⟩
    rintro fr σ m ⟨k,hI0,hI1,rfl,rfl,rfl⟩
    refine tQ <| tQ <| tG <| sm 2 rfl <| cV rfl (oSm uT44 rfl) <| sm 1 rfl <| nL ?_
    refine tC rfl (fun hc9=>?_) fun hc9=>?_
    ·have hlt:k<l.length:=by simpa using hc9
     have hd:=List.drop_eq_getElem_cons hlt
     have hm:=List.getElem_mem hlt
     have hi:=z0k (List.getElem?_eq_getElem hlt)
     generalize l[k]=x at hd hm hi
     refine tSk <| tQ <| tBk <| tQ <| tQ <| tG <| sm 1 rfl <| nL <| tBk <| Tr.sub (Sub.of (fr':=[(4,iInt 0),(3,iInt k),(0,.pv (z0o l))]) ⟨rfl,rfl,rfl,trivial⟩) ?_
     refine Tr.loop (fun fr σ m=>∃ (j:Nat),(j<=k)/\(∀ y∈l.take j,z2q y x=false)/\fr=[(4,iInt j),(3,iInt k),(0,.pv (z0o l))] /\ σ = look []/\m=k - j) (n:=k - 0) ?_ ?_
     ·exact ⟨0,Nat.zero_le _,(fun y hy=>by simp at hy),rfl,rfl,rfl⟩
     rintro fr σ m ⟨j,hJ0,hJ1,rfl,rfl,rfl⟩
     refine tQ <| tQ <| tG <| sm 3 rfl <| nL ?_
     refine tC rfl (fun hc14=>?_) fun hc14=>?_
     ·have hjk:j<k:=by simpa using hc14
      have hjl:j<l.length:=by omega
      have hd2:=List.drop_eq_getElem_cons hjl
      have hi2:=z0k (List.getElem?_eq_getElem hjl)
      have hm2:l[j]∈l.take k:=y4d hjk hjl
      generalize l[j]=y at hd2 hi2 hm2
      refine tSk <| tQ <| tBk <| tQ <| tDr z78 (fun k=>k∈([]:List Nat)) <| wR 1 [0,1,2,3,4,5,6,7] kR0 h30 <| smR 2 rfl <| rV rfl rfl (iSq rfl rfl rfl uT44 hi2 tS43 rfl (by rfl)) <| rV rfl rfl (lEA rfl rfl uT43 rfl tS43 (lb rfl)) <| smR 2 rfl <| rV rfl rfl (iSq rfl rfl rfl uT44 hi tS43 rfl (by rfl)) <| rV rfl rfl (lEA rfl rfl uT43 rfl tS43 (lb rfl)) ?_
      refine nR <| wO 8 kR0 <| wI rfl rfl nf nw (fun _ _=>ocq (sc_alike y x) ent42 rfl rfl) <| wDn kR0 ?_
      refine tC rfl (fun hc25=>?_) fun hc25=>?_
      ·refine tQ <| tG <| sm 1 rfl <| nL <| tRt <| rOk rfl ?_ nPo
       have hyx:z2q y x=true:=hc25
       have hxa:((l.take k).any fun y=>z2q y x)=true:=List.any_eq_true.2 ⟨y,hm2,hyx⟩
       rw [hI1,hd]
       simp only [onL,y2i,hxa,Bool.not_true,Bool.false_and]
      refine tSk <| tG <| sm 1 rfl <| cV rfl (oB rfl rfl (z04 rfl oM0)) <| sm 1 rfl <| nL ?_
      refine ⟨_,_,?_,Sub.of (fr':=[(4,iInt (j+1)),(3,iInt k),(0,.pv (z0o l))]) ⟨rfl,rfl,rfl,trivial⟩,(j+1),?_,?_,rfl,rfl,rfl⟩
      ·omega
      ·omega
      have hyx:z2q y x=false:=by simpa using hc25
      rw [zu0 hd2]
      intro z hz
      rcases List.mem_append.1 hz with hz | hz
      ·exact hJ1 z hz
      obtain rfl:=List.mem_singleton.1 hz;exact hyx
     have hxa:((l.take k).any fun y=>z2q y x)=false:=by
       have hge:k<=j:=by simpa using hc14
       have he:j=k:=by omega
       subst he
       exact yf0 hJ1
     refine tEx <| tQ <| tG <| sm 1 rfl <| nL <| tBk <| Tr.sub (Sub.of (fr':=[(5,iInt 0),(3,iInt k),(0,.pv (z0o l))]) ⟨rfl,rfl,rfl,trivial⟩) ?_
     refine Tr.loop (fun fr σ m=>∃ (i:Nat),(i<=x.kids.length)/\(onK x.kids=onK (x.kids.drop i))/\fr=[(5,iInt i),(3,iInt k),(0,.pv (z0o l))] /\ σ = look []/\m=x.kids.length - i) (n:=x.kids.length - 0) ?_ ?_
     ·exact ⟨0,Nat.zero_le _,rfl,rfl,rfl,rfl⟩
     rintro fr σ m ⟨i,hK0,hK1,rfl,rfl,rfl⟩
     refine tQ <| tQ <| tG <| sm 3 rfl <| cV rfl (iSq rfl rfl rfl uT44 hi tS43 rfl (by rfl)) <| sm 2 rfl ?_
     refine WL.lenOf (t:=31) rfl (fun hl3=>?_)
     simp only [List.length_map] at hl3
     refine cV rfl (oSm uT41 rfl) <| sm 1 rfl <| nL ?_
     refine tC rfl (fun hc33=>?_) fun hc33=>?_
     ·have hlt3:i<x.kids.length:=by simpa using hc33
      have hd3:=List.drop_eq_getElem_cons hlt3
      have hm3:=List.getElem_mem hlt3
      have hi3:=z0a (f:=eKid) (List.getElem?_eq_getElem hlt3)
      generalize x.kids[i]=q at hd3 hm3 hi3
      have hdec:SizeOf.sizeOf q<N:=Nat.lt_of_lt_of_le (z8g hm rfl hm3) (Nat.le_of_lt_succ hN)
      refine tSk <| tQ <| tBk <| tQ <| tG <| sm 2 rfl <| cV rfl (iSq rfl rfl rfl uT44 hi tS43 rfl (by rfl)) <| sm 3 rfl <| cV rfl (iSq rfl rfl rfl uT41 hi3 tS44 rfl (by rfl)) <| sm 1 rfl <| cE rfl (ocq (ih q hdec) ent24 rfl rfl) <| sm 1 rfl ?_
      refine nL ?_
      refine tC rfl (fun hc45=>?_) fun hc45=>?_
      ·refine tQ <| tG <| sm 1 rfl <| nL <| tRt <| rOk rfl ?_ nPo
       have hq:onL [] q=false:=by simpa using hc45
       rw [hI1,hd]
       simp only [onL,y2i,hK1,hd3,onK,hq,Bool.false_and,Bool.and_false]
      refine tSk <| tG <| sm 1 rfl <| cV rfl (oB rfl rfl (z04 rfl oM0)) <| sm 1 rfl <| nL ?_
      refine ⟨_,_,?_,Sub.of (fr':=[(5,iInt (i+1)),(3,iInt k),(0,.pv (z0o l))]) ⟨rfl,rfl,rfl,trivial⟩,(i+1),?_,?_,rfl,rfl,rfl⟩
      ·omega
      ·omega
      rw [hK1,hd3]
      have hq:onL [] q=true:=by simpa using hc45
      simp only [onK,hq,Bool.true_and]
     have hxk:onK x.kids=true:=by
       have hge:x.kids.length<=i:=by simpa using hc33
       rw [hK1,List.drop_eq_nil_of_le hge]
       rfl
     refine tEx <| tG <| sm 1 rfl <| cV rfl (oB rfl rfl (z04 rfl oM0)) <| sm 1 rfl <| nL ?_
     refine ⟨_,_,?_,Sub.of (fr':=[(3,iInt (k+1)),(0,.pv (z0o l))]) ⟨rfl,rfl,trivial⟩,(k+1),?_,?_,rfl,rfl,rfl⟩
     ·omega
     ·omega
     rw [hI1,hd,zu0 hd]
     simp only [onL,y2i,hxa,hxk,Bool.not_false,Bool.true_and]
    refine tEx <| tQ <| tG <| sm 1 rfl <| nL <| tRt <| rOk rfl ?_ nPo
    have hge:l.length<=k:=by simpa using hc9
    rw [hI1,List.drop_eq_nil_of_le hge]
    rfl
theorem sc_once (l:List Nd):SC Tryz.prog 24 [.pv (z0o l)] [] (fun _=>False) (iBool (onL [] l)) []:=y55 _ l (Nat.lt_succ_self _)
theorem sc_right (u:Un):SC Tryz.prog 12 [.pv u.enc] [] (fun _=>False) (iBool (y2t u)) []:=by
  refine SC.of Tryz.func12 rfl (lb rfl) fun F ρ w=>?_
  refine tQ <| tG <| cE rfl (z2m rfl rfl) <| sm 1 rfl <| nL <| tQ <| tQ <| tG <| sm 1 rfl <| nL <| tBk <| Tr.sub (Sub.of (fr':=[(3,iInt 0),(1,.pv (.ept [arrs u.arrays,flws u.flows] 0))]) ⟨rfl,rfl,trivial⟩) ?_
  refine Tr.loop (fun fr σ m=>∃ (k:Nat),(k<=u.flows.length)/\(y2t u=(u.flows.drop k).all (fun f=>onL [] f.body))/\fr=[(3,iInt k),(1,.pv (.ept [arrs u.arrays,flws u.flows] 0))] /\ σ = look []/\m=u.flows.length - k) (n:=u.flows.length - 0) ?_ ?_
  ·exact ⟨0,Nat.zero_le _,rfl,rfl,rfl,rfl⟩
  rintro fr σ m ⟨k,hI0,hI1,rfl,rfl,rfl⟩
  refine tQ <| tQ <| tG <| sm 3 rfl ?_
  refine WL.lenOf (t:=6) rfl (fun hl2=>?_)
  simp only [List.length_map] at hl2
  refine cV rfl (oSm uT23 rfl) <| sm 1 rfl <| nL ?_
  refine tC rfl (fun hc8=>?_) fun hc8=>?_
  ·have hlt:k<u.flows.length:=by simpa using hc8
   have hd:=List.drop_eq_getElem_cons hlt
   have hm:=List.getElem_mem hlt
   have hi:=z0a (f:=Fl.enc) (List.getElem?_eq_getElem hlt)
   generalize u.flows[k]=x at hd hm hi
   refine tSk <| tQ <| tBk <| tQ <| tG <| sm 3 rfl <| cV rfl (iSq rfl rfl rfl uT23 hi tS51 rfl (by rfl)) <| sm 2 rfl <| cE rfl (ocq (sc_once x.body) ent24 rfl rfl) <| sm 1 rfl <| nL ?_
   refine tC rfl (fun hc18=>?_) fun hc18=>?_
   ·refine tQ <| tG <| sm 1 rfl <| nL <| tRt <| rOk rfl ?_ nPo
    have hq:onL [] x.body=false:=by simpa using hc18
    rw [hI1,hd]
    simp only [List.all_cons,hq,Bool.false_and]
   refine tSk <| tG <| sm 1 rfl <| cV rfl (oB rfl rfl (z04 rfl oM0)) <| sm 1 rfl <| nL ?_
   refine ⟨_,_,?_,Sub.of (fr':=[(3,iInt (k+1)),(1,.pv (.ept [arrs u.arrays,flws u.flows] 0))]) ⟨rfl,rfl,trivial⟩,(k+1),?_,?_,rfl,rfl,rfl⟩
   ·omega
   ·omega
   rw [hI1,hd]
   have hq:onL [] x.body=true:=by simpa using hc18
   simp only [List.all_cons,hq,Bool.true_and]
  refine tEx <| tQ <| tG <| sm 1 rfl <| nL <| tRt <| rOk rfl ?_ nPo
  have hge:u.flows.length<=k:=by simpa using hc8
  rw [hI1,List.drop_eq_nil_of_le hge]
  rfl
theorem yi5 (ts:List Int) (l:List Nd):SC Tryz.prog 16 [.pv (ints ts),.pv (z0o l)] [] (fun _=>False) (.pv (.agg [.val (.slice none 0 0),flws [⟨z0d,1,0,ts,l⟩]])) []:=by
  refine SC.ofC Tryz.func16 rfl (lb rfl) rfl fun F ρ w=>?_
  refine tQ <| tG <| cE rfl (aLc (k:=104) rfl tZ25 rfl rfl rfl rfl) <| nL <| tQ <| tG <| sm 2 rfl <| cV rfl (bPu rfl rfl tZ51 tP51 rfl (fbk rfl) rfl) <| cE rfl (bSl rfl rfl uT23 tZ51 tS51 rfl rfl rfl rfl (fbk rfl) rfl) <| cV rfl (bPu rfl rfl tZ25 tP25 rfl (fbk rfl) rfl) <| c0 (sBA rfl rfl rfl rfl rfl ((fun h=>h)) tS25 (flk rfl) (lb rfl)) <| nL ?_
  refine tRt <| rCk (.inl rfl) (fun _ _ ho=>lBP ho rfl rfl uT25 rfl tS25 (lb rfl) rfl trivial) ?_ nPo
  rfl
def wakeL:List Nd:=[(.mk 8 0 0 ⟨#[]⟩ [] [0] [] []),(.mk 4 3 0 ⟨#[]⟩ [0,0] [1] [] []),(.mk 4 3 0 ⟨#[]⟩ [0,0] [2] [] []),(.mk 15 0 0 ⟨#[]⟩ [2] [] [] [])]
def y1c:Un:=⟨[],[⟨z0d,1,0,[1,1,1],wakeL⟩]⟩
theorem z9y:(z1b y1c).1=0:=by decide +kernel
theorem zu6:z0s y1c<=536870912:=by decide +kernel
theorem yn0:((z3t (z40 stB y1c) 20 (z05 z0d (z40 stB y1c).flows 0) [] (run0 [3] 4)).map fun r=>(z14 r.2,r.1))=some (false,9):=by decide +kernel
theorem wake_run:∃ r,z3t (z40 stB y1c) 20 (z05 z0d (z40 stB y1c).flows 0) [] (run0 [3] 4)=some r/\(mEnd r).st=1/\(mEnd r).code=9:=by
  have h:=yn0
  rw [Option.map_eq_some_iff] at h
  obtain ⟨r,h1,h2⟩:=h
  simp only [Prod.mk.injEq] at h2
  refine ⟨r,h1,?_,?_⟩
  ·simp only [mEnd,h2.1,Bool.false_eq_true,if_false]
  simp only [mEnd,h2.1,Bool.false_eq_true,if_false,h2.2]
def ym9:PV:=.seq [[vInt 8,vInt 0,vInt 0,vStr ⟨#[]⟩,.val (.slice none 0 0),.seq [[vInt 0]],.val (.slice none 0 0),.val (.slice none 0 0)],[vInt 4,vInt 3,vInt 0,vStr ⟨#[]⟩,.seq [[vInt 0],[vInt 0]],.seq [[vInt 1]],.val (.slice none 0 0),.val (.slice none 0 0)],[vInt 4,vInt 3,vInt 0,vStr ⟨#[]⟩,.seq [[vInt 0],[vInt 0]],.seq [[vInt 2]],.val (.slice none 0 0),.val (.slice none 0 0)],[vInt 15,vInt 0,vInt 0,vStr ⟨#[]⟩,.seq [[vInt 2]],.val (.slice none 0 0),.val (.slice none 0 0),.val (.slice none 0 0)]]
theorem wake_sub:PSub ym9 (z0o wakeL):=by
  show PSub _ (.seq [_,_,_,_])
  repeat' (first | exact PSub.nil | exact PSub.refl _ | exact trivial | refine And.intro ?_ ?_ | refine PSub.seq (ps:=[_,_,_,_]) (qs:=[_,_,_,_]) ?_ | refine PSub.seq (ps:=[_]) (qs:=[_]) ?_)
theorem y7c:z6h stB ⟨[],[]⟩=(⟨[],[]⟩,1):=zx9 stB (by decide +kernel)
theorem yg1 (L:List Nd) (hL:PSub ym9 (z0o L)) (V:Un) (hH:z6h stB (⟨[],[⟨z0d,1,0,[1,1,1],L⟩]⟩:Un)=(V,0)) (hW:z0s (⟨[],[⟨z0d,1,0,[1,1,1],L⟩]⟩:Un)<=536870912) (hVa:V.arrays=[]) (hVl:V.flows.length=1) (hVr:y2t V=true) (hVW:z0s V<=536870912) (hVz:(z1b V).1=0) (r:Int × Rs) (hr:z3t V 20 (z05 z0d V.flows 0) [] (run0 [3] 4)=some r) (h1:(mEnd r).st=1) (h2:(mEnd r).code=9):SC Tryz.prog 7 [] [] (fun _=>False) (iBool true) []:=by
  refine SC.of Tryz.func7 rfl (lb rfl) fun F ρ w=>?_
  have hsc:=y4y (⟨[],[⟨z0d,1,0,[1,1,1],L⟩]⟩:Un) hW zk4
  rw [hH] at hsc
  have hse:=y4y ⟨[],[]⟩ dC0 zk4
  rw [y7c] at hse
  refine tQ <| tG <| sm 1 rfl <| nL <| tQ <| tG <| sm 1 rfl <| nL <| tQ <| tG <| sm 3 rfl <| cE rfl (bSl rfl rfl uT35 tZ3 tS3 rfl rfl rfl rfl (fbk rfl) rfl) ?_
  refine cE rfl (bSl rfl rfl uT35 tZ3 tS3 rfl rfl rfl rfl (fbk rfl) rfl) <| cV rfl (bPu rfl rfl tZ43 tP43 rfl (fbk rfl) rfl) <| cE rfl (bSl rfl rfl uT35 tZ3 tS3 rfl rfl rfl rfl (fbk rfl) rfl) <| cE rfl (bSl rfl rfl uT35 tZ3 tS3 rfl rfl rfl rfl (fbk rfl) rfl) <| cV rfl (bPu rfl rfl tZ43 tP43 rfl (fbk rfl) rfl) <| cE rfl (bSl rfl rfl uT35 tZ3 tS3 rfl rfl rfl rfl (fbk rfl) rfl) <| cE rfl (bSl rfl rfl uT35 tZ3 tS3 rfl rfl rfl rfl (fbk rfl) rfl) <| cV rfl (bPu rfl rfl tZ43 tP43 rfl (fbk rfl) rfl) <| cE rfl (bSl rfl rfl uT35 tZ3 tS3 rfl rfl rfl rfl (fbk rfl) rfl) <| cV rfl (bPu rfl rfl tZ43 tP43 rfl (fbk rfl) rfl) <| cE rfl (bSl rfl rfl uT44 tZ43 tS43 rfl rfl rfl rfl (fbk rfl) rfl) <| cE rfl (z1s (yi5 [1,1,1] L) ent16 rfl rfl (sSm rfl (Subs.cons (fun _ _ _ _ h=>z7l hL h) Subs.nil)) rfl) ?_
  refine cE rfl (z1s (hsc) ent11 rfl rfl (Subs.cons (fun _ _ _ _ h=>z7l (PSub.agg (ps:=[.val (.slice none 0 0),flws [⟨z0d,1,0,[1,1,1],L⟩]]) (qs:=[.seq [],flws [⟨z0d,1,0,[1,1,1],L⟩]]) (And.intro PSub.nil (And.intro (PSub.refl _) trivial))) h) Subs.nil) rfl) <| sm 1 rfl <| cV rfl (z0v rfl rfl rfl) <| cV rfl (z0v rfl rfl rfl) <| cE rfl (aLc (k:=102) rfl tZ25 rfl rfl rfl rfl) <| c0 (sBA rfl rfl rfl rfl rfl ((fun h=>h)) tS25 (flk rfl) (lb rfl)) <| sm 1 rfl <| nL <| tQ <| tG <| cV rfl (lBP rfl rfl rfl uT25 rfl tS25 (lb rfl) rfl trivial) <| cE rfl (bSl rfl rfl uT35 tZ3 tS3 rfl rfl rfl rfl (fbk rfl) rfl) ?_
  refine cE rfl (ocq (sc_run0 V hVa hVW hVz [3] 4 20 r hr) ent17 rfl rfl) <| cE rfl (aLc (k:=104) rfl tZ46 rfl rfl rfl rfl) <| c0 (sBA rfl rfl rfl rfl rfl ((fun h=>h)) tS46 (flk rfl) (lb rfl)) <| nL <| tQ <| tG <| sm 3 rfl ?_
  refine wS 33 rfl (fun hb33=>?_) fun hb33=>?_
  ·refine sm 2 rfl <| yV rfl rfl (oSm uT23 rfl) <| sm 3 rfl ?_
   refine wS 39 rfl (fun hb39=>?_) fun hb39=>?_
   ·refine yV rfl rfl (lBP rfl rfl rfl uT25 rfl tS25 (lb rfl) rfl trivial) <| WL.yes rfl rfl rfl rfl rfl rfl (z1s (sc_right V) ent12 rfl rfl (sRf _ _) rfl) <| sm 2 rfl ?_
    refine wS 43 rfl (fun hb43=>?_) fun hb43=>?_
    ·refine sm 5 rfl ?_
     refine wS 48 rfl (fun hb48=>?_) fun hb48=>?_
     ·refine sm 5 rfl <| nL <| tQ <| tG <| cV rfl (bPu rfl rfl tZ25 tP25 rfl (fbk rfl) rfl) <| cE rfl (z1s (hse) ent11 rfl rfl (Subs.cons (fun _ _ _ _ h=>zw1 h) Subs.nil) rfl) <| sm 1 rfl <| cV rfl (z0v rfl rfl rfl) <| cV rfl (z0v rfl rfl rfl) <| cE rfl (aLc (k:=106) rfl tZ25 rfl rfl rfl rfl) <| c0 (sBA rfl rfl rfl rfl rfl ((fun h=>h)) tS25 (flk rfl) (lb rfl)) <| sm 1 rfl ?_
      refine nL <| tQ <| tG <| sm 3 rfl ?_
      refine wS 60 rfl (fun hb60=>?_) fun hb60=>?_
      ·refine sm 3 rfl <| nL <| tRt <| rOk rfl ?_ nPo
       rw [h2]
       rfl
      exact Bool.noConfusion (show true=false from hb60)
     rw [h1] at hb48
     cases hb48
    rw [hVr] at hb43
    cases hb43
   simp [hVl] at hb39
  exact Bool.noConfusion (show true=false from hb33)
theorem sc_awake:SC Tryz.prog 7 [] [] (fun _=>False) (iBool true) []:=by
  obtain ⟨r,hr,h1,h2⟩:=wake_run
  have hc:=zv6 z9y
  exact yg1 wakeL wake_sub (z40 stB y1c) (z6i stB z9y) zu6 rfl rfl (by have:=y7z y1c;rw [z6i stB z9y] at this;exact this) (by have:=y0k stB zx6 y1c;rw [z6i stB z9y] at this;exact Nat.le_trans this zu6) (by rw [hc]) r hr h1 h2
section
def PxT (g:Gn) (T:List Int):Prop:=∃ q,T=g.types++q
theorem PxT.of {a b:Gn} {T:List Int} (h:Px a b) (h':PxT b T):PxT a T:=by
  obtain ⟨q,e⟩:=h
  obtain ⟨r,e'⟩:=h'
  exact ⟨q++r,by rw [e',e,List.append_assoc]⟩
theorem PxT.len {a:Gn} {T:List Int} (h:PxT a T):a.types.length<=T.length:=by obtain ⟨q,e⟩:=h;rw [e];simp
theorem PxT.getD {a:Gn} {T:List Int} (h:PxT a T) {n:Nat} (hn:n<a.types.length):a.types.getD n 0=T.getD n 0:=by
  obtain ⟨q,rfl⟩:=h
  simp [List.getD,List.getElem?_append_left hn]
structure Sn (T:List Int) (n:Nat) (seen:List Int):Prop where
  zero:(0:Int)∈seen
  one:∃ s∈seen,T.getD s.toNat 0=1
  two:∃ s∈seen,T.getD s.toNat 0=2
  inr:∀ s∈seen,0<=s/\s.toNat<n
theorem Sn.mono {T:List Int} {n m:Nat} {seen:List Int} (h:Sn T n seen) (hm:n<=m):Sn T m seen:=⟨h.zero,h.one,h.two,fun s hs=>⟨(h.inr s hs).1,Nat.lt_of_lt_of_le (h.inr s hs).2 hm⟩⟩
theorem Sn.app {T:List Int} {n m:Nat} {seen new:List Int} (h:Sn T n seen) (hm:n<=m) (hn:∀ s∈new,0<=s/\s.toNat<m):Sn T m (seen++new):=by
  obtain ⟨s,h1,h2⟩:=h.one
  obtain ⟨s',h3,h4⟩:=h.two
  exact ⟨List.mem_append_left _ h.zero,⟨s,List.mem_append_left _ h1,h2⟩,⟨s',List.mem_append_left _ h3,h4⟩,fun v hv=>(List.mem_append.1 hv).elim ((h.mono hm).inr v) (hn v)⟩
theorem y44 {tys seen:List Int} {t:Int}:∀ (r:List Int) (b:Bool) (k v:Int),(∀ s∈r,s∈seen)->v∈seen->gS1 tys t b k v r∈seen
  | [],_,_,_,_,hv=>hv
  | s::r,b,k,v,h,hv=>by
    unfold gS1
    have hr:∀ x∈r,x∈seen:=fun x hx=>h x (.tail _ hx)
    split
    ·exact y44 r _ _ _ hr (h s (.head _))
    exact y44 r _ _ _ hr hv
theorem y45 {tys seen:List Int} {t:Int}:∀ (r:List Int) (v:Int),(∀ s∈r,s∈seen)->v∈seen->gS2 tys t v r∈seen
  | [],_,_,hv=>hv
  | s::r,v,h,hv=>by
    unfold gS2
    have hr:∀ x∈r,x∈seen:=fun x hx=>h x (.tail _ hx)
    split
    ·split
     ·exact y45 r _ hr (h s (.head _))
     exact y45 r _ hr hv
    exact hv
theorem y63 {tys:List Int} {t:Int} {r:List Int} {v:Int} (h:tys.getD v.toNat 0=t):gS2 tys t v r=v:=by
  cases r with
  | nil=>rfl
  | cons s r=>unfold gS2;rw [if_neg (by rw [h];simp)]
theorem gS2_ty {tys:List Int} {t:Int}:∀ (r:List Int) (v:Int),(∃ s∈r,tys.getD s.toNat 0=t)->tys.getD (gS2 tys t v r).toNat 0=t
  | [],v,h=>by obtain ⟨s,hs,_⟩:=h;simp at hs
  | s::r,v,h=>by
    by_cases hv:tys.getD v.toNat 0=t
    ·rw [y63 hv];exact hv
    unfold gS2
    rw [if_pos (by simpa using hv)]
    by_cases hs:tys.getD s.toNat 0=t
    ·rw [if_pos (by simpa using hs),y63 hs];exact hs
    rw [if_neg (by simpa using hs)]
    refine gS2_ty r v ?_
    obtain ⟨x,hx,hxt⟩:=h
    rcases List.mem_cons.1 hx with rfl | hx
    ·exact absurd hxt hs
    exact ⟨x,hx,hxt⟩
def Ty12 (ts:List Int):Prop:=∀ t∈ts,t=1∨t=2
theorem Ty12.ne {ts:List Int} (h:Ty12 ts):∀ t∈ts,t≠0:=fun t ht=>by rcases h t ht with rfl | rfl<;>decide
section
variable (l:List UInt8)
theorem some_ok {g:Gn} {T seen:List Int} {t:Int} (h:PxT g T) (hs:Sn T g.types.length seen) (ht:t=1∨t=2):(ze0 l seen t g).1∈seen/\T.getD (ze0 l seen t g).1.toNat 0=t:=by
  have hm:(ze0 l seen t g).1∈seen:=y45 seen _ (fun _ h=>h) (y44 seen _ _ _ (fun _ h=>h) hs.zero)
  refine ⟨hm,?_⟩
  rw [<- h.getD (hs.inr _ hm).2]
  refine gS2_ty seen _ ?_
  obtain ⟨s,h1,h2⟩:∃ s∈seen,T.getD s.toNat 0=t:=by
    rcases ht with rfl | rfl
    ·exact hs.one
    exact hs.two
  exact ⟨s,h1,by rw [h.getD (hs.inr s h1).2];exact h2⟩
theorem use_ok {T seen:List Int} {n:Nat} {v w:Int} (hs:Sn T n seen) (hn:n<=T.length) (hv:v∈seen) (hw:w=0∨T.getD v.toNat 0=w):z6m T seen v w=true:=by
  obtain ⟨h1,h2⟩:=hs.inr v hv
  unfold z6m
  have e1:decide (v<0)=false:=by simp;omega
  have e2:decide (v ≥ T.length)=false:=by simp;omega
  have e3:seen.contains v=true:=by simpa using hv
  have e4:(w != 0&&(T.getD v.toNat 0 != w))=false:=by
    rcases hw with rfl | h
    ·rfl
    rw [h];simp
  rw [e1,e2,e3,e4];rfl
theorem zp5 {T seen:List Int}:∀ (ts:List Int) {g:Gn},PxT g T->Sn T g.types.length seen->Ty12 ts->z03 T seen (z1l l seen ts g).1 ts=true/\(∀ v∈(z1l l seen ts g).1,v∈seen)/\(z1l l seen ts g).1.map (fun v=>T.getD v.toNat 0)=ts
  | [],g,_,_,_=>⟨rfl,fun v hv=>by simp [z1l] at hv,rfl⟩
  | t::r,g,h,hs,ht=>by
    obtain ⟨h1,h2⟩:=some_ok l h hs (ht t (.head _))
    obtain ⟨i1,i2,i3⟩:=zp5 (seen:=seen) r (g:=(ze0 l seen t g).2) h hs (fun x hx=>ht x (.tail _ hx))
    simp only [z03,Bool.and_eq_true] at i1
    refine ⟨?_,fun v hv=>?_,?_⟩
    ·simp only [z1l,z03,z0z,Bool.and_eq_true,List.length_cons]
     refine ⟨?_,use_ok hs h.len h1 (.inr h2),i1.2⟩
     have:=i1.1
     simp only [beq_iff_eq] at this ⊢
     omega
    ·simp only [z1l,List.mem_cons] at hv
     rcases hv with rfl | hv
     ·exact h1
     exact i2 v hv
    simp only [z1l,List.map_cons,h2,i3]
theorem zj0 {T:List Int}:∀ (ts:List Int) (g:Gn),PxT (z0n ts g).2 T->z1v T (z0n ts g).1 ts=true
  | [],_,_=>rfl
  | t::r,g,h=>by
    have ih:=zj0 r (z0b t g).2 h
    have hg:PxT (z0b t g).2 T:=PxT.of (z80 r (z0b t g).2) h
    obtain ⟨q,e⟩:=hg
    have e2:T=(g.types++[t])++q:=e
    simp only [z0n,z1v,Bool.and_eq_true]
    refine ⟨?_,ih⟩
    simp only [z4k,Bool.and_eq_true,Bool.or_eq_true,beq_iff_eq,z0b]
    refine ⟨⟨decide_eq_true oM0,decide_eq_true ?_⟩,.inr ?_⟩
    ·rw [e2];simp only [List.length_append,List.length_cons,List.length_nil];omega
    rw [e2]
    simp [List.getD]
theorem zg7 {T:List Int}:∀ {l ts:List Int},z1v T l ts=true->z1v T l (zer l)=true
  | [],[],_=>rfl
  | [],_::_,h=>by simp [z1v] at h
  | _::_,[],h=>by simp [z1v] at h
  | v::r,t::ts,h=>by
    simp only [z1v,Bool.and_eq_true] at h
    have ih:=zg7 h.2
    have h1:=h.1
    simp only [z4k,Bool.and_eq_true] at h1
    show (z4k T v 0&&z1v T r (zer r))=true
    rw [ih]
    simp [z4k,h1.1.1,h1.1.2]
theorem y74 {T:List Int}:∀ {l ts:List Int},z1v T l ts=true->(∀ t∈ts,t≠0)->l.all (z79 T)=true/\l.map (fun v=>T.getD v.toNat 0)=ts
  | [],[],_,_=>⟨rfl,rfl⟩
  | [],_::_,h,_=>by simp [z1v] at h
  | _::_,[],h,_=>by simp [z1v] at h
  | v::r,t::ts,h,hn=>by
    simp only [z1v,Bool.and_eq_true] at h
    obtain ⟨i1,i2⟩:=y74 h.2 (fun x hx=>hn x (.tail _ hx))
    have h1:=h.1
    simp only [z4k,Bool.and_eq_true,Bool.or_eq_true,beq_iff_eq] at h1
    have ht:T.getD v.toNat 0=t:=h1.2.resolve_left (hn t (.head _))
    refine ⟨?_,?_⟩
    ·simp only [List.all_cons,Bool.and_eq_true]
     exact ⟨by simp only [z79,Bool.and_eq_true];exact h1.1,i1⟩
    simp only [List.map_cons,ht,i2]
theorem y4i {T:List Int} {ts:List Int} {g:Gn} (h:PxT (z0n ts g).2 T) (ht:Ty12 ts):r8of T (z0n ts g).1=ts:=by
  obtain ⟨h1,h2⟩:=y74 (zj0 ts g h) ht.ne
  unfold r8of
  rw [if_pos h1,h2]
theorem tyN_12:∀ (n:Nat) (g:Gn),Ty12 (gTyN l n g).1
  | 0,_=>fun t ht=>by simp [gTyN] at ht
  | n+1,g=>fun t ht=>by
    have h2:(z07 l 2 g).1<2:=z1y oM0
    simp only [gTyN,List.mem_cons] at ht
    rcases ht with rfl | ht
    ·omega
    exact tyN_12 n _ t ht
theorem z9x (g:Gn):Ty12 (z0q l g).1:=tyN_12 l _ _
structure Env (u:Un) (f:Fl):Prop where
  ty:f.ty=1
  ar:z0i z7m u.arrays 0 ≥ 0
  fl:z05 z3r u.flows 0 ≥ 0
  flw:∃ g,u.flows[(z05 z3r u.flows 0).toNat]? = some g/\g.types.take g.params.toNat=[1,2]/\g.ty=1
end
end
section
theorem z41 {kind op n:Int} {name:ByteArray} {args outs:List Int} (ho:(kind=3∨kind=4)∨op=0) (hn:(kind=1∨kind=2)∨n=0) (hm:(kind=5∨kind=6∨kind=7)∨name=z0p) (h10:kind≠10) (h11:kind≠11) :
    z11 (.mk kind op n name args outs [] [])=true:=by
  have e0:z0p.toList=[]:=z6a z0p
  have hm2:(kind=5∨kind=6∨kind=7)∨name.toList=[]:=hm.imp id fun h=>by rw [h,e0]
  simp only [z11,r8op,y4u,zs2,r8kn,Nd.kind,Nd.op,Nd.n,Nd.name,Nd.kids,Nd.params,Bool.and_eq_true,Bool.or_eq_true,beq_iff_eq,List.length_nil]
  refine ⟨⟨⟨⟨ho,hn⟩,?_⟩,?_⟩,.inr rfl⟩
  ·rcases hm2 with (h | h | h) | h
   ·exact .inl (.inl (.inl h))
   ·exact .inl (.inl (.inr h))
   ·exact .inl (.inr h)
   exact .inr h
  rw [if_neg h11,if_neg h10];rfl
section
variable (l:List UInt8) {u:Un} {f:Fl} {seen:List Int} {w:Wh} {deep:Int}
def Leaf (u:Un) (f:Fl) (seen:List Int) (w:Wh) (x:Nd):Prop:=z11 x=true/\(x.kind==10)=false/\(x.kind==11)=false/\(z3f u f x seen w).ok f.types x.outs=true
theorem Leaf.ok {x:Nd} (h:Leaf u f seen w x):z4g u f deep w seen x=true:=by
  rw [z17 u f deep w seen h.1 h.2.1 h.2.2.1];exact h.2.2.2
theorem y40 {x:Nd} (h1:(x.kind==10)=false) (h2:(x.kind==11)=false):z01 x=z0u x.kind:=by
  unfold z01
  rw [h1,h2];rfl
section
variable {A O:List Int} {op n:Int} {name:ByteArray}
theorem sF1:z3f u f (.mk 1 op n name A O [] []) seen w=⟨z03 f.types seen A [],some [1]⟩:=rfl
theorem sF2:z3f u f (.mk 2 op n name A O [] []) seen w=⟨(n==0||n==1)&&z03 f.types seen A [],some [2]⟩:=rfl
theorem sF3:z3f u f (.mk 3 op n name A O [] []) seen w=⟨z26 op&&z03 f.types seen A [(z09 op).1],some [(z09 op).2]⟩:=rfl
theorem sF4:z3f u f (.mk 4 op n name A O [] []) seen w=⟨z1t op&&z03 f.types seen A [(z09 op).1,(z09 op).1]&&f.types.getD (A.getD 0 0).toNat 0==f.types.getD (A.getD 1 0).toNat 0,some [(z09 op).2]⟩:=rfl
theorem sF5:z3f u f (.mk 5 op n name A O [] []) seen w=⟨decide (z0i name u.arrays 0 ≥ 0)&&z03 f.types seen A [1],some [1]⟩:=rfl
theorem sF6:z3f u f (.mk 6 op n name A O [] []) seen w=⟨decide (z0i name u.arrays 0 ≥ 0)&&z03 f.types seen A [1,1],none⟩:=rfl
theorem sF7 {g:Fl} (h:z05 name u.flows 0 ≥ 0) (hg:u.flows[(z05 name u.flows 0).toNat]? = some g):z3f u f (.mk 7 op n name A O [] []) seen w=⟨z03 f.types seen A (g.types.take g.params.toNat),some [g.ty]⟩:=by
  have e:z3f u f (.mk 7 op n name A O [] []) seen w=(if decide (z05 name u.flows 0 ≥ 0)=true then match u.flows[(z05 name u.flows 0).toNat]? with
      | some g=>⟨z03 f.types seen A (g.types.take g.params.toNat),some [g.ty]⟩
      | none=>⟨false,none⟩
    else ⟨false,none⟩):=rfl
  rw [e,if_pos (decide_eq_true h),hg]
theorem sF8:z3f u f (.mk 8 op n name A O [] []) seen w=⟨(A.length:Int)==0,some [1]⟩:=rfl
theorem sF9:z3f u f (.mk 9 op n name A O [] []) seen w=⟨z03 f.types seen A [1],none⟩:=rfl
theorem sF12:z3f u f (.mk 12 op n name A O [] []) seen w=⟨w.If&&z03 f.types seen A w.Yield,none⟩:=rfl
theorem sF13:z3f u f (.mk 13 op n name A O [] []) seen w=⟨w.Loop&&z03 f.types seen A w.Next,none⟩:=rfl
theorem sF14:z3f u f (.mk 14 op n name A O [] []) seen w=⟨w.Loop&&z03 f.types seen A w.Left,none⟩:=rfl
theorem sF15:z3f u f (.mk 15 op n name A O [] []) seen w=⟨z03 f.types seen A [f.ty],none⟩:=rfl
theorem leaf1 (hO:z1v f.types O [1]=true):Leaf u f seen w (.mk 1 0 n z0p [] O [] []) :=
  ⟨z41 (.inr rfl) (.inl (.inl rfl)) (.inr rfl) dC0 dC0,rfl,rfl,by
    rw [sF1];simpa [SForm.ok,z03,z0z,Nd.outs] using hO⟩
theorem leaf2 (hn:n=0∨n=1) (hO:z1v f.types O [2]=true):Leaf u f seen w (.mk 2 0 n z0p [] O [] []) :=
  ⟨z41 (.inr rfl) (.inl (.inr rfl)) (.inr rfl) dC0 dC0,rfl,rfl,by
    have h1:(n==0||n==1)=true:=by rcases hn with rfl | rfl<;>rfl
    rw [sF2];simp only [SForm.ok,h1,Nd.outs,hO];rfl⟩
theorem leaf3 {a b:Int} (h1:z26 op=true) (h2:z09 op=(a,b)) (hA:z03 f.types seen A [a]=true) (hO:z1v f.types O [b]=true):Leaf u f seen w (.mk 3 op 0 z0p A O [] []) :=
  ⟨z41 (.inl (.inl rfl)) (.inr rfl) (.inr rfl) dC0 dC0,rfl,rfl,by
    rw [sF3];simp only [SForm.ok,h1,h2,Nd.outs,hA,hO];rfl⟩
theorem leaf4 {a b:Int} (h1:z1t op=true) (h2:z09 op=(a,b)) (hA:z03 f.types seen A [a,a]=true) (ht:f.types.getD (A.getD 0 0).toNat 0=f.types.getD (A.getD 1 0).toNat 0) (hO:z1v f.types O [b]=true):Leaf u f seen w (.mk 4 op 0 z0p A O [] []) :=
  ⟨z41 (.inl (.inr rfl)) (.inr rfl) (.inr rfl) dC0 dC0,rfl,rfl,by
    rw [sF4];simp only [SForm.ok,h1,h2,Nd.outs,hA,hO,ht,Bool.true_and,Bool.and_true,beq_self_eq_true]⟩
theorem leaf5 (E:Env u f) (hA:z03 f.types seen A [1]=true) (hO:z1v f.types O [1]=true):Leaf u f seen w (.mk 5 0 0 z7m A O [] []) :=
  ⟨z41 (.inr rfl) (.inr rfl) (.inl (.inl rfl)) dC0 dC0,rfl,rfl,by
    rw [sF5];simp only [SForm.ok,decide_eq_true E.ar,Nd.outs,hA,hO];rfl⟩
theorem leaf6 (E:Env u f) (hA:z03 f.types seen A [1,1]=true):Leaf u f seen w (.mk 6 0 0 z7m A [] [] []) :=
  ⟨z41 (.inr rfl) (.inr rfl) (.inl (.inr (.inl rfl))) dC0 dC0,rfl,rfl,by
    rw [sF6];simp only [SForm.ok,decide_eq_true E.ar,hA];rfl⟩
theorem leaf7 (E:Env u f) (hA:z03 f.types seen A [1,2]=true) (hO:z1v f.types O [1]=true):Leaf u f seen w (.mk 7 0 0 z3r A O [] []) :=
  ⟨z41 (.inr rfl) (.inr rfl) (.inl (.inr (.inr rfl))) dC0 dC0,rfl,rfl,by
    obtain ⟨g,h1,h2,h3⟩:=E.flw
    rw [sF7 E.fl h1];simp only [SForm.ok,h2,h3,Nd.outs,hA,hO];rfl⟩
theorem leaf8 (hO:z1v f.types O [1]=true):Leaf u f seen w (.mk 8 0 0 z0p [] O [] []) :=
  ⟨z41 (.inr rfl) (.inr rfl) (.inr rfl) dC0 dC0,rfl,rfl,by
    rw [sF8];simp only [SForm.ok,Nd.outs,hO];rfl⟩
theorem leaf9 (hA:z03 f.types seen A [1]=true):Leaf u f seen w (.mk 9 0 0 z0p A [] [] []) :=
  ⟨z41 (.inr rfl) (.inr rfl) (.inr rfl) dC0 dC0,rfl,rfl,by
    rw [sF9];simp only [SForm.ok,hA];rfl⟩
theorem leafE {k:Int} {want:List Int} (hk:(k=12/\w.If=true/\want=w.Yield)∨(k=13/\w.Loop=true/\want=w.Next)∨(k=14/\w.Loop=true/\want=w.Left)∨(k=15/\want=[f.ty])) (hA:z03 f.types seen A want=true):Leaf u f seen w (.mk k 0 0 z0p A [] [] []):=by
  have hb:z11 (.mk k 0 0 z0p A [] [] [])=true:=z41 (.inr rfl) (.inr rfl) (.inr rfl) oM0 oM0
  rcases hk with ⟨rfl,h1,rfl⟩ | ⟨rfl,h1,rfl⟩ | ⟨rfl,h1,rfl⟩ | ⟨rfl,rfl⟩
  ·exact ⟨hb,rfl,rfl,by rw [sF12];simp only [SForm.ok,h1,hA];rfl⟩
  ·exact ⟨hb,rfl,rfl,by rw [sF13];simp only [SForm.ok,h1,hA];rfl⟩
  ·exact ⟨hb,rfl,rfl,by rw [sF14];simp only [SForm.ok,h1,hA];rfl⟩
  exact ⟨hb,rfl,rfl,by rw [sF15];simp only [SForm.ok,hA];rfl⟩
end
theorem y39 (E:Env u f) {g:Gn} (h:PxT (z1m l seen g).2 f.types) (hs:Sn f.types g.types.length seen):Leaf u f seen w (z1m l seen g).1/\z0u (z1m l seen g).1.kind=false:=by
  have key:∀ (kind op n:Int) (name:ByteArray) (ins outs:List Int) (g':Gn),g'.types=g.types->PxT (z3s l kind op n name seen ins outs g').2 f.types->Ty12 ins ->
      (∀ A O,z03 f.types seen A ins=true->A.map (fun v=>f.types.getD v.toNat 0)=ins->z1v f.types O outs=true->Leaf u f seen w (.mk kind op n name A O [] []))->z0u kind=false ->
      Leaf u f seen w (z3s l kind op n name seen ins outs g').1/\z0u (z3s l kind op n name seen ins outs g').1.kind=false:=by
    intro kind op n name ins outs g' hg hp hi hL hk
    have hp1:PxT (z1l l seen ins g').2 f.types:=PxT.of (z80 outs _) hp
    have hp0:PxT g' f.types:=PxT.of (zr7 l seen ins g') hp1
    obtain ⟨a1,_,a3⟩:=zp5 l (seen:=seen) ins hp0 (by rw [hg];exact hs) hi
    exact ⟨hL _ _ a1 a3 (zj0 outs _ hp),hk⟩
  have i1:Ty12 [1]:=by intro t ht;simp at ht;omega
  have i2:Ty12 [2]:=by intro t ht;simp at ht;omega
  have i11:Ty12 [1,1]:=by intro t ht;simp at ht;omega
  have i12:Ty12 [1,2]:=by intro t ht;simp at ht;omega
  have i0:Ty12 []:=by intro t ht;simp at ht
  have nilA:∀ {A:List Int},A.map (fun v=>f.types.getD v.toNat 0)=[]->A=[]:=fun h=>by simpa using h
  have twoA:∀ {A:List Int} {t:Int},A.map (fun v=>f.types.getD v.toNat 0)=[t,t]->f.types.getD (A.getD 0 0).toNat 0=f.types.getD (A.getD 1 0).toNat 0:=by
    intro A t hA
    rcases A with _ | ⟨a,_ | ⟨b,_ | ⟨c,A⟩⟩⟩
    ·simp at hA
    ·simp at hA
    ·simp only [List.map_cons,List.map_nil,List.cons.injEq,and_true] at hA
     show f.types.getD a.toNat 0=f.types.getD b.toNat 0
     rw [hA.1,hA.2]
    simp at hA
  have two00:∀ {A:List Int},z03 f.types seen A [1,1]=true->z03 f.types seen A [0,0]=true:=by
    intro A hA
    rcases A with _ | ⟨a,_ | ⟨b,_ | ⟨c,A⟩⟩⟩
    ·simp [z03] at hA
    ·simp [z03] at hA
    ·simp only [z03,z0z,z6m,Bool.and_eq_true,Bool.not_eq_true',Bool.or_eq_false_iff] at hA ⊢
     simp_all
    simp [z03] at hA
    omega
  unfold z1m at h ⊢
  simp only at h ⊢
  split
  ·rename_i hk;simp only [hk,if_true] at h
   exact key 1 0 _ z0p [] [1] _ rfl h i0 (fun A O _ h2 h3=>by rw [nilA h2];exact leaf1 h3) rfl
  rename_i n0;rw [if_neg n0] at h
  split
  ·rename_i hk;rw [if_pos hk] at h
   have h2:(z07 l 2 (z07 l 12 g).2).1<2:=z1y oM0
   exact key 2 0 _ z0p [] [2] _ rfl h i0 (fun A O _ h2 h3=>by rw [nilA h2];exact leaf2 oM0 h3) rfl
  rename_i n1;rw [if_neg n1] at h
  split
  ·rename_i hk;rw [if_pos hk] at h
   have h4:(z07 l 4 (z07 l 12 g).2).1<4:=z1y oM0
   generalize (z07 l 4 (z07 l 12 g).2).1=z at *
   have hz:y43.getD z 0=20∨y43.getD z 0=21∨y43.getD z 0=23∨y43.getD z 0=27:=by
     have h5:z=0∨z=1∨z=2∨z=3:=by omega
     rcases h5 with rfl | rfl | rfl | rfl
     ·exact .inl rfl
     ·exact .inr (.inl rfl)
     ·exact .inr (.inr (.inl rfl))
     exact .inr (.inr (.inr rfl))
   exact key 3 _ 0 z0p [1] [1] _ rfl h i1 (fun A O h1 _ h3=>leaf3 (by rcases hz with e | e | e | e<;>rw [e]<;>rfl) (by rcases hz with e | e | e | e<;>rw [e]<;>rfl) h1 h3) rfl
  rename_i n2;rw [if_neg n2] at h
  split
  ·rename_i hk;rw [if_pos hk] at h
   exact key 3 22 0 z0p [2] [2] _ rfl h i2 (fun A O h1 _ h3=>leaf3 rfl rfl h1 h3) rfl
  rename_i n3;rw [if_neg n3] at h
  split
  ·rename_i hk;rw [if_pos hk] at h
   have h11:(z07 l 11 (z07 l 12 g).2).1<11:=z1y oM0
   exact key 4 _ 0 z0p [1,1] [1] _ rfl h i11 (fun A O h1 h2 h3=>leaf4 (a:=1) (b:=1) (by simp [z1t];omega) (by
     unfold z09
     rw [if_neg (by simp;omega),if_neg (by simp;omega),if_neg (by simp;omega)]) h1 (twoA h2) h3) rfl
  rename_i n4;rw [if_neg n4] at h
  split
  ·rename_i hk;rw [if_pos hk] at h
   have h6:(z07 l 6 (z07 l 12 g).2).1<6:=z1y oM0
   refine key 4 _ 0 z0p [1,1] [2] _ rfl h i11 (fun A O h1 h2 h3=>?_) rfl
   by_cases hz:(z07 l 6 (z07 l 12 g).2).1<4
   ·exact leaf4 (a:=1) (b:=2) (by simp [z1t];omega) (by
      unfold z09
      rw [if_neg (by simp;omega),if_neg (by simp;omega),if_pos (by simp;omega)]) h1 (twoA h2) h3
   exact leaf4 (a:=0) (b:=2) (by simp [z1t];omega) (by
     unfold z09
     rw [if_neg (by simp;omega),if_pos (by simp;omega)]) (two00 h1) (twoA h2) h3
  rename_i n5;rw [if_neg n5] at h
  split
  ·rename_i hk;rw [if_pos hk] at h
   exact key 5 0 0 z7m [1] [1] _ rfl h i1 (fun A O h1 _ h3=>leaf5 E h1 h3) rfl
  rename_i n6;rw [if_neg n6] at h
  split
  ·rename_i hk;rw [if_pos hk] at h
   exact key 6 0 0 z7m [1,1] [] _ rfl h i11 (fun A O h1 _ h3=>by
     cases O with
     | nil=>exact leaf6 E h1
     | cons _ _=>simp [z1v] at h3) rfl
  rename_i n7;rw [if_neg n7] at h
  split
  ·rename_i hk;rw [if_pos hk] at h
   exact key 7 0 0 z3r [1,2] [1] _ rfl h i12 (fun A O h1 _ h3=>leaf7 E h1 h3) rfl
  rename_i n8;rw [if_neg n8] at h
  split
  ·rename_i hk;rw [if_pos hk] at h
   exact key 8 0 0 z0p [] [1] _ rfl h i0 (fun A O _ h2 h3=>by rw [nilA h2];exact leaf8 h3) rfl
  rename_i hk;rw [if_neg hk] at h
  exact key 9 0 0 z0p [1] [] _ rfl h i1 (fun A O h1 _ h3=>by
    cases O with
    | nil=>exact leaf9 h1
    | cons _ _=>simp [z1v] at h3) rfl
end
end
section
structure Plc.T12 (p:Plc):Prop where
  y:Ty12 p.Yield
  n:Ty12 p.Next
  v:Ty12 p.Left
structure Wr (p:Plc) (w:Wh) (L:List Nd):Prop where
  i:p.If=true->w.If=true
  lp:p.Loop=true->w.Loop=true/\w.Next=p.Next
  y:z1o L=12->w.Yield=p.Yield
  lv:z0l L=true->w.Left=p.Left
section
variable (l:List UInt8) {u:Un} {f:Fl}
theorem gEnd_ok (E:Env u f) {seen:List Int} {p:Plc} {g:Gn} {w:Wh} (h:PxT (gEnd l seen p g).2 f.types) (hs:Sn f.types g.types.length seen) (hp:p.T12) (W:Wr p w [(gEnd l seen p g).1]) :
    Leaf u f seen w (gEnd l seen p g).1/\z0u (gEnd l seen p g).1.kind=true:=by
  have key:∀ (k:Int) (ins:List Int) (g':Gn),g'.types=g.types->PxT (z3s l k 0 0 z0p seen ins [] g').2 f.types->Ty12 ins ->
      ((k=12/\w.If=true/\ins=w.Yield)∨(k=13/\w.Loop=true/\ins=w.Next)∨(k=14/\w.Loop=true/\ins=w.Left)∨(k=15/\ins=[f.ty])) ->
      Leaf u f seen w (z3s l k 0 0 z0p seen ins [] g').1/\z0u (z3s l k 0 0 z0p seen ins [] g').1.kind=true:=by
    intro k ins g' hg hp' hi hk
    have hp0:PxT g' f.types:=PxT.of (zr7 l seen ins g') hp'
    obtain ⟨a1,_,_⟩:=zp5 l (seen:=seen) ins hp0 (by rw [hg];exact hs) hi
    refine ⟨leafE hk a1,?_⟩
    show (decide (k ≥ 12)&&decide (k<=15))=true
    rw [decide_eq_true oM0,decide_eq_true oM0];rfl
  unfold gEnd at h W ⊢
  simp only at h W ⊢
  split
  ·rename_i hk;rw [if_pos hk] at h W
   exact key 12 p.Yield _ rfl h hp.y (.inl ⟨rfl,W.i hk.1,(W.y rfl).symm⟩)
  rename_i n1;rw [if_neg n1] at h W
  split
  ·rename_i hk;rw [if_pos hk] at h W
   exact key 13 p.Next _ rfl h hp.n (.inr (.inl ⟨rfl,(W.lp hk.1).1,(W.lp hk.1).2.symm⟩))
  rename_i n2;rw [if_neg n2] at h W
  split
  ·rename_i hk;rw [if_pos hk] at h W
   exact key 14 p.Left _ rfl h hp.v (.inr (.inr (.inl ⟨rfl,(W.lp hk).1,(W.lv rfl).symm⟩)))
  rename_i hk;rw [if_neg hk] at h W
  exact key 15 [1] _ rfl h (by intro t ht;simp at ht;omega) (.inr (.inr (.inr ⟨rfl,by rw [E.ty]⟩)))
def y95 (u:Un) (f:Fl) (d:Nat) (rec:GRec):Prop:=∀ (seen:List Int) (p:Plc) (g:Gn) (w:Wh) (deep:Int),PxT (rec seen p g).2 f.types->Sn f.types g.types.length seen->p.T12->Wr p w (rec seen p g).1->deep+d<=100->z36 u f deep w seen (rec seen p g).1=true
theorem if_ok {d:Nat} {rec:GRec} (hr:y95 u f d rec) (hpx:zh0 rec) {all:List Int} {p:Plc} {g:Gn} {w:Wh} {deep:Int} (h:PxT (gIf l rec all p g).2 f.types) (hs:Sn f.types g.types.length all) (hp:p.T12)
    (hlp:p.Loop=true->w.Loop=true/\w.Next=p.Next) (hlv:z1f (gIf l rec all p g).1=true->w.Left=p.Left) (hd:deep+1+d<=100):z4g u f deep w all (gIf l rec all p g).1=true:=by
  unfold gIf at h hlv ⊢
  simp only at h hlv ⊢
  have t12:=z9x l g
  generalize hT:z0q l g=T at *
  generalize hC:z1l l all [2] T.2=C at *
  have eT:T.2.types=g.types:=by rw [<- hT,(z4p l g).1]
  have eC:C.2.types=g.types:=by rw [<- hC,(z1j l all [2] T.2).1];exact eT
  have hA:=fun w' deep'=>hr all ⟨true,p.Loop,T.1,p.Next,p.Left⟩ C.2 w' deep'
  have pA:=hpx all ⟨true,p.Loop,T.1,p.Next,p.Left⟩ C.2
  generalize rec all ⟨true,p.Loop,T.1,p.Next,p.Left⟩ C.2=A at *
  have hB:=fun w' deep'=>hr all ⟨true,p.Loop,T.1,p.Next,p.Left⟩ A.2 w' deep'
  have pB:=hpx all ⟨true,p.Loop,T.1,p.Next,p.Left⟩ A.2
  generalize rec all ⟨true,p.Loop,T.1,p.Next,p.Left⟩ A.2=B at *
  have xB:PxT B.2 f.types:=PxT.of (y0m _ _ _) h
  have xA:PxT A.2 f.types:=PxT.of pB xB
  have xC:PxT C.2 f.types:=PxT.of pA xA
  have sC:Sn f.types C.2.types.length all:=by rw [eC];exact hs
  have sA:Sn f.types A.2.types.length all:=sC.mono pA.len
  have xT:PxT T.2 f.types:=by obtain ⟨q,e⟩:=xC;exact ⟨q,by rw [e,eC,eT]⟩
  have hCt:z03 f.types all C.1 [2]=true:=by
    have:=(zp5 l (seen:=all) [2] xT (by rw [eT];exact hs) (by intro t ht;simp at ht;omega)).1
    rw [hC] at this;exact this
  have p12:Plc.T12 ⟨true,p.Loop,T.1,p.Next,p.Left⟩:=⟨t12,hp.n,hp.v⟩
  -- a node with such outs
  have key:∀ o:List Int,z1v f.types o (zer o)=true->(z01 (.mk 10 0 0 z0p C.1 o [] [A.1,B.1])=true->o=[])->(z1o A.1=12->r8of f.types o=T.1)->(z1o B.1=12->r8of f.types o=T.1) ->
      (z1f (.mk 10 0 0 z0p C.1 o [] [A.1,B.1])=true->w.Left=p.Left)->z4g u f deep w all (.mk 10 0 0 z0p C.1 o [] [A.1,B.1])=true:=by
    intro o ho hc hyA hyB hl
    have e0:z0p.toList=[]:=z6a z0p
    have hb:z11 (.mk 10 0 0 z0p C.1 o [] [A.1,B.1])=true:=by
      simp [z11,r8op,y4u,zs2,r8kn,Nd.kind,Nd.op,Nd.n,Nd.name,Nd.kids,Nd.params,e0]
    rw [z4x u f deep w all hb rfl rfl]
    have hl2:∀ q,q∈[A.1,B.1]->z0l q=true->w.Left=p.Left:=by
      intro q hq hq2
      refine hl ?_
      simp only [z1f,z2b,Bool.or_false]
      simp only [List.mem_cons,List.not_mem_nil,or_false] at hq
      rcases hq with rfl | rfl
      ·rw [hq2];rfl
      rw [hq2];simp
    have vA:=hA (w1 w f (.mk 10 0 0 z0p C.1 o [] [A.1,B.1])) (deep+1) xA sC p12 ⟨fun _=>rfl,hlp,hyA,hl2 _ (.head _)⟩ hd
    have vB:=hB (w1 w f (.mk 10 0 0 z0p C.1 o [] [A.1,B.1])) (deep+1) xB sA p12 ⟨fun _=>rfl,hlp,hyB,hl2 _ (.tail _ (.head _))⟩ hd
    have ho2:zi9 (.mk 10 0 0 z0p C.1 o [] [A.1,B.1])=true:=by
      unfold zi9
      cases hcl:z01 (.mk 10 0 0 z0p C.1 o [] [A.1,B.1]) with
      | false=>simp
      | true=>rw [hc hcl];rfl
    simp only [Bool.and_eq_true]
    exact ⟨⟨⟨⟨hCt,vA⟩,vB⟩,ho2⟩,ho⟩
  unfold z76 at h hlv ⊢
  split
  ·rename_i hcl
   rw [if_pos hcl] at hlv
   have hcl2:(z1o A.1 != 12&&z1o B.1 != 12)=true:=hcl
   simp only [Bool.and_eq_true,bne_iff_ne] at hcl2
   exact key [] rfl (fun _=>rfl) (fun e=>absurd e hcl2.1) (fun e=>absurd e hcl2.2) hlv
  rename_i hcl
  rw [if_neg hcl] at h hlv
  have ho:=y4i (T:=f.types) h t12
  exact key _ (zg7 (zj0 _ _ h)) (fun hc=>absurd hc hcl) (fun _=>ho) (fun _=>ho) hlv
theorem loop_ok {d:Nat} {rec:GRec} (hr:y95 u f d rec) (hpx:zh0 rec) {all:List Int} {g:Gn} {w:Wh} {deep:Int} (h:PxT (z8t l rec all g).2 f.types) (hs:Sn f.types g.types.length all) (hd:deep+1+d<=100):z4g u f deep w all (z8t l rec all g).1=true:=by
  unfold z8t at h ⊢
  simp only at h ⊢
  have t12:=z9x l g
  generalize hT:z0q l g=T at *
  have o12:=z9x l T.2
  generalize hO:z0q l T.2=O at *
  generalize hA:z1l l all T.1 O.2=A at *
  have eT:T.2.types=g.types:=by rw [<- hT,(z4p l g).1]
  have eO:O.2.types=g.types:=by rw [<- hO,(z4p l T.2).1];exact eT
  have eA:A.2.types=g.types:=by rw [<- hA,(z1j l all T.1 O.2).1];exact eO
  generalize hQ:z0n T.1 A.2=Q at *
  have hB:=fun w' deep'=>hr (all++Q.1) ⟨false,true,[],T.1,O.1⟩ Q.2 w' deep'
  have pB:=hpx (all++Q.1) ⟨false,true,[],T.1,O.1⟩ Q.2
  generalize rec (all++Q.1) ⟨false,true,[],T.1,O.1⟩ Q.2=B at *
  have xB:PxT B.2 f.types:=PxT.of (y0m _ _ _) h
  have xQ:PxT Q.2 f.types:=PxT.of pB xB
  have pQ:Px A.2 Q.2:=by rw [<- hQ];exact z80 T.1 A.2
  have xA:PxT A.2 f.types:=PxT.of pQ xQ
  have xO:PxT O.2 f.types:=by obtain ⟨q,e⟩:=xA;exact ⟨q,by rw [e,eA,eO]⟩
  have hAt:z03 f.types all A.1 T.1=true:=by
    have:=(zp5 l (seen:=all) T.1 xO (by rw [eO];exact hs) t12).1
    rw [hA] at this;exact this
  have hQo:z1v f.types Q.1 T.1=true:=by have:=zj0 (T:=f.types) T.1 A.2 (by rw [hQ];exact xQ);rw [hQ] at this;exact this
  have hQt:r8of f.types Q.1=T.1:=by have:=y4i (T:=f.types) (g:=A.2) (ts:=T.1) (by rw [hQ];exact xQ) t12;rw [hQ] at this;exact this
  have sQ:Sn f.types Q.2.types.length (all++Q.1):=by
    have hin:=InR.outs T.1 A.2
    rw [hQ] at hin
    exact hs.app (by have:=pQ.len;rw [eA] at this;exact this) hin
  have key:∀ o:List Int,z1v f.types o (zer o)=true->(z01 (.mk 11 0 0 z0p A.1 o Q.1 [B.1])=true->o=[])->(z0l B.1=true->r8of f.types o=O.1)->z4g u f deep w all (.mk 11 0 0 z0p A.1 o Q.1 [B.1])=true:=by
    intro o ho hc hl
    have e0:z0p.toList=[]:=z6a z0p
    have hb:z11 (.mk 11 0 0 z0p A.1 o Q.1 [B.1])=true:=by
      simp [z11,r8op,y4u,zs2,r8kn,Nd.kind,Nd.op,Nd.n,Nd.name,Nd.kids,Nd.params,e0]
    rw [z37 u f deep w all hb rfl rfl]
    have vB:=hB (w2 f (.mk 11 0 0 z0p A.1 o Q.1 [B.1])) (deep+1) xB sQ ⟨fun t ht=>(by simp at ht),t12,o12⟩ ⟨fun e=>(by cases e),fun _=>⟨rfl,hQt⟩,fun _=>rfl,hl⟩ hd
    have ho2:zi9 (.mk 11 0 0 z0p A.1 o Q.1 [B.1])=true:=by
      unfold zi9
      cases hcl:z01 (.mk 11 0 0 z0p A.1 o Q.1 [B.1]) with
      | false=>simp
      | true=>rw [hc hcl];rfl
    simp only [Bool.and_eq_true]
    refine ⟨⟨⟨⟨?_,zg7 hQo⟩,vB⟩,ho2⟩,ho⟩
    show z03 f.types all A.1 (r8of f.types Q.1)=true
    rw [hQt];exact hAt
  unfold z76 at h ⊢
  split
  ·rename_i hcl
   have hcl2:(!z0l B.1)=true:=hcl
   exact key [] rfl (fun _=>rfl) (fun e=>by rw [e] at hcl2;cases hcl2)
  rename_i hcl
  rw [if_neg hcl] at h
  have ho:=y4i (T:=f.types) h o12
  exact key _ (zg7 (zj0 _ _ h)) (fun hc=>absurd hc hcl) (fun _=>ho)
theorem any_ok (E:Env u f) {d:Nat} {rec:Option GRec} (hr:∀ r,rec=some r->y95 u f d r/\zh0 r) {all:List Int} {p:Plc} {g:Gn} {w:Wh} {deep:Int} (h:PxT (gAny l rec all p g).2 f.types) (hs:Sn f.types g.types.length all) (hp:p.T12)
    (hlp:p.Loop=true->w.Loop=true/\w.Next=p.Next) (hlv:z1f (gAny l rec all p g).1=true->w.Left=p.Left) (hd:deep+1+d<=100):z4g u f deep w all (gAny l rec all p g).1=true:=by
  have hs':Sn f.types ({ g with left:=g.left - 1 }:Gn).types.length all:=hs
  have ps:=zr8 l all { g with left:=g.left - 1 }
  have sS:=hs'.mono ps.len
  unfold gAny at h hlv ⊢
  simp only at h hlv ⊢
  cases rec with
  | none=>exact (y39 l E (w:=w) h hs').1.ok
  | some r =>
    simp only at h hlv ⊢
    split
    ·rename_i hk;rw [if_pos hk] at h hlv
     exact if_ok l (hr r rfl).1 (hr r rfl).2 h sS hp hlp hlv hd
    rename_i n0;rw [if_neg n0] at h hlv
    split
    ·rename_i hk;rw [if_pos hk] at h hlv
     exact loop_ok l (hr r rfl).1 (hr r rfl).2 h sS hd
    rename_i n1;rw [if_neg n1] at h
    exact (y39 l E (w:=w) h hs').1.ok
theorem yc6 {x:Nd} {q:List Nd} (h:q≠[]):z1o (x::q)=z1o q:=by
  cases q with
  | nil=>exact absurd rfl h
  | cons y r=>unfold z1o;rw [List.getLast?_cons_cons]
theorem yk1 (E:Env u f) {d:Nat} {rec:Option GRec} (hr:∀ r,rec=some r->y95 u f d r/\zh0 r) {p:Plc} (hp:p.T12) {w:Wh} {deep:Int} (hd:deep+1+d<=100) (hd0:deep<=100):∀ (i:Nat) (all:List Int) (g:Gn),PxT (z4z l rec p i all g).2 f.types->Sn f.types g.types.length all->Wr p w (z4z l rec p i all g).1 ->
    vGo u f deep w all (z4z l rec p i all g).1=true:=by
  have e100:(!decide (deep > 100))=true:=by rw [decide_eq_false oM0];rfl
  have fin:∀ (all:List Int) (g:Gn),PxT (gEnd l all p g).2 f.types->Sn f.types g.types.length all->Wr p w [(gEnd l all p g).1]->vGo u f deep w all [(gEnd l all p g).1]=true:=by
    intro all g h hs W
    obtain ⟨h1,h2⟩:=gEnd_ok l E h hs hp W
    have hc:z01 (gEnd l all p g).1=true:=by rw [y40 h1.2.1 h1.2.2.1];exact h2
    simp only [vGo,e100,h1.ok (deep:=deep),hc,List.isEmpty_nil,Bool.and_true]
    rfl
  intro i
  induction i with
  | zero=>intro all g h hs W;exact fin all g h hs W
  | succ i ih =>
    intro all g h hs W
    unfold z4z at h W ⊢
    split
    ·rename_i hk;rw [if_pos hk] at h W
     exact fin all g h hs W
    rename_i n0;rw [if_neg n0] at h W
    split
    ·rename_i hc;rw [if_pos hc] at h W
     have hv:=any_ok l E hr (deep:=deep) h hs hp W.lp (fun e=>W.lv (by simp only [z0l,e,Bool.true_or])) hd
     simp only [vGo,e100,hv,hc,List.isEmpty_nil,Bool.and_true]
     rfl
    rename_i hc;rw [if_neg hc] at h W
    have hne:=y01 l rec p i (all++(gAny l rec all p g).1.outs) (gAny l rec all p g).2
    have px1:PxT (gAny l rec all p g).2 f.types:=PxT.of (zr9 l (fun r e=>(hr r e).2) p i _ _) h
    have hv:=any_ok l E hr (deep:=deep) px1 hs hp W.lp (fun e=>W.lv (by simp only [z0l,e,Bool.true_or])) hd
    have hcf:z01 (gAny l rec all p g).1=false:=by simpa using hc
    have hem:(z4z l rec p i (all++(gAny l rec all p g).1.outs) (gAny l rec all p g).2).1.isEmpty=false:=by
      cases hq:(z4z l rec p i (all++(gAny l rec all p g).1.outs) (gAny l rec all p g).2).1 with
      | nil=>exact absurd hq hne
      | cons _ _=>rfl
    have pg:=(y6p l (fun r e=>(hr r e).2) all p g).len
    have ho:=(y5x l (rec:=rec) all p g).1
    have hgo:=ih _ _ h (hs.app pg ho) ⟨W.i,W.lp,fun e=>W.y (by rw [yc6 hne];exact e),fun e=>W.lv (by simp only [z0l,e,Bool.or_true])⟩
    simp only [vGo,e100,hv,hcf,hem,hgo,Bool.and_true]
    rfl
theorem list_ok (E:Env u f) (d:Nat):y95 u f (d+1) (z2y l d):=by
  induction d with
  | zero =>
    intro seen p g w deep h hs hp W hd
    rw [z60] at h W ⊢
    have:=yk1 l E (d:=0) (rec:=gRec l 0) (fun r h=>by cases h) hp (w:=w) (deep:=deep) (by simpa using hd) oM0 _ _ _ h hs W
    have hne:=y01 l (gRec l 0) p (z07 l 6 g).1 seen (z07 l 6 g).2
    simp only [z36,this,Bool.and_true]
    cases hq:(z4z l (gRec l 0) p (z07 l 6 g).1 seen (z07 l 6 g).2).1 with
    | nil=>exact absurd hq hne
    | cons _ _=>rfl
  | succ d ih =>
    intro seen p g w deep h hs hp W hd
    rw [z60] at h W ⊢
    have:=yk1 l E (d:=d+1) (rec:=gRec l (d+1)) (fun r h=>by cases h;exact ⟨ih,y0l l d⟩) hp (w:=w) (deep:=deep) oM0 oM0 _ _ _ h hs W
    have hne:=y01 l (gRec l (d+1)) p (z07 l 6 g).1 seen (z07 l 6 g).2
    simp only [z36,this,Bool.and_true]
    cases hq:(z4z l (gRec l (d+1)) p (z07 l 6 g).1 seen (z07 l 6 g).2).1 with
    | nil=>exact absurd hq hne
    | cons _ _=>rfl
end
end
section
def Tx (g g':Gn):Prop:=Ty12 g.types->Ty12 g'.types
section
variable (l:List UInt8)
theorem y5l (seen ts:List Int) (g:Gn):Tx g (z1l l seen ts g).2:=fun h=>by rw [(z1j l seen ts g).1];exact h
theorem y17 (g:Gn):Tx g (z0q l g).2:=fun h=>by rw [(z4p l g).1];exact h
theorem y5m {ts:List Int} (ht:Ty12 ts) (g:Gn):Tx g (z0n ts g).2:=fun h=>by
  rw [(z24 ts g).1]
  intro t hx
  rcases List.mem_append.1 hx with hx | hx
  ·exact h t hx
  exact ht t hx
theorem y16 (kind op n:Int) (name:ByteArray) (seen ins:List Int) {outs:List Int} (ho:Ty12 outs) (g:Gn):Tx g (z3s l kind op n name seen ins outs g).2:=fun h=>y5m ho _ (y5l l seen ins g h)
theorem t12_1:Ty12 [1]:=by intro t ht;simp at ht;omega
theorem t12_2:Ty12 [2]:=by intro t ht;simp at ht;omega
theorem y8p:Ty12 []:=by intro t ht;simp at ht
theorem yk8 (seen:List Int) (g:Gn):Tx g (z1m l seen g).2:=by
  intro h
  unfold z1m
  simp only
  repeat' split
  all_goals first
  | exact y16 l _ _ _ _ _ _ t12_1 _ h
  | exact y16 l _ _ _ _ _ _ t12_2 _ h
  | exact y16 l _ _ _ _ _ _ y8p _ h
theorem tx_end (seen:List Int) (p:Plc) (g:Gn):Tx g (gEnd l seen p g).2:=by
  intro h
  unfold gEnd
  simp only
  repeat' split
  all_goals exact y16 l _ _ _ _ _ _ y8p _ h
def y96 (rec:GRec):Prop:=∀ seen p g,Tx g (rec seen p g).2
theorem yk7 (x:List Int->Nd) {t:List Int} (ht:Ty12 t) (g:Gn):Tx g (z76 x t g).2:=by
  intro h
  unfold z76
  split
  ·exact h
  exact y5m ht g h
theorem tx_if {rec:GRec} (hr:y96 rec) (all:List Int) (p:Plc) (g:Gn):Tx g (gIf l rec all p g).2:=fun h=>by
  unfold gIf
  exact yk7 _ (z9x l g) _ (hr _ _ _ (hr _ _ _ (y5l l _ _ _ (y17 l g h))))
theorem tx_loop {rec:GRec} (hr:y96 rec) (all:List Int) (g:Gn):Tx g (z8t l rec all g).2:=fun h=>by
  unfold z8t
  exact yk7 _ (z9x l _) _ (hr _ _ _ (y5m (z9x l g) _ (y5l l _ _ _ (y17 l _ (y17 l g h)))))
theorem tx_any {rec:Option GRec} (hr:∀ r,rec=some r->y96 r) (all:List Int) (p:Plc) (g:Gn):Tx g (gAny l rec all p g).2:=fun h=>by
  have hs:Ty12 (z07 l 6 (z1m l all { g with left:=g.left - 1 }).2).2.types:=yk8 l all { g with left:=g.left - 1 } h
  unfold gAny
  simp only
  cases rec with
  | none=>exact hs
  | some r =>
    simp only
    split
    ·exact tx_if l (hr r rfl) all p _ hs
    split
    ·exact tx_loop l (hr r rfl) all _ hs
    exact hs
theorem y5n {rec:Option GRec} (hr:∀ r,rec=some r->y96 r) (p:Plc):∀ (i:Nat) (all:List Int) (g:Gn),Tx g (z4z l rec p i all g).2
  | 0,all,g=>tx_end l all p g
  | i+1,all,g=>fun h=>by
    unfold z4z
    split
    ·exact tx_end l all p g h
    split
    ·exact tx_any l hr all p g h
    exact y5n hr p i _ _ (tx_any l hr all p g h)
theorem tx_list (d:Nat):y96 (z2y l d):=by
  induction d with
  | zero =>
    intro seen p g h
    rw [z60]
    exact y5n l (rec:=gRec l 0) (fun r h=>by cases h) p _ _ _ h
  | succ d ih =>
    intro seen p g h
    rw [z60]
    exact y5n l (rec:=gRec l (d+1)) (fun r h=>by cases h;exact ih) p _ _ _ h
theorem y1t {k n:Nat} {v:Int} (h:(k:Int)<=v):(z2z k n).getD v.toNat false=false:=by
  unfold z2z
  rw [List.getD]
  rw [List.getElem?_append_right (by simp;omega)]
  cases hq:(List.replicate (n - k) false)[v.toNat - (List.replicate k true).length]? with
  | none=>rfl
  | some b=>rw [List.eq_of_mem_replicate (List.mem_of_getElem? hq)];rfl
theorem zh7 (name:ByteArray) (params:List Int) (hS:(z0n params ⟨0,[],0⟩).1=iota params.length) (g:Gn):∃ (B:Gn) (L:List Nd) (R:Gn),(z2s l name params g).1=⟨name,1,params.length,R.types,zq3 params.length (params.length+1)++L⟩/\(L,R)=z2y l 3 (iota params.length++[(params.length:Int),((params.length+1:Nat):Int)]) plc0 B/\B.types=params++[1,2]:=by
  have hG:∀ (ts:List Int) (a b:Gn),a.types=b.types->(z0n ts a).1=(z0n ts b).1:=by
    intro ts
    induction ts with
    | nil=>intro a b _;rfl
    | cons t r ih =>
      intro a b e
      simp only [z0n,z0b,e]
      rw [ih { a with types:=b.types++[t] } { b with types:=b.types++[t] } rfl]
  have h1:(z0n params { g with types:=[],left:=30 }).1=iota params.length:=(hG params { g with types:=[],left:=30 } ⟨0,[],0⟩ rfl).trans hS
  have h2:(z0n params { g with types:=[],left:=30 }).2.types=params:=by rw [(z24 params _).1];simp
  refine ⟨(z0b 2 (z0b 1 (z0n params { g with types:=[],left:=30 }).2).2).2,_,_,?_,rfl,?_⟩
  ·unfold z2s
   simp only [h1]
   simp only [z0b,h2,List.length_append,List.length_cons,List.length_nil]
   rfl
  simp only [z0b,h2];simp
end
section
variable (l:List UInt8) {u:Un}
theorem ya5 (name:ByteArray) (params:List Int) (hS:(z0n params ⟨0,[],0⟩).1=iota params.length) (hp:Ty12 params) (hpl:params.length<=8) (g:Gn) (E:Env u (z2s l name params g).1):z2w u (z2s l name params g).1=true:=by
  have hw:=(zd4 l name params oM0 g).1
  obtain ⟨B,L,R,e,eL,eB⟩:=zh7 l name params hS g
  generalize (z2s l name params g).1=F at *
  have hFt:F.types=R.types:=by rw [e]
  have hFb:F.body=[.mk 1 0 3 z0p [] [(params.length:Int)] [] [],.mk 2 0 1 z0p [] [((params.length+1:Nat):Int)] [] []]++L:=by rw [e];rfl
  have hFp:F.params=params.length:=by rw [e]
  clear e
  have pR:Px B R:=by have:=y0l l 3 (iota params.length++[(params.length:Int),((params.length+1:Nat):Int)]) plc0 B;rw [<- eL] at this;exact this
  have hB2:Ty12 B.types:=by
    rw [eB]
    intro t ht
    rcases List.mem_append.1 ht with ht | ht
    ·exact hp t ht
    simp at ht;omega
  have tR:Ty12 F.types:=by have:=tx_list l 3 (iota params.length++[(params.length:Int),((params.length+1:Nat):Int)]) plc0 B hB2;rw [<- eL] at this;rw [hFt];exact this
  obtain ⟨q,eR⟩:=pR
  rw [<- hFt] at eR
  have hBl:B.types.length=params.length+2:=by rw [eB];simp
  have hRl:params.length+2<=F.types.length:=by rw [eR,List.length_append,hBl];omega
  have hxT:PxT B F.types:=⟨q,eR⟩
  have hi:F.types.getD params.length 0=1:=by
    rw [<- hxT.getD oM0,eB];simp [List.getD]
  have hb:F.types.getD (params.length+1) 0=2:=by
    rw [<- hxT.getD oM0,eB];simp [List.getD]
  -- the list behind the first two z0o
  have hSn:Sn F.types B.types.length (iota params.length++[(params.length:Int),((params.length+1:Nat):Int)]):=by
    refine ⟨?_,⟨(params.length:Int),by simp,by simpa using hi⟩,⟨((params.length+1:Nat):Int),by simp,by rw [Int.toNat_natCast];exact hb⟩,fun s hs=>?_⟩
    ·by_cases h0:params.length=0
     ·simp [h0]
     refine List.mem_append_left _ ?_
     simp only [iota,List.mem_map,List.mem_range]
     exact ⟨0,by omega,rfl⟩
    rw [hBl]
    rcases List.mem_append.1 hs with hs | hs
    ·simp only [iota,List.mem_map,List.mem_range] at hs
     obtain ⟨j,hj,rfl⟩:=hs
     omega
    simp only [List.mem_cons,List.not_mem_nil,or_false] at hs
    omega
  have hL:=list_ok l E 3 (iota params.length++[(params.length:Int),((params.length+1:Nat):Int)]) plc0 B z1k 1 (by rw [<- eL];exact ⟨[],by simp [hFt]⟩) hSn ⟨y8p,y8p,y8p⟩ ⟨fun h=>(by cases h),fun h=>(by cases h),fun _=>rfl,fun _=>rfl⟩ oM0
  have hF:=y7i l 3 (iota params.length++[(params.length:Int),((params.length+1:Nat):Int)]) plc0 B
  rw [<- eL] at hL hF
  simp only [z36,Bool.and_eq_true] at hL
  rw [hBl,<- hFt] at hF
  have hn:(z2z params.length F.types.length).length=F.types.length:=z2j oM0
  unfold z2w
  rw [hFp,hFb]
  simp only [Bool.and_eq_true,Bool.not_eq_true',decide_eq_false_iff_not,List.all_eq_true,Int.toNat_natCast]
  refine ⟨⟨⟨⟨⟨by omega,by omega⟩,by omega⟩,by omega⟩,fun t ht=>?_⟩,?_⟩
  ·rcases tR t ht with rfl | rfl<;>rfl
  rw [z7i u _ _ 1 z1k _ _ hn]
  have l1:Leaf u F (iota params.length) z1k (.mk 1 0 3 z0p [] [(params.length:Int)] [] []):=leaf1 (by
    simp only [z1v,z4k,Int.toNat_natCast,hi]
    rw [decide_eq_true oM0,decide_eq_true oM0];rfl)
  have l2:Leaf u F (iota params.length++[(params.length:Int)]) z1k (.mk 2 0 1 z0p [] [((params.length+1:Nat):Int)] [] []):=leaf2 (.inr rfl) (by
    simp only [z1v,z4k,Int.toNat_natCast,hb]
    rw [decide_eq_true oM0,decide_eq_true oM0];rfl)
  have c1:z01 (.mk 1 0 3 z0p [] [(params.length:Int)] [] [])=false:=rfl
  have c2:z01 (.mk 2 0 1 z0p [] [((params.length+1:Nat):Int)] [] [])=false:=rfl
  have hD:Fresh params.length F.types.length (dL ([.mk 1 0 3 z0p [] [(params.length:Int)] [] [],.mk 2 0 1 z0p [] [((params.length+1:Nat):Int)] [] []]++L)):=by
    have e1:dL ([.mk 1 0 3 z0p [] [(params.length:Int)] [] [],.mk 2 0 1 z0p [] [((params.length+1:Nat):Int)] [] []]++L)=[(params.length:Int)]++([((params.length+1:Nat):Int)]++dL L):=by simp [dL,dN,dK]
    rw [e1]
    have f1:Fresh params.length (params.length+1) [(params.length:Int)]:=⟨by simp,fun v hv=>by rw [List.mem_singleton.1 hv];omega⟩
    have f2:Fresh (params.length+1) (params.length+2) [((params.length+1:Nat):Int)]:=⟨by simp,fun v hv=>by rw [List.mem_singleton.1 hv];omega⟩
    exact f1.app (f2.app hF (Nat.le_refl _) oM0 hRl) (Nat.le_refl _) oM0 oM0
  refine ⟨?_,hD.1,fun v hv=>y1t (hD.2 v hv).1⟩
  have hemp:L.isEmpty=false:=by simpa using hL.1
  have hgo:vGo u F 1 z1k (iota params.length++[(params.length:Int)]++[((params.length+1:Nat):Int)]) L=true:=by
    rw [List.append_assoc]
    exact hL.2
  have d1:(!decide ((1:Int) > 100))=true:=rfl
  show (true&&(!decide ((1:Int) > 100)&&z4g u F 1 z1k (iota params.length) (.mk 1 0 3 z0p [] [(params.length:Int)] [] [])&&(z01 (.mk 1 0 3 z0p [] [(params.length:Int)] [] [])==false) &&
    (!decide ((1:Int) > 100)&&z4g u F 1 z1k (iota params.length++[(params.length:Int)]) (.mk 2 0 1 z0p [] [((params.length+1:Nat):Int)] [] [])&&(z01 (.mk 2 0 1 z0p [] [((params.length+1:Nat):Int)] [] [])==L.isEmpty)&&vGo u F 1 z1k (iota params.length++[(params.length:Int)]++[((params.length+1:Nat):Int)]) L)))=true
  rw [l1.ok,l2.ok,c1,c2,hemp,hgo]
  rfl
end
theorem made_ok (l:List UInt8):(z1b (made l)).1=0:=by
  have S0:(z0n [] ⟨0,[],0⟩).1=iota ([]:List Int).length:=rfl
  have S2:(z0n [1,2] ⟨0,[],0⟩).1=iota ([1,2]:List Int).length:=rfl
  generalize hm:z2s l z0d [] ⟨0,[],0⟩=m
  have eM:made l=⟨[⟨z7m,4⟩],[m.1,(z2s l z3r [1,2] m.2).1]⟩:=by unfold made;simp only [hm]
  obtain ⟨B1,L1,R1,e1,eL1,eB1⟩:=zh7 l z0d [] S0 ⟨0,[],0⟩
  obtain ⟨B2,L2,R2,e2,eL2,eB2⟩:=zh7 l z3r [1,2] S2 m.2
  rw [hm] at e1
  have n1:m.1.name=z0d:=by rw [e1]
  have n2:(z2s l z3r [1,2] m.2).1.name=z3r:=by rw [e2]
  have q11:eqS z0d z0d=true:=by decide +kernel
  have q12:eqS z0d z3r=false:=by decide +kernel
  have q22:eqS z3r z3r=true:=by decide +kernel
  have q21:eqS z3r z0d=false:=by decide +kernel
  have qa1:eqS z0d z7m=false:=by decide +kernel
  have qa2:eqS z3r z7m=false:=by decide +kernel
  have pF:z05 z3r (made l).flows 0=1:=by rw [eM];simp [z05,n1,n2,q12,q22]
  have pM:z05 z0d (made l).flows 0=0:=by rw [eM];simp [z05,n1,q11]
  have pA:z05 z7m (made l).flows 0 = -1:=by rw [eM];simp [z05,n1,n2,qa1,qa2]
  have aA:z0i z7m (made l).arrays 0=0:=by
    rw [eM]
    show z0i z7m [⟨z7m,4⟩] 0=0
    decide +kernel
  have take2:(z2s l z3r [1,2] m.2).1.types.take 2=[1,2]:=by
    rw [e2]
    have pR:Px B2 R2:=by have:=y0l l 3 (iota ([1,2]:List Int).length++[(([1,2]:List Int).length:Int),((([1,2]:List Int).length+1:Nat):Int)]) plc0 B2;rw [<- eL2] at this;exact this
    obtain ⟨q,eR⟩:=pR
    show R2.types.take 2=[1,2]
    rw [eR,eB2];rfl
  have env:∀ f:Fl,f.ty=1->Env (made l) f:=fun f hf=>⟨hf,by rw [aA];decide,by rw [pF];decide,⟨(z2s l z3r [1,2] m.2).1,by rw [pF,eM];rfl,by rw [show (z2s l z3r [1,2] m.2).1.params=2 by rw [e2];rfl];exact take2,by rw [e2]⟩⟩
  rw [z4o]
  refine ⟨?_,fun f hf=>?_⟩
  ·have z1:z3d z0d=true:=by decide +kernel
   have z2:z3d z3r=true:=by decide +kernel
   have z3:z3d z7m=true:=by decide +kernel
   have hl2:2<=(z2s l z3r [1,2] m.2).1.types.length:=by
     have:=congrArg List.length take2
     simp at this;omega
   have ga:r8gA (made l) (made l).arrays 0=true:=by
     have:r8gA (made l) [⟨z7m,4⟩] 0=true:=by
       simp only [r8gA,gArr,z3,aA,pA];decide
     rw [eM] at this ⊢;exact this
   have gf:r8gF (made l) (made l).flows 0=true:=by
     have:r8gF (made l) [m.1,(z2s l z3r [1,2] m.2).1] 0=true:=by
       have t1:m.1.ty=1:=by rw [e1]
       have t2:(z2s l z3r [1,2] m.2).1.ty=1:=by rw [e2]
       have p1:m.1.params=0:=by rw [e1];rfl
       have p2:(z2s l z3r [1,2] m.2).1.params=2:=by rw [e2];rfl
       simp only [r8gF,gFlw,n1,n2,z1,z2,pF,pM,t1,t2,p1,p2]
       rw [decide_eq_false (show ¬ (0:Int) > m.1.types.length by omega),decide_eq_false (show ¬ (2:Int) > (z2s l z3r [1,2] m.2).1.types.length by omega)]
       decide
     rw [eM] at this ⊢;exact this
   have gm:z70 (made l)=true:=by
     unfold z70
     rw [pM,eM]
     show (decide ((0:Int) ≥ 0)&&m.1.ty==1&&m.1.params==0)=true
     rw [e1];rfl
   unfold z16
   rw [ga,gf,gm];rfl
  have hf2:f=m.1∨f=(z2s l z3r [1,2] m.2).1:=by rw [eM] at hf;simpa using hf
  rcases hf2 with rfl | rfl
  ·rw [<- hm];exact ya5 l z0d [] S0 y8p dC0 ⟨0,[],0⟩ (env _ (by rw [hm,e1]))
  exact ya5 l z3r [1,2] S2 (by intro t ht;simp at ht;omega) dC0 m.2 (env _ (by rw [e2]))
end
set_option maxRecDepth 20000
theorem y4z (l:List UInt8) (ins:List Int) (hi:P64 ins) (n:Int) (hn:0<=n/\n<=255):SC Tryz.prog 5 [.pv (bts l),.pv (ints ins),.pv (.val (.int .u8 n))] [] (fun k=>k∈[]) (iBool true) []:=by
  refine SC.vc tb {} [] Tryz.func5 rfl rfl ?_
  have hW:=wt_made l
  have hz:=made_ok l
  have hH:=z6i stB hz
  have h1:=y4y (made l) hW zk4
  rw [hH] at h1
  have hB:=y50 (same_rel hz (made_n l)) (by show 1<=1;decide) hW (Nat.le_trans (y76 stB zx6 _) hW) hz (by rw [zv6 hz]) (made_sz l) (ins.take 10) (fun y hy=>hi y (List.mem_of_mem_take hy)) n ⟨hn.1,by omega⟩
  have hw:IntKind.i64.wrap n=n:=IntWalk.i64_in n oM0
  rw [<- hw] at hB
  exact ⟨[],sc_awake,sR,trivial,rfl,[],sc_made l,sR,trivial,rfl,[],h1,sR,trivial,rfl,[],sc_ins ins,sR,trivial,rfl,[],hB,sR,trivial,rfl,sI,trivial⟩
section
open Go Go.ChangeShapes Go.WideShapes Go.ChangeAt Go.RowKit
section
variable {H:Type} {enc:TypeId × Value->H} {P:Program} {w:World} {base:Nat} {spare:Nat->Bool} {held:Bool}
def RepEl (own:Nat->Prop) (w:World) (ps:List PV) (cs:List Value):Prop:=ps.length=cs.length/\∀ (j:Nat) p v,ps[j]? = some p->cs[j]? = some v->RepP own w p v
theorem RepEl.nil {own:Nat->Prop}:RepEl own w [] []:=⟨rfl,fun j p v h=>by simp at h⟩
theorem RepEl.cons {own:Nat->Prop} {p:PV} {v:Value} {ps:List PV} {cs:List Value} (h:RepP own w p v) (hr:RepEl own w ps cs):RepEl own w (p::ps) (v::cs):=by
  refine ⟨by simp [hr.1],fun j q x hq hx=>?_⟩
  cases j with
  | zero=>simp at hq hx;subst hq;subst hx;exact h
  | succ j=>exact hr.2 j q x (by simpa using hq) (by simpa using hx)
theorem zv7 {α:Type} (f:α -> List PV) (wt:α -> Nat) {own:Nat->Prop} (R:Nat->DataW H × List MemPlace->List Value->Prop)
    (hR:∀ i y cs,R i y cs->∃ z:α,RepEl own w (f z) cs/\wt z+1<=Rows.uptoBulk y.1) :
    ∀ (ys:List (DataW H × List MemPlace)) (s:Nat),(∀ i y,ys[i]? = some y->∃ cs,R (s+i) y cs) ->
      ∃ l:List α,l.length=ys.length/\(∀ i z,l[i]? = some z->∃ y cs,ys[i]? = some y/\R (s+i) y cs/\RepEl own w (f z) cs)/\(l.map wt).sum+l.length<=Rows.uptoBulkAll (ys.map (·.1))
  | [],_,_=>⟨[],rfl,fun i z h=>by simp at h,by simp [Rows.uptoBulkAll]⟩
  | y::ys,s,h=>by
    obtain ⟨cs,hcs⟩:=h 0 y rfl
    obtain ⟨z,hz,hw⟩:=hR _ _ _ hcs
    obtain ⟨l,hl,hg,hb⟩:=zv7 f wt R hR ys (s+1) (fun i y' hy=>by
      have:=h (i+1) y' (by simpa using hy)
      rwa [show s+1+i=s+(i+1) by omega])
    refine ⟨z::l,by simp [hl],fun i z' hz'=>?_,?_⟩
    ·cases i with
     | zero=>simp at hz';subst hz';exact ⟨y,cs,rfl,hcs,hz⟩
     | succ i =>
       obtain ⟨y',cs',h1,h2,h3⟩:=hg i z' (by simpa using hz')
       exact ⟨y',cs',by simpa using h1,by rwa [show s+(i+1)=s+1+i by omega],h3⟩
    simp only [List.map_cons,List.sum_cons,List.length_cons,Rows.uptoBulkAll];omega
theorem y3e {α:Type} (f:α -> List PV) (wt:α -> Nat) {own:Nat->Prop} (hown:∀ b,b<w.heap.size -> ¬ own b) {t e:TypeId} {fuel:Nat} {cs:List Value} {x:DataW H × List MemPlace} {N:Nat} (ht:P.underlying t=some (.slice e)) (hC:P.cellsOf e=N) (hN:0<N)
    (h:DataW.trod enc P w base spare held fuel t cs=some x)
    (hel:∀ n cs' y,n<fuel->cs'.length=N->DataW.trod enc P w base spare held n e cs'=some y->∃ z:α,RepEl own w (f z) cs'/\wt z+1<=Rows.uptoBulk y.1) :
    ∃ (l:List α) (v:Value),cs=[v]/\RepP own w (.seq (l.map f)) v/\(l.map wt).sum+l.length+1<=Rows.uptoBulk x.1:=by
  rcases DataW.trod_slice ht h with ⟨rfl,rfl⟩ | ⟨a,len,cap,elems,rest,n,rfl,rfl,rfl,hb,hl,hm,hlen,hg,_,_⟩
  ·refine ⟨[],_,rfl,?_,by simp [Rows.uptoBulk]⟩
   have:=RepP.seq (own:=own) (w:=w) [] none 0 0 0 (fun _ _=>default) (fun h=>absurd rfl h) (fun h=>absurd rfl h) (Nat.le_refl _) (Nat.zero_le _) (fun i el h=>by simp at h) (fun i el h=>by simp at h)
   simpa using this
  obtain ⟨l,hll,hat,hsum⟩:=zv7 (w:=w) f wt (own:=own) (fun i y cs=>w.cells? base (a.add (i*P.cellsOf e)) (P.cellsOf e)=some cs/\DataW.trod enc P w base spare held n e cs=some y)
    (fun i y cs' hr=>hel n cs' y (Nat.lt_succ_self _) (by rw [(World.cells?_some hr.1).2.1,hC]) hr.2) elems 0 (fun i y hy=>by
      have hlt:i<len:=by rw [<- hlen];exact (List.getElem?_eq_some_iff.1 hy).1
      have h1:=hg i hlt
      rw [hy,Option.bind_eq_some_iff] at h1
      obtain ⟨cs',h2,h3⟩:=h1
      exact ⟨cs',by rw [Nat.zero_add];exact h2,h3⟩)
  obtain ⟨ab,ao,asp⟩:=a
  have hlen2:l.length=len:=by rw [hll,hlen]
  -- a cell that can be read
  have hsp:l≠[]->asp=none/\ab<w.heap.size:=by
    intro hne
    obtain ⟨z,r,rfl⟩:=List.exists_cons_of_ne_nil hne
    obtain ⟨y,cs',_,hr,hrep⟩:=hat 0 z rfl
    obtain ⟨_,hcl,hcell⟩:=World.cells?_some hr.1
    have h0:=hcell 0 (by rw [hC];exact hN)
    have hlt:0<cs'.length:=by rw [hcl,hC];exact hN
    rw [List.getElem?_eq_getElem hlt] at h0
    unfold World.cell? at h0
    have e0:(Addr.add (Addr.add ⟨ab,ao,asp⟩ ((0+0)*P.cellsOf e)) 0)=⟨ab,ao,asp⟩:=by simp [Addr.add]
    rw [e0] at h0
    split at h0
    ·rename_i hh
     refine ⟨?_,(Array.getElem?_eq_some_iff.1 hh).1⟩
     cases asp with
     | none=>rfl
     | some _=>simp at h0
    cases h0
  refine ⟨l,_,rfl,?_,?_⟩
  ·-- the cells of an element
   have key:∀ i z,l[i]? = some z->∃ cs',RepEl own w (f z) cs'/\cs'.length=N/\∀ j,j<N->w.cell? ⟨ab,ao+i*N+j,none⟩=cs'[j]?:=by
     intro i z hz
     obtain ⟨y,cs',_,hr,hrep⟩:=hat i z hz
     obtain ⟨_,hcl,hcell⟩:=World.cells?_some hr.1
     refine ⟨cs',hrep,hcl.trans hC,fun j hj=>?_⟩
     have h1:=hcell j (by rw [hC];exact hj)
     have hne:l≠[]:=by intro e;subst e;simp at hz
     have hs:=(hsp hne).1
     subst hs
     rw [<- h1,Addr.add_mid,Addr.add_mid,hC,Nat.zero_add]
   have hrep:=RepP.seq (own:=own) (w:=w) (l.map f) (some ⟨ab,ao,asp⟩) cap ab ao (fun i j=>(w.cell? ⟨ab,ao+i*N+j,none⟩).getD default)
     (fun hne=>by rw [(hsp (by intro e;subst e;exact hne rfl)).1]) (fun hne=>by
       have:=(hsp (by intro e;subst e;exact hne rfl)).2
       exact ⟨hown _ this,this⟩) (by simp;omega) hm ?_ ?_
   ·rw [List.length_map,hlen2] at hrep;exact hrep
   ·intro i el hi j c hj
    rw [List.getElem?_map,Option.map_eq_some_iff] at hi
    obtain ⟨z,hz,rfl⟩:=hi
    obtain ⟨cs',hrep,hcl,hcell⟩:=key i z hz
    have hjN:j<N:=by have:=(List.getElem?_eq_some_iff.1 hj).1;rw [hrep.1,hcl] at this;exact this
    have h1:=hcell j hjN
    have hfl:(f z).length=N:=by rw [hrep.1,hcl]
    rw [hfl,h1,List.getElem?_eq_getElem oM0]
    rfl
   intro i el hi j c hj
   rw [List.getElem?_map,Option.map_eq_some_iff] at hi
   obtain ⟨z,hz,rfl⟩:=hi
   obtain ⟨cs',hrep,hcl,hcell⟩:=key i z hz
   have hjN:j<N:=by have:=(List.getElem?_eq_some_iff.1 hj).1;rw [hrep.1,hcl] at this;exact this
   have h1:=hcell j hjN
   rw [List.getElem?_eq_getElem oM0] at h1
   rw [h1]
   exact hrep.2 j c _ hj (List.getElem?_eq_getElem oM0)
  simp only [Rows.uptoBulk];omega
end
end
section
open Go Go.ChangeShapes Go.WideShapes Go.ChangeAt Go.RowKit Go.Deep
theorem Tryz.own:ownKnob Tryz.prog.godebug=none:=by kernel_rfl
theorem Tryz.laidOut:laidOutB Tryz.prog=true:=by kernel_rfl
section
variable {H:Type} {enc:TypeId × Value->H} {P:Program}
theorem yf8 {W W':World} {p:MemPlace} (h:W'.heap[p.block]? = W.heap[p.block]?):W.sameAt W' p:=by
  cases p<;>simp_all [World.sameAt,MemPlace.block,World.cell?]
theorem zg4 (hl:laidOutB P=true) {W W':World} (hb:∀ b,b<W.heap.size->W'.heap[b]? = W.heap[b]?):∀ (ts:List TypeId) (vs:List Value) (ds:List (DataW H)) (ps:List MemPlace),
    (∀ t∈ts,P.readableRec t=true/\t<P.types.size)->DataW.TrodAll enc P W 0 (fun _=>true) true ts vs ds ps->(∀ x∈ps,x.block<W.heap.size) ->
    DataW.TrodAll enc P W' 0 (fun b=>decide (b<W.heap.size)) true ts vs ds ps
  | [],vs,ds,ps,_,h,_=>by
    obtain ⟨rfl,rfl,rfl⟩:=trodAll_nil h
    exact trodAll_mk0
  | t::ts,vs,ds,ps,hr,h,hp=>by
    obtain ⟨v,vs',d,ds',p,q,rfl,rfl,rfl,h1,h2⟩:=trodAll_cons h
    have ht:=hr t (.head _)
    refine ⟨p,q,?_,zg4 hl hb ts vs' ds' q (fun t' h'=>hr t' (.tail _ h')) h2 (fun x hx=>hp x (List.mem_append_right _ hx)),rfl⟩
    refine WideElems.Trod_stays hl ht.1 ht.2 h1 (fun x hx=>?_) (fun x hx=>by simpa using hp x (List.mem_append_left _ hx))
    exact yf8 (hb _ (hp x (List.mem_append_left _ hx)))
theorem y7o {W W':World} (may:MemPlace->Prop) (hos:W'.os=W.os) (hout:W'.output=W.output) (hb:∀ b,b<W.heap.size->W'.heap[b]? = W.heap[b]?):W.keptBut W' may:=by
  refine ⟨hos,hout,fun i hi=>?_⟩
  rw [hb i hi]
  rcases h:W.heap[i]? with _ | o
  ·trivial
  cases o with
  | cells c t fr=>exact ⟨rfl,rfl,rfl,fun _ _=>rfl⟩
  | map es clock=>exact .inr ⟨rfl,rfl⟩
  | _=>rfl
theorem ye9 {f:Func} {s:ChangeSpec} {apart fresh handsOn:Bool} {W W':World} {args:Array Value} {ds gs:List (DataW H)} {before:List MemPlace} {tb:TypeId} (hl:laidOutB P=true) (hv0:s.vars=[])
    (hW:DataW.Whole enc P f.params.toList s.vars apart W args.toList ds gs before) (hrd:∀ t∈f.params.toList,P.readableRec t=true/\t<P.types.size) (hres:f.resultTypes = #[tb]) (htb:P.underlying tb=some .bool)
    (hs:s.fn H (ds++gs)={ results:=[.lit (.bool true)],args:=ds }) (hos:W'.os=W.os) (hout:W'.output=W.output) (hb:∀ b,b<W.heap.size->W'.heap[b]? = W.heap[b]?) :
    s.post enc P f apart fresh handsOn false W args (.bool true) W':=by
  have hlt:=hW.lt
  have hW':=hW
  obtain ⟨p,q,hA,hV,rfl,_,_⟩:=hW
  refine ⟨ds,gs,p++q,[],p,[],hW',?_,?_,?_,y7o _ hos hout hb,fun h=>by cases h⟩
  ·rw [hs,hres]
   exact trodAll_mk1 ⟨1,by simp [DataW.trod,htb,Value.cells]⟩
  ·rw [hs]
   exact zg4 hl hb _ _ _ _ hrd hA (fun x hx=>hlt x (List.mem_append_left _ hx))
  rw [hs,hv0]
  exact rfl
end
theorem yf5 {W:World}:RelH (fun _=>False) (fun _=>none) (look (up [])) W where
  inj _ _ _ _ _ h:=by cases h
  apart _ _ _ h:=by cases h
  old _ h:=h.elim
  obj _ _ _ h:=by cases h
  real _ _ h:=by cases h
theorem y9j {P:Program} {f:FuncId} {args:List IV} {R:Nat->Prop} (hsc:SC P f args [] R (iBool true) []) {W:World} {vs:List Value} (hr:RepL (fun _=>False) (fun _=>none) (look (up [])) W args vs) :
    Calls P f vs.toArray W fun e W'=>e = .returned (.bool true)/\W'.os=W.os/\W'.output=W.output/\∀ b,b<W.heap.size->W'.heap[b]? = W.heap[b]?:=by
  refine (hsc (fun _=>False) (fun _=>none) W vs yf5 hr).mono ?_
  rintro e W' ⟨ρ',v,rfl,hv,_,t⟩
  refine ⟨?_,t.os,t.output,fun b hb=>t.blk b hb fun k c h=>by cases h⟩
  cases hv with
  | pv _ _ hp=>cases hp;rfl
theorem y6n {b:Nat}:¬ owned (fun _=>False) (fun _=>none) b:=by
  rintro (h | ⟨_,_,h⟩)
  ·exact h
  cases h
end
section
open Go Go.ChangeShapes Go.WideShapes Go.ChangeAt Go.RowKit Go.Deep
section
variable {H:Type} {enc:TypeId × Value->H} {P:Program} {w:World} {base:Nat} {spare:Nat->Bool} {held:Bool}
theorem y8r {own:Nat->Prop} (hown:∀ b,b<w.heap.size -> ¬ own b) {t e:TypeId} {fuel:Nat} {cs:List Value} {x:DataW H × List MemPlace} (ht:P.underlying t=some (.slice e)) (he:P.underlying e=some (.int .u8)) (hC:P.cellsOf e=1)
    (h:DataW.trod enc P w base spare held fuel t cs=some x):∃ (l:List UInt8) (v:Value),cs=[v]/\RepP own w (bts l) v:=by
  obtain ⟨l,v,h1,h2,_⟩:=y3e eB (fun _=>0) hown ht hC dC0 h (fun n cs' y _ _ hy=>by
    obtain ⟨k,rfl,rfl,hk⟩:=DataW.trod_int he hy
    have hr:0<=k/\k<=255:=by
      simp [Lit.wf,IntKind.min,IntKind.max,IntKind.bits,IntKind.signed] at hk
      omega
    refine ⟨UInt8.ofNat k.toNat,?_,by simp [Rows.uptoBulk]⟩
    have e:((UInt8.ofNat k.toNat).toNat:Int)=k:=by
      rw [UInt8.toNat_ofNat_of_lt' (by simp [UInt8.size];omega)]
      omega
    unfold eB
    rw [e]
    exact RepEl.cons (.val _) .nil)
  exact ⟨l,v,h1,h2⟩
end
set_option maxRecDepth 100000 in
theorem y7v {H:Type} {enc:TypeId × Value->H} {W:World} {base b0:Nat} {spare:Nat->Bool} {held:Bool} {r:Reach} {v:Value} {d:DataW H} {p:List MemPlace} (hv:Value.okWide Tryz.prog W r b0 29 v)
    (h:DataW.Trod enc Tryz.prog W base spare held 29 v d p):∃ l:List UInt8,RepI (fun _=>False) (fun _=>none) (look (up [])) W (.pv (bts l)) v:=by
  obtain ⟨a,len,cap,rfl⟩:=okWide_slice Tryz.underlying29 hv
  obtain ⟨fuel,hf⟩:=h
  obtain ⟨l,v',h1,h2⟩:=y8r (own:=owned (fun _=>False) (fun _=>none)) (fun _ _=>y6n) Tryz.underlying29 Tryz.underlying5 kR0 hf
  have e:(Value.slice a len cap).cells.toList=[Value.slice a len cap]:=rfl
  rw [e] at h1
  cases h1
  exact ⟨l,.pv _ _ h2⟩
end
section
open Go Go.ChangeShapes Go.WideShapes Go.ChangeAt Go.RowKit Go.Deep
theorem y5j {H:Type} {enc:TypeId × Value->H} {P:Program} {w:World} {base:Nat} {spare:Nat->Bool} {held:Bool} {own:Nat->Prop} (hown:∀ b,b<w.heap.size -> ¬ own b) {t e:TypeId} {fuel:Nat} {cs:List Value} {x:DataW H × List MemPlace} (ht:P.underlying t=some (.slice e)) (he:P.underlying e=some (.int .i64)) (hC:P.cellsOf e=1)
    (h:DataW.trod enc P w base spare held fuel t cs=some x):∃ (l:List Int) (v:Value),cs=[v]/\RepP own w (ints l) v/\P64 l:=by
  obtain ⟨l,v,h1,h2,_⟩:=y3e (fun z:{ k:Int // I64 k }=>eInt z.1) (fun _=>0) hown ht hC dC0 h (fun n cs' y _ _ hy=>by
    obtain ⟨k,rfl,rfl,hk⟩:=DataW.trod_int he hy
    have hr:I64 k:=by
      simp [Lit.wf,IntKind.min,IntKind.max,IntKind.bits,IntKind.signed] at hk
      unfold I64
      omega
    exact ⟨⟨k,hr⟩,RepEl.cons (.val _) .nil,by simp [Rows.uptoBulk]⟩)
  refine ⟨l.map fun z=>z.1,v,h1,?_,fun y hy=>?_⟩
  ·unfold ints
   rw [List.map_map]
   exact h2
  obtain ⟨z,_,rfl⟩:=List.mem_map.1 hy
  exact z.2
set_option maxRecDepth 100000 in
theorem ye4 {H:Type} {enc:TypeId × Value->H} {W:World} {base b0:Nat} {spare:Nat->Bool} {held:Bool} {r:Reach} {v:Value} {d:DataW H} {p:List MemPlace} (hv:Value.okWide Tryz.prog W r b0 35 v)
    (h:DataW.Trod enc Tryz.prog W base spare held 35 v d p):∃ l:List Int,P64 l/\RepI (fun _=>False) (fun _=>none) (look (up [])) W (.pv (ints l)) v:=by
  obtain ⟨a,len,cap,rfl⟩:=okWide_slice uT35 hv
  obtain ⟨fuel,hf⟩:=h
  obtain ⟨l,v',h1,h2,h3⟩:=y5j (own:=owned (fun _=>False) (fun _=>none)) (fun _ _=>y6n) uT35 uT3 kR0 hf
  have e:(Value.slice a len cap).cells.toList=[Value.slice a len cap]:=rfl
  rw [e] at h1
  cases h1
  exact ⟨l,h3,.pv _ _ h2⟩
set_option maxRecDepth 100000 in
theorem open_u8 {H:Type} {enc:TypeId × Value->H} {W:World} {base b0:Nat} {spare:Nat->Bool} {held:Bool} {r:Reach} {v:Value} {d:DataW H} {p:List MemPlace} (hv:Value.okWide Tryz.prog W r b0 5 v)
    (h:DataW.Trod enc Tryz.prog W base spare held 5 v d p):∃ n:Int,0<=n/\n<=255/\RepI (fun _=>False) (fun _=>none) (look (up [])) W (.pv (.val (.int .u8 n))) v:=by
  obtain ⟨n,rfl⟩:=okWide_int Tryz.underlying5 hv
  obtain ⟨fuel,hf⟩:=h
  obtain ⟨k,h1,_,hk⟩:=DataW.trod_int Tryz.underlying5 hf
  have e:(Value.int IntKind.u8 n).cells.toList=[Value.int IntKind.u8 n]:=rfl
  rw [e] at h1
  cases h1
  have hr:0<=n/\n<=255:=by
    simp [Lit.wf,IntKind.min,IntKind.max,IntKind.bits,IntKind.signed] at hk
    omega
  exact ⟨n,hr.1,hr.2,.pv _ _ (.val _)⟩
theorem y7y {F:Nat->Prop} {ρ:Loc} {σ:Heap'} {w:World} {x y z:IV} {a b c:Value} (h1:RepI F ρ σ w x a) (h2:RepI F ρ σ w y b) (h3:RepI F ρ σ w z c):RepL F ρ σ w [x,y,z] [a,b,c]:=by
  refine ⟨rfl,fun j q hj=>?_⟩
  match j,hj with
  | 0,hj=>simp at hj;subst hj;exact ⟨a,rfl,h1⟩
  | 1,hj=>simp at hj;subst hj;exact ⟨b,rfl,h2⟩
  | 2,hj=>simp at hj;subst hj;exact ⟨c,rfl,h3⟩
  | j+3,hj=>simp at hj
set_option maxRecDepth 100000 in
theorem zs9 (hsc:∀ (l:List UInt8) (ins:List Int),P64 ins->∀ (n:Int),0<=n/\n<=255->SC Tryz.prog 5 [.pv (bts l),.pv (ints ins),.pv (.val (.int .u8 n))] [] (fun k=>k∈[]) (iBool true) []) (os:Os) (started:os.Started) (H:Type) (enc:TypeId × Value->H) :
    ReturnsInHanded {} Tryz.checked os 5 .any (Rows.sameDoesSpec.pre6 enc Tryz.prog Tryz.f5 Rows.sameDoesRow.domain false) (Rows.sameDoesSpec.post enc Tryz.prog Tryz.f5 false true false false):=by
  refine returnsInHanded_of_change (C:=Tryz.checked) Tryz.own started kR0 Tryz.func5
    (ChangeSpec.witness6 (enc:=enc) (C:=Tryz.checked) false ⟨#[],#[.slice none 0 0,.slice none 0 0,.int .u8 0],[]⟩ 8 kR0 kR0 kR0 kR0) ?_
  intro W base args ds gs before hval hW _ _
  have hW':=hW
  obtain ⟨p,q,hA0,hV,rfl,hfz,hnd⟩:=hW
  have hA:DataW.TrodAll enc Tryz.prog W 0 (fun _=>true) true Tryz.f5.params.toList args.toList ds p:=hA0
  rw [Tryz.params5] at hA hval
  obtain ⟨v0,vs0,d0,ds0,p0,q0,hargs,rfl,rfl,h0,r0⟩:=trodAll_cons hA
  obtain ⟨v1,vs1,d1,ds1,p1,q1,rfl,rfl,rfl,h1,r1⟩:=trodAll_cons r0
  obtain ⟨v2,vs2,d2,ds2,p2,q2,rfl,rfl,rfl,h2,r2⟩:=trodAll_cons r1
  obtain ⟨rfl,rfl,rfl⟩:=trodAll_nil r2
  obtain rfl:args = #[v0,v1,v2]:=by cases args;simp_all
  obtain ⟨rfl,rfl⟩:=trodVars_none hV
  obtain ⟨l,hu⟩:=y7v (hval 0 29 v0 rfl rfl) h0
  obtain ⟨ins,hi64,hi⟩:=ye4 (hval 1 35 v1 rfl rfl) h1
  obtain ⟨n,hn0,hn1,hn⟩:=open_u8 (hval 2 5 v2 rfl rfl) h2
  refine (y9j (hsc l ins hi64 n ⟨hn0,hn1⟩) (y7y hu hi hn)).mono ?_
  rintro e W' ⟨rfl,hos,hout,hbl⟩
  exact ⟨_,rfl,ye9 Tryz.laidOut rfl hW' (fun t ht=>by
    rw [Tryz.params5] at ht
    have ht':t=29∨t=35∨t=5:=by simpa using ht
    rcases ht' with rfl | rfl | rfl<;>exact ⟨by kernel_rfl,of_decide_eq_true kR0⟩) kR0 Tryz.underlying4 rfl hos hout hbl⟩
set_option maxRecDepth 100000 in
theorem y4x (hsc:∀ (l:List UInt8) (ins:List Int),P64 ins->∀ (n:Int),0<=n/\n<=255->SC Tryz.prog 5 [.pv (bts l),.pv (ints ins),.pv (.val (.int .u8 n))] [] (fun k=>k∈[]) (iBool true) []):Rows.SameDoesSaid :=
  OpenClaim.holds_of_wide 5 Tryz.f5 rfl rfl rfl rfl rfl rfl rfl ⟨rfl,rfl,rfl,rfl,rfl⟩ rfl rfl rfl rfl rfl kR0 Tryz.func5 kR0
    (of_decide_eq_true kR0) (by unfold Func.isWrapper;first | (rw [if_pos (by decide +kernel)];kernel_rfl) | (rw [if_neg (by decide +kernel)];exact ⟨rfl,rfl⟩))
    (fun os started H enc _=>zs9 hsc os started H enc)
end
theorem sameDoes_holds:Rows.SameDoesSaid:=y4x fun l ins hi n hn=>y4z l ins hi n hn
end Go.Proofs.YthbcibeddfacbaaGreat
