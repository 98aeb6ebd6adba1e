/- PART 6 of 7 of a proof: see the last part. -/
import Derived.Test.YtfaeemilgahcpaaGreatHd5
set_option maxRecDepth 8000
set_option maxHeartbeats 2000000
set_option linter.unusedSimpArgs false
set_option linter.unusedVariables false
set_option linter.unusedSectionVars false
namespace Go.Proofs.YtfaeemilgahcpaaGreat
open Go
theorem y4a (x:Nd):SC Tryz.prog 61 [.pv (ndv x)] [] (fun _=>False) (iBool (z0x x)) []:=by
  refine SC.of Tryz.func61 rfl (lb rfl) fun F ρ w=>?_
  refine tQ <| tG <| cE rfl (z2r rfl rfl) <| sm 1 rfl <| nL <| tQ <| tQ <| tG <| sm 2 rfl <| nL <| tBk <| tQ ?_
  refine tQ <| tG <| sm 2 rfl <| nL ?_
  refine tC rfl (fun hc5=>?_) fun hc5=>?_
  ·refine tSk ?_
   refine tC rfl (fun hc5=>?_) fun hc5=>?_
   ·refine tQ <| tG <| sm 1 rfl <| nL <| tRt <| rOk rfl ?_ nPo
    simp_all [z0x]
   refine tQ <| tG <| sm 2 rfl <| nL ?_
   refine tC rfl (fun hc9=>?_) fun hc9=>?_
   ·refine tQ <| tG <| sm 4 rfl ?_
    refine wS 14 rfl (fun hb14=>?_) fun hb14=>?_
    ·refine sm 5 rfl <| nL <| tRt <| rOk rfl ?_ nPo
     simp_all [z0x]
    refine sm 5 rfl <| nL <| tRt <| rOk rfl ?_ nPo
    simp_all [z0x]
   refine tSk <| tQ <| tG <| sm 1 rfl <| nL <| tRt <| rOk rfl ?_ nPo
   simp_all [z0x]
  refine tQ <| tG <| sm 2 rfl <| nL ?_
  refine tC rfl (fun hc5=>?_) fun hc5=>?_
  ·refine tSk ?_
   refine tC rfl (fun hc5=>?_) fun hc5=>?_
   ·refine tQ <| tG <| sm 1 rfl <| nL <| tRt <| rOk rfl ?_ nPo
    simp_all [z0x]
   refine tQ <| tG <| sm 2 rfl <| nL ?_
   refine tC rfl (fun hc9=>?_) fun hc9=>?_
   ·refine tQ <| tG <| sm 4 rfl ?_
    refine wS 14 rfl (fun hb14=>?_) fun hb14=>?_
    ·refine sm 5 rfl <| nL <| tRt <| rOk rfl ?_ nPo
     simp_all [z0x]
    refine sm 5 rfl <| nL <| tRt <| rOk rfl ?_ nPo
    simp_all [z0x]
   refine tSk <| tQ <| tG <| sm 1 rfl <| nL <| tRt <| rOk rfl ?_ nPo
   simp_all [z0x]
  refine tG <| sm 2 rfl <| nL ?_
  refine tC rfl (fun hc5=>?_) fun hc5=>?_
  ·refine tQ <| tG <| sm 1 rfl <| nL <| tRt <| rOk rfl ?_ nPo
   simp_all [z0x]
  refine tQ <| tG <| sm 2 rfl <| nL ?_
  refine tC rfl (fun hc9=>?_) fun hc9=>?_
  ·refine tQ <| tG <| sm 4 rfl ?_
   refine wS 14 rfl (fun hb14=>?_) fun hb14=>?_
   ·refine sm 5 rfl <| nL <| tRt <| rOk rfl ?_ nPo
    simp_all [z0x]
   refine sm 5 rfl <| nL <| tRt <| rOk rfl ?_ nPo
   simp_all [z0x]
  refine tSk <| tQ <| tG <| sm 1 rfl <| nL <| tRt <| rOk rfl ?_ nPo
  simp_all [z0x]
theorem y49 (n:Nat) (h0:0<n) (hn:n<=1073741824):SC Tryz.prog 86 [.pv (.val (.slice none 0 0)),iInt n] [] (fun _=>False) (.sl 122 0) [(122,.row ⟨42,8⟩ [])]:=by
  refine SC.of Tryz.func86 rfl (lb rfl) fun F ρ w=>?_
  refine tQ <| tG <| sm 1 rfl <| nL <| tQ <| tQ <| tG <| sm 2 rfl <| nL ?_
  refine tC rfl (fun hc6=>?_) fun hc6=>?_
  ·exfalso
   simp at hc6
   omega
  refine tSk <| tQ <| tQ <| tG <| sm 2 rfl <| cV rfl (zg4 rfl rfl uT43) <| sm 1 rfl <| cV rfl (zg5 rfl rfl uT43) <| cV rfl (oB rfl rfl (z2y rfl oM0)) <| cV rfl (oB rfl rfl (z2y rfl oM0)) <| sm 1 rfl <| nL ?_
  refine tQ <| Tr.sub (Sub.of (fr':=[(1,iInt n),(0,.pv (.val (.slice none 0 0)))]) ⟨congrArg (fun z=>some (iInt z)) oM0,rfl,trivial⟩) <| tG <| sm 2 rfl <| nL ?_
  refine tC rfl (fun hc16=>?_) fun hc16=>?_
  ·refine tG <| sm 2 rfl <| cV rfl (zg4 rfl rfl uT43) <| cV rfl (y1s rfl rfl rfl uT43 tS42) <| sm 1 rfl ?_
   refine cE rfl (zp3 (k:=122) (s:=⟨42,8⟩) rfl rfl rfl uT43 uT3 tZ42 tC42 rfl dC0 oM0 (by simp [maxLen];omega) oM0 rfl rfl rfl rfl) ?_
   refine sm 1 rfl <| cV rfl (zg5 rfl rfl uT43) <| WL.sliceZero (fr':=[]) rfl rfl rfl rfl rfl rfl rfl sI0 h0 rfl uT43 tS42 (Sub.of trivial) rfl rfl <| sm 1 rfl <| nL <| tQ <| tG <| sm 2 rfl <| nL <| tRt <| rOk rfl ?_ (z2m (And.intro rfl (trivial)))
   rfl
  exfalso
  simp at hc16
  omega
theorem y08 (ks:List (List Nd)) (h0:0<tot ks) (hn:tot ks<=1073741824):SC Tryz.prog 62 [.pv (kids ks)] [] (fun _=>False) (.pv (z0j ks.flatten)) []:=by
  refine SC.of Tryz.func62 rfl (lb rfl) fun F ρ w=>?_
  refine Tr.lenOf (t:=0) rfl (fun hl=>?_)
  simp only [List.length_map] at hl
  refine tQ <| tG <| sm 1 rfl <| nL <| tQ <| tG <| sm 1 rfl <| nL <| tQ <| tQ <| tG <| sm 1 rfl ?_
  refine cV rfl (oSm uT40 rfl) <| sm 1 rfl <| nL <| tBk <| Tr.sub (Sub.of (fr':=[(11,iInt 0),(10,iInt ks.length),(9,.pv (kids ks)),(3,iInt 0),(0,.pv (kids ks))]) ⟨rfl,rfl,rfl,rfl,rfl,trivial⟩) ?_
  refine Tr.loop (fun fr σ m=>∃ (k:Nat) (n:Nat),(k<=ks.length)/\(n+tot (ks.drop k)=tot ks)/\fr=[(11,iInt k),(10,iInt ks.length),(9,.pv (kids ks)),(3,iInt n),(0,.pv (kids ks))] /\ σ = look []/\m=ks.length - k) (n:=ks.length - 0) ?_ ?_
  ·exact ⟨0,0,Nat.zero_le _,by simp,rfl,rfl,rfl⟩
  rintro fr σ m ⟨k,n,hI0,hI1,rfl,rfl,rfl⟩
  refine tQ <| tG <| sm 1 rfl <| nL <| tQ ?_
  refine tC rfl (fun hc12=>?_) fun hc12=>?_
  ·have hlt:k<ks.length:=by simpa using hc12
   have hd:=List.drop_eq_getElem_cons hlt
   have hm:=List.getElem_mem hlt
   have hi:=z06 (f:=eKid) (List.getElem?_eq_getElem hlt)
   generalize ks[k]=q at hd hm hi
   have hst:tot (q::ks.drop (k+1))=q.length+tot (ks.drop (k+1)):=rfl
   rw [hd,hst] at hI1
   refine tSk <| tQ <| tBk <| tQ <| tG <| cV rfl (iSq rfl rfl rfl uT40 hi tS43 rfl (by rfl)) <| sm 2 rfl <| nL <| tQ <| tG <| sm 2 rfl <| cV rfl (oSm uT43 rfl) ?_
   refine cV rfl (oB rfl rfl (z03 rfl oM0)) <| sm 1 rfl <| nL <| tQ <| tG <| sm 2 rfl <| nL ?_
   refine tC rfl (fun hc20=>?_) fun hc20=>?_
   ·exfalso
    simp at hc20
    omega
   refine tSk <| tG <| cV rfl (oB rfl rfl (z03 rfl oM0)) <| sm 1 rfl <| nL ?_
   refine ⟨_,_,?_,Sub.of (fr':=[(11,iInt (k+1)),(10,iInt ks.length),(9,.pv (kids ks)),(3,iInt (n+q.length)),(0,.pv (kids ks))]) ⟨rfl,rfl,rfl,rfl,rfl,trivial⟩,(k+1),(n+q.length),?_,?_,rfl,rfl,rfl⟩
   all_goals omega
  refine tEx <| tQ ?_
  have hnt:n=tot ks:=by
    have:=hI1
    rw [List.drop_eq_nil_of_le (by simpa using hc12)] at this
    simpa [tot] using this
  subst hnt
  refine tG <| sm 1 rfl <| cE rfl (y5q (k0:=122) (y49 (tot ks) h0 hn) ent86 rfl rfl (sRf _ _) (fun _ _ h=>by cases h) rfl rfl rfl rfl rfl (fun k (h:_)=>.inr h) rfl (by rfl)) <| sm 1 rfl <| nL <| tQ <| tQ <| tG <| sm 1 rfl <| cV rfl (oSm uT40 rfl) <| sm 1 rfl <| nL ?_
  refine tBk <| Tr.sub (Sub.of (fr':=[(27,iInt 0),(26,iInt ks.length),(25,.pv (kids ks)),(6,.sl 122 ([]:List Nd).length)]) ⟨rfl,rfl,rfl,rfl,trivial⟩) ?_
  refine Tr.loop (fun fr σ m=>∃ (k:Nat) (acc:List Nd),(k<=ks.length)/\(acc++(ks.drop k).flatten=ks.flatten)/\fr=[(27,iInt k),(26,iInt ks.length),(25,.pv (kids ks)),(6,.sl 122 acc.length)] /\ σ = look [(122,some (.row ⟨42,8⟩ (acc.map Nd.enc)))]/\m=ks.length - k) (n:=ks.length - 0) ?_ ?_
  ·exact ⟨0,([]:List Nd),Nat.zero_le _,by simp,rfl,rfl,rfl⟩
  rintro fr σ m ⟨k,acc,hJ0,hJ1,rfl,rfl,rfl⟩
  refine tQ <| tG <| sm 1 rfl <| nL <| tQ ?_
  refine tC rfl (fun hc28=>?_) fun hc28=>?_
  ·have hlt:k<ks.length:=by simpa using hc28
   have hd:=List.drop_eq_getElem_cons hlt
   have hm:=List.getElem_mem hlt
   have hi:=z06 (f:=eKid) (List.getElem?_eq_getElem hlt)
   generalize ks[k]=q at hd hm hi
   have hfl:=zs8 ks
   have hal:acc.length+q.length<=1073741824:=by
     have:=congrArg List.length hJ1
     rw [hd,hfl] at this
     simp at this
     omega
   have hml:(acc.map Nd.enc).length=acc.length:=by simp
   have hmq:(q.map Nd.enc).length=q.length:=by simp
   refine tSk <| tQ <| tBk <| tQ <| tG <| cV rfl (iSq rfl rfl rfl uT40 hi tS43 rfl (by rfl)) <| sm 2 rfl <| nL <| tG <| sm 2 rfl ?_
   refine cE rfl (aPp rfl rfl rfl rfl (by (simp;done)) ((fun h=>h)) uT43 tB42 dC0 (zy4) (zo2) (by simp [maxLen,z07];omega) (by simp [z07];omega)) ?_
   refine sm 1 rfl <| nL <| tG <| cV rfl (oB rfl rfl (z03 rfl oM0)) <| sm 1 rfl <| nL ?_
   refine ⟨_,_,?_,Sub.of (fr':=[(27,iInt (k+1)),(26,iInt ks.length),(25,.pv (kids ks)),(6,.sl 122 (acc++q).length)]) ⟨rfl,rfl,rfl,congrArg (fun z=>some (IV.sl 122 z)) sI0,trivial⟩,(k+1),(acc++q),?_,?_,rfl,(by rw [List.map_append];exact z7a),rfl⟩
   ·omega
   ·omega
   rw [<- hJ1,hd];simp
  refine tEx <| tQ <| Tr.freeze (t:=6) (k:=122) rfl rfl sI0 <| tG <| sm 2 rfl <| nL <| tRt <| rOk rfl ?_ nPo
  have hge:ks.length<=k:=by simpa using hc28
  have:acc=ks.flatten:=by rw [<- hJ1,List.drop_eq_nil_of_le hge];simp
  rw [this]
  rfl
theorem sc_part1 (vs:List Int) (v:Int):SC Tryz.prog 63 [iInt v,.ptr 106 0] [(106,.box [.mp 111]),(111,.map (vsOf vs))] (fun k=>k=106∨k=111) (iBool (vs.contains v)) [(106,.box [.mp 111]),(111,.map (vsOf vs))]:=by
  refine SC.of Tryz.func63 rfl (lb rfl) fun F ρ w=>?_
  have hV:=VSet.of vs
  have hes:=hV.1
  have hzv:((Tryz.prog.info? 102).bind (·.zero))=some (.agg #[]):=tZ102
  refine tQ <| tG <| sm 1 rfl <| nL <| tQ <| tG <| cV rfl (z47 rfl rfl rfl Tryz.underlying101 rfl rfl trivial) <| sm 1 rfl <| cV rfl (zw1 (kv:=vKey v) rfl rfl rfl rfl Tryz.underlying101 uT3 rfl hes hzv trivial) <| sm 1 rfl <| cV rfl (z1c rfl rfl rfl) <| WL.sub (Sub.cons2 (fun _ _ _ _ h=>unit_sub hV h) Sub.rfl') ?_
  refine cV rfl (z1c rfl rfl rfl) <| cE rfl (aLc (k:=104) rfl tZ102 rfl rfl rfl rfl) <| c0 (sBA rfl rfl rfl rfl rfl sI0 tS102 (flk rfl) (lb rfl)) <| sm 1 rfl <| nL <| tQ <| tG <| sm 2 rfl <| nL <| tRt <| rOk rfl ?_ (po2 rfl rfl)
  rw [vsOf_has]
theorem sc_part (l:List Nd) (ps:List Int) (hl:∀ x∈l,z0x x=true->x.outs≠[]) (hb:l.length<=1073741824):SC Tryz.prog 39 [.pv (z0j l),.pv (ints ps)] [] (fun _=>False) (.tup [.pv (z0j (z0n ps l).1),.pv (z0j (z0n ps l).2)]) []:=by
  refine SC.of Tryz.func39 rfl (lb rfl) fun F ρ w=>?_
  refine Tr.lenOf (t:=0) rfl (fun hll=>?_)
  simp only [List.length_map] at hll
  refine Tr.lenOf (t:=1) rfl (fun hlp=>?_)
  simp only [List.length_map] at hlp
  refine tQ <| tG <| sm 2 rfl <| nL <| tQ <| tG <| cE rfl (zw2 (k:=111) rfl rfl rfl rfl rfl) <| cE rfl (aLc (k:=106) rfl tZ101 rfl rfl rfl rfl) <| c0 (sBx rfl rfl rfl rfl ((fun h=>h)) tS101 (⟨_,rfl⟩) (lb rfl)) <| nL <| tQ <| tQ ?_
  refine Tr.grow (t:=4) (k:=104) ⟨42,8⟩ rfl rfl rfl rfl rfl <| Tr.grow (t:=5) (k:=105) ⟨42,8⟩ rfl rfl rfl rfl rfl <| tG <| sm 1 rfl <| cV rfl (oSm uT35 rfl) <| sm 1 rfl <| nL <| tBk <| Tr.sub (Sub.of (fr':=[(14,iInt 0),(13,iInt ps.length),(12,.pv (ints ps)),(6,.ptr 106 0),(4,.sl 104 0),(5,.sl 105 0),(0,.pv (z0j l))]) ⟨rfl,rfl,rfl,rfl,rfl,rfl,rfl,trivial⟩) ?_
  refine Tr.heap (σ':=look [(104,some (.row ⟨42,8⟩ [])),(105,some (.row ⟨42,8⟩ [])),(106,some (.box [.mp 111])),(111,some (.map (vsOf ([]:List Int))))]) (by
  exact fun j=>by
    simp only [look]
    by_cases h1:106=j
    · subst h1;rfl
    · by_cases h2:111=j
      · subst h2;rfl
      · by_cases h3:104=j
        · subst h3;rfl
        · by_cases h4:105=j
          · subst h4;rfl
          · simp [look,up,z0k h1,z0k h2,z0k h3,z0k h4]) ?_
  refine Tr.loop (fun fr σ m=>∃ (k:Nat) (vs:List Int),(k<=ps.length)/\(vs++ps.drop k=ps)/\fr=[(14,iInt k),(13,iInt ps.length),(12,.pv (ints ps)),(6,.ptr 106 0),(4,.sl 104 0),(5,.sl 105 0),(0,.pv (z0j l))] /\ σ = look [(104,some (.row ⟨42,8⟩ [])),(105,some (.row ⟨42,8⟩ [])),(106,some (.box [.mp 111])),(111,some (.map (vsOf vs)))]/\m=ps.length - k) (n:=ps.length - 0) ?_ ?_
  ·exact ⟨0,([]:List Int),Nat.zero_le _,rfl,rfl,rfl,rfl⟩
  ·rintro fr σ m ⟨k,vs,hI0,hI1,rfl,rfl,rfl⟩
   refine tQ <| tG <| sm 1 rfl <| nL <| tQ ?_
   refine tC rfl (fun hc15=>?_) fun hc15=>?_
   ·have hlt:k<ps.length:=by simpa using hc15
    have hd:=List.drop_eq_getElem_cons hlt
    have hm:=List.getElem_mem hlt
    have hi:=z06 (f:=eInt) (List.getElem?_eq_getElem hlt)
    generalize ps[k]=x at hd hm hi
    have hV:=VSet.of vs
    have hes:=hV.1
    refine tSk <| tQ <| tBk <| tQ <| tG <| cV rfl (iSq rfl rfl rfl uT35 hi tS3 rfl (by rfl)) <| sm 2 rfl <| nL <| tG <| cV rfl (z47 rfl rfl rfl Tryz.underlying101 rfl rfl trivial) <| sm 1 rfl <| cV rfl (bPu rfl rfl tZ102 tP102 rfl (fbk rfl) rfl) ?_
    refine c0 (z8k rfl rfl rfl rfl rfl ((fun h=>h)) Tryz.underlying101 uT3 rfl (by assumption)) <| nL <| tG <| cV rfl (oB rfl rfl (z03 rfl oM0)) <| sm 1 rfl <| nL ?_
    refine ⟨_,_,?_,Sub.of (fr':=[(14,iInt (k+1)),(13,iInt ps.length),(12,.pv (ints ps)),(6,.ptr 106 0),(4,.sl 104 0),(5,.sl 105 0),(0,.pv (z0j l))]) ⟨rfl,rfl,rfl,rfl,rfl,rfl,rfl,trivial⟩,(k+1),(vs++[x]),?_,?_,rfl,(by
  rw [<- y2w]
  exact funext (by
  exact fun j=>by
    simp only [look]
    by_cases h1:106=j
    · subst h1;rfl
    · by_cases h2:111=j
      · subst h2;rfl
      · by_cases h3:104=j
        · subst h3;rfl
        · by_cases h4:105=j
          · subst h4;rfl
          · simp [look,up,z0k h1,z0k h2,z0k h3,z0k h4])),rfl⟩
    ·omega
    ·omega
    rw [List.append_assoc,List.singleton_append,<- hd];exact hI1
   refine tEx <| tQ <| tQ ?_
   have hvs:ps=vs:=by
     have:=hI1
     rw [List.drop_eq_nil_of_le (by simpa using hc15)] at this
     simpa using this.symm
   subst hvs
   refine tG <| sm 1 rfl <| cV rfl (oSm uT43 rfl) <| sm 1 rfl <| nL <| tBk <| Tr.sub (Sub.of (fr':=[(24,iInt 0),(23,iInt l.length),(22,.pv (z0j l)),(6,.ptr 106 0),(4,.sl 104 ([]:List Nd).length),(5,.sl 105 ([]:List Nd).length),(0,.pv (z0j l))]) ⟨rfl,rfl,rfl,rfl,rfl,rfl,rfl,trivial⟩) ?_
   refine Tr.loop (fun fr σ m=>∃ (k:Nat) (vs:List Int) (A:List Nd) (B:List Nd),(k<=l.length)/\(A.length+B.length=k)/\(z0n ps l=(A++(z0n vs (l.drop k)).1,B++(z0n vs (l.drop k)).2))/\fr=[(24,iInt k),(23,iInt l.length),(22,.pv (z0j l)),(6,.ptr 106 0),(4,.sl 104 A.length),(5,.sl 105 B.length),(0,.pv (z0j l))] /\ σ = look [(104,some (.row ⟨42,8⟩ (A.map Nd.enc))),(105,some (.row ⟨42,8⟩ (B.map Nd.enc))),(106,some (.box [.mp 111])),(111,some (.map (vsOf vs)))]/\m=l.length - k) (n:=l.length - 0) ?_ ?_
   ·exact ⟨0,ps,([]:List Nd),([]:List Nd),Nat.zero_le _,rfl,by simp,rfl,rfl,rfl⟩
   ·rintro fr σ m ⟨k,vs,A,B,hJ0,hJ1,hJ2,rfl,rfl,rfl⟩
    refine tQ <| tG <| sm 1 rfl <| nL <| tQ ?_
    refine tC rfl (fun hc25=>?_) fun hc25=>?_
    ·have hlt:k<l.length:=by simpa using hc25
     have hd:=List.drop_eq_getElem_cons hlt
     have hm:=List.getElem_mem hlt
     have hi:=z0g (List.getElem?_eq_getElem hlt)
     generalize l[k]=x at hd hm hi
     have hV:=VSet.of vs
     have hes:=hV.1
     refine tSk <| tQ <| tBk <| tQ <| tG <| sm 1 rfl <| cV rfl (iSq rfl rfl rfl uT43 hi tS42 rfl (by rfl)) <| cV rfl (lEA rfl rfl uT42 rfl tS42 (lb rfl)) <| cE rfl (aLc (k:=110) rfl tZ42 rfl rfl rfl rfl) <| sm 1 rfl <| c0 (sBA rfl rfl rfl rfl rfl ((fun h=>h)) tS42 (flk rfl) (lb rfl)) <| nL ?_
     refine tQ <| tQ <| Tr.freezeBox (t:=10) (k:=110) rfl rfl rfl ?_
     refine Tr.heap (σ':=look [(104,some (.row ⟨42,8⟩ (A.map Nd.enc))),(105,some (.row ⟨42,8⟩ (B.map Nd.enc))),(106,some (.box [.mp 111])),(111,some (.map (vsOf vs)))]) (fun j=>by
       simp only [look]
       by_cases h:110=j
       · subst h;rfl
       · simp [z0k h]) ?_
     refine tG <| cV rfl (lEA rfl rfl uT42 rfl tS42 (lb rfl)) <| cE rfl (ocq (y4a x) ent61 rfl rfl) <| sm 1 rfl <| nL ?_
     refine tC rfl (fun hc31=>?_) fun hc31=>?_
     ·refine Tr.freeze (t:=4) (k:=104) rfl rfl sI0 <| Tr.freeze (t:=5) (k:=105) rfl rfl sI0 <| tQ <| tG <| sm 4 rfl <| cV rfl (zi8 rfl rfl uT43 tS42 (.inr ⟨_,_,rfl,rfl⟩) (.inl ⟨rfl,rfl⟩) (by (simp;omega)) (by (simp;done)) (zy4)) <| cE rfl (bSl rfl rfl uT40 tZ43 tS43 rfl rfl rfl rfl (fbk rfl) rfl) ?_
      refine cE rfl (z22 (y08 [B,l.drop k] (by simp [tot];omega) (by simp [tot];omega)) ent62 rfl rfl (sSm (by simp [kids,eKid,z0j,List.map_drop,z07,List.take_of_length_le]) Subs.nil) rfl) ?_
      refine sm 2 rfl <| nL <| tRt <| rOk rfl ?_ nPo
      have hhm:z0x x=false:=by simpa using hc31
      rw [hJ2,hd]
      simp only [z0n,hhm,Bool.false_eq_true,if_false,List.append_nil]
      simp [z0j,hd]
     ·have hhm:z0x x=true:=by simpa using hc31
      have hon:=hl x hm hhm
      obtain ⟨o0,ors,hos⟩:=List.exists_cons_of_ne_nil hon
      have ho0:(x.outs.map eInt)[0]? = some [vInt o0]:=by rw [hos];rfl
      have hoh:x.outs.headD 0=o0:=by rw [hos];rfl
      have hAl:(A.map Nd.enc).length=A.length:=by simp
      have hBl:(B.map Nd.enc).length=B.length:=by simp
      refine tSk <| tQ <| tQ <| tG <| sm 2 rfl <| cV rfl (z4v rfl rfl rfl) ?_
      refine WL.cons rfl rfl rfl (cRr (zw6 63 [.ptr 106 0] [(106,.box [.mp 111]),(111,.map (vsOf vs))] rfl ent63 (fun v=>vs.contains v) x.args (fun v hv=>(sc_part1 vs v).sameR (fun k hk _=>by
    simp only [up,List.map_cons,List.map_nil,look] at hk
    by_cases h1:106=k
    · exact .inl h1.symm
    · by_cases h2:111=k
      · exact .inr h2.symm
      · simp [z0k h1,z0k h2] at hk))) ent58 rfl rfl (sRf _ _) (po2 rfl rfl) (by rfl) (fun k (h:_)=>.inr trivial) rfl (by rfl)) ?_
      refine nL ?_
      refine tC rfl (fun hc42=>?_) fun hc42=>?_
      ·refine Tr.heap (σ':=look [(104,some (.row ⟨42,8⟩ (A.map Nd.enc))),(105,some (.row ⟨42,8⟩ (B.map Nd.enc))),(106,some (.box [.mp 111])),(111,some (.map (vsOf vs)))]) (by
         exact fun j=>by
           simp only [look]
           by_cases h1:106=j
           · subst h1;rfl
           · by_cases h2:111=j
             · subst h2;rfl
             · by_cases h3:104=j
               · subst h3;rfl
               · by_cases h4:105=j
                 · subst h4;rfl
                 · simp [look,up,z0k h1,z0k h2,z0k h3,z0k h4]) ?_
       refine tQ <| tDr z7w (fun k=>k∈([106]:List Nat)) <| wR 1 [0,1,2,3,4,5] kR0 h30 <| rV rfl rfl (z47 rfl rfl rfl Tryz.underlying101 rfl rfl dC0) <| smR 2 rfl <| rV rfl rfl (iSq rfl rfl rfl uT35 ho0 tS3 rfl (by rfl)) <| smR 1 rfl <| rV rfl rfl (bPu rfl rfl tZ102 tP102 rfl (fbk rfl) rfl) <| nR <| wO 6 kR0 <| wI rfl rfl nf (nOl rfl) (fun _ _=>z8k rfl rfl rfl rfl rfl sI0 Tryz.underlying101 uT3 rfl (by assumption)) <| wDn kR0 ?_
       refine tQ <| tG <| sm 1 rfl <| cV rfl (lEA rfl rfl uT42 rfl tS42 (lb rfl)) <| cE rfl (bSl rfl rfl uT43 tZ42 tS42 rfl rfl rfl rfl (fbk rfl) rfl) ?_
       refine cE rfl (aPp rfl rfl rfl rfl (by (simp;done)) ((fun h=>h)) uT43 tB42 dC0 (by (simp [z07];done)) (z5m _) (by simp [maxLen,z07];omega) (by simp [z07];omega)) ?_
       refine sm 1 rfl <| nL <| tEx <| tG <| cV rfl (oB rfl rfl (z03 rfl oM0)) <| sm 1 rfl <| nL ?_
       (have hany:x.args.any (fun v=>vs.contains v)=true:=by simpa using hc42
        refine ⟨_,_,?_,Sub.of (fr':=[(24,iInt ((k+1:Nat):Int)),(23,iInt l.length),(22,.pv (z0j l)),(6,.ptr 106 0),(4,.sl 104 A.length),(5,.sl 105 (B++[x]).length),(0,.pv (z0j l))]) ⟨rfl,rfl,rfl,rfl,(by rfl),(congrArg (fun z=>some (IV.sl _ z)) (by simp [z07])),rfl,trivial⟩,(k+1),(vs++[o0]),A,(B++[x]),?_,?_,?_,rfl,(funext (by
          rw [zk1,<- y2w]
          exact fun j=>by
            simp only [look]
            by_cases h1:106=j
            · subst h1;rfl
            · by_cases h2:111=j
              · subst h2;rfl
              · by_cases h3:104=j
                · subst h3;rfl
                · by_cases h4:105=j
                  · subst h4;rfl
                  · simp [look,up,z0k h1,z0k h2,z0k h3,z0k h4])),rfl⟩
        · omega
        · omega
        · simp;omega
        · rw [hJ2,hd]
          simp only [z0n,hhm,if_true,hany,Bool.false_eq_true,if_false,hoh]
          simp)
       skip
      refine Tr.heap (σ':=look [(104,some (.row ⟨42,8⟩ (A.map Nd.enc))),(105,some (.row ⟨42,8⟩ (B.map Nd.enc))),(106,some (.box [.mp 111])),(111,some (.map (vsOf vs)))]) (by
        exact fun j=>by
          simp only [look]
          by_cases h1:106=j
          · subst h1;rfl
          · by_cases h2:111=j
            · subst h2;rfl
            · by_cases h3:104=j
              · subst h3;rfl
              · by_cases h4:105=j
                · subst h4;rfl
                · simp [look,up,z0k h1,z0k h2,z0k h3,z0k h4]) ?_
      refine tSk <| tG <| sm 1 rfl <| cV rfl (lEA rfl rfl uT42 rfl tS42 (lb rfl)) <| cE rfl (bSl rfl rfl uT43 tZ42 tS42 rfl rfl rfl rfl (fbk rfl) rfl) ?_
      refine cE rfl (aPp rfl rfl rfl rfl (by (simp;done)) ((fun h=>h)) uT43 tB42 dC0 (by (simp [z07];done)) (z5m _) (by simp [maxLen,z07];omega) (by simp [z07];omega)) ?_
      refine sm 1 rfl <| nL <| tG <| cV rfl (oB rfl rfl (z03 rfl oM0)) <| sm 1 rfl <| nL ?_
      (have hany:x.args.any (fun v=>vs.contains v)=false:=by simpa using hc42
       refine ⟨_,_,?_,Sub.of (fr':=[(24,iInt ((k+1:Nat):Int)),(23,iInt l.length),(22,.pv (z0j l)),(6,.ptr 106 0),(4,.sl 104 (A++[x]).length),(5,.sl 105 B.length),(0,.pv (z0j l))]) ⟨rfl,rfl,rfl,rfl,(congrArg (fun z=>some (IV.sl _ z)) (by simp [z07])),(by rfl),rfl,trivial⟩,(k+1),vs,(A++[x]),B,?_,?_,?_,rfl,(funext (by
         rw [zk1]
         exact fun j=>by
           simp only [look]
           by_cases h1:106=j
           · subst h1;rfl
           · by_cases h2:111=j
             · subst h2;rfl
             · by_cases h3:104=j
               · subst h3;rfl
               · by_cases h4:105=j
                 · subst h4;rfl
                 · simp [look,up,z0k h1,z0k h2,z0k h3,z0k h4])),rfl⟩
       · omega
       · omega
       · simp;omega
       · rw [hJ2,hd]
         simp only [z0n,hhm,if_true,hany,Bool.false_eq_true,if_false,hoh]
         simp)
      skip
    refine tEx <| tQ <| Tr.freeze (t:=4) (k:=104) rfl rfl sI0 <| Tr.freeze (t:=5) (k:=105) rfl rfl sI0 <| tG <| sm 4 rfl <| nL <| tRt <| rOk rfl ?_ nPo
    have hge:l.length<=k:=by simpa using hc25
    rw [hJ2,List.drop_eq_nil_of_le hge]
    simp only [z0n,List.append_nil]
    rfl
theorem y24 (N:Nat):∀ (l:List Nd) (hok:hOkL l=true) (hb:lsW l<=1073741824),SizeOf.sizeOf l<N->SC Tryz.prog 23 [.pv (z0j l)] [] (fun _=>False) (.pv (z0j (z0u l))) []:=by
  induction N with
  | zero=>intro l hok hb hN;exact absurd hN (Nat.not_lt_zero _)
  | succ N ih =>
    intro l hok hb hN
    refine SC.of Tryz.func23 rfl (lb rfl) fun F ρ w=>?_
    refine Tr.lenOf (t:=0) rfl (fun hl=>?_)
    simp only [List.length_map] at hl
    refine tQ <| tG <| sm 1 rfl <| nL <| tQ <| tQ <| Tr.grow (t:=2) (k:=102) ⟨42,8⟩ rfl rfl rfl rfl rfl <| tG <| sm 1 rfl <| cV rfl (oSm uT43 rfl) <| sm 1 rfl <| nL ?_
    refine tBk <| Tr.sub (Sub.of (fr':=[(12,iInt 0),(11,iInt l.length),(10,.pv (z0j l)),(2,.sl 102 ([]:List Nd).length)]) ⟨rfl,rfl,rfl,rfl,trivial⟩) ?_
    refine Tr.loop (fun fr σ m=>∃ (k:Nat) (out:List Nd),(k<=l.length)/\(out++z0u (l.drop k)=z0u l)/\fr=[(12,iInt k),(11,iInt l.length),(10,.pv (z0j l)),(2,.sl 102 out.length)] /\ σ = look [(102,some (.row ⟨42,8⟩ (out.map Nd.enc)))]/\m=l.length - k) (n:=l.length - 0) ?_ ?_
    ·exact ⟨0,([]:List Nd),Nat.zero_le _,rfl,rfl,rfl,rfl⟩
    ·rintro fr σ m ⟨k,out,hI0,hI1,rfl,rfl,rfl⟩
     refine tQ <| tG <| sm 1 rfl <| nL <| tQ ?_
     refine tC rfl (fun hc13=>?_) fun hc13=>?_
     ·have hlt:k<l.length:=by simpa using hc13
      have hd:=List.drop_eq_getElem_cons hlt
      have hm:=List.getElem_mem hlt
      have hi:=z0g (List.getElem?_eq_getElem hlt)
      generalize l[k]=x at hd hm hi
      have hst:z0u (x::l.drop (k+1))=z2p x++z0u (l.drop (k+1)):=rfl
      have hxok:=y5b hok hm
      rw [hOkN_eq] at hxok
      simp only [Bool.and_eq_true] at hxok
      have hlen1:=zb9 l
      have hol:out.length+(z2p x).length<=1073741824:=by
        have:=congrArg List.length hI1
        rw [hd,hst] at this
        simp only [List.length_append] at this
        omega
      have hWx:=z8e x
      have hWl:=y3m hm
      have hkl:x.kids.length<=1073741824:=by
        have:=y9j x.kids;omega
      have hml:(out.map Nd.enc).length=out.length:=by simp
      refine tSk <| tQ <| tBk <| tQ <| tG <| cV rfl (iSq rfl rfl rfl uT43 hi tS42 rfl (by rfl)) <| cV rfl (lEA rfl rfl uT42 rfl tS42 (lb rfl)) <| cE rfl (aLc (k:=104) rfl tZ42 rfl rfl rfl rfl) <| c0 (sBA rfl rfl rfl rfl rfl ((fun h=>h)) tS42 (flk rfl) (lb rfl)) <| nL <| tQ <| tG ?_
      refine sm 1 rfl <| nL <| tQ <| tQ <| Tr.grow (t:=5) (k:=105) ⟨43,1⟩ rfl rfl rfl rfl rfl <| tG <| sm 2 rfl <| cV rfl (oSm uT40 rfl) <| sm 1 rfl <| nL <| tBk <| Tr.sub (Sub.of (fr':=[(19,iInt 0),(18,iInt x.kids.length),(17,.pv (kids x.kids)),(5,.sl 105 (([]:List (List Nd)).map eKid).length),(4,.ptr 104 0),(2,.sl 102 out.length),(12,iInt k),(11,iInt l.length),(10,.pv (z0j l))]) ⟨rfl,rfl,rfl,rfl,rfl,rfl,rfl,rfl,rfl,trivial⟩) ?_
      refine Tr.heap (σ':=look [(105,some (.row ⟨43,1⟩ (([]:List (List Nd)).map eKid))),(104,some (.box [iInt x.kind,iInt x.op,iInt x.n,iStr x.name,.pv (ints x.args),.pv (ints x.outs),.pv (ints x.params),.pv (kids x.kids)])),(102,some (.row ⟨42,8⟩ (out.map Nd.enc)))]) (lkq [105,104,102] rfl rfl ⟨rfl,rfl,rfl,trivial⟩) ?_
      refine Tr.loop (fun fr σ m=>∃ (i:Nat) (acc:List (List Nd)),(i<=x.kids.length)/\(acc++z2e (x.kids.drop i)=z2e x.kids)/\(acc.length=i)/\fr=[(19,iInt i),(18,iInt x.kids.length),(17,.pv (kids x.kids)),(5,.sl 105 (acc.map eKid).length),(4,.ptr 104 0),(2,.sl 102 out.length),(12,iInt k),(11,iInt l.length),(10,.pv (z0j l))] /\ σ = look [(105,some (.row ⟨43,1⟩ (acc.map eKid))),(104,some (.box [iInt x.kind,iInt x.op,iInt x.n,iStr x.name,.pv (ints x.args),.pv (ints x.outs),.pv (ints x.params),.pv (kids x.kids)])),(102,some (.row ⟨42,8⟩ (out.map Nd.enc)))]/\m=x.kids.length - i) (n:=x.kids.length - 0) ?_ ?_
      ·exact ⟨0,([]:List (List Nd)),Nat.zero_le _,rfl,rfl,rfl,rfl,rfl⟩
      ·rintro fr σ m ⟨i,acc,hJ0,hJ1,hJ2,rfl,rfl,rfl⟩
       refine tQ <| tG <| sm 1 rfl <| nL <| tQ ?_
       refine tC rfl (fun hc20=>?_) fun hc20=>?_
       ·have hlt2:i<x.kids.length:=by simpa using hc20
        have hd2:=List.drop_eq_getElem_cons hlt2
        have hm2:=List.getElem_mem hlt2
        have hi2:=z06 (f:=eKid) (List.getElem?_eq_getElem hlt2)
        generalize x.kids[i]=q at hd2 hm2 hi2
        have hst2:z2e (q::x.kids.drop (i+1))=z0u q::z2e (x.kids.drop (i+1)):=rfl
        have hdec:SizeOf.sizeOf q<N:=Nat.lt_of_lt_of_le (z6p hm rfl hm2) (Nat.le_of_lt_succ hN)
        have hqok:=zy3 hxok.2 hm2
        have hqb:lsW q<=1073741824:=by have:=z78 hm2;omega
        have hal:(acc.map eKid).length=acc.length:=by simp
        refine tSk <| tQ <| tBk <| tQ <| tG <| cV rfl (iSq rfl rfl rfl uT40 hi2 tS43 rfl (by rfl)) <| sm 2 rfl <| nL <| tG <| sm 2 rfl <| cE rfl (ocq (ih q hqok hqb hdec) ent23 rfl rfl) <| cE rfl (bSl rfl rfl uT40 tZ43 tS43 rfl rfl rfl rfl (fbk rfl) rfl) ?_
        refine cE rfl (aPp rfl rfl rfl rfl (by rfl) ((fun h=>h)) uT40 tB43 dC0 (by (simp [z07];done)) (by (simp [z07,PV.one];rfl)) (by simp [maxLen,z07];omega) (by simp [z07];omega)) ?_
        refine sm 1 rfl <| nL <| tG <| cV rfl (oB rfl rfl (z03 rfl oM0)) <| sm 1 rfl <| nL ?_
        refine ⟨_,_,?_,Sub.of (fr':=[(19,iInt (i+1)),(18,iInt x.kids.length),(17,.pv (kids x.kids)),(5,.sl 105 ((acc++[z0u q]).map eKid).length),(4,.ptr 104 0),(2,.sl 102 out.length),(12,iInt k),(11,iInt l.length),(10,.pv (z0j l))]) ⟨rfl,rfl,rfl,(by exact congrArg (fun z=>some (IV.sl _ z)) (by rw [List.map_append];simp [z07];done)),rfl,rfl,rfl,rfl,rfl,trivial⟩,(i+1),(acc++[z0u q]),?_,?_,?_,rfl,(by
  rw [List.map_append]
  exact funext (lkq [105,104,102] rfl rfl ⟨rfl,rfl,rfl,trivial⟩)),rfl⟩
        ·omega
        ·omega
        ·rw [List.append_assoc,List.singleton_append,<- hst2,<- hd2];exact hJ1
        simp [hJ2]
       refine tEx <| tQ ?_
       have hks:acc=z2e x.kids:=by
         have:=hJ1
         rw [List.drop_eq_nil_of_le (by simpa using hc20)] at this
         simpa [z2e] using this
       subst hks
       clear hJ1
       refine tG <| sm 2 rfl <| c0 (sBx rfl rfl rfl rfl ((fun h=>h)) tS40 (⟨_,_,rfl,rfl⟩) (lb rfl)) <| nL <| tQ <| tQ <| Tr.heap (σ':=look [(105,some (.row ⟨43,1⟩ ((z2e x.kids).map eKid))),(104,some (.box [iInt x.kind,iInt x.op,iInt x.n,iStr x.name,.pv (ints x.args),.pv (ints x.outs),.pv (ints x.params),.sl 105 ((z2e x.kids).map eKid).length])),(102,some (.row ⟨42,8⟩ (out.map Nd.enc)))]) (lkq [105,104,102] rfl rfl ⟨rfl,rfl,rfl,trivial⟩) <| tG <| sm 3 rfl <| nL ?_
       refine tC rfl (fun hc33=>?_) fun hc33=>?_
       ·have hk11:(x.kind==11)=true:=hc33
        have hkn:x.kids≠[]:=by
          intro e
          have:=hxok.1.2
          rw [e] at this
          simp [bne,hk11] at this
        obtain ⟨b0,br,hbr⟩:=List.exists_cons_of_ne_nil hkn
        have hkb:z2e x.kids=z0u b0::z2e br:=by rw [hbr];rfl
        have hb0:hOkL b0=true:=zy3 hxok.2 (by rw [hbr];exact .head _)
        have hb0l:lsW b0<=1073741824:=by have:=z78 (q:=b0) (ks:=x.kids) (by rw [hbr];exact .head _);omega
        generalize hbe:z0u b0=b at hkb
        have hbo:∀ y∈b,z0x y=true->y.outs≠[]:=by rw [<- hbe];exact zf7 b0 hb0
        have hbl:b.length<=1073741824:=by have:=zb9 b0;rw [hbe] at this;omega
        have hst0:((z2e x.kids).map eKid)[0]? = some [z0j b]:=by rw [hkb];rfl
        have hstl:0<((z2e x.kids).map eKid).length:=by rw [hkb];simp
        have hNx:z2p x=(z0n x.params b).1++[.mk x.kind x.op x.n x.name x.args x.outs x.params ((z0n x.params b).2::z2e br)]:=by
          rw [zc0,hkb]
          simp only [hOut,hk11,if_true]
        have hpl:(z0n x.params b).1.length+1=(z2p x).length:=by rw [hNx];simp
        have hpm:((z0n x.params b).1.map Nd.enc).length=(z0n x.params b).1.length:=by simp
        have hset:((z2e x.kids).map eKid).set 0 ([z0j b].set 0 (z0j (z0n x.params b).2))=((z0n x.params b).2::z2e br).map eKid:=by rw [hkb];rfl
        refine tQ <| tDr z7w (fun k=>k∈([104,105]:List Nat)) <| wR 6 [0,1,2,3,4,5] kR0 h30 <| smR 1 rfl <| rV rfl rfl (oLb uT40 rfl rfl rfl dC0) <| rV rfl rfl (iRw rfl rfl rfl rfl rfl uT40 tS43 (by assumption) (by rfl)) <| rV rfl rfl (lRw rfl rfl rfl rfl (Nat.add_zero _).symm (by assumption) rfl uT43 rfl dC0) <| smR 1 rfl <| rV rfl rfl (oLb uT35 rfl rfl rfl dC0) <| nR <| wO 6 kR0 <| wI rfl rfl nf nw (fun _ _=>ocq (sc_part b x.params hbo hbl) ent39 rfl rfl) ?_
        refine wR 0 [7,8,9,10,11] kR0 h30 <| smR 1 rfl <| rV rfl rfl (z1c rfl rfl rfl) <| rV rfl rfl (z1c rfl rfl rfl) <| smR 2 rfl <| nR <| wDn kR0 <| tQ <| tG <| sm 2 rfl ?_
        refine cE rfl (aPp rfl rfl rfl rfl (by (simp;done)) ((fun h=>h)) uT43 tB42 dC0 (zy4) (zo2) (by simp [maxLen,z07];omega) (by simp [z07];omega)) ?_
        refine sm 1 rfl <| nL <| tG <| sm 3 rfl <| cV rfl (iRw rfl rfl rfl rfl rfl uT40 tS43 (by assumption) (by rfl)) <| c0 (z4d rfl rfl rfl rfl rfl (Nat.add_zero _).symm (by assumption) sI0 tS43 rfl ((fun h=>h))) <| nL <| Tr.freezeCell (k:=105) (k2:=104) (j:=7) rfl sI0 rfl rfl dC0 ?_
        refine Tr.heap (σ':=look [(104,some (.box [iInt x.kind,iInt x.op,iInt x.n,iStr x.name,.pv (ints x.args),.pv (ints x.outs),.pv (ints x.params),.pv (kids ((z0n x.params b).2::z2e br))])),(102,some (.row ⟨42,8⟩ (out.map Nd.enc++(z0n x.params b).1.map Nd.enc)))]) (by
          rw [hset]
          intro j
          simp only [look]
          by_cases h104:104=j
          · subst h104;rfl
          · by_cases h105:105=j
            · subst h105;rfl
            · by_cases h102:102=j
              · subst h102;rfl
              · simp [look,up,z0k h104,z0k h105,z0k h102]) ?_
        refine tG <| sm 1 rfl <| cV rfl (lBP rfl rfl rfl uT42 rfl tS42 (lb rfl) rfl trivial) <| cE rfl (bSl rfl rfl uT43 tZ42 tS42 rfl rfl rfl rfl (fbk rfl) rfl) ?_
        refine cE rfl (aPp rfl rfl rfl rfl (by (simp;done)) ((fun h=>h)) uT43 tB42 dC0 (by (simp [z07];done)) (zo1 _ _ _ _ _ _ _ _) (by simp [maxLen,z07];omega) (by simp [z07];omega)) ?_
        refine sm 1 rfl <| nL <| Tr.drop (k:=104) ?_
        refine Tr.heap (σ':=look [(102,some (.row ⟨42,8⟩ ((out++z2p x).map Nd.enc)))]) (by
          rw [hNx,<- List.append_assoc,zk1,List.map_append]
          intro j
          simp only [look]
          by_cases h104:104=j
          · subst h104;rfl
          · by_cases h102:102=j
            · subst h102;rfl
            · simp [look,up,z0k h104,z0k h102]) ?_
        refine tG <| cV rfl (oB rfl rfl (z03 rfl oM0)) <| sm 1 rfl <| nL ?_
        refine ⟨_,_,?_,Sub.of (fr':=[(12,iInt (k+1)),(11,iInt l.length),(10,.pv (z0j l)),(2,.sl 102 (out++z2p x).length)]) ⟨rfl,rfl,rfl,congrArg (fun z=>some (IV.sl _ z)) (by rw [hNx];first | (simp [z07];done) | (simp [z07];omega)),trivial⟩,(k+1),(out++z2p x),?_,?_,rfl,rfl,rfl⟩
        ·omega
        ·omega
        rw [List.append_assoc,<- hst,<- hd];exact hI1
       have hk11:(x.kind==11)=false:=hc33
       have hNx:z2p x=[.mk x.kind x.op x.n x.name x.args x.outs x.params (z2e x.kids)]:=by
         rw [zc0]
         simp only [hOut,hk11,Bool.false_eq_true,if_false]
       have hN1:(z2p x).length=1:=by rw [hNx];rfl
       refine tSk <| Tr.freezeCell (k:=105) (k2:=104) (j:=7) rfl sI0 rfl rfl dC0 ?_
       refine Tr.heap (σ':=look [(104,some (.box [iInt x.kind,iInt x.op,iInt x.n,iStr x.name,.pv (ints x.args),.pv (ints x.outs),.pv (ints x.params),.pv (kids (z2e x.kids))])),(102,some (.row ⟨42,8⟩ (out.map Nd.enc)))]) (by
         skip
         intro j
         simp only [look]
         by_cases h104:104=j
         · subst h104;rfl
         · by_cases h105:105=j
           · subst h105;rfl
           · by_cases h102:102=j
             · subst h102;rfl
             · simp [look,up,z0k h104,z0k h105,z0k h102]) ?_
       refine tG <| sm 1 rfl <| cV rfl (lBP rfl rfl rfl uT42 rfl tS42 (lb rfl) rfl trivial) <| cE rfl (bSl rfl rfl uT43 tZ42 tS42 rfl rfl rfl rfl (fbk rfl) rfl) ?_
       refine cE rfl (aPp rfl rfl rfl rfl (by (simp;done)) ((fun h=>h)) uT43 tB42 dC0 (by (simp [z07];done)) (zo1 _ _ _ _ _ _ _ _) (by simp [maxLen,z07];omega) (by simp [z07];omega)) ?_
       refine sm 1 rfl <| nL <| Tr.drop (k:=104) ?_
       refine Tr.heap (σ':=look [(102,some (.row ⟨42,8⟩ ((out++z2p x).map Nd.enc)))]) (by
         rw [hNx,zk1]
         intro j
         simp only [look]
         by_cases h104:104=j
         · subst h104;rfl
         · by_cases h102:102=j
           · subst h102;rfl
           · simp [look,up,z0k h104,z0k h102]) ?_
       refine tG <| cV rfl (oB rfl rfl (z03 rfl oM0)) <| sm 1 rfl <| nL ?_
       refine ⟨_,_,?_,Sub.of (fr':=[(12,iInt (k+1)),(11,iInt l.length),(10,.pv (z0j l)),(2,.sl 102 (out++z2p x).length)]) ⟨rfl,rfl,rfl,congrArg (fun z=>some (IV.sl _ z)) (by rw [hNx];first | (simp [z07];done) | (simp [z07];omega)),trivial⟩,(k+1),(out++z2p x),?_,?_,rfl,rfl,rfl⟩
       ·omega
       ·omega
       rw [List.append_assoc,<- hst,<- hd];exact hI1
     refine tEx <| tQ <| Tr.freeze (t:=2) (k:=102) rfl rfl sI0 <| tG <| sm 2 rfl <| nL <| tRt <| rOk rfl ?_ nPo
     have hge:l.length<=k:=by simpa using hc13
     have:out=z0u l:=by rw [<- hI1,List.drop_eq_nil_of_le hge];simp [z0u]
     rw [this]
     rfl
theorem sc_hList (l:List Nd) (hok:hOkL l=true) (hb:lsW l<=1073741824):SC Tryz.prog 23 [.pv (z0j l)] [] (fun _=>False) (.pv (z0j (z0u l))) []:=y24 _ l hok hb (Nat.lt_succ_self _)
theorem y07 (u:Un) (hW:z0s u<=536870912) (hok:(z49 u).1=0->∀ f∈u.flows,hOkL f.body=true):SC Tryz.prog 11 [.pv u.enc] [] (fun _=>False) (.tup [.pv (z4j u).1.enc,iInt (z4j u).2]) []:=by
  refine SC.ofC2 Tryz.func11 rfl (lb rfl) rfl fun F ρ w=>?_
  have hW2:z0s u=u.arrays.length+u.flows.length+wtA u.arrays+wtF u.flows:=rfl
  refine tQ <| tG <| cE rfl (z2r rfl rfl) <| cE rfl (aLc (k:=102) rfl tZ25 rfl rfl rfl rfl) <| sm 1 rfl <| nL <| tQ <| tQ <| tG <| cV rfl (lEA rfl rfl uT25 rfl tS25 (lb rfl)) <| cE rfl (ocq (y7f u hW) ent22 rfl rfl) <| sm 1 rfl ?_
  refine cV rfl (z1c rfl rfl rfl) <| cV rfl (z1c rfl rfl rfl) <| sm 2 rfl <| nL <| tQ <| tG <| sm 2 rfl <| nL ?_
  refine tC rfl (fun hc15=>?_) fun hc15=>?_
  ·refine tQ <| tG <| cV rfl (bPu rfl rfl tZ25 tP25 rfl (fbk rfl) rfl) <| c0 (sBA rfl rfl rfl rfl rfl ((fun h=>h)) tS25 (flk rfl) (lb rfl)) <| sm 1 rfl <| nL <| tRt ?_
   have hz:((z49 u).1==0)=false:=by simpa using hc15
   have hH:z4j u=(⟨[],[]⟩,1):=by simp [z4j,hz]
   rw [hH]
   exact ⟨⟨_,_,(fun _ _ ho=>lBP ho rfl rfl uT25 rfl tS25 (lb rfl) rfl trivial),rfl,fun _ _ _ _ h=>tup2_sub (fun _ h=>zu4 h) h⟩,nPo⟩
  have hz:(z49 u).1=0:=by simpa using hc15
  have hH:z4j u=(z3l u,0):=by simp [z4j,hz]
  refine tSk <| tQ <| tG <| sm 2 rfl <| cV rfl (bPu rfl rfl tZ25 tP25 rfl (fbk rfl) rfl) <| cE rfl (aLc (k:=106) rfl tZ25 rfl rfl rfl rfl) <| c0 (sBA rfl rfl rfl rfl rfl ((fun h=>h)) tS25 (flk rfl) (lb rfl)) <| nL <| tQ <| tQ <| Tr.growCell (k:=199) (k2:=106) (j:=1) ⟨51,5⟩ rfl rfl rfl rfl rfl rfl <| tG ?_
  refine sm 2 rfl <| cV rfl (oSm uT23 rfl) <| sm 1 rfl <| nL <| tBk <| Tr.sub (Sub.of (fr':=[(23,iInt 0),(22,iInt u.flows.length),(21,.pv (flws u.flows)),(6,.ptr 106 0),(2,.ptr 102 0)]) ⟨rfl,rfl,rfl,rfl,rfl,trivial⟩) <| Tr.heap (σ':=look [(106,some (.box [.pv (arrs u.arrays),.sl 199 (([]:List Fl).map Fl.enc).length])),(199,some (.row ⟨51,5⟩ (([]:List Fl).map Fl.enc))),(102,some (.box [.pv (.val (.slice none 0 0)),.pv (.val (.slice none 0 0))]))]) (lkq [106,199,102] rfl rfl ⟨rfl,rfl,rfl,trivial⟩) ?_
  refine Tr.loop (fun fr σ m=>∃ (k:Nat) (out:List Fl),(k<=u.flows.length)/\(out++(u.flows.drop k).map z3y=u.flows.map z3y)/\(out.length=k)/\fr=[(23,iInt k),(22,iInt u.flows.length),(21,.pv (flws u.flows)),(6,.ptr 106 0),(2,.ptr 102 0)] /\ σ = look [(106,some (.box [.pv (arrs u.arrays),.sl 199 (out.map Fl.enc).length])),(199,some (.row ⟨51,5⟩ (out.map Fl.enc))),(102,some (.box [.pv (.val (.slice none 0 0)),.pv (.val (.slice none 0 0))]))]/\m=u.flows.length - k) (n:=u.flows.length - 0) ?_ ?_
  ·exact ⟨0,([]:List Fl),Nat.zero_le _,rfl,rfl,rfl,rfl,rfl⟩
  rintro fr σ m ⟨k,out,hI0,hI1,hI2,rfl,rfl,rfl⟩
  refine tQ <| tG <| sm 1 rfl <| nL <| tQ ?_
  refine tC rfl (fun hc24=>?_) fun hc24=>?_
  ·have hlt:k<u.flows.length:=by simpa using hc24
   have hd:=List.drop_eq_getElem_cons hlt
   have hm:=List.getElem_mem hlt
   have hi:=z06 (f:=Fl.enc) (List.getElem?_eq_getElem hlt)
   generalize u.flows[k]=x at hd hm hi
   have hxok:=hok hz x hm
   have hxb:lsW x.body<=1073741824:=by have:=zf2 hW hm;omega
   have hol:(out.map Fl.enc).length=out.length:=by simp
   refine tSk <| tQ <| tBk <| tQ <| tG <| cV rfl (iSq rfl rfl rfl uT23 hi tS51 rfl (by rfl)) <| cV rfl (lEA rfl rfl Tryz.underlying51 rfl tS51 (lb rfl)) <| cE rfl (aLc (k:=108) rfl tZ51 rfl rfl rfl rfl) <| c0 (sBA rfl rfl rfl rfl rfl ((fun h=>h)) tS51 (flk rfl) (lb rfl)) <| nL <| tQ <| tG ?_
   refine sm 2 rfl <| cE rfl (ocq (sc_hList x.body hxok hxb) ent23 rfl rfl) <| sm 1 rfl <| c0 (sBx rfl rfl rfl rfl ((fun h=>h)) tS43 (rfl) (lb rfl)) <| nL <| tG <| sm 2 rfl <| cV rfl (lBP rfl rfl rfl Tryz.underlying51 rfl tS51 (lb rfl) rfl trivial) <| cE rfl (bSl rfl rfl uT23 tZ51 tS51 rfl rfl rfl rfl (fbk rfl) rfl) ?_
   refine cE rfl (aPp rfl rfl rfl rfl (by rfl) ((fun h=>h)) uT23 tB51 dC0 (by (simp [z07];done)) (y6q _ _ _ _ _) (by simp [maxLen,z07];omega) (by simp [z07];omega)) ?_
   refine sm 1 rfl <| c0 (sBx rfl rfl rfl rfl ((fun h=>h)) tS23 (⟨_,_,rfl,by simp⟩) (lb rfl)) <| nL <| Tr.drop (k:=108) ?_
   refine Tr.heap (σ':=look [(106,some (.box [.pv (arrs u.arrays),.sl 199 ((out++[z3y x]).map Fl.enc).length])),(199,some (.row ⟨51,5⟩ ((out++[z3y x]).map Fl.enc))),(102,some (.box [.pv (.val (.slice none 0 0)),.pv (.val (.slice none 0 0))]))]) (by
     rw [y8l,List.length_append]
     intro j
     simp only [look]
     by_cases h108:108=j
     · subst h108;rfl
     · by_cases h106:106=j
       · subst h106;rfl
       · by_cases h199:199=j
         · subst h199;rfl
         · by_cases h102:102=j
           · subst h102;rfl
           · simp [look,up,z0k h108,z0k h106,z0k h199,z0k h102]) ?_
   refine tG <| cV rfl (oB rfl rfl (z03 rfl oM0)) <| sm 1 rfl <| nL ?_
   refine ⟨_,_,?_,Sub.of (fr':=[(23,iInt (k+1)),(22,iInt u.flows.length),(21,.pv (flws u.flows)),(6,.ptr 106 0),(2,.ptr 102 0)]) ⟨rfl,rfl,rfl,rfl,rfl,trivial⟩,(k+1),(out++[z3y x]),?_,?_,?_,rfl,rfl,rfl⟩
   ·omega
   ·omega
   ·rw [List.append_assoc,<- hI1,hd];rfl
   simp [hI2]
  refine tEx <| tQ <| Tr.freezeCell (k:=199) (k2:=106) (j:=1) rfl rfl rfl rfl dC0 <| tG <| cV rfl (lBP rfl rfl rfl uT25 rfl tS25 (lb rfl) rfl trivial) <| c0 (sBA rfl rfl rfl rfl rfl ((fun h=>h)) tS25 (flk rfl) (lb rfl)) <| sm 1 rfl <| nL <| tRt <| retC2_ok (.inl rfl) (fun _ _ ho=>lBP ho rfl rfl uT25 rfl tS25 (lb rfl) rfl trivial) rfl ?_ nPo
  have hge:u.flows.length<=k:=by simpa using hc24
  have hout:out=u.flows.map z3y:=by rw [<- hI1,List.drop_eq_nil_of_le hge];simp
  rw [hH,hout]
  rfl
theorem y3f {u:Un} (h:(z19 u).1≠0):z4j u=(⟨[],[]⟩,1):=by
  have:((z49 u).1==0)=false:=by rw [z9b];simpa using h
  simp [z4j,this]
theorem z86 {u:Un} (h:(z19 u).1=0):z4j u=(z3l u,0):=by
  have:((z49 u).1==0)=true:=by rw [z9b];simpa using h
  simp [z4j,this]
def y11 (x:Nd):Bool:=decide (x.kind<=3)||(x.kind==4&&x.op != 4&&x.op != 5)
def fAny (l m:List Int):Bool:=l.any fun v=>m.any fun w=>v==w
def z9s (x:Nd):Bool:=x.kind==11&&(match x.kids with
  | [y::_]=>y11 y && !fAny y.args x.params
  | _=>false)
mutual
def y8z:Nd->Bool
  | .mk kind op n name args outs params ks=>!z9s (.mk kind op n name args outs params ks)&&zf1 ks
def z3v:List Nd->Bool
  | []=>true
  | x::r=>y8z x&&z3v r
def zf1:List (List Nd)->Bool
  | []=>true
  | l::r=>z3v l&&zf1 r
end
theorem zx9 (x:Nd):y8z x=(!z9s x&&zf1 x.kids):=by cases x;simp [y8z,Nd.kids]
def y12 (u:Un):Bool:=u.flows.all fun f=>z3v f.body
theorem sc_idle (x:Nd):SC Tryz.prog 40 [.pv (ndv x)] [] (fun _=>False) (iBool (y11 x)) []:=by
  refine SC.of Tryz.func40 rfl (lb rfl) fun F ρ w=>?_
  refine tQ <| tG <| cE rfl (z2r rfl rfl) <| sm 1 rfl <| nL <| tQ <| tG <| sm 4 rfl ?_
  refine wS 6 rfl (fun hb6=>?_) fun hb6=>?_
  ·refine sm 4 rfl <| nUu rfl rfl rfl rfl rfl rfl <| nUu rfl rfl rfl rfl rfl rfl <| nUu rfl rfl rfl rfl rfl rfl <| sm 2 rfl <| nUu rfl rfl rfl rfl rfl rfl <| nUu rfl rfl rfl rfl rfl rfl <| nUu rfl rfl rfl rfl rfl rfl <| sm 3 rfl <| nL <| tRt <| rOk rfl ?_ nPo
   refine congrArg (fun b=>iBool b) ?_
   simp_all [y11]
  refine sm 4 rfl ?_
  refine wS 10 rfl (fun hb10=>?_) fun hb10=>?_
  ·refine sm 5 rfl ?_
   refine wS 15 rfl (fun hb15=>?_) fun hb15=>?_
   ·refine sm 6 rfl <| nL <| tRt <| rOk rfl ?_ nPo
    refine congrArg (fun b=>iBool b) ?_
    simp_all [y11]
   refine sm 6 rfl <| nL <| tRt <| rOk rfl ?_ nPo
   refine congrArg (fun b=>iBool b) ?_
   simp_all [y11]
  refine sm 11 rfl <| nL <| tRt <| rOk rfl ?_ nPo
  refine congrArg (fun b=>iBool b) ?_
  simp_all [y11]
theorem sc_any (l ms:List Int):SC Tryz.prog 41 [.pv (ints l),.pv (ints ms)] [] (fun _=>False) (iBool (fAny l ms)) []:=by
  refine SC.of Tryz.func41 rfl (lb rfl) fun F ρ w=>?_
  refine Tr.lenOf (t:=0) rfl (fun hl=>?_)
  simp only [List.length_map] at hl
  refine Tr.lenOf (t:=1) rfl (fun hl2=>?_)
  simp only [List.length_map] at hl2
  refine tQ <| tG <| sm 1 rfl <| nL <| tQ <| tQ <| tG <| sm 1 rfl <| nL <| tBk <| Tr.sub (Sub.of (fr':=[(5,iInt 0),(0,.pv (ints l)),(1,.pv (ints ms))]) ⟨rfl,rfl,rfl,trivial⟩) ?_
  refine Tr.loop (fun fr σ m=>∃ (k:Nat),(k<=l.length)/\(fAny l ms=fAny (l.drop k) ms)/\fr=[(5,iInt k),(0,.pv (ints l)),(1,.pv (ints ms))] /\ σ = look []/\m=l.length - k) (n:=l.length - 0) ?_ ?_
  ·exact ⟨0,Nat.zero_le _,rfl,rfl,rfl,rfl⟩
  rintro fr σ m ⟨k,hI0,hI1,rfl,rfl,rfl⟩
  refine tQ <| tQ <| tG <| sm 2 rfl <| cV rfl (oSm uT35 rfl) <| sm 1 rfl <| nL ?_
  refine tC rfl (fun hc10=>?_) fun hc10=>?_
  ·have hlt:k<l.length:=by simpa using hc10
   have hd:=List.drop_eq_getElem_cons hlt
   have hm:=List.getElem_mem hlt
   have hi:=z06 (f:=eInt) (List.getElem?_eq_getElem hlt)
   generalize l[k]=x at hd hm hi
   refine tSk <| tQ <| tBk <| tQ <| tG <| sm 1 rfl <| nL <| tBk ?_
   have hstart:fAny l ms=((ms.drop 0).any (fun w=>x==w)||fAny (l.drop (k+1)) ms):=by rw [hI1,hd];rfl
   refine Tr.sub (Sub.of (fr':=[(6,iInt 0),(5,iInt k),(0,.pv (ints l)),(1,.pv (ints ms))]) ⟨rfl,rfl,rfl,rfl,trivial⟩) ?_
   refine Tr.loop (fun fr σ m=>∃ (i:Nat),(i<=ms.length)/\(fAny l ms=((ms.drop i).any (fun w=>x==w)||fAny (l.drop (k+1)) ms))/\fr=[(6,iInt i),(5,iInt k),(0,.pv (ints l)),(1,.pv (ints ms))] /\ σ = look []/\m=ms.length - i) (n:=ms.length - 0) ?_ ?_
   ·exact ⟨0,Nat.zero_le _,hstart,rfl,rfl,rfl⟩
   rintro fr σ m ⟨i,hJ0,hJ1,rfl,rfl,rfl⟩
   refine tQ <| tQ <| tG <| sm 2 rfl <| cV rfl (oSm uT35 rfl) <| sm 1 rfl <| nL ?_
   refine tC rfl (fun hc16=>?_) fun hc16=>?_
   ·have hlt2:i<ms.length:=by simpa using hc16
    have hd2:=List.drop_eq_getElem_cons hlt2
    have hm2:=List.getElem_mem hlt2
    have hi2:=z06 (f:=eInt) (List.getElem?_eq_getElem hlt2)
    generalize ms[i]=y at hd2 hm2 hi2
    refine tSk <| tQ <| tBk <| tQ <| Tr.still z7w kR0 rfl <| smS 2 rfl <| sV rfl (iSq rfl rfl rfl uT35 hi tS3 rfl (by rfl)) <| smS 3 rfl <| sV rfl (iSq rfl rfl rfl uT35 hi2 tS3 rfl (by rfl)) <| smS 2 rfl <| WS.nil ?_
    refine tC rfl (fun hc27=>?_) fun hc27=>?_
    ·refine tQ <| tG <| sm 1 rfl <| nL <| tRt <| rOk rfl ?_ nPo
     have hxy:(x==y)=true:=by simpa using hc27
     rw [hJ1,hd2]
     simp only [List.any_cons,hxy,Bool.true_or]
    refine tSk <| tG <| sm 1 rfl <| cV rfl (oB rfl rfl (z03 rfl oM0)) <| sm 1 rfl <| nL ?_
    refine ⟨_,_,?_,Sub.of (fr':=[(6,iInt (i+1)),(5,iInt k),(0,.pv (ints l)),(1,.pv (ints ms))]) ⟨rfl,rfl,rfl,rfl,trivial⟩,(i+1),?_,?_,rfl,rfl,rfl⟩
    ·omega
    ·omega
    rw [hJ1,hd2]
    have hxy:(x==y)=false:=by simpa using hc27
    simp only [List.any_cons,hxy,Bool.false_or]
   refine tEx <| tG <| sm 1 rfl <| cV rfl (oB rfl rfl (z03 rfl oM0)) <| sm 1 rfl <| nL ?_
   refine ⟨_,_,?_,Sub.of (fr':=[(5,iInt (k+1)),(0,.pv (ints l)),(1,.pv (ints ms))]) ⟨rfl,rfl,rfl,trivial⟩,(k+1),?_,?_,rfl,rfl,rfl⟩
   ·omega
   ·omega
   rw [hJ1,List.drop_eq_nil_of_le (by simpa using hc16)]
   rfl
  refine tEx <| tQ <| tG <| sm 1 rfl <| nL <| tRt <| rOk rfl ?_ nPo
  have hge:l.length<=k:=by simpa using hc10
  rw [hI1,List.drop_eq_nil_of_le hge]
  rfl
set_option maxRecDepth 20000
set_option maxHeartbeats 2000000
def run0 (ins:List Int) (fuel:Int):Rs:={ ins:=ins,ar:=[],st:=0,code:=0,out:=[],cost:=0,fuel:=if fuel<0 then 0 else fuel,spent:=false }
def mEnd (r:Int × Rs):Rs:=if z11 r.2 then r.2 else { r.2 with st:=1,code:=r.1 }
def runv (s:Rs):PV:=.agg [vInt s.st,vInt s.code,ints s.out,vInt s.cost,vInt s.fuel]
theorem ye5 (fs:List Fl) (hW:z0s ⟨[],fs⟩<=536870912) (hz:(z19 ⟨[],fs⟩).1=0) (ins:List Int) (fuel:Int) (d:Nat) (r:Int × Rs) (h:z3m ⟨[],fs⟩ d (z02 z0c fs 0) [] { run0 ins fuel with ar:=[] }=some r):SC Tryz.prog 17 [.pv (Un.enc ⟨[],fs⟩),.pv (ints ins),iInt fuel] [] (fun _=>False) (.pv (runv (mEnd r))) []:=by
  refine SC.anyR (SC.vc tb { gh:=[(5,[.growC 1001 6 1002 3 1]),(12,[.fzC 1001 6 1002])],ids:=[(26,1001),(45,1004),(47,1003)] } [] Tryz.func17 rfl rfl ?_)
  have hub:∀ f∈fs,lsW f.body<=1073741824:=fun f hf=>Nat.le_trans (zf2 (u:=⟨[],fs⟩) hW hf) oM0
  have hcall:=(zh7 ⟨[],fs⟩ hub (d+1)).1 d (Nat.lt_succ_self d) _ _ _ _ h sI0
  have hal:=y84 h
  have hC:=zw7 ⟨[],fs⟩ hW
  rw [hz] at hC
  have hP:=z4e ⟨[],fs⟩ z0c
  obtain ⟨n,ins',ar',st',code',out',cost',fuel',spent'⟩:=r
  obtain rfl:ar'=[]:=List.eq_nil_of_length_eq_zero hal
  have hO:=z4a ⟨[],fs⟩ ⟨ins',[],st',code',out',cost',fuel',spent'⟩
  obtain ⟨ov,hov⟩:∃ b,z11 ⟨ins',[],st',code',out',cost',fuel',spent'⟩=b:=⟨_,rfl⟩
  rw [hov] at hO
  have hend:mEnd (n,⟨ins',[],st',code',out',cost',fuel',spent'⟩)=if ov then (⟨ins',[],st',code',out',cost',fuel',spent'⟩:Rs) else ⟨ins',[],1,n,out',cost',fuel',spent'⟩:=by unfold mEnd;rw [hov]
  rw [hend]
  clear hend
  refine ⟨[],hC,sR,trivial,rfl,Unit,fun _=>[(10,iInt 0)],fun _=>[],fun _=>0,fun _=>True,[],(),trivial,⟨rfl,trivial⟩,trivial,fun _ _=>⟨[],hP,sR,trivial,rfl,[],hcall,SubA.same (SubA.same (SubA.cons sN sR)),⟨rfl,rfl,trivial⟩,rfl,[],hO,sR,⟨rfl,rfl,trivial⟩,rfl,?_⟩⟩
  cases ov with
  | true=>exact ⟨rfl,sI,trivial⟩
  | false=>exact ⟨rfl,sI,trivial⟩
theorem sr_run1 (fs:List Fl) (A:Ar) (hW:z0s ⟨[A],fs⟩<=536870912) (hz:(z19 ⟨[A],fs⟩).1=0) (ins:List Int) (fuel:Int) (d:Nat) (r:Int × Rs) (h:z3m ⟨[A],fs⟩ d (z02 z0c fs 0) [] { run0 ins fuel with ar:=[List.replicate A.size.toNat 0] }=some r) (hsz:0<=A.size/\A.size<=1000):SC Tryz.prog 17 [.pv (Un.enc ⟨[A],fs⟩),.pv (ints ins),iInt fuel] [] (fun _=>False) (.pv (runv (mEnd r))) []:=by
  refine SC.anyR (SC.vc tb { gh:=[(5,[.growC 1001 6 1002 3 1]),(12,[.fzC 1001 6 1002])],ids:=[(26,1001),(45,1004),(47,1003)] } [] Tryz.func17 rfl rfl ?_)
  have hub:∀ f∈fs,lsW f.body<=1073741824:=fun f hf=>Nat.le_trans (zf2 (u:=⟨[A],fs⟩) hW hf) oM0
  have hcall:=(zh7 ⟨[A],fs⟩ hub (d+1)).1 d (Nat.lt_succ_self d) _ _ _ _ h sI0
  have hal:=y84 h
  have hC:=zw7 ⟨[A],fs⟩ hW
  rw [hz] at hC
  have hP:=z4e ⟨[A],fs⟩ z0c
  obtain ⟨n,ins',ar',st',code',out',cost',fuel',spent'⟩:=r
  obtain ⟨q2,rfl⟩:∃ q2,ar'=[q2]:=List.length_eq_one_iff.1 hal
  have hO:=z4a ⟨[A],fs⟩ ⟨ins',[q2],st',code',out',cost',fuel',spent'⟩
  obtain ⟨ov,hov⟩:∃ b,z11 ⟨ins',[q2],st',code',out',cost',fuel',spent'⟩=b:=⟨_,rfl⟩
  rw [hov] at hO
  have hend:mEnd (n,⟨ins',[q2],st',code',out',cost',fuel',spent'⟩)=if ov then (⟨ins',[q2],st',code',out',cost',fuel',spent'⟩:Rs) else ⟨ins',[q2],1,n,out',cost',fuel',spent'⟩:=by unfold mEnd;rw [hov]
  rw [hend]
  clear hend
  have hTl:((A.size:Int))=(A.size.toNat:Nat):=by omega
  refine ⟨[],hC,sR,trivial,rfl,Bool,fun b=>[(10,iInt (if b then 1 else 0))],fun b=>if b then [(1001,rBox ⟨[A],fs⟩ { run0 ins fuel with ar:=[List.replicate A.size.toNat 0] }),(1003,.box [.sl 1004 ((List.replicate A.size.toNat (0:Int)).map eInt).length]),(1004,rowI (List.replicate A.size.toNat 0))] else [(1001,rBox ⟨[A],fs⟩ { run0 ins fuel with ar:=[] })],fun b=>if b then 0 else 1,fun _=>True,[],false,trivial,⟨rfl,trivial⟩,⟨rfl,trivial⟩,fun b _=>?_⟩
  cases b with
  | false =>
    exact ⟨at0 (a:=Ar.enc A),rfl,rfl,hTl,by omega,by simp,rfl,Nat.zero_lt_one,by decide,z03 (m:=0) (n:=1) rfl dC0,true,Nat.zero_lt_one,trivial,⟨rfl,trivial⟩,⟨rfl,boq (show [IV.sl 1004 A.size.toNat]=_ by simp),rwq (by simp [eInt];exact .inr rfl),trivial⟩,rfl,rfl,rfl,rfl⟩
  | true =>
    refine ⟨[],hP,sR,trivial,rfl,[],hcall,SubA.same (SubA.same (SubA.cons sN sR)),⟨rfl,rfl,rfl,rfl,trivial⟩,rfl,[],hO,sR,⟨rfl,rfl,rfl,rfl,trivial⟩,rfl,?_⟩
    cases ov with
    | true=>exact ⟨rfl,sI,trivial⟩
    | false=>exact ⟨rfl,sI,trivial⟩
set_option maxRecDepth 20000
set_option maxHeartbeats 2000000
mutual
theorem nsz_W:∀ x:Nd,nsz x<=ndW x
  | .mk _ _ _ _ _ _ _ ks=>by have:=kdz_W ks;simp only [nsz,ndW];omega
theorem lsz_W:∀ l:List Nd,lsz l<=lsW l
  | []=>Nat.le_refl _
  | x::r=>by have:=nsz_W x;have:=lsz_W r;simp only [lsz,lsW];omega
theorem kdz_W:∀ ks:List (List Nd),kdz ks<=kdW ks
  | []=>Nat.le_refl _
  | l::r=>by have:=lsz_W l;have:=kdz_W r;simp only [kdz,kdW];omega
end
def szK:List Nd->Nat
  | []=>0
  | x::r=>kdz x.kids+szK r
theorem y4p:∀ a b:List Nd,szK (a++b)=szK a+szK b
  | [],b=>by simp [szK]
  | x::r,b=>by simp only [List.cons_append,szK,y4p r b];omega
theorem y3h:∀ a b:List (List Nd),kdz (a++b)=kdz a+kdz b
  | [],b=>by simp [kdz]
  | x::r,b=>by simp only [List.cons_append,kdz,y3h r b];omega
theorem y9p:∀ l:List Nd,lsz l=l.length+szK l
  | []=>rfl
  | x::r=>by simp only [lsz,szK,List.length_cons,zv9,y9p r];omega
theorem yd1:∀ (N:Nat) (l:List Nd),SizeOf.sizeOf l<N->lsW l<=1073741824->SC Tryz.prog 44 [.pv (z0j l)] [] (fun k=>k∈[]) (iInt (lsz l)) []
  | 0,_,h,_=>absurd h (Nat.not_lt_zero _)
  | N+1,l,hN,hb=>by
    refine SC.vc tb {} [] Tryz.func44 rfl rfl ?_
    have hl:=y9p l
    have hw:=lsz_W l
    refine ⟨Nat,fun i=>[(4,iInt i),(3,iInt ((l.length+szK (l.take i):Nat)))],fun _=>[],fun i=>l.length - i,fun i=>i<=l.length,[],0,Nat.zero_le _,⟨rfl,ivq (by simp [szK]),trivial⟩,trivial,?_⟩
    intro i hi
    refine z00 (fun hc=>?_) fun hc=>?_
    · have hlt:=z7b (f:=Nd.enc) rfl hc
      obtain ⟨x,hx,ht,hd,hm⟩:=z5t hlt
      have happ:szK l=szK (l.take i)+(kdz x.kids+szK (l.drop (i+1))):=by
        conv=>lhs;rw [<- List.take_append_drop i l,hd]
        rw [y4p];rfl
      have hone:szK (l.take (i+1))=szK (l.take i)+kdz x.kids:=by rw [ht,y4p];simp [szK]
      have hxw:=(@zv7 l).2 x hm
      have hxe:=z8e x
      refine ⟨Nat,fun j=>[(5,iInt j),(3,iInt ((l.length+szK (l.take i)+kdz (x.kids.take j):Nat)))],fun _=>[],fun j=>x.kids.length - j,fun j=>j<=x.kids.length,[],0,Nat.zero_le _,⟨rfl,ivq (by simp [kdz]),trivial⟩,trivial,?_⟩
      intro j hj
      refine ⟨z0g hx,rfl,z00 (fun hc2=>?_) fun hc2=>?_⟩
      · have hlt2:=z7b (f:=eKid) rfl hc2
        obtain ⟨q,hq,ht2,hd2,hm2⟩:=z5t hlt2
        have happ2:kdz x.kids=kdz (x.kids.take j)+(lsz q+kdz (x.kids.drop (j+1))):=by
          conv=>lhs;rw [<- List.take_append_drop j x.kids,hd2]
          rw [y3h];rfl
        have hone2:kdz (x.kids.take (j+1))=kdz (x.kids.take j)+lsz q:=by rw [ht2,y3h];simp [kdz]
        have hqw:=z78 hm2
        have hkl:=y9j x.kids
        exact ⟨z0g hx,rfl,z06 (f:=eKid) hq,rfl,[],yd1 N q (Nat.lt_of_lt_of_le (z6p hm rfl hm2) (Nat.le_of_lt_succ hN)) oM0,sR,trivial,rfl,z03 rfl oM0,z03 rfl oM0,j+1,z0t hlt2,hlt2,⟨rfl,ivq (by rw [hone2];omega),trivial⟩,trivial,rfl,rfl,rfl,rfl⟩
      · have hge:=z7u (f:=eKid) rfl hc2
        exact ⟨z03 rfl oM0,i+1,z0t hlt,hlt,⟨rfl,ivq (by rw [hone,List.take_of_length_le hge];omega),trivial⟩,trivial,rfl,rfl,rfl,rfl⟩
    · exact ⟨sE (by rw [List.take_of_length_le (z7u (f:=Nd.enc) rfl hc),hl]),trivial⟩
def uSz:List Fl->Nat
  | []=>0
  | f::r=>lsz f.body+uSz r
theorem y4v:∀ a b:List Fl,uSz (a++b)=uSz a+uSz b
  | [],b=>by simp [uSz]
  | x::r,b=>by simp only [List.cons_append,uSz,y4v r b];omega
theorem uSz_W:∀ l:List Fl,uSz l<=wtF l
  | []=>Nat.le_refl _
  | f::r=>by have:=uSz_W r;have:=lsz_W f.body;have:=y5j f.body;simp only [uSz,wtF,za4];omega
theorem sc_nodes (u:Un) (hW:z0s u<=536870912):SC Tryz.prog 26 [.pv u.enc] [] (fun k=>k∈[]) (iInt (uSz u.flows)) []:=by
  refine SC.vc tb {} [] Tryz.func26 rfl rfl ?_
  have hw:=uSz_W u.flows
  have hw2:wtF u.flows<=z0s u:=by unfold z0s;omega
  have hw3:u.flows.length<=z0s u:=by unfold z0s;omega
  refine ⟨Nat,fun i=>[(4,iInt i),(3,iInt (uSz (u.flows.take i)))],fun _=>[],fun i=>u.flows.length - i,fun i=>i<=u.flows.length,[],0,Nat.zero_le _,⟨rfl,rfl,trivial⟩,trivial,?_⟩
  intro i hi
  refine z00 (fun hc=>?_) fun hc=>?_
  · have hlt:=z7b (f:=Fl.enc) rfl hc
    obtain ⟨f,hf,ht,hd,hm⟩:=z5t hlt
    have happ:uSz u.flows=uSz (u.flows.take i)+(lsz f.body+uSz (u.flows.drop (i+1))):=by
      conv=>lhs;rw [<- List.take_append_drop i u.flows,hd]
      rw [y4v];rfl
    have hone:uSz (u.flows.take (i+1))=uSz (u.flows.take i)+lsz f.body:=by rw [ht,y4v];simp [uSz]
    exact ⟨z06 (f:=Fl.enc) hf,rfl,[],yd1 _ f.body (Nat.lt_succ_self _) (Nat.le_trans (zf2 hW hm) oM0),sR,trivial,rfl,z03 rfl oM0,z03 rfl oM0,i+1,z0t hlt,hlt,⟨rfl,ivq (by rw [hone];omega),trivial⟩,trivial,rfl,rfl,rfl,rfl⟩
  · exact ⟨sE (by rw [List.take_of_length_le (z7u (f:=Fl.enc) rfl hc)]),trivial⟩
theorem sc_ins (l:List Int):SC Tryz.prog 14 [.pv (ints l)] [] (fun k=>k∈[]) (.pv (ints (l.take 10))) []:=by
  refine SC.vc tb {} [] Tryz.func14 rfl rfl ?_
  refine z00 (fun h=>?_) fun h=>?_
  · have h2:(10:Int)<l.length:=by simpa using h
    exact ⟨10,rfl,by omega,by simp;omega,z5c,sE (by simp [ints]),trivial⟩
  · have h2:(l.length:Int)<=10:=by simpa using h
    have:l.length<=10:=by omega
    exact ⟨sE (by rw [List.take_of_length_le this]),trivial⟩
theorem zw8 (l:List Int):SC Tryz.prog 42 [.pv (ints l),.pv (ints l)] [] (fun k=>k∈[]) (iBool true) []:=by
  refine SC.vc tb { gh:=[(1,[.len 0])] } [] Tryz.func42 rfl rfl ?_
  intro hl
  simp only [List.length_map] at hl
  refine z00 (fun h1=>absurd h1 sI0) fun _=>?_
  refine ⟨Nat,fun k=>[(5,iInt k)],fun _=>[],fun k=>l.length - k,fun k=>k<=l.length,[],0,Nat.zero_le _,⟨rfl,trivial⟩,trivial,?_⟩
  intro k hk
  refine z00 (fun hc=>?_) fun hc=>?_
  · have hlt:=z7b (f:=eInt) rfl hc
    obtain ⟨x,hx,ht,hd,_⟩:=z5t hlt
    exact ⟨z06 (f:=eInt) hx,rfl,z06 (f:=eInt) hx,rfl,z00 (fun h2=>absurd h2 sI0) fun _=>⟨z03 rfl oM0,k+1,z0t hlt,hlt,⟨rfl,trivial⟩,trivial,rfl,rfl,rfl,rfl⟩⟩
  · exact ⟨sI,trivial⟩
theorem sc_alike (a b:Rs) (h1:b.st=a.st) (h2:b.code=a.code) (h3:b.out=a.out):SC Tryz.prog 43 [.pv (runv a),.pv (runv b)] [] (fun k=>k∈[]) (iBool true) []:=by
  refine SC.vc tb {} [] Tryz.func43 rfl rfl ?_
  have hS:=zw8 a.out
  obtain ⟨ins,ar,st,code,out,cost,fuel,spent⟩:=a
  obtain ⟨ins',ar',st',code',out',cost',fuel',spent'⟩:=b
  obtain rfl:st'=st:=h1
  obtain rfl:code'=code:=h2
  obtain rfl:out'=out:=h3
  refine z00 (fun _=>?_) fun h=>absurd h sI0
  refine z00 (fun _=>?_) fun h=>absurd h sI0
  exact ⟨[],hS,sR,trivial,rfl,sI,trivial⟩
def Fol (a b:Rs):Prop:=(a.st=0/\a.out <+: b.out)∨(a.st≠0/\b.st=a.st/\b.code=a.code/\b.out=a.out)
theorem zw5 (a b:Rs) (h:Fol a b) (hb:b.out.length<=1073741824):SC Tryz.prog 25 [.pv (runv a),.pv (runv b)] [] (fun k=>k∈[]) (iBool true) []:=by
  refine SC.vc tb {} [] Tryz.func25 rfl rfl ?_
  rcases h with ⟨h1,h2⟩ | ⟨h1,h2,h3,h4⟩
  · have hS:=zw8 a.out
    obtain ⟨ins,ar,st,code,out,cost,fuel,spent⟩:=a
    obtain ⟨ins',ar',st',code',out',cost',fuel',spent'⟩:=b
    obtain rfl:st=0:=h1
    obtain ⟨t,rfl⟩:∃ t,out++t=out':=h2
    refine z00 (fun _=>?_) fun h=>absurd h (by simp;omega)
    exact ⟨out.length,by simp,by omega,by simp,z5c,[],hS,SubA.same (SubA.cons (sE (by simp [ints])) sR),trivial,rfl,sI,trivial⟩
  · have hA:=sc_alike a b h2 h3 h4
    obtain ⟨ins,ar,st,code,out,cost,fuel,spent⟩:=a
    refine z00 (fun h=>absurd (by simpa using h) h1) fun _=>?_
    exact ⟨[],hA,sR,trivial,rfl,sI,trivial⟩
def runA (u:Un) (ins:List Int) (fuel:Int):Rs:={ run0 ins fuel with ar:=u.arrays.map fun a=>List.replicate a.size.toNat 0 }
theorem y05 (u:Un) (ins:List Int) {fuel:Int} (h0:0<=fuel) {B M:Int} (hB:fuel<=B) (hM:fuel<=M):Inv u.arrays.length B M (runA u ins fuel):=by
  have e:(runA u ins fuel).fuel=fuel:=by show (if fuel<0 then 0 else fuel)=fuel;rw [if_neg oM0]
  refine ⟨⟨by rw [e];exact h0,Int.le_refl _,by rw [e];show (0:Int)+fuel<=B;omega⟩,by rw [e];show ((0:Nat):Int)+fuel<=M;omega,by simp [runA]⟩
theorem main_ok {u:Un} (h:(z19 u).1=0):0<=z02 z0c u.flows 0/\∃ g,u.flows[(z02 z0c u.flows 0).toNat]? = some g/\g.params=0:=by
  obtain ⟨h1,_⟩:=(z51 u).1 h
  unfold z12 at h1
  simp only [Bool.and_eq_true] at h1
  have h2:=h1.2
  unfold z6f at h2
  simp only [Bool.and_eq_true,decide_eq_true_eq,beq_iff_eq] at h2
  obtain ⟨⟨h3,h4⟩,h5⟩:=h2
  obtain ⟨j,hj,hjl⟩:=zh2 z0c u.flows 0 oM0 h3
  refine ⟨h3,_,List.getElem?_eq_getElem oM0,?_⟩
  rw [List.getD_eq_getElem?_getD,List.getElem?_eq_getElem oM0] at h5
  exact h5
theorem y06 {u:Un} (hz:(z19 u).1=0) (ins:List Int) {fuel:Int} (h0:0<=fuel) {B M:Int} (hB:B<=4611686018427387903) (hM:M<=1073741824) (hfB:fuel<=B) (hfM:fuel<=M) :
    ∃ d r,z3m u d (z02 z0c u.flows 0) [] (runA u ins fuel)=some r/\Inv u.arrays.length B M r.2:=by
  obtain ⟨m1,g,m2,m3⟩:=main_ok hz
  have hi:=y05 u ins h0 hfB hfM
  have e:(runA u ins fuel).fuel=fuel:=by show (if fuel<0 then 0 else fuel)=fuel;rw [if_neg oM0]
  obtain ⟨r,h1,h2⟩:=(yf1 hB hM rfl (vf_of hz) (3*fuel.toNat+2)).2.2.1 _ [] _ m1 ⟨g,m2,by rw [m3];rfl⟩ hi (by rw [e];omega)
  exact ⟨_,r,h1,h2⟩
structure URel (u v:Un):Prop where
  ar:v.arrays=u.arrays
  pl:∀ name,z02 name v.flows 0=z02 name u.flows 0
  fl:∀ (i:Nat) f g,u.flows[i]? = some f->v.flows[i]? = some g->FRel (uSz u.flows) f g
theorem yf6:∀ {l:List Fl} {f:Fl},f∈l->lsz f.body<=uSz l
  | g::r,f,h=>by
    rcases List.mem_cons.1 h with rfl | h
    ·simp only [uSz];omega
    have:=yf6 h;simp only [uSz];omega
theorem y5v (m:Bool) {u v:Un} (R:URel u v) (ins:List Int) {F F':Int} (h0:0<=F) (h0':0<=F') {B M:Int} (hB:B<=4611686018427387903) (hfB:F<=B) (hfB':F'<=B) (hfM:F<=M) (hfM':F'<=M)
    (hG:G m (uSz u.flows) 0 (uSz u.flows+1) F F') {d d':Nat} {q q':Int × Rs} (h:z3m u d (z02 z0c u.flows 0) [] (runA u ins F)=some q) (h':z3m v d' (z02 z0c v.flows 0) [] (runA v ins F')=some q'):RC m (uSz u.flows) q q':=by
  have e:∀ (u:Un) {fuel:Int},0<=fuel->(runA u ins fuel).fuel=fuel:=fun u fuel h0=>by show (if fuel<0 then 0 else fuel)=fuel;rw [if_neg oM0]
  rw [R.pl] at h'
  refine y0w (B:=B) hB R.ar R.pl R.fl (d+1) d d' _ [] _ _ _ _ (Nat.lt_succ_self _) h h' (y05 u ins h0 hfB hfM).ok (y05 v ins h0' hfB' hfM').ok ⟨⟨⟨rfl,rfl⟩,⟨rfl,rfl⟩,rfl,?_,rfl,rfl⟩,?_,?_⟩
  ·simp only [runA,R.ar]
  ·rw [e u h0,e v h0'];exact hG
  exact Int.le_refl _
theorem z8x {q:Int × Rs} (h:z11 q.2=true):mEnd q=q.2:=if_pos h
theorem zk2 {q:Int × Rs} (h:Live q.2):mEnd q={ q.2 with st:=1,code:=q.1 }:=if_neg (by rw [z0r h];decide)
theorem ze9 (q:Int × Rs):(mEnd q).out=q.2.out:=by unfold mEnd;split<;>rfl
theorem rc_fol {N:Nat} {q q':Int × Rs} (h:RC true N q q'):Fol (mEnd q) (mEnd q')/\((mEnd q).st≠0->(mEnd q').cost<=(mEnd q).cost/\(mEnd q).fuel<=(mEnd q').fuel):=by
  cases h with
  | ok hv hr =>
    rw [zk2 hr.al.l,zk2 hr.al.l']
    have hg:=hr.g
    unfold G at hg
    simp only [if_true] at hg
    have hc:=hr.co
    exact ⟨.inr ⟨show (1:Int)≠0 by decide,rfl,hv,hr.al.out⟩,fun _=>⟨by simpa using hc,by simpa using hg⟩⟩
  | halt hh =>
    obtain ⟨o1,o2⟩:=hh.over
    rw [z8x o1,z8x o2]
    exact ⟨.inr ⟨hh.st,hh.st',hh.code,hh.out⟩,fun _=>⟨hh.co,hh.fu rfl⟩⟩
  | cut hc =>
    unfold Cut at hc
    simp only [if_true] at hc
    have e:=z8x (z5r hc.1)
    refine ⟨.inl ⟨by rw [e];exact hc.2.1,by rw [ze9,ze9];exact hc.2.2⟩,fun h=>absurd (by rw [e];exact hc.2.1) h⟩
theorem rc_fol2 {N:Nat} {q q':Int × Rs} (h:RC false N q q'):Fol (mEnd q') (mEnd q):=by
  cases h with
  | ok hv hr =>
    rw [zk2 hr.al.l,zk2 hr.al.l']
    exact .inr ⟨show (1:Int)≠0 by decide,rfl,hv.symm,hr.al.out.symm⟩
  | halt hh =>
    obtain ⟨o1,o2⟩:=hh.over
    rw [z8x o1,z8x o2]
    exact .inr ⟨by rw [hh.st'];exact hh.st,hh.st'.symm,hh.code.symm,hh.out.symm⟩
  | cut hc =>
    unfold Cut at hc
    simp only [Bool.false_eq_true,if_false] at hc
    have e:=z8x (z5r hc.1)
    exact .inl ⟨by rw [e];exact hc.2.1,by rw [ze9,ze9];exact hc.2.2⟩
section
structure Gn where
  pos:Nat
  types:List Int
  left:Nat
structure Plc where
  If:Bool
  Loop:Bool
  Yield:List Int
  Next:List Int
  Left:List Int
def plc0:Plc:=⟨false,false,[],[],[]⟩
section
variable (l:List UInt8)
def z05 (n:Nat) (g:Gn):Nat × Gn:=(if g.pos+1 > l.length∨g.pos+1 > 150 then 0 else (l.getD g.pos 0).toNat % n,{ g with pos:=g.pos+1 })
def z08 (t:Int) (g:Gn):Int × Gn:=(g.types.length,{ g with types:=g.types++[t] })
def gS1 (tys:List Int) (t:Int):Bool->Int->Int->List Int->Int
  | _,_,v,[]=>v
  | b,k,v,s::r=>if tys.getD s.toNat 0==t&&(b||decide (k > 0)) then gS1 tys t false (k - 1) s r else gS1 tys t false k v r
def gS2 (tys:List Int) (t:Int):Int->List Int->Int
  | v,[]=>v
  | v,s::r=>if tys.getD v.toNat 0 != t then gS2 tys t (if tys.getD s.toNat 0==t then s else v) r else v
def zb7 (seen:List Int) (t:Int) (g:Gn):Int × Gn :=
  (gS2 g.types t (gS1 g.types t true (z05 l 8 g).1 0 seen) seen,(z05 l 8 g).2)
def z1i (seen:List Int):List Int->Gn->List Int × Gn
  | [],g=>([],g)
  | t::r,g=>((zb7 l seen t g).1::(z1i seen r (zb7 l seen t g).2).1,(z1i seen r (zb7 l seen t g).2).2)
def gTyN:Nat->Gn->List Int × Gn
  | 0,g=>([],g)
  | n+1,g=>((1+((z05 l 2 g).1:Int))::(gTyN n (z05 l 2 g).2).1,(gTyN n (z05 l 2 g).2).2)
def z0m (g:Gn):List Int × Gn:=gTyN l (z05 l 3 g).1 (z05 l 3 g).2
def z0i:List Int->Gn->List Int × Gn
  | [],g=>([],g)
  | t::r,g=>((z08 t g).1::(z0i r (z08 t g).2).1,(z0i r (z08 t g).2).2)
def z72:ByteArray:=⟨#[97]⟩
def z3k:ByteArray:=⟨#[102]⟩
def z0l:ByteArray:=⟨#[]⟩
def gNums:List Int:=[0,1,2,3,-1,100]
def y39:List Int:=[20,21,23,27]
def z3x (kind op n:Int) (name:ByteArray) (seen ins outs:List Int) (g:Gn):Nd × Gn :=
  (.mk kind op n name (z1i l seen ins g).1 (z0i outs (z1i l seen ins g).2).1 [] [],(z0i outs (z1i l seen ins g).2).2)
def z1n (seen:List Int) (g0:Gn):Nd × Gn :=
  let k:=(z05 l 12 g0).1
  let g:=(z05 l 12 g0).2
  if k=0 then z3x l 1 0 (gNums.getD (z05 l 6 g).1 0) z0l seen [] [1] (z05 l 6 g).2
  else if k=1 then z3x l 2 0 (z05 l 2 g).1 z0l seen [] [2] (z05 l 2 g).2
  else if k=2 then z3x l 3 (y39.getD (z05 l 4 g).1 0) 0 z0l seen [1] [1] (z05 l 4 g).2
  else if k=3 then z3x l 3 22 0 z0l seen [2] [2] g
  else if k=4∨k=5∨k=6 then z3x l 4 (1+((z05 l 11 g).1:Int)) 0 z0l seen [1,1] [1] (z05 l 11 g).2
  else if k=7∨k=8 then z3x l 4 (12+((z05 l 6 g).1:Int)) 0 z0l seen [1,1] [2] (z05 l 6 g).2
  else if k=9 then z3x l 5 0 0 z72 seen [1] [1] g
  else if k=10 then z3x l 6 0 0 z72 seen [1,1] [] g
  else if (z05 l 4 g).1=0 then z3x l 7 0 0 z3k seen [1,2] [1] (z05 l 4 g).2
  else if (z05 l 4 g).1=1 then z3x l 8 0 0 z0l seen [] [1] (z05 l 4 g).2
  else z3x l 9 0 0 z0l seen [1] [] (z05 l 4 g).2
def gEnd (seen:List Int) (p:Plc) (g0:Gn):Nd × Gn :=
  let k:=(z05 l 6 g0).1
  let g:=(z05 l 6 g0).2
  if p.If=true/\k<4 then z3x l 12 0 0 z0l seen p.Yield [] g
  else if p.Loop=true/\k % 2=0 then z3x l 13 0 0 z0l seen p.Next [] g
  else if p.Loop=true then z3x l 14 0 0 z0l seen p.Left [] g
  else z3x l 15 0 0 z0l seen [1] [] g
abbrev GRec:=List Int->Plc->Gn->List Nd × Gn
def z77 (x:List Int->Nd) (t:List Int) (g:Gn):Nd × Gn:=if z04 (x []) then (x [],g) else (x (z0i t g).1,(z0i t g).2)
def gIf (rec:GRec) (all:List Int) (p:Plc) (g:Gn):Nd × Gn :=
  let t:=z0m l g
  let x:Plc:=⟨true,p.Loop,t.1,p.Next,p.Left⟩
  let c:=z1i l all [2] t.2
  let a:=rec all x c.2
  let b:=rec all x a.2
  z77 (fun o=>.mk 10 0 0 z0l c.1 o [] [a.1,b.1]) t.1 b.2
def z9f (rec:GRec) (all:List Int) (g:Gn):Nd × Gn :=
  let t:=z0m l g
  let o:=z0m l t.2
  let a:=z1i l all t.1 o.2
  let q:=z0i t.1 a.2
  let b:=rec (all++q.1) ⟨false,true,[],t.1,o.1⟩ q.2
  z77 (fun z=>.mk 11 0 0 z0l a.1 z q.1 [b.1]) o.1 b.2
def gAny (rec:Option GRec) (all:List Int) (p:Plc) (g:Gn):Nd × Gn :=
  let s:=z1n l all { g with left:=g.left - 1 }
  let k:=z05 l 6 s.2
  match rec with
  | none=>(s.1,k.2)
  | some rec=>if k.1=0 then gIf l rec all p k.2 else if k.1=1 then z9f l rec all k.2 else (s.1,k.2)
def z39 (rec:Option GRec) (p:Plc):Nat->List Nd->List Int->Gn->List Nd × Gn
  | 0,out,all,g=>(out++[(gEnd l all p g).1],(gEnd l all p g).2)
  | i+1,out,all,g =>
    if g.left=0 then (out++[(gEnd l all p g).1],(gEnd l all p g).2)
    else
      let x:=gAny l rec all p g
      if z04 x.1 then (out++[x.1],x.2) else z39 rec p i (out++[x.1]) (all++x.1.outs) x.2
def z2w:Nat->GRec
  | 0,seen,p,g=>z39 l none p (z05 l 6 g).1 [] seen (z05 l 6 g).2
  | d+1,seen,p,g=>z39 l (some (z2w d)) p (z05 l 6 g).1 [] seen (z05 l 6 g).2
def zn7 (i b:Int):List Nd:=[.mk 1 0 3 z0l [] [i] [] [],.mk 2 0 1 z0l [] [b] [] []]
def z2v (name:ByteArray) (params:List Int) (g0:Gn):Fl × Gn :=
  let s:=z0i params { g0 with types:=[],left:=30 }
  let i:=z08 1 s.2
  let b:=z08 2 i.2
  let r:=z2w l 3 (s.1++[i.1,b.1]) plc0 b.2
  (⟨name,1,params.length,r.2.types,zn7 i.1 b.1++r.1⟩,r.2)
def made:Un :=
  let m:=z2v l z0c [] ⟨0,[],0⟩
  ⟨[⟨z72,4⟩],[m.1,(z2v l z3k [1,2] m.2).1]⟩
end
end
def eB (x:UInt8):List PV:=[.val (.int .u8 (x.toNat:Int))]
def bts (l:List UInt8):PV:=.seq (l.map eB)
def z3a (l:List UInt8) (g:Gn):HO:=.box [.pv (bts l),iInt (g.pos:Int),.sl 2002 (g.types.map eInt).length,iInt (g.left:Int)]
def gH (l:List UInt8) (g:Gn):List (Nat × HO):=[(2001,z3a l g),(2002,rowI g.types)]
def gHs (l:List UInt8) (g:Gn) (seen:List Int):List (Nat × HO):=[(2001,z3a l g),(2002,rowI g.types),(2003,rowI seen)]
def InR (tys seen:List Int):Prop:=∀ s∈seen,0<=s/\s.toNat<tys.length
theorem InR.at {tys seen:List Int} (h:InR tys seen) {s:Int} (hs:s∈seen):s.toNat<(tys.map eInt).length/\(tys.map eInt)[s.toNat]? = some [vInt (tys.getD s.toNat 0)]/\s=((s.toNat:Nat):Int):=by
  obtain ⟨h1,h2⟩:=h s hs
  refine ⟨by simpa using h2,?_,by omega⟩
  rw [List.getElem?_map,List.getD,List.getElem?_eq_getElem h2];rfl
theorem z1s {l:List UInt8} {n:Nat} {g:Gn} (hn:0<n):(z05 l n g).1<n:=by
  unfold z05
  simp only
  split
  ·exact hn
  exact Nat.mod_lt _ hn
theorem u8_i64 (x:UInt8):IntKind.i64.wrap (x.toNat:Int)=(x.toNat:Int):=IntWalk.i64_in _ (by have:=x.toNat_lt;omega)
theorem i64_rem {m n:Nat} (hn:0<n):z3p .rem .i64 (m:Int) (n:Int)=some (.int .i64 ((m % n:Nat):Int)):=by
  simp only [z3p,Int.natCast_emod]
  rw [if_neg oM0,Int.tmod_eq_emod_of_nonneg oM0]
theorem y95 {tys:List Int} {t:Int}:∀ (r:List Int) (b:Bool) (k v:Int),InR tys r->(0<=v/\(v.toNat<tys.length∨v=0))->0<=gS1 tys t b k v r/\((gS1 tys t b k v r).toNat<tys.length∨gS1 tys t b k v r=0)
  | [],_,_,_,_,hv=>hv
  | s::r,b,k,v,h,hv=>by
    unfold gS1
    have hr:InR tys r:=fun x hx=>h x (.tail _ hx)
    split
    ·have:=h s (.head _)
     exact y95 r _ _ _ hr ⟨this.1,.inl this.2⟩
    exact y95 r _ _ _ hr hv
theorem z1h (l:List UInt8) (seen:List Int):∀ (ts:List Int) (g:Gn),(z1i l seen ts g).2={ g with pos:=g.pos+ts.length }/\(z1i l seen ts g).1.length=ts.length
  | [],g=>⟨rfl,rfl⟩
  | t::r,g=>by
    have:=z1h l seen r (zb7 l seen t g).2
    simp only [z1i,List.length_cons,this]
    refine ⟨?_,trivial⟩
    simp only [zb7,z05]
    congr 1
    omega
theorem y96 (l:List UInt8):∀ (n:Nat) (g:Gn),(gTyN l n g).2={ g with pos:=g.pos+n }/\(gTyN l n g).1.length=n
  | 0,g=>⟨rfl,rfl⟩
  | n+1,g=>by
    have:=y96 l n (z05 l 2 g).2
    simp only [gTyN,List.length_cons,this]
    refine ⟨?_,trivial⟩
    simp only [z05]
    congr 1
    omega
theorem z4i (l:List UInt8) (g:Gn):(z0m l g).2={ g with pos:=g.pos+1+(z05 l 3 g).1 }/\(z0m l g).1.length=(z05 l 3 g).1:=by
  have:=y96 l (z05 l 3 g).1 (z05 l 3 g).2
  unfold z0m
  rw [this.1]
  exact ⟨rfl,this.2⟩
theorem z20:∀ (ts:List Int) (g:Gn),(z0i ts g).2={ g with types:=g.types++ts }/\(z0i ts g).1.length=ts.length
  | [],g=>⟨by simp [z0i],rfl⟩
  | t::r,g=>by
    have:=z20 r (z08 t g).2
    simp only [z0i,List.length_cons,this]
    refine ⟨?_,trivial⟩
    simp [z08]
theorem y59:∀ (ts:List Int) (g:Gn),∀ s∈(z0i ts g).1,(g.types.length:Int)<=s/\s<((g.types.length+ts.length:Nat):Int)
  | [],_,s,h=>by simp [z0i] at h
  | t::r,g,s,h=>by
    simp only [z0i,List.mem_cons] at h
    rcases h with rfl | h
    ·simp only [z08,List.length_cons];omega
    have:=y59 r (z08 t g).2 s h
    simp only [z08,List.length_append,List.length_cons,List.length_nil] at this ⊢
    omega
theorem y97 {a:List Int} {i:Nat} (h:i<a.length):(a.map eInt)[i]? = some [vInt (a.getD i 0)]:=by
  rw [List.getElem?_map,List.getD,List.getElem?_eq_getElem h];rfl
def plcv (p:Plc):PV:=.agg [vBool p.If,vBool p.Loop,ints p.Yield,ints p.Next,ints p.Left]
def y5o:IV->IV
  | .pv (.val (.slice none 0 0))=>.pv (.seq [])
  | x=>x
theorem y6u (x:IV):ISub x (y5o x):=by
  unfold y5o
  split
  ·exact ISub.pv PSub.nil
  exact ISub.refl _
theorem zp0:∀ cs:List IV,ISubs cs (cs.map y5o)
  | []=>trivial
  | x::r=>⟨y6u x,zp0 r⟩
theorem Tr.fixNil {P:Program} {c:Cx} {fr:Fr} {hp:Hp} {Q:Exit->Fr->Heap'->Prop} {x:Code} {k:Nat} {cs:List IV} (hk:look hp k=some (.box cs)) (hR:¬ c.R k) (h:Tr P c x fr (look ((k,some (.box (cs.map y5o)))::hp)) Q):Tr P c x fr (look hp) Q :=
  Tr.subBox _ hk (zp0 cs) hR h
section
structure Bd (a b:Nat) (g g':Gn):Prop where
  lf:g'.left<=g.left
  ps:g'.pos+60*g'.left<=g.pos+60*g.left+a
  t1:g.types.length<=g'.types.length
  t2:g'.types.length+10*g'.left<=g.types.length+10*g.left+b
theorem Bd.trans {a b a' b':Nat} {g g' g'':Gn} (h:Bd a b g g') (h':Bd a' b' g' g''):Bd (a+a') (b+b') g g'' :=
  ⟨by have:=h.lf;have:=h'.lf;omega,by have:=h.ps;have:=h'.ps;omega,by have:=h.t1;have:=h'.t1;omega,by have:=h.t2;have:=h'.t2;omega⟩
theorem Bd.mono {a b a' b':Nat} {g g':Gn} (h:Bd a b g g') (ha:a<=a') (hb:b<=b'):Bd a' b' g g' :=
  ⟨h.lf,by have:=h.ps;omega,h.t1,by have:=h.t2;omega⟩
section
variable (l:List UInt8)
theorem z81 (n:Nat) (g:Gn):Bd 1 0 g (z05 l n g).2:=⟨Nat.le_refl _,by simp only [z05];omega,Nat.le_refl _,Nat.le_refl _⟩
theorem ze6 (seen ts:List Int) (g:Gn):Bd ts.length 0 g (z1i l seen ts g).2:=by
  rw [(z1h l seen ts g).1]
  exact ⟨Nat.le_refl _,by simp only [];omega,Nat.le_refl _,Nat.le_refl _⟩
theorem zm4 (ts:List Int) (g:Gn):Bd 0 ts.length g (z0i ts g).2:=by
  rw [(z20 ts g).1]
  exact ⟨Nat.le_refl _,Nat.le_refl _,by simp,by simp only [List.length_append];omega⟩
theorem z3j (g:Gn):Bd 3 0 g (z0m l g).2/\(z0m l g).1.length<=2:=by
  have h3:(z05 l 3 g).1<3:=z1s oM0
  obtain ⟨h1,h2⟩:=z4i l g
  refine ⟨?_,by omega⟩
  rw [h1]
  exact ⟨Nat.le_refl _,by simp only [];omega,Nat.le_refl _,Nat.le_refl _⟩
theorem y88 (kind op n:Int) (name:ByteArray) (seen ins outs:List Int) (g:Gn):Bd ins.length outs.length g (z3x l kind op n name seen ins outs g).2:=by
  have:=(ze6 l seen ins g).trans (zm4 outs (z1i l seen ins g).2)
  simpa [z3x] using this
theorem zm5 (seen:List Int) (g:Gn):Bd 4 1 g (z1n l seen g).2:=by
  unfold z1n
  have h0:=z81 l 12 g
  have P:=fun n=>z81 l n (z05 l 12 g).2
  have N:=fun kind op n name ins outs g'=>y88 l kind op n name seen ins outs g'
  simp only
  split
  ·exact ((h0.trans (P 6)).trans (N _ _ _ _ [] [1] _)).mono sI0 sI0
  split
  ·exact ((h0.trans (P 2)).trans (N _ _ _ _ [] [2] _)).mono sI0 sI0
  split
  ·exact ((h0.trans (P 4)).trans (N _ _ _ _ [1] [1] _)).mono sI0 sI0
  split
  ·exact (h0.trans (N _ _ _ _ [2] [2] _)).mono sI0 sI0
  split
  ·exact ((h0.trans (P 11)).trans (N _ _ _ _ [1,1] [1] _)).mono sI0 sI0
  split
  ·exact ((h0.trans (P 6)).trans (N _ _ _ _ [1,1] [2] _)).mono sI0 sI0
  split
  ·exact (h0.trans (N _ _ _ _ [1] [1] _)).mono sI0 sI0
  split
  ·exact (h0.trans (N _ _ _ _ [1,1] [] _)).mono sI0 sI0
  split
  ·exact ((h0.trans (P 4)).trans (N _ _ _ _ [1,2] [1] _)).mono sI0 sI0
  split
  ·exact ((h0.trans (P 4)).trans (N _ _ _ _ [] [1] _)).mono sI0 sI0
  exact ((h0.trans (P 4)).trans (N _ _ _ _ [1] [] _)).mono sI0 sI0
def Plc.small (p:Plc):Prop:=p.Yield.length<=2/\p.Next.length<=2/\p.Left.length<=2
theorem bd_end (seen:List Int) (p:Plc) (hp:p.small) (g:Gn):Bd 3 0 g (gEnd l seen p g).2:=by
  obtain ⟨h1,h2,h3⟩:=hp
  unfold gEnd
  have h0:=z81 l 6 g
  have N:=fun kind op n name ins outs g'=>y88 l kind op n name seen ins outs g'
  simp only
  split
  ·exact (h0.trans (N _ _ _ _ p.Yield [] _)).mono oM0 sI0
  split
  ·exact (h0.trans (N _ _ _ _ p.Next [] _)).mono oM0 sI0
  split
  ·exact (h0.trans (N _ _ _ _ p.Left [] _)).mono oM0 sI0
  exact (h0.trans (N _ _ _ _ [1] [] _)).mono sI0 sI0
def y2z (rec:GRec):Prop:=∀ seen p g,p.small->Bd 4 0 g (rec seen p g).2
theorem y89 (x:List Int->Nd) (t:List Int) (ht:t.length<=2) (g:Gn):Bd 0 2 g (z77 x t g).2:=by
  unfold z77
  split
  ·exact ⟨Nat.le_refl _,Nat.le_refl _,Nat.le_refl _,by show g.types.length+10*g.left<=g.types.length+10*g.left+2;omega⟩
  exact (zm4 t g).mono (Nat.le_refl _) ht
theorem bd_if {rec:GRec} (hr:y2z rec) (all:List Int) (p:Plc) (hp:p.small) (g:Gn):Bd 12 2 g (gIf l rec all p g).2:=by
  unfold gIf
  simp only
  obtain ⟨h1,h2⟩:=z3j l g
  have h3:=h1.trans (ze6 l all [2] (z0m l g).2)
  have hsm:Plc.small ⟨true,p.Loop,(z0m l g).1,p.Next,p.Left⟩:=⟨h2,hp.2.1,hp.2.2⟩
  have h4:=h3.trans (hr all ⟨true,p.Loop,(z0m l g).1,p.Next,p.Left⟩ _ hsm)
  have h5:=h4.trans (hr all ⟨true,p.Loop,(z0m l g).1,p.Next,p.Left⟩ _ hsm)
  exact (h5.trans (y89 _ _ h2 _)).mono sI0 sI0
theorem y87 {rec:GRec} (hr:y2z rec) (all:List Int) (g:Gn):Bd 12 4 g (z9f l rec all g).2:=by
  unfold z9f
  simp only
  obtain ⟨h1,h2⟩:=z3j l g
  obtain ⟨h3,h4⟩:=z3j l (z0m l g).2
  have h5:=(h1.trans h3).trans ((ze6 l all (z0m l g).1 (z0m l (z0m l g).2).2).mono h2 (Nat.le_refl 0))
  have h6:=h5.trans ((zm4 (z0m l g).1 (z1i l all (z0m l g).1 (z0m l (z0m l g).2).2).2).mono (Nat.le_refl 0) h2)
  have h7:=h6.trans (hr (all++(z0i (z0m l g).1 (z1i l all (z0m l g).1 (z0m l (z0m l g).2).2).2).1) ⟨false,true,[],(z0m l g).1,(z0m l (z0m l g).2).1⟩ _ ⟨by simp,h2,h4⟩)
  exact (h7.trans (y89 _ _ h4 _)).mono oM0 oM0
theorem bd_any {rec:Option GRec} (hr:∀ r,rec=some r->y2z r) (all:List Int) (p:Plc) (hp:p.small) (g:Gn) (hg:0<g.left):Bd 0 0 g (gAny l rec all p g).2:=by
  have h0:({ g with left:=g.left - 1 }:Gn).left+1=g.left:=by show g.left - 1+1=g.left;omega
  have key:∀ g',Bd 17 5 { g with left:=g.left - 1 } g'->Bd 0 0 g g':=fun g' h =>
    ⟨by have:=h.lf;omega,by have:=h.ps;have e:({ g with left:=g.left - 1 }:Gn).pos=g.pos:=rfl;omega,h.t1,by have:=h.t2;have e:({ g with left:=g.left - 1 }:Gn).types=g.types:=rfl;rw [e] at this;omega⟩
  have hs:=(zm5 l all { g with left:=g.left - 1 }).trans (z81 l 6 _)
  unfold gAny
  simp only
  cases rec with
  | none=>exact key _ (hs.mono oM0 oM0)
  | some r =>
    simp only
    split
    ·exact key _ ((hs.trans (bd_if l (hr r rfl) all p hp _)).mono oM0 oM0)
    split
    ·exact key _ ((hs.trans (y87 l (hr r rfl) all _)).mono oM0 oM0)
    exact key _ (hs.mono oM0 oM0)
theorem zx5 {rec:Option GRec} (hr:∀ r,rec=some r->y2z r) (p:Plc) (hp:p.small):∀ (i:Nat) (out:List Nd) (all:List Int) (g:Gn),Bd 3 0 g (z39 l rec p i out all g).2
  | 0,out,all,g=>bd_end l all p hp g
  | i+1,out,all,g=>by
    unfold z39
    split
    ·exact bd_end l all p hp g
    rename_i hl
    have h1:=bd_any l hr all p hp g oM0
    simp only
    split
    ·exact h1.mono oM0 oM0
    exact (h1.trans (zx5 hr p hp i _ _ _)).mono oM0 oM0
theorem z74:∀ d:Nat,y2z (z2w l d)
  | 0=>fun seen p g hp=>((z81 l 6 g).trans (zx5 l (rec:=none) (fun r h=>by cases h) p hp _ _ _ _)).mono oM0 oM0
  | d+1=>fun seen p g hp=>((z81 l 6 g).trans (zx5 l (rec:=some (z2w l d)) (fun r h=>by cases h;exact z74 d) p hp _ _ _ _)).mono oM0 oM0
def gRec:Nat->Option GRec
  | 0=>none
  | d+1=>some (z2w l d)
theorem y94 (d:Nat):∀ r,gRec l d=some r->y2z r:=by
  intro r h
  cases d with
  | zero=>cases h
  | succ d=>cases h;exact z74 l d
theorem z75 (d:Nat) (seen:List Int) (p:Plc) (g:Gn):z2w l d seen p g=z39 l (gRec l d) p (z05 l 6 g).1 [] seen (z05 l 6 g).2:=by cases d<;>rfl
end
theorem InR.mono {tys tys' seen:List Int} (h:InR tys seen) (hl:tys.length<=tys'.length):InR tys' seen:=fun s hs=>⟨(h s hs).1,Nat.lt_of_lt_of_le (h s hs).2 hl⟩
theorem InR.app {tys a b:List Int} (h:InR tys a) (h':InR tys b):InR tys (a++b):=fun s hs=>(List.mem_append.1 hs).elim (h s) (h' s)
theorem InR.outs (ts:List Int) (g:Gn):InR (z0i ts g).2.types (z0i ts g).1:=by
  intro s hs
  have:=y59 ts g s hs
  rw [(z20 ts g).1]
  simp only [List.length_append]
  omega
section
variable (l:List UInt8)
theorem y9t (kind op n:Int) (name:ByteArray) (seen ins outs:List Int) (g:Gn):InR (z3x l kind op n name seen ins outs g).2.types (z3x l kind op n name seen ins outs g).1.outs/\(z3x l kind op n name seen ins outs g).1.outs.length=outs.length :=
  ⟨InR.outs outs _,(z20 outs _).2⟩
theorem y4m (seen:List Int) (g:Gn):InR (z1n l seen g).2.types (z1n l seen g).1.outs/\(z1n l seen g).1.outs.length<=1:=by
  have N:=fun kind op n name ins outs g'=>y9t l kind op n name seen ins outs g'
  have fin:∀ {x:Nd × Gn} {k:Nat},InR x.2.types x.1.outs/\x.1.outs.length=k->k<=1->InR x.2.types x.1.outs/\x.1.outs.length<=1:=fun h hk=>⟨h.1,by omega⟩
  unfold z1n
  simp only
  split
  ·exact fin (N _ _ _ _ _ [1] _) sI0
  split
  ·exact fin (N _ _ _ _ _ [2] _) sI0
  split
  ·exact fin (N _ _ _ _ _ [1] _) sI0
  split
  ·exact fin (N _ _ _ _ _ [2] _) sI0
  split
  ·exact fin (N _ _ _ _ _ [1] _) sI0
  split
  ·exact fin (N _ _ _ _ _ [2] _) sI0
  split
  ·exact fin (N _ _ _ _ _ [1] _) sI0
  split
  ·exact fin (N _ _ _ _ _ [] _) sI0
  split
  ·exact fin (N _ _ _ _ _ [1] _) sI0
  split
  ·exact fin (N _ _ _ _ _ [1] _) sI0
  exact fin (N _ _ _ _ _ [] _) sI0
theorem y2h (x:List Int->Nd) (hx:∀ o,(x o).outs=o) (t:List Int) (ht:t.length<=2) (g:Gn):InR (z77 x t g).2.types (z77 x t g).1.outs/\(z77 x t g).1.outs.length<=2:=by
  unfold z77
  split
  ·rw [hx];exact ⟨fun s hs=>by simp at hs,by simp⟩
  rw [hx];exact ⟨InR.outs t g,by rw [(z20 t g).2];exact ht⟩
theorem y55 {rec:Option GRec} (all:List Int) (p:Plc) (g:Gn):InR (gAny l rec all p g).2.types (gAny l rec all p g).1.outs/\(gAny l rec all p g).1.outs.length<=2:=by
  have hs:=y4m l all { g with left:=g.left - 1 }
  unfold gAny
  simp only
  cases rec with
  | none=>exact ⟨hs.1,Nat.le_trans hs.2 dC0⟩
  | some r =>
    simp only
    split
    ·unfold gIf;exact y2h _ (fun _=>rfl) _ (z3j l _).2 _
    split
    ·unfold z9f;exact y2h _ (fun _=>rfl) _ (z3j l _).2 _
    exact ⟨hs.1,Nat.le_trans hs.2 dC0⟩
end
theorem any_left (l:List UInt8) {rec:Option GRec} (hr:∀ r,rec=some r->y2z r) (all:List Int) (p:Plc) (hp:p.small) (g:Gn) (hg:0<g.left):(gAny l rec all p g).2.left+1<=g.left:=by
  have h0:({ g with left:=g.left - 1 }:Gn).left+1=g.left:=by show g.left - 1+1=g.left;omega
  have hs:=(zm5 l all { g with left:=g.left - 1 }).trans (z81 l 6 _)
  have fin:∀ {a b:Nat} {g':Gn},Bd a b { g with left:=g.left - 1 } g'->g'.left+1<=g.left:=fun h=>by have:=h.lf;omega
  unfold gAny
  simp only
  cases rec with
  | none=>exact fin hs
  | some r =>
    simp only
    split
    ·exact fin (hs.trans (bd_if l (hr r rfl) all p hp _))
    split
    ·exact fin (hs.trans (y87 l (hr r rfl) all _))
    exact fin hs
theorem zu9 (l:List UInt8) (rec:Option GRec) (p:Plc):∀ (i:Nat) (out:List Nd) (all:List Int) (g:Gn),(z39 l rec p i out all g).1.length<=out.length+i+1
  | 0,out,all,g=>by simp [z39]
  | i+1,out,all,g=>by
    unfold z39
    split
    ·simp
    simp only
    split
    ·simp
    have:=zu9 l rec p i (out++[(gAny l rec all p g).1]) (all++(gAny l rec all p g).1.outs) (gAny l rec all p g).2
    simp only [List.length_append,List.length_cons,List.length_nil] at this
    omega
theorem zn8 (l:List UInt8) (d:Nat) (seen:List Int) (p:Plc) (g:Gn):(z2w l d seen p g).1.length<=6:=by
  rw [z75]
  have h6:(z05 l 6 g).1<6:=z1s oM0
  have:=zu9 l (gRec l d) p (z05 l 6 g).1 [] seen (z05 l 6 g).2
  simp only [List.length_nil] at this
  omega
theorem y93 (l:List UInt8) (name:ByteArray) (params:List Int) (g:Gn) (hp:params.length<=10) (hg:g.pos<=100):(z2v l name params g).2.pos<=2000:=by
  have hS:=(z20 params { g with types:=[],left:=30 }).1
  have hb:=(z74 l 3 ((z0i params { g with types:=[],left:=30 }).1++[(z08 1 (z0i params { g with types:=[],left:=30 }).2).1,(z08 2 (z08 1 (z0i params { g with types:=[],left:=30 }).2).2).1]) plc0 (z08 2 (z08 1 (z0i params { g with types:=[],left:=30 }).2).2).2 ⟨by simp [plc0],by simp [plc0],by simp [plc0]⟩).ps
  have h1:(z08 2 (z08 1 (z0i params { g with types:=[],left:=30 }).2).2).2.pos=g.pos:=by rw [hS];rfl
  have h2:(z08 2 (z08 1 (z0i params { g with types:=[],left:=30 }).2).2).2.left=30:=by rw [hS];rfl
  rw [h1,h2] at hb
  show (z2w l 3 _ plc0 _).2.pos<=2000
  omega
end
section
section
variable (l:List UInt8)
theorem y6a (kind op n:Int) (name:ByteArray) (seen ins outs:List Int) (g:Gn):wtN (z3x l kind op n name seen ins outs g).1=ins.length+outs.length+name.size:=by
  rw [wtN_eq]
  show (z1i l seen ins g).1.length+(z0i outs _).1.length+0+name.size+0=_
  rw [(z1h l seen ins g).2,(z20 outs _).2]
  omega
theorem yi1 (seen:List Int) (g:Gn):wtN (z1n l seen g).1<=4:=by
  unfold z1n
  simp only
  have hn:z0l.size=0:=rfl
  have ha:z72.size=1:=rfl
  have hf:z3k.size=1:=rfl
  repeat' split
  all_goals (rw [y6a];simp only [List.length_cons,List.length_nil,hn,ha,hf];omega)
theorem wt_end (seen:List Int) (p:Plc) (hp:p.small) (g:Gn):wtN (gEnd l seen p g).1<=2:=by
  obtain ⟨h1,h2,h3⟩:=hp
  unfold gEnd
  simp only
  have hn:z0l.size=0:=rfl
  repeat' split
  all_goals (rw [y6a];simp only [List.length_cons,List.length_nil,hn];omega)
def y82 (N:Nat) (rec:GRec):Prop:=∀ seen p g,p.small->wtL (rec seen p g).1<=N/\(rec seen p g).1.length<=6
theorem yi0 (x:List Int->Nd) (t:List Int) (ht:t.length<=2) (g:Gn) (N:Nat) (hx:∀ o,wtN (x o)=o.length+N):wtN (z77 x t g).1<=N+2:=by
  unfold z77
  split
  ·rw [hx];simp
  rw [hx,(z20 t g).2];omega
theorem wt_if {N:Nat} {rec:GRec} (hr:y82 N rec) (all:List Int) (p:Plc) (hp:p.small) (g:Gn):wtN (gIf l rec all p g).1<=2*N+20:=by
  unfold gIf
  simp only
  obtain ⟨_,h2⟩:=z3j l g
  have hsm:Plc.small ⟨true,p.Loop,(z0m l g).1,p.Next,p.Left⟩:=⟨h2,hp.2.1,hp.2.2⟩
  refine Nat.le_trans (yi0 _ _ h2 _ (1+(1+((rec all ⟨true,p.Loop,(z0m l g).1,p.Next,p.Left⟩ (z1i l all [2] (z0m l g).2).2).1.length+wtL (rec all ⟨true,p.Loop,(z0m l g).1,p.Next,p.Left⟩ (z1i l all [2] (z0m l g).2).2).1)+(1+((rec all ⟨true,p.Loop,(z0m l g).1,p.Next,p.Left⟩ (rec all ⟨true,p.Loop,(z0m l g).1,p.Next,p.Left⟩ (z1i l all [2] (z0m l g).2).2).2).1.length+wtL (rec all ⟨true,p.Loop,(z0m l g).1,p.Next,p.Left⟩ (rec all ⟨true,p.Loop,(z0m l g).1,p.Next,p.Left⟩ (z1i l all [2] (z0m l g).2).2).2).1)))) fun o=>?_) ?_
  ·simp only [wtN,wtK,(z1h l all [2] (z0m l g).2).2,show z0l.size=0 from rfl,List.length_cons,List.length_nil]
   omega
  have h3:=hr all _ (z1i l all [2] (z0m l g).2).2 hsm
  have h4:=hr all _ (rec all ⟨true,p.Loop,(z0m l g).1,p.Next,p.Left⟩ (z1i l all [2] (z0m l g).2).2).2 hsm
  omega
theorem wt_loop {N:Nat} {rec:GRec} (hr:y82 N rec) (all:List Int) (g:Gn):wtN (z9f l rec all g).1<=2*N+20:=by
  unfold z9f
  simp only
  obtain ⟨_,h2⟩:=z3j l g
  obtain ⟨_,h4⟩:=z3j l (z0m l g).2
  generalize hA:z1i l all (z0m l g).1 (z0m l (z0m l g).2).2=A
  have hAl:A.1.length<=2:=by rw [<- hA,(z1h l all _ _).2];exact h2
  generalize hQ:z0i (z0m l g).1 A.2=Q
  have hQl:Q.1.length<=2:=by rw [<- hQ,(z20 _ _).2];exact h2
  have h5:=hr (all++Q.1) ⟨false,true,[],(z0m l g).1,(z0m l (z0m l g).2).1⟩ Q.2 ⟨by simp,h2,h4⟩
  generalize hB:rec (all++Q.1) ⟨false,true,[],(z0m l g).1,(z0m l (z0m l g).2).1⟩ Q.2=B at h5
  refine Nat.le_trans (yi0 _ _ h4 _ (A.1.length+Q.1.length+(1+(B.1.length+wtL B.1))) fun o=>?_) ?_
  ·simp only [wtN,wtK,show z0l.size=0 from rfl]
   omega
  omega
theorem wt_any {N:Nat} {rec:Option GRec} (hr:∀ r,rec=some r->y82 N r) (all:List Int) (p:Plc) (hp:p.small) (g:Gn):wtN (gAny l rec all p g).1<=2*N+20:=by
  have hs:=yi1 l all { g with left:=g.left - 1 }
  unfold gAny
  simp only
  cases rec with
  | none=>exact Nat.le_trans hs oM0
  | some r =>
    simp only
    split
    ·exact wt_if l (hr r rfl) all p hp _
    split
    ·exact wt_loop l (hr r rfl) all _
    exact Nat.le_trans hs oM0
theorem y0r {N:Nat} {rec:Option GRec} (hr:∀ r,rec=some r->y82 N r) (p:Plc) (hp:p.small):∀ (i:Nat) (out:List Nd) (all:List Int) (g:Gn),wtL (z39 l rec p i out all g).1<=wtL out+(i+1)*(2*N+20)
  | 0,out,all,g=>by
    have:=wt_end l all p hp g
    simp only [z39,z8w,wtL]
    omega
  | i+1,out,all,g=>by
    have he:=wt_end l all p hp g
    have hx:=wt_any l hr all p hp g
    have e:(i+1+1)*(2*N+20)=(i+1)*(2*N+20)+(2*N+20):=Nat.succ_mul _ _
    unfold z39
    split
    ·simp only [z8w,wtL];omega
    simp only
    split
    ·simp only [z8w,wtL];omega
    have:=y0r hr p hp i (out++[(gAny l rec all p g).1]) (all++(gAny l rec all p g).1.outs) (gAny l rec all p g).2
    simp only [z8w,wtL] at this ⊢
    omega
def zt8:Nat->Nat
  | 0=>120
  | d+1=>6*(2*zt8 d+20)
theorem y7y (d:Nat):zt8 (d+1)=6*(2*zt8 d+20):=rfl
theorem wt_gList (d:Nat):y82 (zt8 d) (z2w l d):=by
  induction d with
  | zero =>
    intro seen p g hp
    refine ⟨?_,zn8 l 0 seen p g⟩
    have h6:(z05 l 6 g).1<6:=z1s oM0
    have:=y0r l (N:=0) (rec:=none) (fun r h=>by cases h) p hp (z05 l 6 g).1 [] seen (z05 l 6 g).2
    rw [z75]
    show wtL (z39 l none p (z05 l 6 g).1 [] seen (z05 l 6 g).2).1<=zt8 0
    generalize wtL (z39 l none p (z05 l 6 g).1 [] seen (z05 l 6 g).2).1=z at this
    generalize (z05 l 6 g).1=k at *
    have e:zt8 0=120:=rfl
    simp only [wtL,Nat.zero_add,Nat.mul_zero] at this
    rw [e]
    omega
  | succ d ih =>
    intro seen p g hp
    refine ⟨?_,zn8 l (d+1) seen p g⟩
    have h6:(z05 l 6 g).1<6:=z1s oM0
    have:=y0r l (N:=zt8 d) (rec:=some (z2w l d)) (fun r h=>by cases h;exact ih) p hp (z05 l 6 g).1 [] seen (z05 l 6 g).2
    rw [z75]
    rw [show gRec l (d+1)=some (z2w l d) from rfl,y7y]
    generalize wtL (z39 l (some (z2w l d)) p (z05 l 6 g).1 [] seen (z05 l 6 g).2).1=z at this
    generalize (z05 l 6 g).1=k at *
    generalize zt8 d=m at *
    have h7:(k+1)*(2*m+20)<=6*(2*m+20):=Nat.mul_le_mul_right _ oM0
    simp only [wtL,Nat.zero_add] at this
    exact Nat.le_trans this h7
theorem zb3 (name:ByteArray) (params:List Int) (hp:params.length<=10) (g:Gn):(z2v l name params g).1.types.length<=1000/\za4 (z2v l name params g).1.body<=1000000:=by
  have hs:plc0.small:=⟨by simp [plc0],by simp [plc0],by simp [plc0]⟩
  have hS:=(z20 params { g with types:=[],left:=30 }).1
  generalize hB:(z08 2 (z08 1 (z0i params { g with types:=[],left:=30 }).2).2).2=B
  generalize hE:(z0i params { g with types:=[],left:=30 }).1++[(z08 1 (z0i params { g with types:=[],left:=30 }).2).1,(z08 2 (z08 1 (z0i params { g with types:=[],left:=30 }).2).2).1]=E
  have h1:B.types.length=params.length+2:=by rw [<- hB,hS];simp [z08]
  have h2:B.left=30:=by rw [<- hB,hS];rfl
  have hb:=(z74 l 3 E plc0 B hs).t2
  have hw:=wt_gList l 3 E plc0 B hs
  have e:z2v l name params g=(⟨name,1,params.length,(z2w l 3 E plc0 B).2.types,zn7 (z08 1 (z0i params { g with types:=[],left:=30 }).2).1 (z08 2 (z08 1 (z0i params { g with types:=[],left:=30 }).2).2).1++(z2w l 3 E plc0 B).1⟩,(z2w l 3 E plc0 B).2):=by
    unfold z2v
    simp only [hB,hE]
  rw [e]
  refine ⟨by simp only;omega,?_⟩
  simp only [za4,List.length_append,z8w]
  have h3:wtL (zn7 (z08 1 (z0i params { g with types:=[],left:=30 }).2).1 (z08 2 (z08 1 (z0i params { g with types:=[],left:=30 }).2).2).1)=2:=rfl
  have h4:(zn7 (z08 1 (z0i params { g with types:=[],left:=30 }).2).1 (z08 2 (z08 1 (z0i params { g with types:=[],left:=30 }).2).2).1).length=2:=rfl
  have h5:zt8 3<=500000:=by simp only [zt8];omega
  omega
theorem wt_made:z0s (made l)<=536870912:=by
  have h1:=zb3 l z0c [] sI0 ⟨0,[],0⟩
  have h2:=zb3 l z3k [1,2] sI0 (z2v l z0c [] ⟨0,[],0⟩).2
  have e1:(z2v l z0c [] ⟨0,[],0⟩).1.name.size=4:=rfl
  have e2:(z2v l z3k [1,2] (z2v l z0c [] ⟨0,[],0⟩).2).1.name.size=1:=rfl
  have e3:z72.size=1:=rfl
  simp only [z0s,made,wtA,wtF,List.length_cons,List.length_nil,e1,e2,e3]
  omega
end
end
theorem y6g {k n:Nat} {v:Int} (hk:k<=n) (h0:0<=v) (h:v<k):(z32 k n).getD v.toNat false=true:=by
  unfold z32
  rw [List.getD_eq_getElem?_getD,List.getElem?_append_left (by simp;omega),List.getElem?_replicate,if_pos oM0]
  rfl
theorem iota_mem {n:Nat} {v:Int} (h:v∈iota n):0<=v/\v<n:=by
  simp only [iota,List.mem_map,List.mem_range] at h
  obtain ⟨i,hi,rfl⟩:=h
  omega
theorem once_of {u:Un} (h:(z19 u).1=0):∀ g∈u.flows,(dL g.body).Nodup/\∀ o∈dL g.body,o∉iota g.params.toNat:=by
  intro g hg
  obtain ⟨h1,h2⟩:=(z51 u).1 h
  have hf:=h2 g hg
  have hp:=z45 h1 g hg
  unfold z33 at hf
  simp only [Bool.and_eq_true] at hf
  have f6:=hf.2
  rw [z4w u g g.body 1 z14 _ _ (z1z oM0)] at f6
  refine ⟨f6.2.1,fun o ho hi=>?_⟩
  obtain ⟨i0,i1⟩:=iota_mem hi
  have:=f6.2.2 o ho
  rw [y6g oM0 i0 i1] at this
  cases this
theorem made_sz (l:List UInt8):uSz (made l).flows<=4000000:=by
  have h1:=(zb3 l z0c [] sI0 ⟨0,[],0⟩).2
  have h2:=(zb3 l z3k [1,2] sI0 (z2v l z0c [] ⟨0,[],0⟩).2).2
  refine Nat.le_trans (uSz_W _) ?_
  simp only [made,wtF]
  have e1:(z2v l z0c [] ⟨0,[],0⟩).1.name.size=4:=rfl
  have e2:(z2v l z3k [1,2] (z2v l z0c [] ⟨0,[],0⟩).2).1.name.size=1:=rfl
  have t1:=(zb3 l z0c [] sI0 ⟨0,[],0⟩).1
  have t2:=(zb3 l z3k [1,2] sI0 (z2v l z0c [] ⟨0,[],0⟩).2).1
  omega
theorem y6p {u:Un} (hz:(z19 u).1=0) {f:Fl} (hf:f∈u.flows):FRel (uSz u.flows) f (z3y f):=by
  refine ⟨rfl,yf6 hf,?_⟩
  obtain ⟨v1,v2,v3,v4⟩:=vf_of hz f hf
  have hz':(z19 (z3l u)).1=0:=by rw [z9q hz]
  have hf':z3y f∈(z3l u).flows:=List.mem_map_of_mem hf
  obtain ⟨v1',_⟩:=vf_of hz' _ hf'
  obtain ⟨o1,o2⟩:=once_of hz' _ hf'
  simp only [z2j,Bool.and_eq_true] at v1 v1'
  have w':=v1'.2
  rw [y4z] at w'
  have hr:=HR.rel (zo5 u f _ f.body (Nat.lt_succ_self _) 1 z14 _ v1.2) 1 z14 (iota f.params.toNat) 1 z14 (iota f.params.toNat) true true [] [] [] [] (by simpa using v1.1) ⟨v1.2,w',o1,o2,fun _ h=>h,fun _ h=>by simp at h⟩
    (fun _ h=>by simp at h) (fun _ h=>by simp at h) (fun _ h=>by simp at h) (fun _ h=>by simp at h) (fun _=>rfl) fun _=>rfl
  refine .weak (fun a b h=>?_) (hr.monoE fun n p p' a b h=>?_)
  ·rw [h.1];exact ⟨fun _ _=>rfl,fun _ h=>by simp at h⟩
  unfold EF
  rcases h with ⟨_,_,rfl,_⟩ | ⟨_,rfl,_⟩ | ⟨_,_,rfl,_⟩ | ⟨_,rfl⟩<;>rfl
theorem y9d {u:Un} (hz:(z19 u).1=0):URel u (z3l u):=by
  refine ⟨rfl,fun name=>zh0 name u.flows 0,fun i f g h h'=>?_⟩
  have:(z3l u).flows[i]? = (u.flows[i]?).map z3y:=List.getElem?_map ..
  rw [h',h] at this
  obtain rfl:g=z3y f:=Option.some.inj this
  exact y6p hz (List.mem_of_getElem? h)
set_option maxRecDepth 20000
set_option maxHeartbeats 2000000
theorem zy5 {m n z:Int} (hn:n≠0) (h:m.tdiv n=z) (h1:-9223372036854775808<=z/\z<=9223372036854775807):z3p .quo .i64 m n=some (.int .i64 z):=by
  subst h;simp only [z3p];rw [if_neg hn,IntWalk.i64_in _ h1]
theorem yb2 (u v:Un) (hW:z0s u<=536870912) (ins:List Int) (fuel q:Int) (hf:0<=fuel/\fuel<=1000000) (hq:fuel.tdiv 4=q) (a b c d:Rs)
    (hA:SC Tryz.prog 17 [.pv u.enc,.pv (ints ins),iInt fuel] [] (fun _=>False) (.pv (runv a)) [])
    (hB:SC Tryz.prog 17 [.pv v.enc,.pv (ints ins),iInt fuel] [] (fun _=>False) (.pv (runv b)) [])
    (hC:SC Tryz.prog 17 [.pv v.enc,.pv (ints ins),iInt q] [] (fun _=>False) (.pv (runv c)) [])
    (hD:SC Tryz.prog 17 [.pv u.enc,.pv (ints ins),iInt ((q+1)*((uSz u.flows:Int)+1))] [] (fun _=>False) (.pv (runv d)) [])
    (h1:Fol a b) (h2:a.st≠0->b.cost<=a.cost/\a.fuel<=b.fuel) (h3:Fol c d) (hb:b.out.length<=1073741824) (hd:d.out.length<=1073741824) :
    SC Tryz.prog 13 [.pv u.enc,.pv v.enc,.pv (ints ins),iInt fuel] [] (fun k=>k∈[]) (iBool true) []:=by
  refine SC.vc tb {} [] Tryz.func13 rfl rfl ?_
  have hF1:=zw5 a b h1 hb
  have hF2:=zw5 c d h3 hd
  have hN:=sc_nodes u hW
  have hw:=uSz_W u.flows
  have hw2:wtF u.flows<=z0s u:=by unfold z0s;omega
  have hqb:0<=q/\q<=1000000:=by
    rw [<- hq,Int.tdiv_eq_ediv_of_nonneg hf.1];omega
  have hm:-9223372036854775808<=(q+1)*((uSz u.flows:Int)+1)/\(q+1)*((uSz u.flows:Int)+1)<=9223372036854775807:=by
    have x1:0<=(q+1)*((uSz u.flows:Int)+1):=Int.mul_nonneg oM0 oM0
    have x2:(q+1)*((uSz u.flows:Int)+1)<=1000001*536870913:=Int.mul_le_mul oM0 oM0 oM0 oM0
    omega
  obtain ⟨ains,aar,ast,acode,aout,acost,afuel,asp⟩:=a
  obtain ⟨bins,bar,bst,bcode,bout,bcost,bfuel,bsp⟩:=b
  dsimp only at h2
  refine ⟨[],hA,sR,trivial,rfl,[],hB,sR,trivial,rfl,[],hF1,sR,trivial,rfl,?_⟩
  refine z00 (fun h5=>?_) fun h5=>?_
  · have hst:ast≠0:=by simpa using h5
    obtain ⟨c1,c2⟩:=h2 hst
    refine z00 (fun h6=>absurd h6 (by simp;omega)) fun _=>z00 (fun h6=>absurd h6 (by simp;omega)) fun _=>?_
    exact ⟨zy5 dC0 hq oM0,[],hC,sR,trivial,rfl,zy5 dC0 hq oM0,z03 rfl oM0,[],hN,sR,trivial,rfl,z03 rfl oM0,y9e rfl hm,[],hD,sR,trivial,rfl,[],hF2,sR,trivial,rfl,sI,trivial⟩
  · exact ⟨zy5 dC0 hq oM0,[],hC,sR,trivial,rfl,zy5 dC0 hq oM0,z03 rfl oM0,[],hN,sR,trivial,rfl,z03 rfl oM0,y9e rfl hm,[],hD,sR,trivial,rfl,[],hF2,sR,trivial,rfl,sI,trivial⟩
theorem arr_size {u:Un} {A:Ar} (hz:(z19 u).1=0) (h:u.arrays=[A]):0<=A.size/\A.size<=1000:=by
  obtain ⟨h1,_⟩:=(z51 u).1 hz
  unfold z12 at h1
  simp only [Bool.and_eq_true] at h1
  have h2:=h1.1.1
  rw [h] at h2
  simp only [r8gA,gArr,Bool.and_eq_true,Bool.not_eq_true',decide_eq_false_iff_not] at h2
  omega
theorem y62 (u:Un) (h1:u.arrays.length<=1) (hW:z0s u<=536870912) (hz:(z19 u).1=0) (ins:List Int) (fuel:Int) (d:Nat) (r:Int × Rs) (h:z3m u d (z02 z0c u.flows 0) [] (runA u ins fuel)=some r) :
    SC Tryz.prog 17 [.pv u.enc,.pv (ints ins),iInt fuel] [] (fun _=>False) (.pv (runv (mEnd r))) []:=by
  have hs:=@arr_size u
  obtain ⟨ar,fs⟩:=u
  rcases ar with _ | ⟨A,_ | ⟨A2,t⟩⟩
  · exact ye5 fs hW hz ins fuel d r h
  · exact sr_run1 fs A hW hz ins fuel d r h (hs hz rfl)
  · simp at h1
theorem y46 {u v:Un} (R:URel u v) (h1:u.arrays.length<=1) (hW:z0s u<=536870912) (hW':z0s v<=536870912) (hz:(z19 u).1=0) (hz':(z19 v).1=0) (hN:uSz u.flows<=4000000) (ins:List Int) (fuel:Int) (hf:0<=fuel/\fuel<=510) :
    SC Tryz.prog 13 [.pv u.enc,.pv v.enc,.pv (ints ins),iInt fuel] [] (fun k=>k∈[]) (iBool true) []:=by
  have hq:0<=fuel.tdiv 4/\fuel.tdiv 4<=127:=by rw [Int.tdiv_eq_ediv_of_nonneg hf.1];omega
  have hfD0:0<=(fuel.tdiv 4+1)*((uSz u.flows:Int)+1):=Int.mul_nonneg oM0 oM0
  have hfD:(fuel.tdiv 4+1)*((uSz u.flows:Int)+1)<=128*4000001:=Int.mul_le_mul oM0 oM0 oM0 oM0
  have B:(1073741824:Int)<=4611686018427387903:=by decide
  have M:(1073741824:Int)<=1073741824:=by decide
  have hav:v.arrays.length<=1:=by rw [R.ar];exact h1
  obtain ⟨da,qa,ra,ia⟩:=y06 hz ins hf.1 B M oM0 oM0
  obtain ⟨db,qb,rb,ib⟩:=y06 hz' ins hf.1 B M oM0 oM0
  obtain ⟨dc,qc,rc,ic⟩:=y06 hz' ins hq.1 B M oM0 oM0
  obtain ⟨dd,qd,rd,id⟩:=y06 hz ins hfD0 B M oM0 oM0
  have k1:=rc_fol (y5v true R ins hf.1 hf.1 B (M:=1073741824) oM0 oM0 oM0 oM0 (by unfold G;simp) ra rb)
  have k2:=rc_fol2 (y5v false R ins hfD0 hq.1 B (M:=1073741824) oM0 oM0 oM0 oM0 (by
    unfold G
    simp only [Bool.false_eq_true,if_false]
    rw [Int.add_mul]
    generalize fuel.tdiv 4*((uSz u.flows:Int)+1)=P
    omega) rd rc)
  have ob:qb.2.out.length<=1073741824:=by have:=ib.out;have:=ib.ok.1;omega
  have od:qd.2.out.length<=1073741824:=by have:=id.out;have:=id.ok.1;omega
  exact yb2 u v hW ins fuel (fuel.tdiv 4) oM0 rfl _ _ _ _ (y62 u h1 hW hz ins fuel da qa ra) (y62 v hav hW' hz' ins fuel db qb rb) (y62 v hav hW' hz' ins _ dc qc rc) (y62 u h1 hW hz ins _ dd qd rd) k1.1 k1.2 k2 (by rw [ze9];exact ob) (by rw [ze9];exact od)
theorem z2n (l:List UInt8) (n:Nat) (g:Gn) (hn:0<n) (hb:g.pos<=1000000):SC Tryz.prog 49 [.ptr 2001 0,iInt (n:Int)] (gH l g) (fun _=>False) (iInt ((z05 l n g).1:Int)) (gH l (z05 l n g).2):=by
  refine SC.of Tryz.func49 rfl (lb rfl) fun F ρ w=>?_
  refine tQ <| tG <| sm 1 rfl <| nL <| tQ <| tG <| sm 1 rfl <| cV rfl (nCk rfl rfl rfl) <| sm 2 rfl <| cV rfl (oB rfl rfl (z03 rfl oM0)) <| cV rfl (nCk rfl rfl rfl) <| sm 1 rfl ?_
  refine c0 (sBx rfl rfl rfl rfl ((fun h=>h)) tS3 (rfl) (lb rfl)) <| nL <| tQ <| tQ <| Tr.still z7w kR0 rfl <| smS 1 rfl <| sV rfl (nCk rfl rfl rfl) <| smS 3 rfl <| sV rfl (nCk rfl rfl rfl) <| smS 2 rfl <| sV rfl (oSm Tryz.underlying29 rfl) <| smS 2 rfl ?_
  refine WS.split (t:=22) rfl (fun hb22=>?_) (fun hb22=>?_)
  ·refine smS 6 rfl <| WS.nil <| Tr.condT rfl ?_
   have hc:g.pos+1 > l.length∨g.pos+1 > 150:=by
     (have:=hb22;simp at this;omega)
   refine tQ <| tG <| sm 1 rfl <| nL <| tRt <| rOk rfl ?_ (po2 rfl rfl)
   simp only [z05,if_pos hc]
   rfl
  refine smS 1 rfl <| syV rfl rfl (nCk rfl rfl rfl) <| smS 4 rfl <| WS.nil ?_
  refine tC rfl (fun hc28=>?_) fun hc28=>?_
  ·have hc:g.pos+1 > l.length∨g.pos+1 > 150:=by
     (have:=hc28;simp at this;omega)
   refine tQ <| tG <| sm 1 rfl <| nL <| tRt <| rOk rfl ?_ (po2 rfl rfl)
   simp only [z05,if_pos hc]
   rfl
  have hc:¬ (g.pos+1 > l.length∨g.pos+1 > 150):=by
    simp at hb22 hc28
    omega
  have hlt:g.pos<l.length:=by omega
  have hi:=z06 (f:=eB) (List.getElem?_eq_getElem hlt)
  have hgd:l.getD g.pos 0=l[g.pos]:=by rw [List.getD,List.getElem?_eq_getElem hlt];rfl
  generalize l[g.pos]=x at hi hgd
  have hrem:z3p .rem .i64 (IntKind.i64.wrap (x.toNat:Int)) (n:Int)=some (.int .i64 ((x.toNat % n:Nat):Int)):=by rw [u8_i64];exact i64_rem hn
  refine tSk <| tQ <| Tr.still z7w kR0 rfl <| smS 1 rfl <| sV rfl (nCk rfl rfl rfl) <| smS 3 rfl <| sV rfl (nCk rfl rfl rfl) <| smS 2 rfl <| sV rfl (oB rfl rfl (z2y rfl oM0)) <| sV rfl (iSq rfl rfl rfl Tryz.underlying29 hi tS5 rfl oM0) <| smS 1 rfl <| sV rfl (z9y rfl rfl ⟨_,Tryz.underlying5⟩ uT3) ?_
  refine smS 1 rfl <| sV rfl (oB rfl rfl hrem) <| smS 1 rfl <| WS.nil <| tRt <| rOk rfl ?_ (po2 rfl rfl)
  simp only [z05,if_neg hc,hgd]
theorem zd4 (l:List UInt8) (t:Int) (g:Gn) (hb:g.types.length<=1000000):SC Tryz.prog 35 [.ptr 2001 0,iInt t] (gH l g) (fun _=>False) (iInt (z08 t g).1) (gH l (z08 t g).2):=by
  refine SC.of Tryz.func35 rfl (lb rfl) fun F ρ w=>?_
  have hbl:(g.types.map eInt).length=g.types.length:=by simp
  have hbl2:((z08 t g).2.types.map eInt).length=g.types.length+1:=by simp [z08]
  refine tQ <| tG <| sm 1 rfl <| nL <| tQ <| tG <| sm 2 rfl <| cV rfl (nCk rfl rfl rfl) <| sm 3 rfl <| cE rfl (bSl rfl rfl uT35 tZ3 tS3 rfl rfl rfl rfl (fbk rfl) rfl) ?_
  refine cE rfl (aPp rfl rfl rfl rfl (by rfl) ((fun h=>h)) uT35 tB3 dC0 (by (simp [z07];done)) (by (simp [z07,PV.one];rfl)) (by simp [maxLen,z07];omega) (by simp [z07];omega)) ?_
  refine cV rfl (nCk rfl rfl rfl) <| sm 1 rfl <| c0 (sBx rfl rfl rfl rfl ((fun h=>h)) tS35 (⟨_,_,rfl,by simp⟩) (lb rfl)) <| nL <| tQ ?_
  refine Tr.heap (σ':=look [(2001,some (z3a l (z08 t g).2)),(2002,some (rowI (z08 t g).2.types))]) (lkq [2001,2002] rfl rfl ⟨(by first | exact congrArg (fun z=>some (HO.row _ z)) (by simp [z08,z07,eInt]) | exact congrArg (fun z=>some (HO.box z)) (by simp [z08,z07,eInt])),(by first | exact congrArg (fun z=>some (HO.row _ z)) (by simp [z08,z07,eInt]) | exact congrArg (fun z=>some (HO.box z)) (by simp [z08,z07,eInt])),trivial⟩) ?_
  refine tG <| sm 1 rfl <| cV rfl (nCk rfl rfl rfl) <| sm 2 rfl <| cV rfl (z95 rfl rfl rfl rfl uT35) <| cV rfl (oB rfl rfl (z2y rfl oM0)) <| sm 1 rfl <| nL <| tRt <| rOk rfl ?_ (po2 rfl rfl)
  refine congrArg (fun z=>IV.pv (.val (.int .i64 z))) ?_
  rw [hbl2]
  simp only [z08]
  omega
theorem sc_gSome (l:List UInt8) (g:Gn) (seen:List Int) (t:Int) (hs:InR g.types seen) (hb:g.pos<=999999) (hsl:seen.length<=1000000):SC Tryz.prog 73 [.ptr 2001 0,.sl 2003 (seen.map eInt).length,iInt t] (gHs l g seen) (fun _=>False) (iInt (zb7 l seen t g).1) (gHs l (zb7 l seen t g).2 seen):=by
  refine SC.of Tryz.func73 rfl (lb rfl) fun F ρ w=>?_
  have hp8:(z05 l 8 g).1<8:=z1s oM0
  refine tQ <| tG <| sm 1 rfl <| nL <| tQ <| tG <| sm 1 rfl <| cE rfl (ocr (z2n l 8 g oM0 oM0) y8r rfl (po2 rfl rfl) rfl (fun k (h:_)=>.inr h) rfl rfl) <| sm 1 rfl <| nL <| tQ <| tG ?_
  refine sm 1 rfl <| nL <| tQ <| tQ <| tG <| sm 1 rfl <| nL <| tBk <| Tr.sub (Sub.of (fr':=[(9,iInt 0),(8,iInt 0),(7,iInt ((z05 l 8 g).1:Int)),(0,.ptr 2001 0),(1,.sl 2003 (seen.map eInt).length),(2,iInt t)]) ⟨rfl,rfl,rfl,rfl,rfl,rfl,trivial⟩) <| Tr.heap (σ':=look [(2001,some (z3a l (z05 l 8 g).2)),(2002,some (rowI (z05 l 8 g).2.types)),(2003,some (rowI seen))]) (lkq [2001,2002,2003] rfl rfl ⟨rfl,rfl,rfl,trivial⟩) ?_
  refine Tr.loop (fun fr σ m=>∃ (i:Nat) (k:Int) (v:Int),(i<=seen.length)/\(k<=8 /\ -(i:Int)<=k)/\(gS1 g.types t (i==0) k v (seen.drop i)=gS1 g.types t true (z05 l 8 g).1 0 seen)/\fr=[(9,iInt i),(8,iInt v),(7,iInt k),(0,.ptr 2001 0),(1,.sl 2003 (seen.map eInt).length),(2,iInt t)] /\ σ = look [(2001,some (z3a l (z05 l 8 g).2)),(2002,some (rowI (z05 l 8 g).2.types)),(2003,some (rowI seen))]/\m=seen.length - i) (n:=seen.length - 0) ?_ ?_
  ·exact ⟨0,((z05 l 8 g).1:Int),0,Nat.zero_le _,⟨by omega,by omega⟩,rfl,rfl,rfl,rfl⟩
  rintro fr σ m ⟨i,k,v,hI0,hI1,hI2,rfl,rfl,rfl⟩
  refine tQ <| tQ <| tG <| sm 2 rfl <| cV rfl (z95 rfl rfl rfl rfl uT35) <| sm 1 rfl <| nL ?_
  refine tC rfl (fun hc16=>?_) fun hc16=>?_
  ·have hlt:i<seen.length:=by simpa using hc16
   have hd:=List.drop_eq_getElem_cons hlt
   have hm:=List.getElem_mem hlt
   have hi:=z06 (f:=eInt) (List.getElem?_eq_getElem hlt)
   generalize seen[i]=s at hd hm hi
   have hil:i<(seen.map eInt).length:=by rw [List.length_map];exact hlt
   obtain ⟨hs1,hs2,hs3⟩:=hs.at hm
   refine tSk <| tQ <| tBk <| tQ <| Tr.still z7w kR0 rfl <| smS 1 rfl <| sV rfl (nCk rfl rfl rfl) <| smS 4 rfl <| sV rfl (iRw rfl rfl rfl rfl rfl uT35 tS3 hil (by rfl)) <| sV rfl (lRw rfl rfl rfl rfl (Nat.add_zero _).symm hi rfl uT3 rfl trivial) <| sV rfl (iRw rfl rfl rfl rfl rfl uT35 tS3 hs1 (by assumption)) <| sV rfl (lRw rfl rfl rfl rfl (Nat.add_zero _).symm hs2 rfl uT3 rfl trivial) ?_
   refine smS 3 rfl ?_
   refine WS.split (t:=31) rfl (fun hb31=>?_) (fun hb31=>?_)
   ·refine smS 3 rfl ?_
    refine WS.split (t:=34) rfl (fun hb34=>?_) (fun hb34=>?_)
    ·refine smS 4 rfl <| WS.nil <| Tr.condT rfl <| tQ <| tG <| sm 2 rfl <| cV rfl (iRw rfl rfl rfl rfl rfl uT35 tS3 hil (by rfl)) <| cV rfl (lRw rfl rfl rfl rfl (Nat.add_zero _).symm hi rfl uT3 rfl trivial) <| sm 1 rfl <| nL <| tG <| sm 1 rfl ?_
     refine cV rfl (oB rfl rfl (z2y rfl oM0)) <| sm 1 rfl <| nL <| tG <| sm 1 rfl <| cV rfl (oB rfl rfl (z03 rfl oM0)) <| sm 1 rfl <| nL ?_
     refine ⟨_,_,?_,Sub.of (fr':=[(9,iInt (i+1)),(8,iInt s),(7,iInt (k - 1)),(0,.ptr 2001 0),(1,.sl 2003 (seen.map eInt).length),(2,iInt t)]) ⟨rfl,rfl,rfl,rfl,rfl,rfl,trivial⟩,(i+1),(k - 1),s,?_,?_,?_,rfl,rfl,rfl⟩
     ·omega
     ·omega
     ·omega
     rw [<- hI2,hd]
     have hi0:(i+1==0)=false:=rfl
     rw [hi0]
     simp only [gS1]
     (rw [if_pos (by clear hs3 hi hs hd hm hs1 hs2 hI2;simp_all)];done)
    refine smS 4 rfl <| WS.nil ?_
    refine tC rfl (fun hc38=>?_) fun hc38=>?_
    ·refine tQ <| tG <| sm 2 rfl <| cV rfl (iRw rfl rfl rfl rfl rfl uT35 tS3 hil (by rfl)) <| cV rfl (lRw rfl rfl rfl rfl (Nat.add_zero _).symm hi rfl uT3 rfl trivial) <| sm 1 rfl <| nL <| tG <| sm 1 rfl <| cV rfl (oB rfl rfl (z2y rfl oM0)) <| sm 1 rfl <| nL ?_
     refine tG <| sm 1 rfl <| cV rfl (oB rfl rfl (z03 rfl oM0)) <| sm 1 rfl <| nL ?_
     refine ⟨_,_,?_,Sub.of (fr':=[(9,iInt (i+1)),(8,iInt s),(7,iInt (k - 1)),(0,.ptr 2001 0),(1,.sl 2003 (seen.map eInt).length),(2,iInt t)]) ⟨rfl,rfl,rfl,rfl,rfl,rfl,trivial⟩,(i+1),(k - 1),s,?_,?_,?_,rfl,rfl,rfl⟩
     ·omega
     ·omega
     ·omega
     rw [<- hI2,hd]
     have hi0:(i+1==0)=false:=rfl
     rw [hi0]
     simp only [gS1]
     (rw [if_pos (by clear hs3 hi hs hd hm hs1 hs2 hI2;simp_all)];done)
    refine tSk <| tG <| sm 1 rfl <| cV rfl (oB rfl rfl (z03 rfl oM0)) <| sm 1 rfl <| nL ?_
    refine ⟨_,_,?_,Sub.of (fr':=[(9,iInt (i+1)),(8,iInt v),(7,iInt k),(0,.ptr 2001 0),(1,.sl 2003 (seen.map eInt).length),(2,iInt t)]) ⟨rfl,rfl,rfl,rfl,rfl,rfl,trivial⟩,(i+1),k,v,?_,?_,?_,rfl,rfl,rfl⟩
    ·omega
    ·omega
    ·omega
    rw [<- hI2,hd]
    have hi0:(i+1==0)=false:=rfl
    rw [hi0]
    simp only [gS1]
    (rw [if_neg (by clear hs3 hi hs hd hm hs1 hs2 hI2;simp_all)];done)
   refine smS 3 rfl <| WS.noU rfl rfl rfl rfl rfl rfl <| WS.noU rfl rfl rfl rfl rfl rfl <| smS 2 rfl <| WS.nil <| Tr.condF rfl <| tSk <| tG <| sm 1 rfl <| cV rfl (oB rfl rfl (z03 rfl oM0)) <| sm 1 rfl <| nL ?_
   refine ⟨_,_,?_,Sub.of (fr':=[(9,iInt (i+1)),(8,iInt v),(7,iInt k),(0,.ptr 2001 0),(1,.sl 2003 (seen.map eInt).length),(2,iInt t)]) ⟨rfl,rfl,rfl,rfl,rfl,rfl,trivial⟩,(i+1),k,v,?_,?_,?_,rfl,rfl,rfl⟩
   ·omega
   ·omega
   ·omega
   rw [<- hI2,hd]
   have hi0:(i+1==0)=false:=rfl
   rw [hi0]
   simp only [gS1]
   (rw [if_neg (by clear hs3 hi hs hd hm hs1 hs2 hI2;simp_all)];done)
  refine tEx <| tQ <| tQ ?_
  have hge:seen.length<=i:=by simpa using hc16
  rw [List.drop_eq_nil_of_le hge] at hI2
  simp only [gS1] at hI2
  obtain ⟨v0,hv0e⟩:∃ v0,gS1 g.types t true (z05 l 8 g).1 0 seen=v0:=⟨_,rfl⟩
  have hv0:=y95 (t:=t) seen true (z05 l 8 g).1 0 hs ⟨by omega,.inr rfl⟩
  rw [hv0e] at hI2 hv0
  subst hI2
  refine tG <| sm 1 rfl <| nL <| tBk <| Tr.sub (Sub.of (fr':=[(10,iInt 0),(8,iInt v),(0,.ptr 2001 0),(1,.sl 2003 (seen.map eInt).length),(2,iInt t)]) ⟨rfl,rfl,rfl,rfl,rfl,trivial⟩) ?_
  refine Tr.loop (fun fr σ m=>∃ (i:Nat) (v1:Int),(i<=seen.length)/\(gS2 g.types t v1 (seen.drop i)=gS2 g.types t v seen)/\(0<=v1/\(v1.toNat<g.types.length∨v1=0))/\fr=[(10,iInt i),(8,iInt v1),(0,.ptr 2001 0),(1,.sl 2003 (seen.map eInt).length),(2,iInt t)] /\ σ = look [(2001,some (z3a l (z05 l 8 g).2)),(2002,some (rowI (z05 l 8 g).2.types)),(2003,some (rowI seen))]/\m=seen.length - i) (n:=seen.length - 0) ?_ ?_
  ·exact ⟨0,v,Nat.zero_le _,rfl,hv0,rfl,rfl,rfl⟩
  rintro fr σ m ⟨i,v1,hI0,hI1,hI2,rfl,rfl,rfl⟩
  refine tQ <| tQ <| tG <| sm 2 rfl <| cV rfl (z95 rfl rfl rfl rfl uT35) <| sm 2 rfl ?_
  refine wS 49 rfl (fun hb49=>?_) fun hb49=>?_
  ·have hlt:i<seen.length:=by simpa using hb49
   have hd:=List.drop_eq_getElem_cons hlt
   have hm:=List.getElem_mem hlt
   have hi:=z06 (f:=eInt) (List.getElem?_eq_getElem hlt)
   generalize seen[i]=s at hd hm hi
   have hil:i<(seen.map eInt).length:=by rw [List.length_map];exact hlt
   obtain ⟨hs1,hs2,hs3⟩:=hs.at hm
   have hvr:v1.toNat<g.types.length:=by
     rcases hI2.2 with h1 | h1
     ·exact h1
     subst h1
     have:s.toNat<g.types.length:=by simpa using hs1
     simp;omega
   have hvm:InR g.types [v1]:=fun x hx=>by rw [List.mem_singleton.1 hx];exact ⟨hI2.1,hvr⟩
   obtain ⟨hv1,hv2,hv3⟩:=hvm.at (.head _)
   refine sm 1 rfl <| yV rfl rfl (nCk rfl rfl rfl) <| sm 3 rfl <| yV rfl rfl (iRw rfl rfl rfl rfl rfl uT35 tS3 hv1 (by assumption)) <| yV rfl rfl (lRw rfl rfl rfl rfl (Nat.add_zero _).symm hv2 rfl uT3 rfl trivial) <| sm 3 rfl <| nL ?_
   refine tC rfl (fun hc59=>?_) fun hc59=>?_
   ·have hcont:(g.types.getD v1.toNat 0 != t)=true:=hc59
    refine tSk <| tQ <| tBk <| tQ <| Tr.still z7w kR0 rfl <| smS 1 rfl <| sV rfl (nCk rfl rfl rfl) <| smS 4 rfl <| sV rfl (iRw rfl rfl rfl rfl rfl uT35 tS3 hil (by rfl)) <| sV rfl (lRw rfl rfl rfl rfl (Nat.add_zero _).symm hi rfl uT3 rfl trivial) <| sV rfl (iRw rfl rfl rfl rfl rfl uT35 tS3 hs1 (by assumption)) <| sV rfl (lRw rfl rfl rfl rfl (Nat.add_zero _).symm hs2 rfl uT3 rfl trivial) ?_
    refine smS 2 rfl <| WS.nil ?_
    refine tC rfl (fun hc73=>?_) fun hc73=>?_
    ·refine tG <| sm 2 rfl <| cV rfl (iRw rfl rfl rfl rfl rfl uT35 tS3 hil (by rfl)) <| cV rfl (lRw rfl rfl rfl rfl (Nat.add_zero _).symm hi rfl uT3 rfl trivial) <| sm 1 rfl <| nL <| tG <| sm 1 rfl <| cV rfl (oB rfl rfl (z03 rfl oM0)) <| sm 1 rfl <| nL ?_
     refine ⟨_,_,?_,Sub.of (fr':=[(10,iInt (i+1)),(8,iInt s),(0,.ptr 2001 0),(1,.sl 2003 (seen.map eInt).length),(2,iInt t)]) ⟨rfl,rfl,rfl,rfl,rfl,trivial⟩,(i+1),s,?_,?_,?_,rfl,rfl,rfl⟩
     ·omega
     ·omega
     ·rw [<- hI1,hd]
      simp only [gS2]
      rw [if_pos hcont]
      (rw [if_pos hc73];done)
     first
     | exact hI2
     | exact ⟨by omega,.inl (by simpa using hs1)⟩
    refine tSk <| tG <| sm 1 rfl <| cV rfl (oB rfl rfl (z03 rfl oM0)) <| sm 1 rfl <| nL ?_
    refine ⟨_,_,?_,Sub.of (fr':=[(10,iInt (i+1)),(8,iInt v1),(0,.ptr 2001 0),(1,.sl 2003 (seen.map eInt).length),(2,iInt t)]) ⟨rfl,rfl,rfl,rfl,rfl,trivial⟩,(i+1),v1,?_,?_,?_,rfl,rfl,rfl⟩
    ·omega
    ·omega
    ·rw [<- hI1,hd]
     simp only [gS2]
     rw [if_pos hcont]
     (rw [if_neg (by rw [hc73];decide)];done)
    first
    | exact hI2
    | exact ⟨by omega,.inl (by simpa using hs1)⟩
   refine tEx <| tQ <| tG <| sm 2 rfl <| nL <| tRt <| rOk rfl ?_ (po3 rfl rfl rfl)
   refine congrArg iInt ?_
   show _=gS2 g.types t (gS1 g.types t true (z05 l 8 g).1 0 seen) seen
   rw [hv0e,<- hI1]
   (rw [hd]
    simp only [gS2]
    rw [if_neg (by rw [show (g.types.getD v1.toNat 0 != t)=false from hc59];decide)]
    done)
  refine sm 10 rfl <| nL <| Tr.condF rfl <| tEx <| tQ <| tG <| sm 2 rfl <| nL <| tRt <| rOk rfl ?_ (po3 rfl rfl rfl)
  refine congrArg iInt ?_
  show _=gS2 g.types t (gS1 g.types t true (z05 l 8 g).1 0 seen) seen
  rw [hv0e,<- hI1]
  (rw [List.drop_eq_nil_of_le (by simpa using hb49)]
   rfl)
theorem z1u (l:List UInt8) (seen ts:List Int) (g:Gn) (hs:InR g.types seen) (hb:g.pos+ts.length<=1000000) (hsl:seen.length<=1000000):SC Tryz.prog 52 [.ptr 2001 0,.sl 2003 (seen.map eInt).length,.pv (ints ts)] (gHs l g seen) (fun _=>False) (.pv (ints (z1i l seen ts g).1)) (gHs l (z1i l seen ts g).2 seen):=by
  refine SC.of Tryz.func52 rfl (lb rfl) fun F ρ w=>?_
  refine Tr.lenOf (t:=2) rfl (fun hl=>?_)
  simp only [List.length_map] at hl
  refine tQ <| tG <| sm 1 rfl <| nL <| tQ <| tG <| sm 1 rfl <| nL <| tQ <| tQ <| Tr.grow (t:=7) (k:=107) ⟨3,1⟩ rfl rfl rfl rfl rfl <| tG ?_
  refine sm 1 rfl <| nL <| tBk <| Tr.sub (Sub.of (fr':=[(8,iInt 0),(7,.sl 107 (([]:List Int).map eInt).length),(0,.ptr 2001 0),(1,.sl 2003 (seen.map eInt).length),(2,.pv (ints ts))]) ⟨rfl,rfl,rfl,rfl,rfl,trivial⟩) <| Tr.heap (σ':=look [(107,some (rowI ([]:List Int))),(2001,some (z3a l g)),(2002,some (rowI g.types)),(2003,some (rowI seen))]) (lkq [107,2001,2002,2003] rfl rfl ⟨rfl,rfl,rfl,rfl,trivial⟩) ?_
  refine Tr.loop (fun fr σ m=>∃ (i:Nat) (acc:List Int) (g1:Gn),(i<=ts.length)/\(acc++(z1i l seen (ts.drop i) g1).1=(z1i l seen ts g).1)/\((z1i l seen (ts.drop i) g1).2=(z1i l seen ts g).2)/\(g1.types=g.types)/\(g1.pos+(ts.length - i)<=1000000)/\(acc.length=i)/\fr=[(8,iInt i),(7,.sl 107 (acc.map eInt).length),(0,.ptr 2001 0),(1,.sl 2003 (seen.map eInt).length),(2,.pv (ints ts))] /\ σ = look [(107,some (rowI acc)),(2001,some (z3a l g1)),(2002,some (rowI g1.types)),(2003,some (rowI seen))]/\m=ts.length - i) (n:=ts.length - 0) ?_ ?_
  ·exact ⟨0,([]:List Int),g,Nat.zero_le _,sI0,rfl,rfl,hb,rfl,rfl,rfl,rfl⟩
  rintro fr σ m ⟨i,acc,g1,hI0,hI1,hI2,hIt,hIb,hIa,rfl,rfl,rfl⟩
  refine tQ <| tQ <| tG <| sm 2 rfl <| cV rfl (oSm uT35 rfl) <| sm 1 rfl <| nL ?_
  refine tC rfl (fun hc12=>?_) fun hc12=>?_
  ·have hlt:i<ts.length:=by simpa using hc12
   have hd:=List.drop_eq_getElem_cons hlt
   have hm:=List.getElem_mem hlt
   have hi:=z06 (f:=eInt) (List.getElem?_eq_getElem hlt)
   generalize ts[i]=x at hd hm hi
   have hal:(acc.map eInt).length=acc.length:=by simp
   refine tSk <| tQ <| tBk <| tG <| sm 5 rfl <| cV rfl (iSq rfl rfl rfl uT35 hi tS3 rfl (by rfl)) <| sm 1 rfl <| cE rfl (ocr (sc_gSome l g1 seen x (by rw [hIt];exact hs) oM0 hsl) ent73 rfl (po3 rfl rfl rfl) rfl (fun k (h:_)=>.inr h) rfl rfl) <| cE rfl (bSl rfl rfl uT35 tZ3 tS3 rfl rfl rfl rfl (fbk rfl) rfl) ?_
   refine cE rfl (aPp rfl rfl rfl rfl (by rfl) ((fun h=>h)) uT35 tB3 dC0 (by (simp [z07];done)) (by (simp [z07,PV.one];rfl)) (by simp [maxLen,z07];omega) (by simp [z07];omega)) ?_
   refine sm 1 rfl <| nL <| tG <| sm 1 rfl <| cV rfl (oB rfl rfl (z03 rfl oM0)) <| sm 1 rfl <| nL ?_
   refine ⟨_,_,?_,Sub.of (fr':=[(8,iInt (i+1)),(7,.sl 107 ((acc++[(zb7 l seen x g1).1]).map eInt).length),(0,.ptr 2001 0),(1,.sl 2003 (seen.map eInt).length),(2,.pv (ints ts))]) ⟨rfl,congrArg (fun z=>some (IV.sl _ z)) (by simp [z07,eInt]),rfl,rfl,rfl,trivial⟩,(i+1),(acc++[(zb7 l seen x g1).1]),(zb7 l seen x g1).2,?_,?_,?_,?_,?_,?_,rfl,(funext (lkq [107,2001,2002,2003] rfl rfl ⟨(congrArg (fun z=>some (HO.row _ z)) (by simp [z07,eInt])),rfl,rfl,rfl,trivial⟩)),rfl⟩
   ·omega
   ·omega
   ·rw [<- hI1,hd];simp [z1i]
   ·rw [<- hI2,hd];rfl
   ·exact hIt
   ·show g1.pos+1+(ts.length - (i+1))<=1000000
    omega
   simp [hIa]
  refine tEx <| tQ <| Tr.freeze (t:=7) (k:=107) rfl rfl sI0 ?_
  have hge:ts.length<=i:=by simpa using hc12
  rw [List.drop_eq_nil_of_le hge] at hI1 hI2
  simp only [z1i,List.append_nil] at hI1 hI2
  subst hI2
  refine tG <| sm 2 rfl <| nL <| tRt <| rOk rfl ?_ (po3 rfl rfl rfl)
  rw [<- hI1]
  rfl
theorem z8r (l:List UInt8) (g:Gn) (hb:g.pos<=999990):SC Tryz.prog 51 [.ptr 2001 0] (gH l g) (fun _=>False) (.pv (ints (z0m l g).1)) (gH l (z0m l g).2):=by
  refine SC.of Tryz.func51 rfl (lb rfl) fun F ρ w=>?_
  have hp3:(z05 l 3 g).1<3:=z1s oM0
  refine tQ <| tG <| sm 1 rfl <| nL <| tQ <| tG <| sm 1 rfl <| nL <| tQ <| tQ <| Tr.grow (t:=3) (k:=103) ⟨3,1⟩ rfl rfl rfl rfl rfl <| tG ?_
  refine sm 1 rfl <| cE rfl (ocr (z2n l 3 g oM0 oM0) y8r rfl (po2 rfl rfl) rfl (fun k (h:_)=>.inr h) rfl rfl) <| sm 1 rfl <| nL <| tBk <| Tr.sub (Sub.of (fr':=[(4,iInt (((z05 l 3 g).1:Nat):Int)),(3,.sl 103 (([]:List Int).map eInt).length),(0,.ptr 2001 0)]) ⟨rfl,rfl,rfl,trivial⟩) <| Tr.heap (σ':=look [(103,some (rowI ([]:List Int))),(2001,some (z3a l (z05 l 3 g).2)),(2002,some (rowI (z05 l 3 g).2.types))]) (lkq [103,2001,2002] rfl rfl ⟨rfl,rfl,rfl,trivial⟩) ?_
  refine Tr.loop (fun fr σ m=>∃ (n:Nat) (acc:List Int) (g1:Gn),(n<=3)/\(acc++(gTyN l n g1).1=(z0m l g).1)/\((gTyN l n g1).2=(z0m l g).2)/\(g1.pos+n<=1000000)/\(acc.length+n<=3)/\fr=[(4,iInt ((n:Nat):Int)),(3,.sl 103 (acc.map eInt).length),(0,.ptr 2001 0)] /\ σ = look [(103,some (rowI acc)),(2001,some (z3a l g1)),(2002,some (rowI g1.types))]/\m=n+1) (n:=(z05 l 3 g).1+1) ?_ ?_
  ·exact ⟨(z05 l 3 g).1,([]:List Int),(z05 l 3 g).2,oM0,(by rw [List.nil_append];rfl),rfl,(by simp only [z05] at hp3 ⊢;omega),(by simp;omega),rfl,rfl,rfl⟩
  rintro fr σ m ⟨n,acc,g1,hI0,hI1,hI2,hIb,hIa,rfl,rfl,rfl⟩
  refine tQ <| tQ <| tG <| sm 2 rfl <| nL ?_
  refine tC rfl (fun hc8=>?_) fun hc8=>?_
  ·have hn0:0<n:=by simpa using hc8
   obtain ⟨m,rfl⟩:∃ m,n=m+1:=⟨n - 1,by omega⟩
   have hp2:(z05 l 2 g1).1<2:=z1s oM0
   have hal:(acc.map eInt).length=acc.length:=by simp
   refine tSk <| tQ <| tBk <| tG <| sm 2 rfl <| cE rfl (ocr (z2n l 2 g1 oM0 oM0) y8r rfl (po2 rfl rfl) rfl (fun k (h:_)=>.inr h) rfl rfl) <| cV rfl (oB rfl rfl (z03 rfl oM0)) <| cE rfl (bSl rfl rfl uT35 tZ3 tS3 rfl rfl rfl rfl (fbk rfl) rfl) ?_
   refine cE rfl (aPp rfl rfl rfl rfl (by rfl) ((fun h=>h)) uT35 tB3 dC0 (by (simp [z07];done)) (by (simp [z07,PV.one];rfl)) (by simp [maxLen,z07];omega) (by simp [z07];omega)) ?_
   refine sm 1 rfl <| nL <| tG <| sm 1 rfl <| cV rfl (oB rfl rfl (z2y rfl oM0)) <| sm 1 rfl <| nL ?_
   refine ⟨_,_,?_,Sub.of (fr':=[(4,iInt ((m:Nat):Int)),(3,.sl 103 ((acc++[1+((z05 l 2 g1).1:Int)]).map eInt).length),(0,.ptr 2001 0)]) ⟨congrArg (fun z=>some (iInt z)) oM0,congrArg (fun z=>some (IV.sl _ z)) (by simp [z07,eInt]),rfl,trivial⟩,m,(acc++[1+((z05 l 2 g1).1:Int)]),(z05 l 2 g1).2,?_,?_,?_,?_,?_,rfl,(funext (lkq [103,2001,2002] rfl rfl ⟨(congrArg (fun z=>some (HO.row _ z)) (by simp [z07,eInt])),rfl,rfl,trivial⟩)),rfl⟩
   ·omega
   ·omega
   ·rw [<- hI1];simp [gTyN]
   ·rw [<- hI2];rfl
   ·show g1.pos+1+m<=1000000
    omega
   simp;omega
  refine tEx <| tQ <| Tr.freeze (t:=3) (k:=103) rfl rfl sI0 ?_
  obtain rfl:n=0:=by simp at hc8;omega
  simp only [gTyN,List.append_nil] at hI1 hI2
  subst hI2
  refine tG <| sm 2 rfl <| nL <| tRt <| rOk rfl ?_ (po2 rfl rfl)
  rw [<- hI1]
  rfl
theorem z2i (l:List UInt8) (ts:List Int) (g:Gn) (hb:g.types.length+ts.length<=1000000):SC Tryz.prog 34 [.ptr 2001 0,.pv (ints ts)] (gH l g) (fun _=>False) (.pv (ints (z0i ts g).1)) (gH l (z0i ts g).2):=by
  refine SC.of Tryz.func34 rfl (lb rfl) fun F ρ w=>?_
  refine Tr.lenOf (t:=1) rfl (fun hl=>?_)
  simp only [List.length_map] at hl
  refine tQ <| tG <| sm 1 rfl <| nL <| tQ <| tG <| sm 1 rfl <| nL <| tQ <| tQ <| Tr.grow (t:=5) (k:=105) ⟨3,1⟩ rfl rfl rfl rfl rfl <| tG ?_
  refine sm 1 rfl <| nL <| tBk <| Tr.sub (Sub.of (fr':=[(6,iInt 0),(5,.sl 105 (([]:List Int).map eInt).length),(0,.ptr 2001 0),(1,.pv (ints ts))]) ⟨rfl,rfl,rfl,rfl,trivial⟩) <| Tr.heap (σ':=look [(105,some (rowI ([]:List Int))),(2001,some (z3a l g)),(2002,some (rowI g.types))]) (lkq [105,2001,2002] rfl rfl ⟨rfl,rfl,rfl,trivial⟩) ?_
  refine Tr.loop (fun fr σ m=>∃ (i:Nat) (acc:List Int) (g1:Gn),(i<=ts.length)/\(acc++(z0i (ts.drop i) g1).1=(z0i ts g).1)/\((z0i (ts.drop i) g1).2=(z0i ts g).2)/\(g1.types.length+(ts.length - i)<=1000000)/\(acc.length=i)/\fr=[(6,iInt i),(5,.sl 105 (acc.map eInt).length),(0,.ptr 2001 0),(1,.pv (ints ts))] /\ σ = look [(105,some (rowI acc)),(2001,some (z3a l g1)),(2002,some (rowI g1.types))]/\m=ts.length - i) (n:=ts.length - 0) ?_ ?_
  ·exact ⟨0,([]:List Int),g,Nat.zero_le _,sI0,rfl,hb,rfl,rfl,rfl,rfl⟩
  rintro fr σ m ⟨i,acc,g1,hI0,hI1,hI2,hIb,hIa,rfl,rfl,rfl⟩
  refine tQ <| tQ <| tG <| sm 2 rfl <| cV rfl (oSm uT35 rfl) <| sm 1 rfl <| nL ?_
  refine tC rfl (fun hc10=>?_) fun hc10=>?_
  ·have hlt:i<ts.length:=by simpa using hc10
   have hd:=List.drop_eq_getElem_cons hlt
   have hm:=List.getElem_mem hlt
   have hi:=z06 (f:=eInt) (List.getElem?_eq_getElem hlt)
   generalize ts[i]=x at hd hm hi
   have hal:(acc.map eInt).length=acc.length:=by simp
   refine tSk <| tQ <| tBk <| tG <| sm 4 rfl <| cV rfl (iSq rfl rfl rfl uT35 hi tS3 rfl (by rfl)) <| sm 1 rfl <| cE rfl (ocr (zd4 l x g1 oM0) ent35 rfl (po2 rfl rfl) rfl (fun k (h:_)=>.inr h) rfl rfl) <| cE rfl (bSl rfl rfl uT35 tZ3 tS3 rfl rfl rfl rfl (fbk rfl) rfl) ?_
   refine cE rfl (aPp rfl rfl rfl rfl (by rfl) ((fun h=>h)) uT35 tB3 dC0 (by (simp [z07];done)) (by (simp [z07,PV.one];rfl)) (by simp [maxLen,z07];omega) (by simp [z07];omega)) ?_
   refine sm 1 rfl <| nL <| tG <| sm 1 rfl <| cV rfl (oB rfl rfl (z03 rfl oM0)) <| sm 1 rfl <| nL ?_
   refine ⟨_,_,?_,Sub.of (fr':=[(6,iInt (i+1)),(5,.sl 105 ((acc++[(z08 x g1).1]).map eInt).length),(0,.ptr 2001 0),(1,.pv (ints ts))]) ⟨rfl,congrArg (fun z=>some (IV.sl _ z)) (by simp [z07,eInt]),rfl,rfl,trivial⟩,(i+1),(acc++[(z08 x g1).1]),(z08 x g1).2,?_,?_,?_,?_,?_,rfl,(funext (lkq [105,2001,2002] rfl rfl ⟨(congrArg (fun z=>some (HO.row _ z)) (by simp [z07,eInt])),rfl,rfl,trivial⟩)),rfl⟩
   ·omega
   ·omega
   ·rw [<- hI1,hd];simp [z0i]
   ·rw [<- hI2,hd];rfl
   ·simp only [z08,List.length_append,List.length_cons,List.length_nil]
    omega
   simp [hIa]
  refine tEx <| tQ <| Tr.freeze (t:=5) (k:=105) rfl rfl sI0 ?_
  have hge:ts.length<=i:=by simpa using hc10
  rw [List.drop_eq_nil_of_le hge] at hI1 hI2
  simp only [z0i,List.append_nil] at hI1 hI2
  subst hI2
  rw [<- hI1]
  refine tG <| sm 2 rfl <| nL <| tRt <| rOk rfl rfl (po2 rfl rfl)
theorem yb4 (l:List UInt8) (ts:List Int) (g:Gn) (hb:g.types.length+ts.length<=1000000):SC Tryz.prog 34 [.ptr 2001 0,.pv (ints ts)] (gH l g) (fun _=>False) (.sl 2005 ((z0i ts g).1.map eInt).length) ((2005,rowI (z0i ts g).1)::gH l (z0i ts g).2):=by
  refine SC.of Tryz.func34 rfl (lb rfl) fun F ρ w=>?_
  refine Tr.lenOf (t:=1) rfl (fun hl=>?_)
  simp only [List.length_map] at hl
  refine tQ <| tG <| sm 1 rfl <| nL <| tQ <| tG <| sm 1 rfl <| nL <| tQ <| tQ <| Tr.grow (t:=5) (k:=2005) ⟨3,1⟩ rfl rfl rfl rfl rfl <| tG ?_
  refine sm 1 rfl <| nL <| tBk <| Tr.sub (Sub.of (fr':=[(6,iInt 0),(5,.sl 2005 (([]:List Int).map eInt).length),(0,.ptr 2001 0),(1,.pv (ints ts))]) ⟨rfl,rfl,rfl,rfl,trivial⟩) <| Tr.heap (σ':=look [(2005,some (rowI ([]:List Int))),(2001,some (z3a l g)),(2002,some (rowI g.types))]) (lkq [2005,2001,2002] rfl rfl ⟨rfl,rfl,rfl,trivial⟩) ?_
  refine Tr.loop (fun fr σ m=>∃ (i:Nat) (acc:List Int) (g1:Gn),(i<=ts.length)/\(acc++(z0i (ts.drop i) g1).1=(z0i ts g).1)/\((z0i (ts.drop i) g1).2=(z0i ts g).2)/\(g1.types.length+(ts.length - i)<=1000000)/\(acc.length=i)/\fr=[(6,iInt i),(5,.sl 2005 (acc.map eInt).length),(0,.ptr 2001 0),(1,.pv (ints ts))] /\ σ = look [(2005,some (rowI acc)),(2001,some (z3a l g1)),(2002,some (rowI g1.types))]/\m=ts.length - i) (n:=ts.length - 0) ?_ ?_
  ·exact ⟨0,([]:List Int),g,Nat.zero_le _,sI0,rfl,hb,rfl,rfl,rfl,rfl⟩
  rintro fr σ m ⟨i,acc,g1,hI0,hI1,hI2,hIb,hIa,rfl,rfl,rfl⟩
  refine tQ <| tQ <| tG <| sm 2 rfl <| cV rfl (oSm uT35 rfl) <| sm 1 rfl <| nL ?_
  refine tC rfl (fun hc10=>?_) fun hc10=>?_
  ·have hlt:i<ts.length:=by simpa using hc10
   have hd:=List.drop_eq_getElem_cons hlt
   have hm:=List.getElem_mem hlt
   have hi:=z06 (f:=eInt) (List.getElem?_eq_getElem hlt)
   generalize ts[i]=x at hd hm hi
   have hal:(acc.map eInt).length=acc.length:=by simp
   refine tSk <| tQ <| tBk <| tG <| sm 4 rfl <| cV rfl (iSq rfl rfl rfl uT35 hi tS3 rfl (by rfl)) <| sm 1 rfl <| cE rfl (ocr (zd4 l x g1 oM0) ent35 rfl (po2 rfl rfl) rfl (fun k (h:_)=>.inr h) rfl rfl) <| cE rfl (bSl rfl rfl uT35 tZ3 tS3 rfl rfl rfl rfl (fbk rfl) rfl) ?_
   refine cE rfl (aPp rfl rfl rfl rfl (by rfl) ((fun h=>h)) uT35 tB3 dC0 (by (simp [z07];done)) (by (simp [z07,PV.one];rfl)) (by simp [maxLen,z07];omega) (by simp [z07];omega)) ?_
   refine sm 1 rfl <| nL <| tG <| sm 1 rfl <| cV rfl (oB rfl rfl (z03 rfl oM0)) <| sm 1 rfl <| nL ?_
   refine ⟨_,_,?_,Sub.of (fr':=[(6,iInt (i+1)),(5,.sl 2005 ((acc++[(z08 x g1).1]).map eInt).length),(0,.ptr 2001 0),(1,.pv (ints ts))]) ⟨rfl,congrArg (fun z=>some (IV.sl _ z)) (by simp [z07,eInt]),rfl,rfl,trivial⟩,(i+1),(acc++[(z08 x g1).1]),(z08 x g1).2,?_,?_,?_,?_,?_,rfl,(funext (lkq [2005,2001,2002] rfl rfl ⟨(congrArg (fun z=>some (HO.row _ z)) (by simp [z07,eInt])),rfl,rfl,trivial⟩)),rfl⟩
   ·omega
   ·omega
   ·rw [<- hI1,hd];simp [z0i]
   ·rw [<- hI2,hd];rfl
   ·simp only [z08,List.length_append,List.length_cons,List.length_nil]
    omega
   simp [hIa]
  refine tEx <| tQ ?_
  have hge:ts.length<=i:=by simpa using hc10
  rw [List.drop_eq_nil_of_le hge] at hI1 hI2
  simp only [z0i,List.append_nil] at hI1 hI2
  subst hI2
  rw [<- hI1]
  refine tG <| sm 2 rfl <| nL <| tRt <| rOk rfl rfl (po3 rfl rfl rfl)
set_option maxRecDepth 20000
theorem y76 (l:List UInt8) (seen:List Int) (g:Gn) (hs:InR g.types seen) (hb:g.pos<=999980) (hbt:g.types.length<=999990) (hsl:seen.length<=1000000):SC Tryz.prog 50 [.ptr 2001 0,.sl 2003 (seen.map eInt).length] (gHs l g seen) (fun _=>False) (.pv (ndv (z1n l seen g).1)) (gHs l (z1n l seen g).2 seen):=by
  refine SC.sameR (SC.vc tb {} [] Tryz.func50 rfl rfl ?_) fun k _ h=>h.elim
  have h0:=z2n l 12 g oM0 oM0
  have h12:(z05 l 12 g).1<12:=z1s oM0
  have hp:(z05 l 12 g).2.pos=g.pos+1:=by simp only [z05]
  have hs1:InR (z05 l 12 g).2.types seen:=by simp only [z05];exact hs
  have ht:(z05 l 12 g).2.types.length=g.types.length:=by simp only [z05]
  unfold z1n
  generalize z05 l 12 g=A at h0 h12 hp hs1 ht ⊢
  obtain ⟨k,g1⟩:=A
  dsimp only at h0 h12 hp hs1 ht ⊢
  have hN:(gNums.map eInt)[(z05 l 6 g1).1]? = some [vInt (gNums.getD (z05 l 6 g1).1 0)]:=y97 (z1s oM0)
  have hO:(y39.map eInt)[(z05 l 4 g1).1]? = some [vInt (y39.getD (z05 l 4 g1).1 0)]:=y97 (z1s oM0)
  have hp11:(z05 l 11 g1).1<11:=z1s oM0
  have hp6:(z05 l 6 g1).1<6:=z1s oM0
  have hk:k=0∨k=1∨k=2∨k=3∨k=4∨k=5∨k=6∨k=7∨k=8∨k=9∨k=10∨k=11:=by omega
  rcases hk with rfl | rfl | rfl | rfl | rfl | rfl | rfl | rfl | rfl | rfl | rfl | rfl
  · exact ⟨[],h0,sR,⟨rfl,rfl,trivial⟩,rfl,[],z2n l 6 g1 oM0 oM0,sR,⟨rfl,rfl,trivial⟩,rfl,hN,rfl,[],z2i l [1] (z05 l 6 g1).2 (by simp [z05,z1h];omega),sR,⟨rfl,rfl,trivial⟩,rfl,sP (z13 _),rfl,rfl,rfl,trivial⟩
  · exact ⟨[],h0,sR,⟨rfl,rfl,trivial⟩,rfl,[],z2n l 2 g1 oM0 oM0,sR,⟨rfl,rfl,trivial⟩,rfl,[],z2i l [2] (z05 l 2 g1).2 (by simp [z05,z1h];omega),sR,⟨rfl,rfl,trivial⟩,rfl,sP (z13 _),rfl,rfl,rfl,trivial⟩
  · exact ⟨[],h0,sR,⟨rfl,rfl,trivial⟩,rfl,[],z2n l 4 g1 oM0 oM0,sR,⟨rfl,rfl,trivial⟩,rfl,hO,rfl,[],z1u l seen [1] (z05 l 4 g1).2 hs1 (by simp [z05];omega) hsl,sR,⟨rfl,rfl,rfl,trivial⟩,rfl,[],z2i l [1] (z1i l seen [1] (z05 l 4 g1).2).2 (by simp [z05,z1h];omega),sR,⟨rfl,rfl,trivial⟩,rfl,sP (z13 _),rfl,rfl,rfl,trivial⟩
  · exact ⟨[],h0,sR,⟨rfl,rfl,trivial⟩,rfl,[],z1u l seen [2] g1 hs1 (by simp [z05];omega) hsl,sR,⟨rfl,rfl,rfl,trivial⟩,rfl,[],z2i l [2] (z1i l seen [2] g1).2 (by simp [z05,z1h];omega),sR,⟨rfl,rfl,trivial⟩,rfl,sP (z13 _),rfl,rfl,rfl,trivial⟩
  · exact ⟨[],h0,sR,⟨rfl,rfl,trivial⟩,rfl,[],z2n l 11 g1 oM0 oM0,sR,⟨rfl,rfl,trivial⟩,rfl,z03 rfl oM0,[],z1u l seen [1,1] (z05 l 11 g1).2 hs1 (by simp [z05];omega) hsl,sR,⟨rfl,rfl,rfl,trivial⟩,rfl,[],z2i l [1] (z1i l seen [1,1] (z05 l 11 g1).2).2 (by simp [z05,z1h];omega),sR,⟨rfl,rfl,trivial⟩,rfl,sP (z13 _),rfl,rfl,rfl,trivial⟩
  · exact ⟨[],h0,sR,⟨rfl,rfl,trivial⟩,rfl,[],z2n l 11 g1 oM0 oM0,sR,⟨rfl,rfl,trivial⟩,rfl,z03 rfl oM0,[],z1u l seen [1,1] (z05 l 11 g1).2 hs1 (by simp [z05];omega) hsl,sR,⟨rfl,rfl,rfl,trivial⟩,rfl,[],z2i l [1] (z1i l seen [1,1] (z05 l 11 g1).2).2 (by simp [z05,z1h];omega),sR,⟨rfl,rfl,trivial⟩,rfl,sP (z13 _),rfl,rfl,rfl,trivial⟩
  · exact ⟨[],h0,sR,⟨rfl,rfl,trivial⟩,rfl,[],z2n l 11 g1 oM0 oM0,sR,⟨rfl,rfl,trivial⟩,rfl,z03 rfl oM0,[],z1u l seen [1,1] (z05 l 11 g1).2 hs1 (by simp [z05];omega) hsl,sR,⟨rfl,rfl,rfl,trivial⟩,rfl,[],z2i l [1] (z1i l seen [1,1] (z05 l 11 g1).2).2 (by simp [z05,z1h];omega),sR,⟨rfl,rfl,trivial⟩,rfl,sP (z13 _),rfl,rfl,rfl,trivial⟩
  · exact ⟨[],h0,sR,⟨rfl,rfl,trivial⟩,rfl,[],z2n l 6 g1 oM0 oM0,sR,⟨rfl,rfl,trivial⟩,rfl,z03 rfl oM0,[],z1u l seen [1,1] (z05 l 6 g1).2 hs1 (by simp [z05];omega) hsl,sR,⟨rfl,rfl,rfl,trivial⟩,rfl,[],z2i l [2] (z1i l seen [1,1] (z05 l 6 g1).2).2 (by simp [z05,z1h];omega),sR,⟨rfl,rfl,trivial⟩,rfl,sP (z13 _),rfl,rfl,rfl,trivial⟩
  · exact ⟨[],h0,sR,⟨rfl,rfl,trivial⟩,rfl,[],z2n l 6 g1 oM0 oM0,sR,⟨rfl,rfl,trivial⟩,rfl,z03 rfl oM0,[],z1u l seen [1,1] (z05 l 6 g1).2 hs1 (by simp [z05];omega) hsl,sR,⟨rfl,rfl,rfl,trivial⟩,rfl,[],z2i l [2] (z1i l seen [1,1] (z05 l 6 g1).2).2 (by simp [z05,z1h];omega),sR,⟨rfl,rfl,trivial⟩,rfl,sP (z13 _),rfl,rfl,rfl,trivial⟩
  · exact ⟨[],h0,sR,⟨rfl,rfl,trivial⟩,rfl,[],z1u l seen [1] g1 hs1 (by simp [z05];omega) hsl,sR,⟨rfl,rfl,rfl,trivial⟩,rfl,[],z2i l [1] (z1i l seen [1] g1).2 (by simp [z05,z1h];omega),sR,⟨rfl,rfl,trivial⟩,rfl,sP (z13 _),rfl,rfl,rfl,trivial⟩
  · exact ⟨[],h0,sR,⟨rfl,rfl,trivial⟩,rfl,[],z1u l seen [1,1] g1 hs1 (by simp [z05];omega) hsl,sR,⟨rfl,rfl,rfl,trivial⟩,rfl,sP (z13 _),rfl,rfl,rfl,trivial⟩
  · have h4:=z2n l 4 g1 oM0 oM0
    have hl4:(z05 l 4 g1).1<4:=z1s oM0
    have hp4:(z05 l 4 g1).2.pos=g1.pos+1:=by simp only [z05]
    have hs4:InR (z05 l 4 g1).2.types seen:=by simp only [z05];exact hs1
    have ht4:(z05 l 4 g1).2.types.length=g1.types.length:=by simp only [z05]
    generalize z05 l 4 g1=A at h4 hl4 hp4 hs4 ht4 ⊢
    obtain ⟨j,g2⟩:=A
    dsimp only at h4 hl4 hp4 hs4 ht4 ⊢
    have hj:j=0∨j=1∨j=2∨j=3:=by omega
    rcases hj with rfl | rfl | rfl | rfl
    · exact ⟨[],h0,sR,⟨rfl,rfl,trivial⟩,rfl,[],h4,sR,⟨rfl,rfl,trivial⟩,rfl,[],z1u l seen [1,2] g2 hs4 (by simp [z05];omega) hsl,sR,⟨rfl,rfl,rfl,trivial⟩,rfl,[],z2i l [1] (z1i l seen [1,2] g2).2 (by simp [z05,z1h];omega),sR,⟨rfl,rfl,trivial⟩,rfl,sP (z13 _),rfl,rfl,rfl,trivial⟩
    · exact ⟨[],h0,sR,⟨rfl,rfl,trivial⟩,rfl,[],h4,sR,⟨rfl,rfl,trivial⟩,rfl,[],z2i l [1] g2 (by simp [z05,z1h];omega),sR,⟨rfl,rfl,trivial⟩,rfl,sP (z13 _),rfl,rfl,rfl,trivial⟩
    · exact ⟨[],h0,sR,⟨rfl,rfl,trivial⟩,rfl,[],h4,sR,⟨rfl,rfl,trivial⟩,rfl,[],z1u l seen [1] g2 hs4 (by simp [z05];omega) hsl,sR,⟨rfl,rfl,rfl,trivial⟩,rfl,sP (z13 _),rfl,rfl,rfl,trivial⟩
    · exact ⟨[],h0,sR,⟨rfl,rfl,trivial⟩,rfl,[],h4,sR,⟨rfl,rfl,trivial⟩,rfl,[],z1u l seen [1] g2 hs4 (by simp [z05];omega) hsl,sR,⟨rfl,rfl,rfl,trivial⟩,rfl,sP (z13 _),rfl,rfl,rfl,trivial⟩
set_option maxRecDepth 20000
set_option maxHeartbeats 2000000
theorem sc_gEnd (l:List UInt8) (seen:List Int) (p:Plc) (g:Gn) (hs:InR g.types seen) (hb:g.pos<=999980) (hsl:seen.length<=1000000) (hp1:p.Yield.length<=2) (hp2:p.Next.length<=2) (hp3:p.Left.length<=2):SC Tryz.prog 54 [.ptr 2001 0,.sl 2003 (seen.map eInt).length,.pv (plcv p)] (gHs l g seen) (fun _=>False) (.pv (ndv (gEnd l seen p g).1)) (gHs l (gEnd l seen p g).2 seen):=by
  refine SC.sameR (SC.vc tb {} [] Tryz.func54 rfl rfl ?_) fun k _ h=>h.elim
  have h0:=z2n l 6 g oM0 oM0
  have h6:(z05 l 6 g).1<6:=z1s oM0
  have hp:(z05 l 6 g).2.pos=g.pos+1:=by simp only [z05]
  have hs1:InR (z05 l 6 g).2.types seen:=by simp only [z05];exact hs
  unfold gEnd
  generalize z05 l 6 g=A at h0 h6 hp hs1 ⊢
  obtain ⟨k,g1⟩:=A
  obtain ⟨b1,b2,Y,N,L⟩:=p
  dsimp only at h0 h6 hp hs1 hp1 hp2 hp3 ⊢
  rcases (show k=0∨k=1∨k=2∨k=3∨k=4∨k=5 by omega) with rfl | rfl | rfl | rfl | rfl | rfl<;>cases b1<;>cases b2<;>first
    | exact ⟨[],h0,sR,⟨rfl,rfl,trivial⟩,rfl,[],z1u l seen Y g1 hs1 oM0 hsl,sR,⟨rfl,rfl,rfl,trivial⟩,rfl,sP (z13 _),rfl,rfl,rfl,trivial⟩
    | exact ⟨[],h0,sR,⟨rfl,rfl,trivial⟩,rfl,[],z1u l seen N g1 hs1 oM0 hsl,sR,⟨rfl,rfl,rfl,trivial⟩,rfl,sP (z13 _),rfl,rfl,rfl,trivial⟩
    | exact ⟨[],h0,sR,⟨rfl,rfl,trivial⟩,rfl,rfl,[],z1u l seen N g1 hs1 oM0 hsl,sR,⟨rfl,rfl,rfl,trivial⟩,rfl,sP (z13 _),rfl,rfl,rfl,trivial⟩
    | exact ⟨[],h0,sR,⟨rfl,rfl,trivial⟩,rfl,[],z1u l seen L g1 hs1 oM0 hsl,sR,⟨rfl,rfl,rfl,trivial⟩,rfl,sP (z13 _),rfl,rfl,rfl,trivial⟩
    | exact ⟨[],h0,sR,⟨rfl,rfl,trivial⟩,rfl,rfl,[],z1u l seen L g1 hs1 oM0 hsl,sR,⟨rfl,rfl,rfl,trivial⟩,rfl,sP (z13 _),rfl,rfl,rfl,trivial⟩
    | exact ⟨[],h0,sR,⟨rfl,rfl,trivial⟩,rfl,[],z1u l seen [1] g1 hs1 (by simp only [List.length_cons,List.length_nil];omega) hsl,sR,⟨rfl,rfl,rfl,trivial⟩,rfl,sP (z13 _),rfl,rfl,rfl,trivial⟩
    | exact ⟨[],h0,sR,⟨rfl,rfl,trivial⟩,rfl,rfl,[],z1u l seen [1] g1 hs1 (by simp only [List.length_cons,List.length_nil];omega) hsl,sR,⟨rfl,rfl,rfl,trivial⟩,rfl,sP (z13 _),rfl,rfl,rfl,trivial⟩
def qS (l:List UInt8) (all:List Int) (g1:Gn) (m1:Nat):Nd × Gn:=z1n l all { g1 with left:=m1 }
def qK (l:List UInt8) (all:List Int) (g1:Gn) (m1:Nat):Nat × Gn:=z05 l 6 (qS l all g1 m1).2
def qT (l:List UInt8) (all:List Int) (g1:Gn) (m1:Nat):List Int × Gn:=z0m l (qK l all g1 m1).2
def qC (l:List UInt8) (all:List Int) (g1:Gn) (m1:Nat):List Int × Gn:=z1i l all [2] (qT l all g1 m1).2
def qP (l:List UInt8) (all:List Int) (g1:Gn) (m1:Nat) (p:Plc):Plc:=⟨true,p.Loop,(qT l all g1 m1).1,p.Next,p.Left⟩
def qA (l:List UInt8) (m:Nat) (all:List Int) (p:Plc) (g1:Gn) (m1:Nat):List Nd × Gn:=z2w l m all (qP l all g1 m1 p) (qC l all g1 m1).2
def qB (l:List UInt8) (m:Nat) (all:List Int) (p:Plc) (g1:Gn) (m1:Nat):List Nd × Gn:=z2w l m all (qP l all g1 m1 p) (qA l m all p g1 m1).2
def qO (l:List UInt8) (all:List Int) (g1:Gn) (m1:Nat):List Int × Gn:=z0m l (qT l all g1 m1).2
def qE (l:List UInt8) (all:List Int) (g1:Gn) (m1:Nat):List Int × Gn:=z1i l all (qT l all g1 m1).1 (qO l all g1 m1).2
def qQ (l:List UInt8) (all:List Int) (g1:Gn) (m1:Nat):List Int × Gn:=z0i (qT l all g1 m1).1 (qE l all g1 m1).2
def qL (l:List UInt8) (all:List Int) (g1:Gn) (m1:Nat):Plc:=⟨false,true,[],(qT l all g1 m1).1,(qO l all g1 m1).1⟩
def qD (l:List UInt8) (m:Nat) (all:List Int) (g1:Gn) (m1:Nat):List Nd × Gn:=z2w l m (all++(qQ l all g1 m1).1) (qL l all g1 m1) (qQ l all g1 m1).2
def gHr (k:Nat) (l:List UInt8) (g:Gn) (seen:List Int):List (Nat × HO):=[(2001,z3a l g),(2002,rowI g.types),(k,rowI seen)]
theorem zr7 (l:List UInt8) (seen ts:List Int) (g:Gn) (hs:InR g.types seen) (hb:g.pos+ts.length<=1000000) (hsl:seen.length<=1000000):SC Tryz.prog 52 [.ptr 2001 0,.sl 2010 (seen.map eInt).length,.pv (ints ts)] (gHr 2010 l g seen) (fun _=>False) (.pv (ints (z1i l seen ts g).1)) (gHr 2010 l (z1i l seen ts g).2 seen):=SC.sw 2003 2010 (z1u l seen ts g hs hb hsl)
theorem y48 (l:List UInt8) (seen:List Int) (g:Gn) (hs:InR g.types seen) (hb:g.pos<=999980) (hbt:g.types.length<=999990) (hsl:seen.length<=1000000):SC Tryz.prog 50 [.ptr 2001 0,.sl 2010 (seen.map eInt).length] (gHr 2010 l g seen) (fun _=>False) (.pv (ndv (z1n l seen g).1)) (gHr 2010 l (z1n l seen g).2 seen):=SC.sw 2003 2010 (y76 l seen g hs hb hbt hsl)
theorem y5x (l:List UInt8) (seen:List Int) (p:Plc) (g:Gn) (hs:InR g.types seen) (hb:g.pos<=999980) (hsl:seen.length<=1000000) (hp:p.small):SC Tryz.prog 54 [.ptr 2001 0,.sl 2010 (seen.map eInt).length,.pv (plcv p)] (gHr 2010 l g seen) (fun _=>False) (.pv (ndv (gEnd l seen p g).1)) (gHr 2010 l (gEnd l seen p g).2 seen):=SC.sw 2003 2010 (sc_gEnd l seen p g hs hb hsl hp.1 hp.2.1 hp.2.2)
def LSCg (l:List UInt8) (d:Nat):Prop:=∀ (seen:List Int) (p:Plc) (g:Gn),InR g.types seen->p.small->g.pos+60*g.left<=900000->g.types.length+10*g.left<=900000->seen.length+10*g.left<=900000 ->
  SC Tryz.prog 36 [.ptr 2001 0,.sl 2003 (seen.map eInt).length,.pv (plcv p),iInt (d:Int)] (gHs l g seen) (fun _=>False) (.pv (z0j (z2w l d seen p g).1)) (gHs l (z2w l d seen p g).2 seen)
theorem LSCg.at2010 {l:List UInt8} {d:Nat} (h:LSCg l d) (seen:List Int) (p:Plc) (g:Gn) (h1:InR g.types seen) (h2:p.small) (h3:g.pos+60*g.left<=900000) (h4:g.types.length+10*g.left<=900000) (h5:seen.length+10*g.left<=900000) :
    SC Tryz.prog 36 [.ptr 2001 0,.sl 2010 (seen.map eInt).length,.pv (plcv p),iInt (d:Int)] (gHr 2010 l g seen) (fun _=>False) (.pv (z0j (z2w l d seen p g).1)) (gHr 2010 l (z2w l d seen p g).2 seen):=SC.sw 2003 2010 (h seen p g h1 h2 h3 h4 h5)
theorem LSCg.at2019 {l:List UInt8} {d:Nat} (h:LSCg l d) (seen:List Int) (p:Plc) (g:Gn) (h1:InR g.types seen) (h2:p.small) (h3:g.pos+60*g.left<=900000) (h4:g.types.length+10*g.left<=900000) (h5:seen.length+10*g.left<=900000) :
    SC Tryz.prog 36 [.ptr 2001 0,.sl 2019 (seen.map eInt).length,.pv (plcv p),iInt (d:Int)] (gHr 2019 l g seen) (fun _=>False) (.pv (z0j (z2w l d seen p g).1)) (gHr 2019 l (z2w l d seen p g).2 seen):=SC.sw 2003 2019 (h seen p g h1 h2 h3 h4 h5)
theorem y23 (l:List UInt8) (d:Nat) (hd3:d<=100) (ih:∀ m,d=m+1->LSCg l m) (seen:List Int) (p:Plc) (g:Gn) (hs:InR g.types seen) (hp:p.small) (hb1:g.pos+60*g.left<=900000) (hb2:g.types.length+10*g.left<=900000) (hb3:seen.length+10*g.left<=900000):SC Tryz.prog 36 [.ptr 2001 0,.sl 2003 (seen.map eInt).length,.pv (plcv p),iInt (d:Int)] (gHs l g seen) (fun _=>False) (.pv (z0j (z2w l d seen p g).1)) (gHs l (z2w l d seen p g).2 seen):=by
  refine SC.of Tryz.func36 rfl (lb rfl) fun F ρ w=>?_
  have h6:(z05 l 6 g).1<6:=z1s oM0
  have hsl0:(seen.map eInt).length=seen.length:=by simp
  refine tQ <| tG <| cE rfl (z2r rfl rfl) <| sm 1 rfl <| nL <| tQ <| tG <| sm 1 rfl <| nL <| tQ <| tG <| sm 1 rfl ?_
  refine nL <| tQ <| Tr.grow (t:=10) (k:=2010) ⟨3,1⟩ rfl rfl rfl rfl rfl <| tG <| sm 2 rfl ?_
  refine cE rfl (z5h rfl rfl rfl rfl rfl rfl rfl sI0 uT35 tB3 dC0 z5c z5f (by simp [maxLen];omega) (by simp;omega)) ?_
  refine sm 1 rfl <| nL <| tQ <| tQ <| Tr.grow (t:=9) (k:=109) ⟨42,8⟩ rfl rfl rfl rfl rfl <| tG <| sm 1 rfl <| cE rfl (ocr (z2n l 6 g oM0 oM0) y8r rfl (po2 rfl rfl) rfl (fun k (h:_)=>.inr h) rfl rfl) <| sm 1 rfl <| nL <| tBk <| Tr.sub (Sub.of (fr':=[(11,iInt (((z05 l 6 g).1:Nat):Int)),(10,.sl 2010 (seen.map eInt).length),(9,.sl 109 (([]:List Nd).map Nd.enc).length),(6,.pv (.ept [vBool p.If,vBool p.Loop,ints p.Yield,ints p.Next,ints p.Left] 0)),(0,.ptr 2001 0),(3,iInt (d:Int))]) ⟨rfl,congrArg (fun z=>some (IV.sl _ z)) sI0,rfl,rfl,rfl,rfl,trivial⟩) ?_
  refine Tr.heap (σ':=look [(109,some (.row ⟨42,8⟩ (([]:List Nd).map Nd.enc))),(2010,some (rowI seen)),(2001,some (z3a l (z05 l 6 g).2)),(2002,some (rowI (z05 l 6 g).2.types)),(2003,some (rowI seen))]) (lkq [109,2010,2001,2002,2003] rfl rfl ⟨rfl,(congrArg (fun z=>some (HO.row _ z)) sI0),rfl,rfl,rfl,trivial⟩) ?_
  refine Tr.loop (fun fr σ m=>∃ (n:Nat) (out:List Nd) (all:List Int) (g1:Gn),(z39 l (gRec l d) p n out all g1=z2w l d seen p g)/\(InR g1.types all)/\(g1.pos+60*g1.left<=900001)/\(g1.types.length+10*g1.left<=900000)/\(all.length+10*g1.left<=900000)/\(out.length+n<=5)/\fr=[(11,iInt ((n:Nat):Int)),(10,.sl 2010 (all.map eInt).length),(9,.sl 109 (out.map Nd.enc).length),(6,.pv (.ept [vBool p.If,vBool p.Loop,ints p.Yield,ints p.Next,ints p.Left] 0)),(0,.ptr 2001 0),(3,iInt (d:Int))] /\ σ = look [(109,some (.row ⟨42,8⟩ (out.map Nd.enc))),(2010,some (rowI all)),(2001,some (z3a l g1)),(2002,some (rowI g1.types)),(2003,some (rowI seen))]/\m=n+1) (n:=(z05 l 6 g).1+1) ?_ ?_
  ·exact ⟨(z05 l 6 g).1,([]:List Nd),seen,(z05 l 6 g).2,(z75 l d seen p g).symm,hs,(by simp only [z05];omega),hb2,hb3,(by simp;omega),rfl,rfl,rfl⟩
  rintro fr σ m ⟨n,out,all,g1,hI,hIn,hIp,hIt,hIa,hIo,rfl,rfl,rfl⟩
  refine tQ <| tQ <| tG <| sm 3 rfl ?_
  refine wS 27 rfl (fun hb27=>?_) fun hb27=>?_
  ·refine sm 1 rfl <| yV rfl rfl (nCk rfl rfl rfl) <| sm 4 rfl <| nL ?_
   refine tC rfl (fun hc33=>?_) fun hc33=>?_
   ·refine tSk <| tQ <| tBk <| tQ ?_
    have hn0:0<n:=by simpa using hb27
    obtain ⟨n1,rfl⟩:∃ n1,n=n1+1:=⟨n - 1,by omega⟩
    have hl0:0<g1.left:=by simpa using hc33
    have hleft:¬ g1.left=0:=by omega
    obtain ⟨m1,hm1⟩:∃ m1,g1.left=m1+1:=⟨g1.left - 1,by omega⟩
    have hXb:=bd_any l (y94 l d) all p hp g1 hl0
    have hXo:=y55 l (rec:=gRec l d) all p g1
    have hXl:(gAny l (gRec l d) all p g1).2.left+1<=g1.left:=any_left l (y94 l d) all p hp g1 hl0
    refine tG <| sm 2 rfl <| cV rfl (nCk rfl rfl rfl) <| sm 2 rfl <| cV rfl (oB rfl rfl (z2y rfl oM0)) <| cV rfl (nCk rfl rfl rfl) <| sm 1 rfl <| c0 (sBx rfl rfl rfl rfl ((fun h=>h)) tS3 (rfl) (lb rfl)) <| nL <| tQ <| Tr.heap (σ':=look [(109,some (.row ⟨42,8⟩ (out.map Nd.enc))),(2010,some (rowI all)),(2001,some (z3a l { g1 with left:=m1 })),(2002,some (rowI { g1 with left:=m1 }.types)),(2003,some (rowI seen))]) (lkq [2001,109,2010,2002,2003] rfl rfl ⟨(by exact congrArg (fun z=>some (HO.box [.pv (bts l),iInt (g1.pos:Int),.sl 2002 (g1.types.map eInt).length,iInt z])) (by show (g1.left:Int) - 1=(m1:Int);omega)),rfl,rfl,rfl,rfl,trivial⟩) <| tG ?_
    refine sm 2 rfl <| cE rfl (ocr (y48 l all { g1 with left:=m1 } hIn (by show g1.pos<=999980;omega) (by show g1.types.length<=999990;omega) oM0) ent50 rfl (po3 rfl rfl rfl) rfl (fun k (h:_)=>.inr h) rfl rfl) <| cE rfl (aLc (k:=112) rfl tZ42 rfl rfl rfl rfl) <| c0 (sBA rfl rfl rfl rfl rfl ((fun h=>h)) tS42 (flk rfl) (lb rfl)) <| nL <| tQ ?_
    have e2:({ g1 with left:=g1.left - 1 }:Gn)={ g1 with left:=m1 }:=by rw [hm1];rfl
    have hSb:Bd 4 1 { g1 with left:=m1 } (qS l all g1 m1).2:=zm5 l all { g1 with left:=m1 }
    have hS1:=hSb.ps
    have hS2:=hSb.t1
    have hS3:=hSb.t2
    have hS4:=hSb.lf
    have hKb:Bd 1 0 (qS l all g1 m1).2 (qK l all g1 m1).2:=z81 l 6 (qS l all g1 m1).2
    have hK1:=hKb.ps
    have hK2:=hKb.t1
    have hK3:=hKb.t2
    have hK4:=hKb.lf
    dsimp only at hS1 hS2 hS3 hS4
    refine tG <| sm 1 rfl <| cE rfl (ocr (z2n l 6 (qS l all g1 m1).2 oM0 oM0) y8r rfl (po2 rfl rfl) rfl (fun k (h:_)=>.inr h) rfl rfl) <| sm 1 rfl <| nL <| tQ ?_
    refine Tr.cut (fr':=[(12,.ptr 112 0),(11,iInt ((n1+1:Nat):Int)),(10,.sl 2010 (all.map eInt).length),(9,.sl 109 (out.map Nd.enc).length),(6,.pv (.ept [vBool p.If,vBool p.Loop,ints p.Yield,ints p.Next,ints p.Left] 0)),(0,.ptr 2001 0),(3,iInt (d:Int))]) (σ':=look [(112,some (.box [.pv (vInt (gAny l (gRec l d) all p g1).1.kind),.pv (vInt (gAny l (gRec l d) all p g1).1.op),.pv (vInt (gAny l (gRec l d) all p g1).1.n),.pv (vStr (gAny l (gRec l d) all p g1).1.name),.pv (ints (gAny l (gRec l d) all p g1).1.args),.pv (ints (gAny l (gRec l d) all p g1).1.outs),.pv (ints (gAny l (gRec l d) all p g1).1.params),.pv (kids (gAny l (gRec l d) all p g1).1.kids)])),(109,some (.row ⟨42,8⟩ (out.map Nd.enc))),(2010,some (rowI all)),(2001,some (z3a l (gAny l (gRec l d) all p g1).2)),(2002,some (rowI (gAny l (gRec l d) all p g1).2.types)),(2003,some (rowI seen))]) ?_ ?_
    ·refine tBk <| tQ <| tG <| sm 3 rfl ?_
     refine wS 52 rfl (fun hb52=>?_) fun hb52=>?_
     ·refine sm 4 rfl <| nL ?_
      refine tC rfl (fun hc49=>?_) fun hc49=>?_
      ·have hk0:(z05 l 6 (qS l all g1 m1).2).1=0:=by simp at hb52;omega
       obtain ⟨m,rfl⟩:∃ m,d=m+1:=⟨d - 1,by simp at hc49;omega⟩
       obtain ⟨hTb,hTl⟩:Bd 3 0 (qK l all g1 m1).2 (qT l all g1 m1).2/\(qT l all g1 m1).1.length<=2:=z3j l (qK l all g1 m1).2
       have hT1:=hTb.ps
       have hT2:=hTb.t1
       have hT3:=hTb.t2
       have hT4:=hTb.lf
       have hXP:Plc.small (qP l all g1 m1 p):=⟨hTl,hp.2.1,hp.2.2⟩
       have hCb:Bd 1 0 (qT l all g1 m1).2 (qC l all g1 m1).2:=ze6 l all [2] (qT l all g1 m1).2
       have hC1:=hCb.ps
       have hC2:=hCb.t1
       have hC3:=hCb.t2
       have hC4:=hCb.lf
       have hAb:Bd 4 0 (qC l all g1 m1).2 (qA l m all p g1 m1).2:=z74 l m all (qP l all g1 m1 p) (qC l all g1 m1).2 hXP
       have hA1:=hAb.ps
       have hA2:=hAb.t1
       have hA3:=hAb.t2
       have hA4:=hAb.lf
       have hBb:Bd 4 0 (qA l m all p g1 m1).2 (qB l m all p g1 m1).2:=z74 l m all (qP l all g1 m1 p) (qA l m all p g1 m1).2 hXP
       have hB1:=hBb.ps
       have hB2:=hBb.t1
       have hB3:=hBb.t2
       have hB4:=hBb.lf
       refine tQ <| tG <| sm 1 rfl <| cE rfl (ocr (z8r l (qK l all g1 m1).2 oM0) y8s rfl (po2 rfl rfl) rfl (fun k (h:_)=>.inr h) rfl rfl) <| sm 1 rfl <| nL <| tQ <| tG <| sm 7 rfl <| cV rfl (bPu rfl rfl tZ74 tP74 rfl (fbk rfl) rfl) <| cE rfl (aLc (k:=115) rfl tZ74 rfl rfl rfl rfl) <| c0 (sBA rfl rfl rfl rfl rfl ((fun h=>h)) tS74 (flk rfl) (lb rfl)) ?_
       refine nL <| tQ <| Tr.freezeBox (t:=15) (k:=115) rfl rfl rfl <| tG <| sm 2 rfl <| cE rfl (bSl rfl rfl uT35 tZ3 tS3 rfl rfl rfl rfl (fbk rfl) rfl) ?_
       refine cE rfl (ocr (zr7 l all [2] (qT l all g1 m1).2 (hIn.mono oM0) (by simp only [List.length_cons,List.length_nil];omega) oM0) ent52 rfl (po3 rfl rfl rfl) rfl (fun k (h:_)=>.inr h) rfl rfl) ?_
       refine cV rfl (bPu rfl rfl tZ42 tP42 rfl (fbk rfl) rfl) <| c0 (sBA rfl rfl rfl rfl rfl ((fun h=>h)) tS42 (flk rfl) (lb rfl)) <| nL <| tQ <| Tr.fixNil (k:=112) rfl (fun h=>h) <| tG <| sm 2 rfl <| cV rfl (lEA rfl rfl Tryz.underlying74 rfl tS74 (lb rfl)) <| sm 1 rfl <| cV rfl (oB rfl rfl (z2y rfl oM0)) <| cE rfl (cRr ((ih m rfl).at2010 all (qP l all g1 m1 p) (qC l all g1 m1).2 (hIn.mono oM0) hXP oM0 oM0 oM0) y8q rfl rfl (sSm rfl (sSm rfl (sSm rfl (sSm (congrArg (fun z=>iInt z) oM0) Subs.nil)))) (po3 rfl rfl rfl) (by rfl) (fun k (h:_)=>.inr h) rfl (by rfl)) <| sm 1 rfl ?_
       refine nL <| tQ <| tG <| sm 3 rfl <| cV rfl (lEA rfl rfl Tryz.underlying74 rfl tS74 (lb rfl)) <| sm 1 rfl <| cV rfl (oB rfl rfl (z2y rfl oM0)) <| cE rfl (cRr ((ih m rfl).at2010 all (qP l all g1 m1 p) (qA l m all p g1 m1).2 (hIn.mono oM0) hXP oM0 oM0 oM0) y8q rfl rfl (sSm rfl (sSm rfl (sSm rfl (sSm (congrArg (fun z=>iInt z) oM0) Subs.nil)))) (po3 rfl rfl rfl) (by rfl) (fun k (h:_)=>.inr h) rfl (by rfl)) <| cE rfl (bSl rfl rfl uT40 tZ43 tS43 rfl rfl rfl rfl (fbk rfl) rfl) <| sm 1 rfl <| c0 (sBx rfl rfl rfl rfl ((fun h=>h)) tS40 (rfl) (lb rfl)) <| nL ?_
       refine tQ <| tG <| cV rfl (lBP rfl rfl rfl uT42 rfl tS42 (lb rfl) rfl trivial) <| cE rfl (ocq (z48 (.mk 10 0 0 z0l (qC l all g1 m1).1 [] [] [(qA l m all p g1 m1).1,(qB l m all p g1 m1).1]:Nd)) y8t rfl rfl) <| sm 1 rfl <| nL ?_
       refine tC rfl (fun hc88=>?_) fun hc88=>?_
       ·have hX:gAny l (gRec l (m+1)) all p g1=((.mk 10 0 0 z0l (qC l all g1 m1).1 (z0i (qT l all g1 m1).1 (qB l m all p g1 m1).2).1 [] [(qA l m all p g1 m1).1,(qB l m all p g1 m1).1]:Nd),(z0i (qT l all g1 m1).1 (qB l m all p g1 m1).2).2):=by
          have hcl:z04 (.mk 10 0 0 z0l (qC l all g1 m1).1 [] [] [(qA l m all p g1 m1).1,(qB l m all p g1 m1).1]:Nd)=false:=by simpa using hc88
          unfold gAny
          simp only [gRec,e2]
          exact (if_pos hk0).trans (if_neg (fun h=>Bool.noConfusion (hcl.symm.trans h)))
        refine tG <| sm 2 rfl <| cE rfl (ocr (z2i l (qT l all g1 m1).1 (qB l m all p g1 m1).2 oM0) y6f rfl (po2 rfl rfl) rfl (fun k (h:_)=>.inr h) rfl rfl) <| sm 1 rfl <| c0 (sBx rfl rfl rfl rfl ((fun h=>h)) tS35 (rfl) (lb rfl)) <| nL ?_
        refine ⟨rfl,Sub.of ⟨rfl,rfl,rfl,rfl,rfl,rfl,rfl,trivial⟩,funext (lkq [112,109,2010,2001,2002,2003,115,2019] rfl rfl ⟨(by first | rfl | (rw [hX];rfl)),rfl,rfl,(by first | rfl | (rw [hX];rfl)),(by first | rfl | (rw [hX];rfl)),rfl,rfl,rfl,trivial⟩)⟩
       have hX:gAny l (gRec l (m+1)) all p g1=((.mk 10 0 0 z0l (qC l all g1 m1).1 [] [] [(qA l m all p g1 m1).1,(qB l m all p g1 m1).1]:Nd),(qB l m all p g1 m1).2):=by
         have hcl:z04 (.mk 10 0 0 z0l (qC l all g1 m1).1 [] [] [(qA l m all p g1 m1).1,(qB l m all p g1 m1).1]:Nd)=true:=by simpa using hc88
         unfold gAny
         simp only [gRec,e2]
         exact (if_pos hk0).trans (if_pos hcl)
       refine tSk ?_
       refine ⟨rfl,Sub.of ⟨rfl,rfl,rfl,rfl,rfl,rfl,rfl,trivial⟩,funext (lkq [112,109,2010,2001,2002,2003,115,2019] rfl rfl ⟨(by first | rfl | (rw [hX];rfl)),rfl,rfl,(by first | rfl | (rw [hX];rfl)),(by first | rfl | (rw [hX];rfl)),rfl,rfl,rfl,trivial⟩)⟩
      refine tQ <| tG <| sm 3 rfl ?_
      refine wS 96 rfl (fun hb96=>?_) fun hb96=>?_
      ·refine sm 4 rfl <| nL ?_
       refine tC rfl (fun hc93=>?_) fun hc93=>?_
       ·have hk1:(z05 l 6 (qS l all g1 m1).2).1=1:=by simp at hb96;omega
        obtain ⟨m,rfl⟩:∃ m,d=m+1:=⟨d - 1,by simp at hc93;omega⟩
        obtain ⟨hTb,hTl⟩:Bd 3 0 (qK l all g1 m1).2 (qT l all g1 m1).2/\(qT l all g1 m1).1.length<=2:=z3j l (qK l all g1 m1).2
        have hT1:=hTb.ps
        have hT2:=hTb.t1
        have hT3:=hTb.t2
        have hT4:=hTb.lf
        obtain ⟨hOb,hOl⟩:Bd 3 0 (qT l all g1 m1).2 (qO l all g1 m1).2/\(qO l all g1 m1).1.length<=2:=z3j l (qT l all g1 m1).2
        have hO1:=hOb.ps
        have hO2:=hOb.t1
        have hO3:=hOb.t2
        have hO4:=hOb.lf
        have hLP:Plc.small (qL l all g1 m1):=⟨by simp [qL],hTl,hOl⟩
        have hCb:Bd (qT l all g1 m1).1.length 0 (qO l all g1 m1).2 (qE l all g1 m1).2:=ze6 l all (qT l all g1 m1).1 (qO l all g1 m1).2
        have hC1:=hCb.ps
        have hC2:=hCb.t1
        have hC3:=hCb.t2
        have hC4:=hCb.lf
        have hQb:Bd 0 (qT l all g1 m1).1.length (qE l all g1 m1).2 (qQ l all g1 m1).2:=zm4 (qT l all g1 m1).1 (qE l all g1 m1).2
        have hQ1:=hQb.ps
        have hQ2:=hQb.t1
        have hQ3:=hQb.t2
        have hQ4:=hQb.lf
        have hQl:(qQ l all g1 m1).1.length=(qT l all g1 m1).1.length:=(z20 (qT l all g1 m1).1 (qE l all g1 m1).2).2
        have hInQ:InR (qQ l all g1 m1).2.types (all++(qQ l all g1 m1).1):=(hIn.mono oM0).app (InR.outs _ _)
        have hBb:Bd 4 0 (qQ l all g1 m1).2 (qD l m all g1 m1).2:=z74 l m (all++(qQ l all g1 m1).1) (qL l all g1 m1) (qQ l all g1 m1).2 hLP
        have hB1:=hBb.ps
        have hB2:=hBb.t1
        have hB3:=hBb.t2
        have hB4:=hBb.lf
        have hQl2:((qQ l all g1 m1).1.map eInt).length=(qQ l all g1 m1).1.length:=by simp
        have hal:(all.map eInt).length=all.length:=by simp
        have hQl3:=(z20 (qT l all g1 m1).1 (qE l all g1 m1).2).2
        refine tQ <| tG <| sm 1 rfl <| cE rfl (ocr (z8r l (qK l all g1 m1).2 oM0) y8s rfl (po2 rfl rfl) rfl (fun k (h:_)=>.inr h) rfl rfl) <| sm 1 rfl <| cE rfl (ocr (z8r l (qT l all g1 m1).2 oM0) y8s rfl (po2 rfl rfl) rfl (fun k (h:_)=>.inr h) rfl rfl) <| sm 2 rfl <| nL <| tQ <| tG <| sm 3 rfl <| cE rfl (ocr (zr7 l all (qT l all g1 m1).1 (qO l all g1 m1).2 (hIn.mono oM0) oM0 oM0) ent52 rfl (po3 rfl rfl rfl) rfl (fun k (h:_)=>.inr h) rfl rfl) ?_
        refine sm 2 rfl <| cE rfl (ocr (z2i l (qT l all g1 m1).1 (qE l all g1 m1).2 oM0) y6f rfl (po2 rfl rfl) rfl (fun k (h:_)=>.inr h) rfl rfl) <| cV rfl (bPu rfl rfl tZ42 tP42 rfl (fbk rfl) rfl) <| c0 (sBA rfl rfl rfl rfl rfl ((fun h=>h)) tS42 (flk rfl) (lb rfl)) <| nL <| tQ <| Tr.fixNil (k:=112) rfl (fun h=>h) <| tG <| sm 1 rfl <| nL <| tQ <| Tr.grow (t:=19) (k:=2019) ⟨3,1⟩ rfl rfl rfl rfl rfl ?_
        refine tG <| sm 2 rfl ?_
        refine cE rfl (z5h rfl rfl rfl rfl rfl rfl rfl sI0 uT35 tB3 dC0 z5c z5f (by simp [maxLen];omega) (by simp;omega)) ?_
        refine sm 1 rfl <| nL <| tQ <| tG <| sm 3 rfl ?_
        refine cE rfl (aPp rfl rfl rfl rfl (by (simp;done)) ((fun h=>h)) uT35 tB3 dC0 (z5c) (z5f) (by simp [maxLen,z07];omega) (by simp [z07];omega)) ?_
        refine sm 1 rfl <| nL <| tQ ?_
        refine Tr.heap (σ':=look [(2019,some (rowI (all++(qQ l all g1 m1).1))),(112,some (.box [.pv (vInt (.mk 11 0 0 z0l (qE l all g1 m1).1 [] (qQ l all g1 m1).1 []:Nd).kind),.pv (vInt (.mk 11 0 0 z0l (qE l all g1 m1).1 [] (qQ l all g1 m1).1 []:Nd).op),.pv (vInt (.mk 11 0 0 z0l (qE l all g1 m1).1 [] (qQ l all g1 m1).1 []:Nd).n),.pv (vStr (.mk 11 0 0 z0l (qE l all g1 m1).1 [] (qQ l all g1 m1).1 []:Nd).name),.pv (ints (.mk 11 0 0 z0l (qE l all g1 m1).1 [] (qQ l all g1 m1).1 []:Nd).args),.pv (ints (.mk 11 0 0 z0l (qE l all g1 m1).1 [] (qQ l all g1 m1).1 []:Nd).outs),.pv (ints (.mk 11 0 0 z0l (qE l all g1 m1).1 [] (qQ l all g1 m1).1 []:Nd).params),.pv (kids (.mk 11 0 0 z0l (qE l all g1 m1).1 [] (qQ l all g1 m1).1 []:Nd).kids)])),(109,some (.row ⟨42,8⟩ (out.map Nd.enc))),(2010,some (rowI all)),(2001,some (z3a l (qQ l all g1 m1).2)),(2002,some (rowI (qQ l all g1 m1).2.types)),(2003,some (rowI seen))]) (lkq [2019,112,109,2010,2001,2002,2003] rfl rfl ⟨(congrArg (fun z=>some (HO.row _ z)) (by simp [qQ])),rfl,rfl,rfl,rfl,rfl,rfl,trivial⟩) ?_
        refine tG <| sm 4 rfl <| cV rfl (bPu rfl rfl tZ74 tP74 rfl (fbk rfl) rfl) <| sm 1 rfl <| cV rfl (oB rfl rfl (z2y rfl oM0)) ?_
        refine cE rfl (cRr ((ih m rfl).at2019 (all++(qQ l all g1 m1).1) (qL l all g1 m1) (qQ l all g1 m1).2 hInQ hLP oM0 oM0 (by rw [List.length_append];omega)) y8q rfl rfl (sSm rfl (sSm (congrArg (fun n=>IV.sl 2019 n) (by simp [qQ])) (Subs.cons (fun _ _ _ _ h=>z6j (q:=plcv (qL l all g1 m1)) (PSub.agg (ps:=[vBool false,vBool true,.val (.slice none 0 0),ints (qT l all g1 m1).1,ints (qO l all g1 m1).1]) (And.intro (PSub.refl _) (And.intro (PSub.refl _) (And.intro PSub.nil (And.intro (PSub.refl _) (And.intro (PSub.refl _) trivial)))))) h) (sSm (congrArg (fun z=>iInt z) oM0) Subs.nil)))) (po3 rfl rfl rfl) (by rfl) (fun k (h:_)=>.inr h) rfl (by rfl)) ?_
        refine cE rfl (bSl rfl rfl uT40 tZ43 tS43 rfl rfl rfl rfl (fbk rfl) rfl) <| sm 1 rfl <| c0 (sBx rfl rfl rfl rfl ((fun h=>h)) tS40 (rfl) (lb rfl)) <| nL <| tQ <| Tr.drop (k:=2019) <| tG <| cV rfl (lBP rfl rfl rfl uT42 rfl tS42 (lb rfl) rfl trivial) <| cE rfl (ocq (z48 (.mk 11 0 0 z0l (qE l all g1 m1).1 [] (qQ l all g1 m1).1 [(qD l m all g1 m1).1]:Nd)) y8t rfl rfl) <| sm 1 rfl <| nL ?_
        refine tC rfl (fun hc131=>?_) fun hc131=>?_
        ·have hX:gAny l (gRec l (m+1)) all p g1=((.mk 11 0 0 z0l (qE l all g1 m1).1 (z0i (qO l all g1 m1).1 (qD l m all g1 m1).2).1 (qQ l all g1 m1).1 [(qD l m all g1 m1).1]:Nd),(z0i (qO l all g1 m1).1 (qD l m all g1 m1).2).2):=by
           have hcl:z04 (.mk 11 0 0 z0l (qE l all g1 m1).1 [] (qQ l all g1 m1).1 [(qD l m all g1 m1).1]:Nd)=false:=by simpa using hc131
           have hk0:¬ (z05 l 6 (qS l all g1 m1).2).1=0:=by omega
           unfold gAny
           simp only [gRec,e2]
           exact (if_neg hk0).trans ((if_pos hk1).trans (if_neg (fun h=>Bool.noConfusion (hcl.symm.trans h))))
         refine tG <| sm 2 rfl <| cE rfl (ocr (z2i l (qO l all g1 m1).1 (qD l m all g1 m1).2 oM0) y6f rfl (po2 rfl rfl) rfl (fun k (h:_)=>.inr h) rfl rfl) <| sm 1 rfl <| c0 (sBx rfl rfl rfl rfl ((fun h=>h)) tS35 (rfl) (lb rfl)) <| nL ?_
         refine ⟨rfl,Sub.of ⟨rfl,rfl,rfl,rfl,rfl,rfl,rfl,trivial⟩,funext (lkq [112,109,2010,2001,2002,2003,115,2019] rfl rfl ⟨(by first | rfl | (rw [hX];rfl)),rfl,rfl,(by first | rfl | (rw [hX];rfl)),(by first | rfl | (rw [hX];rfl)),rfl,rfl,rfl,trivial⟩)⟩
        have hX:gAny l (gRec l (m+1)) all p g1=((.mk 11 0 0 z0l (qE l all g1 m1).1 [] (qQ l all g1 m1).1 [(qD l m all g1 m1).1]:Nd),(qD l m all g1 m1).2):=by
          have hcl:z04 (.mk 11 0 0 z0l (qE l all g1 m1).1 [] (qQ l all g1 m1).1 [(qD l m all g1 m1).1]:Nd)=true:=by simpa using hc131
          have hk0:¬ (z05 l 6 (qS l all g1 m1).2).1=0:=by omega
          unfold gAny
          simp only [gRec,e2]
          exact (if_neg hk0).trans ((if_pos hk1).trans (if_pos hcl))
        refine tSk ?_
        refine ⟨rfl,Sub.of ⟨rfl,rfl,rfl,rfl,rfl,rfl,rfl,trivial⟩,funext (lkq [112,109,2010,2001,2002,2003,115,2019] rfl rfl ⟨(by first | rfl | (rw [hX];rfl)),rfl,rfl,(by first | rfl | (rw [hX];rfl)),(by first | rfl | (rw [hX];rfl)),rfl,rfl,rfl,trivial⟩)⟩
       have hX:gAny l (gRec l d) all p g1=((qS l all g1 m1).1,(qK l all g1 m1).2):=by
         unfold gAny
         simp only [e2]
         cases d with
         | zero=>rfl
         | succ m =>
           have hk0:¬ (z05 l 6 (qS l all g1 m1).2).1=0:=by first | (simp at hb52<;>omega) | (simp at hc49<;>omega)
           have hk1:¬ (z05 l 6 (qS l all g1 m1).2).1=1:=by first | (simp at hb96<;>omega) | (simp at hc93<;>omega)
           exact (if_neg hk0).trans (if_neg hk1)
       refine tSk ?_
       refine ⟨rfl,Sub.of ⟨rfl,rfl,rfl,rfl,rfl,rfl,rfl,trivial⟩,funext (lkq [112,109,2010,2001,2002,2003,115,2019] rfl rfl ⟨(by first | rfl | (rw [hX];rfl)),rfl,rfl,(by first | rfl | (rw [hX];rfl)),(by first | rfl | (rw [hX];rfl)),rfl,rfl,rfl,trivial⟩)⟩
      refine sm 4 rfl <| nL <| Tr.condF rfl ?_
      have hX:gAny l (gRec l d) all p g1=((qS l all g1 m1).1,(qK l all g1 m1).2):=by
        unfold gAny
        simp only [e2]
        cases d with
        | zero=>rfl
        | succ m =>
          have hk0:¬ (z05 l 6 (qS l all g1 m1).2).1=0:=by first | (simp at hb52<;>omega) | (simp at hc49<;>omega)
          have hk1:¬ (z05 l 6 (qS l all g1 m1).2).1=1:=by first | (simp at hb96<;>omega) | (simp at hc93<;>omega)
          exact (if_neg hk0).trans (if_neg hk1)
      refine tSk ?_
      refine ⟨rfl,Sub.of ⟨rfl,rfl,rfl,rfl,rfl,rfl,rfl,trivial⟩,funext (lkq [112,109,2010,2001,2002,2003,115,2019] rfl rfl ⟨(by first | rfl | (rw [hX];rfl)),rfl,rfl,(by first | rfl | (rw [hX];rfl)),(by first | rfl | (rw [hX];rfl)),rfl,rfl,rfl,trivial⟩)⟩
     refine sm 4 rfl <| nL <| Tr.condF rfl <| tQ <| tG <| sm 3 rfl ?_
     refine wS 96 rfl (fun hb96=>?_) fun hb96=>?_
     ·refine sm 4 rfl <| nL ?_
      refine tC rfl (fun hc93=>?_) fun hc93=>?_
      ·have hk1:(z05 l 6 (qS l all g1 m1).2).1=1:=by simp at hb96;omega
       obtain ⟨m,rfl⟩:∃ m,d=m+1:=⟨d - 1,by simp at hc93;omega⟩
       obtain ⟨hTb,hTl⟩:Bd 3 0 (qK l all g1 m1).2 (qT l all g1 m1).2/\(qT l all g1 m1).1.length<=2:=z3j l (qK l all g1 m1).2
       have hT1:=hTb.ps
       have hT2:=hTb.t1
       have hT3:=hTb.t2
       have hT4:=hTb.lf
       obtain ⟨hOb,hOl⟩:Bd 3 0 (qT l all g1 m1).2 (qO l all g1 m1).2/\(qO l all g1 m1).1.length<=2:=z3j l (qT l all g1 m1).2
       have hO1:=hOb.ps
       have hO2:=hOb.t1
       have hO3:=hOb.t2
       have hO4:=hOb.lf
       have hLP:Plc.small (qL l all g1 m1):=⟨by simp [qL],hTl,hOl⟩
       have hCb:Bd (qT l all g1 m1).1.length 0 (qO l all g1 m1).2 (qE l all g1 m1).2:=ze6 l all (qT l all g1 m1).1 (qO l all g1 m1).2
       have hC1:=hCb.ps
       have hC2:=hCb.t1
       have hC3:=hCb.t2
       have hC4:=hCb.lf
       have hQb:Bd 0 (qT l all g1 m1).1.length (qE l all g1 m1).2 (qQ l all g1 m1).2:=zm4 (qT l all g1 m1).1 (qE l all g1 m1).2
       have hQ1:=hQb.ps
       have hQ2:=hQb.t1
       have hQ3:=hQb.t2
       have hQ4:=hQb.lf
       have hQl:(qQ l all g1 m1).1.length=(qT l all g1 m1).1.length:=(z20 (qT l all g1 m1).1 (qE l all g1 m1).2).2
       have hInQ:InR (qQ l all g1 m1).2.types (all++(qQ l all g1 m1).1):=(hIn.mono oM0).app (InR.outs _ _)
       have hBb:Bd 4 0 (qQ l all g1 m1).2 (qD l m all g1 m1).2:=z74 l m (all++(qQ l all g1 m1).1) (qL l all g1 m1) (qQ l all g1 m1).2 hLP
       have hB1:=hBb.ps
       have hB2:=hBb.t1
       have hB3:=hBb.t2
       have hB4:=hBb.lf
       have hQl2:((qQ l all g1 m1).1.map eInt).length=(qQ l all g1 m1).1.length:=by simp
       have hal:(all.map eInt).length=all.length:=by simp
       have hQl3:=(z20 (qT l all g1 m1).1 (qE l all g1 m1).2).2
       refine tQ <| tG <| sm 1 rfl <| cE rfl (ocr (z8r l (qK l all g1 m1).2 oM0) y8s rfl (po2 rfl rfl) rfl (fun k (h:_)=>.inr h) rfl rfl) <| sm 1 rfl <| cE rfl (ocr (z8r l (qT l all g1 m1).2 oM0) y8s rfl (po2 rfl rfl) rfl (fun k (h:_)=>.inr h) rfl rfl) <| sm 2 rfl <| nL <| tQ <| tG <| sm 3 rfl <| cE rfl (ocr (zr7 l all (qT l all g1 m1).1 (qO l all g1 m1).2 (hIn.mono oM0) oM0 oM0) ent52 rfl (po3 rfl rfl rfl) rfl (fun k (h:_)=>.inr h) rfl rfl) ?_
       refine sm 2 rfl <| cE rfl (ocr (z2i l (qT l all g1 m1).1 (qE l all g1 m1).2 oM0) y6f rfl (po2 rfl rfl) rfl (fun k (h:_)=>.inr h) rfl rfl) <| cV rfl (bPu rfl rfl tZ42 tP42 rfl (fbk rfl) rfl) <| c0 (sBA rfl rfl rfl rfl rfl ((fun h=>h)) tS42 (flk rfl) (lb rfl)) <| nL <| tQ <| Tr.fixNil (k:=112) rfl (fun h=>h) <| tG <| sm 1 rfl <| nL <| tQ <| Tr.grow (t:=19) (k:=2019) ⟨3,1⟩ rfl rfl rfl rfl rfl ?_
       refine tG <| sm 2 rfl ?_
       refine cE rfl (z5h rfl rfl rfl rfl rfl rfl rfl sI0 uT35 tB3 dC0 z5c z5f (by simp [maxLen];omega) (by simp;omega)) ?_
       refine sm 1 rfl <| nL <| tQ <| tG <| sm 3 rfl ?_
       refine cE rfl (aPp rfl rfl rfl rfl (by (simp;done)) ((fun h=>h)) uT35 tB3 dC0 (z5c) (z5f) (by simp [maxLen,z07];omega) (by simp [z07];omega)) ?_
       refine sm 1 rfl <| nL <| tQ ?_
       refine Tr.heap (σ':=look [(2019,some (rowI (all++(qQ l all g1 m1).1))),(112,some (.box [.pv (vInt (.mk 11 0 0 z0l (qE l all g1 m1).1 [] (qQ l all g1 m1).1 []:Nd).kind),.pv (vInt (.mk 11 0 0 z0l (qE l all g1 m1).1 [] (qQ l all g1 m1).1 []:Nd).op),.pv (vInt (.mk 11 0 0 z0l (qE l all g1 m1).1 [] (qQ l all g1 m1).1 []:Nd).n),.pv (vStr (.mk 11 0 0 z0l (qE l all g1 m1).1 [] (qQ l all g1 m1).1 []:Nd).name),.pv (ints (.mk 11 0 0 z0l (qE l all g1 m1).1 [] (qQ l all g1 m1).1 []:Nd).args),.pv (ints (.mk 11 0 0 z0l (qE l all g1 m1).1 [] (qQ l all g1 m1).1 []:Nd).outs),.pv (ints (.mk 11 0 0 z0l (qE l all g1 m1).1 [] (qQ l all g1 m1).1 []:Nd).params),.pv (kids (.mk 11 0 0 z0l (qE l all g1 m1).1 [] (qQ l all g1 m1).1 []:Nd).kids)])),(109,some (.row ⟨42,8⟩ (out.map Nd.enc))),(2010,some (rowI all)),(2001,some (z3a l (qQ l all g1 m1).2)),(2002,some (rowI (qQ l all g1 m1).2.types)),(2003,some (rowI seen))]) (lkq [2019,112,109,2010,2001,2002,2003] rfl rfl ⟨(congrArg (fun z=>some (HO.row _ z)) (by simp [qQ])),rfl,rfl,rfl,rfl,rfl,rfl,trivial⟩) ?_
       refine tG <| sm 4 rfl <| cV rfl (bPu rfl rfl tZ74 tP74 rfl (fbk rfl) rfl) <| sm 1 rfl <| cV rfl (oB rfl rfl (z2y rfl oM0)) ?_
       refine cE rfl (cRr ((ih m rfl).at2019 (all++(qQ l all g1 m1).1) (qL l all g1 m1) (qQ l all g1 m1).2 hInQ hLP oM0 oM0 (by rw [List.length_append];omega)) y8q rfl rfl (sSm rfl (sSm (congrArg (fun n=>IV.sl 2019 n) (by simp [qQ])) (Subs.cons (fun _ _ _ _ h=>z6j (q:=plcv (qL l all g1 m1)) (PSub.agg (ps:=[vBool false,vBool true,.val (.slice none 0 0),ints (qT l all g1 m1).1,ints (qO l all g1 m1).1]) (And.intro (PSub.refl _) (And.intro (PSub.refl _) (And.intro PSub.nil (And.intro (PSub.refl _) (And.intro (PSub.refl _) trivial)))))) h) (sSm (congrArg (fun z=>iInt z) oM0) Subs.nil)))) (po3 rfl rfl rfl) (by rfl) (fun k (h:_)=>.inr h) rfl (by rfl)) ?_
       refine cE rfl (bSl rfl rfl uT40 tZ43 tS43 rfl rfl rfl rfl (fbk rfl) rfl) <| sm 1 rfl <| c0 (sBx rfl rfl rfl rfl ((fun h=>h)) tS40 (rfl) (lb rfl)) <| nL <| tQ <| Tr.drop (k:=2019) <| tG <| cV rfl (lBP rfl rfl rfl uT42 rfl tS42 (lb rfl) rfl trivial) <| cE rfl (ocq (z48 (.mk 11 0 0 z0l (qE l all g1 m1).1 [] (qQ l all g1 m1).1 [(qD l m all g1 m1).1]:Nd)) y8t rfl rfl) <| sm 1 rfl <| nL ?_
       refine tC rfl (fun hc131=>?_) fun hc131=>?_
       ·have hX:gAny l (gRec l (m+1)) all p g1=((.mk 11 0 0 z0l (qE l all g1 m1).1 (z0i (qO l all g1 m1).1 (qD l m all g1 m1).2).1 (qQ l all g1 m1).1 [(qD l m all g1 m1).1]:Nd),(z0i (qO l all g1 m1).1 (qD l m all g1 m1).2).2):=by
          have hcl:z04 (.mk 11 0 0 z0l (qE l all g1 m1).1 [] (qQ l all g1 m1).1 [(qD l m all g1 m1).1]:Nd)=false:=by simpa using hc131
          have hk0:¬ (z05 l 6 (qS l all g1 m1).2).1=0:=by omega
          unfold gAny
          simp only [gRec,e2]
          exact (if_neg hk0).trans ((if_pos hk1).trans (if_neg (fun h=>Bool.noConfusion (hcl.symm.trans h))))
        refine tG <| sm 2 rfl <| cE rfl (ocr (z2i l (qO l all g1 m1).1 (qD l m all g1 m1).2 oM0) y6f rfl (po2 rfl rfl) rfl (fun k (h:_)=>.inr h) rfl rfl) <| sm 1 rfl <| c0 (sBx rfl rfl rfl rfl ((fun h=>h)) tS35 (rfl) (lb rfl)) <| nL ?_
        refine ⟨rfl,Sub.of ⟨rfl,rfl,rfl,rfl,rfl,rfl,rfl,trivial⟩,funext (lkq [112,109,2010,2001,2002,2003,115,2019] rfl rfl ⟨(by first | rfl | (rw [hX];rfl)),rfl,rfl,(by first | rfl | (rw [hX];rfl)),(by first | rfl | (rw [hX];rfl)),rfl,rfl,rfl,trivial⟩)⟩
       have hX:gAny l (gRec l (m+1)) all p g1=((.mk 11 0 0 z0l (qE l all g1 m1).1 [] (qQ l all g1 m1).1 [(qD l m all g1 m1).1]:Nd),(qD l m all g1 m1).2):=by
         have hcl:z04 (.mk 11 0 0 z0l (qE l all g1 m1).1 [] (qQ l all g1 m1).1 [(qD l m all g1 m1).1]:Nd)=true:=by simpa using hc131
         have hk0:¬ (z05 l 6 (qS l all g1 m1).2).1=0:=by omega
         unfold gAny
         simp only [gRec,e2]
         exact (if_neg hk0).trans ((if_pos hk1).trans (if_pos hcl))
       refine tSk ?_
       refine ⟨rfl,Sub.of ⟨rfl,rfl,rfl,rfl,rfl,rfl,rfl,trivial⟩,funext (lkq [112,109,2010,2001,2002,2003,115,2019] rfl rfl ⟨(by first | rfl | (rw [hX];rfl)),rfl,rfl,(by first | rfl | (rw [hX];rfl)),(by first | rfl | (rw [hX];rfl)),rfl,rfl,rfl,trivial⟩)⟩
      have hX:gAny l (gRec l d) all p g1=((qS l all g1 m1).1,(qK l all g1 m1).2):=by
        unfold gAny
        simp only [e2]
        cases d with
        | zero=>rfl
        | succ m =>
          have hk0:¬ (z05 l 6 (qS l all g1 m1).2).1=0:=by first | (simp at hb52<;>omega) | (simp at hc49<;>omega)
          have hk1:¬ (z05 l 6 (qS l all g1 m1).2).1=1:=by first | (simp at hb96<;>omega) | (simp at hc93<;>omega)
          exact (if_neg hk0).trans (if_neg hk1)
      refine tSk ?_
      refine ⟨rfl,Sub.of ⟨rfl,rfl,rfl,rfl,rfl,rfl,rfl,trivial⟩,funext (lkq [112,109,2010,2001,2002,2003,115,2019] rfl rfl ⟨(by first | rfl | (rw [hX];rfl)),rfl,rfl,(by first | rfl | (rw [hX];rfl)),(by first | rfl | (rw [hX];rfl)),rfl,rfl,rfl,trivial⟩)⟩
     refine sm 4 rfl <| nL <| Tr.condF rfl ?_
     have hX:gAny l (gRec l d) all p g1=((qS l all g1 m1).1,(qK l all g1 m1).2):=by
       unfold gAny
       simp only [e2]
       cases d with
       | zero=>rfl
       | succ m =>
         have hk0:¬ (z05 l 6 (qS l all g1 m1).2).1=0:=by first | (simp at hb52<;>omega) | (simp at hc49<;>omega)
         have hk1:¬ (z05 l 6 (qS l all g1 m1).2).1=1:=by first | (simp at hb96<;>omega) | (simp at hc93<;>omega)
         exact (if_neg hk0).trans (if_neg hk1)
     refine tSk ?_
     refine ⟨rfl,Sub.of ⟨rfl,rfl,rfl,rfl,rfl,rfl,rfl,trivial⟩,funext (lkq [112,109,2010,2001,2002,2003,115,2019] rfl rfl ⟨(by first | rfl | (rw [hX];rfl)),rfl,rfl,(by first | rfl | (rw [hX];rfl)),(by first | rfl | (rw [hX];rfl)),rfl,rfl,rfl,trivial⟩)⟩
    refine tQ ?_
    have hol:(out.map Nd.enc).length=out.length:=by simp
    have hal:(all.map eInt).length=all.length:=by simp
    have hxo:((gAny l (gRec l d) all p g1).1.outs.map eInt).length=(gAny l (gRec l d) all p g1).1.outs.length:=by simp
    have hxo2:=hXo.2
    refine tG <| sm 1 rfl <| cV rfl (lBP rfl rfl rfl uT42 rfl tS42 (lb rfl) rfl trivial) <| cE rfl (bSl rfl rfl uT43 tZ42 tS42 rfl rfl rfl rfl (fbk rfl) rfl) ?_
    refine cE rfl (aPp rfl rfl rfl rfl (by rfl) ((fun h=>h)) uT43 tB42 dC0 (by (simp [z07];done)) (z5m _) (by simp [maxLen,z07];omega) (by simp [z07];omega)) ?_
    refine sm 1 rfl <| nL <| tQ <| tQ <| tG <| cV rfl (lBP rfl rfl rfl uT42 rfl tS42 (lb rfl) rfl trivial) <| cE rfl (ocq (z48 (gAny l (gRec l d) all p g1).1) y8t rfl rfl) <| nL ?_
    refine tC rfl (fun hc141=>?_) fun hc141=>?_
    ·refine tQ ?_
     have hres:z2w l d seen p g=(out++[(gAny l (gRec l d) all p g1).1],(gAny l (gRec l d) all p g1).2):=by rw [<- hI,z39,if_neg hleft,if_pos hc141]
     refine tG <| sm 2 rfl <| nL ?_
     refine Tr.freeze (t:=8) (k:=109) rfl rfl (by simp [z07]) ?_
     refine tRt ?_
     rw [hres]
     refine rOk rfl (congrArg (fun z=>IV.pv (.seq z)) (by simp [z07,Nd.enc_eq,Nd.cells_eta])) (po3 rfl rfl rfl)
    refine tSk <| tG <| sm 3 rfl ?_
    refine cE rfl (aPp rfl rfl rfl rfl (by rfl) ((fun h=>h)) uT35 tB3 dC0 (z5c) (z5f) (by simp [maxLen,z07];omega) (by simp [z07];omega)) ?_
    refine sm 1 rfl <| nL <| Tr.drop (k:=112) <| tG <| sm 1 rfl <| cV rfl (oB rfl rfl (z2y rfl oM0)) <| sm 1 rfl <| nL ?_
    refine ⟨_,_,?_,Sub.of (fr':=[(11,iInt ((n1:Nat):Int)),(10,.sl 2010 ((all++(gAny l (gRec l d) all p g1).1.outs).map eInt).length),(9,.sl 109 ((out++[(gAny l (gRec l d) all p g1).1]).map Nd.enc).length),(6,.pv (.ept [vBool p.If,vBool p.Loop,ints p.Yield,ints p.Next,ints p.Left] 0)),(0,.ptr 2001 0),(3,iInt (d:Int))]) ⟨congrArg (fun z=>some (iInt z)) oM0,congrArg (fun z=>some (IV.sl _ z)) sI0,congrArg (fun z=>some (IV.sl _ z)) (by simp [z07]),rfl,rfl,rfl,trivial⟩,n1,(out++[(gAny l (gRec l d) all p g1).1]),(all++(gAny l (gRec l d) all p g1).1.outs),(gAny l (gRec l d) all p g1).2,?_,?_,?_,?_,?_,?_,rfl,(funext (lkq [112,109,2010,2001,2002,2003] rfl rfl ⟨rfl,(by first | rfl | exact congrArg (fun z=>some (HO.row _ z)) (by simp [z07,Nd.enc_eq,Nd.cells_eta]) | exact congrArg (fun z=>some (HO.row _ z)) sI0),(by first | rfl | exact congrArg (fun z=>some (HO.row _ z)) (by simp [z07,Nd.enc_eq,Nd.cells_eta]) | exact congrArg (fun z=>some (HO.row _ z)) sI0),rfl,rfl,rfl,trivial⟩)),rfl⟩
    ·omega
    ·rw [<- hI,z39,if_neg hleft,if_neg (by rw [hc141];decide)]
    ·exact (hIn.mono hXb.t1).app hXo.1
    ·have:=hXb.ps;omega
    ·have:=hXb.t2;omega
    ·have:=hXo.2;rw [List.length_append];have:=hXl;omega
    simp;omega
   refine tEx <| tQ ?_
   have hres:z2w l d seen p g=(out++[(gEnd l all p g1).1],(gEnd l all p g1).2):=by
     rw [<- hI]
     (have h0:g1.left=0:=by simpa using hc33
      cases n with
      | zero=>rw [z39]
      | succ n=>rw [z39,if_pos h0])
   have hol:(out.map Nd.enc).length=out.length:=by simp
   refine tG <| sm 3 rfl <| cV rfl (lEA rfl rfl Tryz.underlying74 rfl tS74 (lb rfl)) <| cE rfl (ocr (y5x l all p g1 hIn oM0 oM0 hp) ent54 rfl (po3 rfl rfl rfl) rfl (fun k (h:_)=>.inr h) rfl rfl) <| cE rfl (bSl rfl rfl uT43 tZ42 tS42 rfl rfl rfl rfl (fbk rfl) rfl) ?_
   refine cE rfl (aPp rfl rfl rfl rfl (by rfl) ((fun h=>h)) uT43 tB42 dC0 (by (simp [z07];done)) (z5m _) (by simp [maxLen,z07];omega) (by simp [z07];omega)) ?_
   refine sm 1 rfl <| nL ?_
   refine Tr.freeze (t:=8) (k:=109) rfl rfl (by simp [z07]) ?_
   refine tRt ?_
   rw [hres]
   refine rOk rfl (congrArg (fun z=>IV.pv (.seq z)) (by simp [z07,Nd.enc_eq,Nd.cells_eta])) (po3 rfl rfl rfl)
  refine sm 6 rfl <| nL <| Tr.condF rfl <| tEx <| tQ ?_
  have hres:z2w l d seen p g=(out++[(gEnd l all p g1).1],(gEnd l all p g1).2):=by
    rw [<- hI]
    (have h0:n=0:=by simpa using hb27
     rw [h0,z39]
     done)
  have hol:(out.map Nd.enc).length=out.length:=by simp
  refine tG <| sm 3 rfl <| cV rfl (lEA rfl rfl Tryz.underlying74 rfl tS74 (lb rfl)) <| cE rfl (ocr (y5x l all p g1 hIn oM0 oM0 hp) ent54 rfl (po3 rfl rfl rfl) rfl (fun k (h:_)=>.inr h) rfl rfl) <| cE rfl (bSl rfl rfl uT43 tZ42 tS42 rfl rfl rfl rfl (fbk rfl) rfl) ?_
  refine cE rfl (aPp rfl rfl rfl rfl (by rfl) ((fun h=>h)) uT43 tB42 dC0 (by (simp [z07];done)) (z5m _) (by simp [maxLen,z07];omega) (by simp [z07];omega)) ?_
  refine sm 1 rfl <| nL ?_
  refine Tr.freeze (t:=8) (k:=109) rfl rfl (by simp [z07]) ?_
  refine tRt ?_
  rw [hres]
  refine rOk rfl (congrArg (fun z=>IV.pv (.seq z)) (by simp [z07,Nd.enc_eq,Nd.cells_eta])) (po3 rfl rfl rfl)
theorem y5z (l:List UInt8):∀ d,d<=100->LSCg l d
  | 0,h=>fun seen p g h1 h2 h3 h4 h5=>y23 l 0 h (fun m e=>by omega) seen p g h1 h2 h3 h4 h5
  | d+1,h=>fun seen p g h1 h2 h3 h4 h5=>y23 l (d+1) h (fun m e=>by obtain rfl:d=m:=oM0;exact y5z l d oM0) seen p g h1 h2 h3 h4 h5
theorem yb3 (l:List UInt8) (seen:List Int) (p:Plc) (g:Gn) (h1:InR g.types seen) (h2:p.small) (h3:g.pos+60*g.left<=900000) (h4:g.types.length+10*g.left<=900000) (h5:seen.length+10*g.left<=900000) :
    SC Tryz.prog 36 [.ptr 2001 0,.sl 2005 (seen.map eInt).length,.pv (plcv p),iInt 3] (gHr 2005 l g seen) (fun _=>False) (.pv (z0j (z2w l 3 seen p g).1)) (gHr 2005 l (z2w l 3 seen p g).2 seen):=SC.sw 2003 2005 (y5z l 3 oM0 seen p g h1 h2 h3 h4 h5)
def genF (l:List UInt8) (g:Gn) (ty:PV):HO:=.box [.pv (bts l),iInt (g.pos:Int),.pv ty,iInt (g.left:Int)]
theorem plc0_sub:PSub (.agg [vBool false,vBool false,.val (.slice none 0 0),.val (.slice none 0 0),.val (.slice none 0 0)]) (plcv plc0):=z13 [vBool false,vBool false,.val (.slice none 0 0),.val (.slice none 0 0),.val (.slice none 0 0)]
theorem y5y (l:List UInt8) (name:ByteArray) (params:List Int) (hpl:params.length<=10) (g:Gn) (hb:g.pos<=500000) (ty:PV):SC Tryz.prog 21 [.ptr 2001 0,iStr name,.pv (ints params)] [(2001,genF l g ty)] (fun _=>False) (.pv (.agg (z2v l name params g).1.enc)) [(2001,genF l (z2v l name params g).2 (ints (z2v l name params g).2.types))]:=by
  refine SC.ofC Tryz.func21 rfl (lb rfl) rfl fun F ρ w=>?_
  refine Tr.lenOf (t:=2) rfl (fun hl=>?_)
  simp only [List.length_map] at hl
  have hS:=(z20 params { g with types:=[],left:=30 }).1
  have hSl:=(z20 params { g with types:=[],left:=30 }).2
  have hSin:=InR.outs params { g with types:=[],left:=30 }
  have hst:(z0i params { g with types:=[],left:=30 }).2.types.length=params.length:=by rw [hS];simp
  have hsp:(z0i params { g with types:=[],left:=30 }).2.pos=g.pos/\(z0i params { g with types:=[],left:=30 }).2.left=30:=by rw [hS];exact ⟨rfl,rfl⟩
  have hbt:(z08 2 (z08 1 (z0i params { g with types:=[],left:=30 }).2).2).2.types.length=params.length+2:=by simp [z08,hst]
  have hbp:(z08 2 (z08 1 (z0i params { g with types:=[],left:=30 }).2).2).2.pos=g.pos/\(z08 2 (z08 1 (z0i params { g with types:=[],left:=30 }).2).2).2.left=30:=hsp
  have hin:InR (z08 2 (z08 1 (z0i params { g with types:=[],left:=30 }).2).2).2.types ((z0i params { g with types:=[],left:=30 }).1++[(z08 1 (z0i params { g with types:=[],left:=30 }).2).1,(z08 2 (z08 1 (z0i params { g with types:=[],left:=30 }).2).2).1]):=by
    refine (hSin.mono oM0).app fun s hs=>?_
    simp only [List.mem_cons,List.not_mem_nil,or_false] at hs
    rcases hs with rfl | rfl
    ·rw [hbt];simp only [z08,hst];omega
    rw [hbt];simp only [z08,List.length_append,List.length_cons,List.length_nil,hst];omega
  have hsl2:((z0i params { g with types:=[],left:=30 }).1.map eInt).length=(z0i params { g with types:=[],left:=30 }).1.length:=by simp
  refine tQ <| tG <| cE rfl (aLc (k:=106) rfl tZ51 rfl rfl rfl rfl) <| nL <| tQ <| tG <| sm 2 rfl <| cV rfl (nCk rfl rfl rfl) <| sm 1 rfl <| c0 (sBx rfl rfl rfl rfl ((fun h=>h)) tS35 (rfl) (lb rfl)) <| cV rfl (nCk rfl rfl rfl) <| sm 1 rfl ?_
  refine c0 (sBx rfl rfl rfl rfl ((fun h=>h)) tS3 (rfl) (lb rfl)) <| nL <| tQ <| Tr.growCell (k:=2002) (k2:=2001) (j:=2) ⟨3,1⟩ rfl rfl rfl rfl rfl rfl <| Tr.heap (σ':=look [(106,some (.box [.pv (vStr ⟨#[]⟩),iInt 0,iInt 0,.pv (.val (.slice none 0 0)),.pv (.val (.slice none 0 0))])),(2001,some (z3a l { g with types:=[],left:=30 })),(2002,some (rowI []))]) (lkq [106,2001,2002] rfl rfl ⟨rfl,rfl,rfl,trivial⟩) <| tG <| sm 2 rfl <| cE rfl (y5q (k0:=2005) (yb4 l params { g with types:=[],left:=30 } (by show 0+params.length<=1000000;omega)) y6f rfl rfl (sRf _ _) (po2 rfl rfl) rfl rfl rfl rfl rfl (fun k (h:_)=>.inr h) rfl (by rfl)) <| sm 1 rfl <| nL <| tQ <| tG ?_
  refine sm 1 rfl <| cE rfl (ocr (zd4 l 1 (z0i params { g with types:=[],left:=30 }).2 oM0) ent35 rfl (po2 rfl rfl) rfl (fun k (h:_)=>.inr h) rfl rfl) <| sm 1 rfl ?_
  refine cE rfl (ocr (zd4 l 2 (z08 1 (z0i params { g with types:=[],left:=30 }).2).2 (by simp only [z08,List.length_append,List.length_cons,List.length_nil];omega)) ent35 rfl (po2 rfl rfl) rfl (fun k (h:_)=>.inr h) rfl rfl) ?_
  refine sm 2 rfl <| nL <| tQ <| tG <| sm 1 rfl <| cE rfl (bSl rfl rfl uT35 tZ3 tS3 rfl rfl rfl rfl (fbk rfl) rfl) <| cV rfl (bPu rfl rfl tZ42 tP42 rfl (fbk rfl) rfl) <| WL.sub (Sub.cons2 (fun _ _ _ _ h=>z6j (z13 _) h) Sub.rfl') <| sm 1 rfl <| cE rfl (bSl rfl rfl uT35 tZ3 tS3 rfl rfl rfl rfl (fbk rfl) rfl) <| cV rfl (bPu rfl rfl tZ42 tP42 rfl (fbk rfl) rfl) <| WL.sub (Sub.cons2 (fun _ _ _ _ h=>z6j (z13 _) h) Sub.rfl') ?_
  refine cE rfl (z7r (k:=110) rfl rfl uT43 tZ42 tS42 rfl rfl rfl rfl (fbk rfl) rfl rfl rfl rfl rfl) <| sm 1 rfl <| nL <| tQ <| tG <| sm 3 rfl <| cE rfl (bSl rfl rfl uT35 tZ3 tS3 rfl rfl rfl rfl (fbk rfl) rfl) ?_
  refine cE rfl (aPp rfl rfl rfl rfl (by rfl) sI0 uT35 tB3 dC0 (by simp [z07]) (z5f (l:=[(z08 1 (z0i params { g with types:=[],left:=30 }).2).1,(z08 2 (z08 1 (z0i params { g with types:=[],left:=30 }).2).2).1])) (by simp [maxLen,z07];omega) (by simp [z07];omega)) ?_
  refine sm 1 rfl <| nL <| tQ ?_
  refine Tr.heap (σ':=look [(106,some (.box [.pv (vStr ⟨#[]⟩),iInt 0,iInt 0,.pv (.val (.slice none 0 0)),.pv (.val (.slice none 0 0))])),(110,some (.row ⟨42,8⟩ ((zn7 (z08 1 (z0i params { g with types:=[],left:=30 }).2).1 (z08 2 (z08 1 (z0i params { g with types:=[],left:=30 }).2).2).1).map Nd.enc))),(2005,some (rowI ((z0i params { g with types:=[],left:=30 }).1++[(z08 1 (z0i params { g with types:=[],left:=30 }).2).1,(z08 2 (z08 1 (z0i params { g with types:=[],left:=30 }).2).2).1]))),(2001,some (z3a l (z08 2 (z08 1 (z0i params { g with types:=[],left:=30 }).2).2).2)),(2002,some (rowI (z08 2 (z08 1 (z0i params { g with types:=[],left:=30 }).2).2).2.types))]) (lkq [106,110,2005,2001,2002] rfl rfl ⟨rfl,rfl,(congrArg (fun z=>some (HO.row _ z)) (by simp [z07,eInt])),rfl,rfl,trivial⟩) ?_
  refine tG <| sm 3 rfl <| cV rfl (bPu rfl rfl tZ74 tP74 rfl (fbk rfl) rfl) ?_
  have hli:=z74 l 3 ((z0i params { g with types:=[],left:=30 }).1++[(z08 1 (z0i params { g with types:=[],left:=30 }).2).1,(z08 2 (z08 1 (z0i params { g with types:=[],left:=30 }).2).2).1]) plc0 (z08 2 (z08 1 (z0i params { g with types:=[],left:=30 }).2).2).2 ⟨by simp [plc0],by simp [plc0],by simp [plc0]⟩
  have hrl:=zn8 l 3 ((z0i params { g with types:=[],left:=30 }).1++[(z08 1 (z0i params { g with types:=[],left:=30 }).2).1,(z08 2 (z08 1 (z0i params { g with types:=[],left:=30 }).2).2).1]) plc0 (z08 2 (z08 1 (z0i params { g with types:=[],left:=30 }).2).2).2
  refine cE rfl (cRr (yb3 l ((z0i params { g with types:=[],left:=30 }).1++[(z08 1 (z0i params { g with types:=[],left:=30 }).2).1,(z08 2 (z08 1 (z0i params { g with types:=[],left:=30 }).2).2).1]) plc0 (z08 2 (z08 1 (z0i params { g with types:=[],left:=30 }).2).2).2 hin ⟨by simp [plc0],by simp [plc0],by simp [plc0]⟩ oM0 oM0 (by simp;omega)) y8q rfl rfl (sSm rfl (sSm (congrArg (fun n=>IV.sl 2005 n) (by simp [z5e])) (Subs.cons (fun _ _ _ _ h=>z6j plc0_sub h) (sSm rfl Subs.nil)))) (po3 rfl rfl rfl) (by rfl) (fun k (h:_)=>.inr h) rfl (by rfl)) ?_
  refine cE rfl (aPp rfl rfl rfl rfl (by rfl) ((fun h=>h)) uT43 tB42 dC0 (zy4) (zo2) (by simp [maxLen,z07];omega) (by simp [z07];omega)) ?_
  refine sm 1 rfl <| nL <| tQ ?_
  refine Tr.freeze (t:=10) (k:=110) rfl rfl (by simp [z07,zn7];omega) ?_
  refine Tr.freezeCell (k:=2002) (k2:=2001) (j:=2) (n:=((z2w l 3 ((z0i params { g with types:=[],left:=30 }).1++[(z08 1 (z0i params { g with types:=[],left:=30 }).2).1,(z08 2 (z08 1 (z0i params { g with types:=[],left:=30 }).2).2).1]) plc0 (z08 2 (z08 1 (z0i params { g with types:=[],left:=30 }).2).2).2).2.types.map eInt).length) rfl rfl rfl rfl dC0 <| tG <| sm 2 rfl <| cV rfl (oSm uT35 rfl) <| sm 1 rfl <| cV rfl (nCk rfl rfl rfl) <| sm 3 rfl <| cV rfl (bPu rfl rfl tZ51 tP51 rfl (fbk rfl) rfl) <| c0 (sBA rfl rfl rfl rfl rfl ((fun h=>h)) tS51 (flk rfl) (lb rfl)) <| nL <| tRt <| rCk (.inl rfl) (fun _ _ ho=>lBP ho rfl rfl Tryz.underlying51 rfl tS51 (lb rfl) rfl trivial) ?_ (po1 rfl)
  rfl
set_option maxRecDepth 20000
set_option maxHeartbeats 2000000
theorem sc_made (l:List UInt8):SC Tryz.prog 10 [.pv (bts l)] [] (fun _=>False) (.pv (made l).enc) []:=by
  refine SC.anyR (SC.vc tb { ids:=[(7,2001)],gh:=[(5,[.fzC 104 1 116])] } [] Tryz.func10 rfl rfl ?_)
  have hb1:(z2v l z0c [] ⟨0,[],0⟩).2.pos<=2000:=y93 l z0c [] ⟨0,[],0⟩ sI0 sI0
  have h1:=y5y l z0c [] sI0 ⟨0,[],0⟩ sI0 (.val (.slice none 0 0))
  have h2:=y5y l z3k [1,2] sI0 (z2v l z0c [] ⟨0,[],0⟩).2 oM0 (ints (z2v l z0c [] ⟨0,[],0⟩).2.types)
  exact ⟨[],h1,SubA.same (SubA.same (SubA.cons sN sR)),⟨rfl,trivial⟩,rfl,rfl,y6i rfl,by simp,rfl,[],h2,sR,⟨rfl,trivial⟩,rfl,rfl,y6i rfl,by simp,rfl,rfl,sI,trivial⟩
theorem sc_run0 (u:Un) (hu:u.arrays=[]) (hW:z0s u<=536870912) (hz:(z19 u).1=0) (ins:List Int) (fuel:Int) (d:Nat) (r:Int × Rs) (h:z3m u d (z02 z0c u.flows 0) [] (run0 ins fuel)=some r):SC Tryz.prog 17 [.pv u.enc,.pv (ints ins),iInt fuel] [] (fun _=>False) (.pv (runv (mEnd r))) []:=by
  obtain ⟨ar,fs⟩:=u
  obtain rfl:ar=[]:=hu
  exact ye5 fs hW hz ins fuel d r h
theorem y47 (N:Nat):∀ (l:List Nd),SizeOf.sizeOf l<N->SC Tryz.prog 24 [.pv (z0j l)] [] (fun _=>False) (iBool (z3v l)) []:=by
  induction N with
  | zero=>intro l hN;exact absurd hN (Nat.not_lt_zero _)
  | succ N ih =>
    intro l hN
    refine SC.of Tryz.func24 rfl (lb rfl) fun F ρ w=>?_
    refine Tr.lenOf (t:=0) rfl (fun hl=>?_)
    simp only [List.length_map] at hl
    refine tQ <| tG <| sm 1 rfl <| nL <| tQ <| tQ <| tG <| sm 1 rfl <| nL <| tBk <| Tr.sub (Sub.of (fr':=[(3,iInt 0),(0,.pv (z0j l))]) ⟨rfl,rfl,trivial⟩) ?_
    refine Tr.loop (fun fr σ m=>∃ (k:Nat),(k<=l.length)/\(z3v l=z3v (l.drop k))/\fr=[(3,iInt k),(0,.pv (z0j l))] /\ σ = look []/\m=l.length - k) (n:=l.length - 0) ?_ ?_
    ·exact ⟨0,Nat.zero_le _,rfl,rfl,rfl,rfl⟩
    rintro fr σ m ⟨k,hI0,hI1,rfl,rfl,rfl⟩
    refine tQ <| tQ <| tG <| sm 2 rfl <| cV rfl (oSm uT43 rfl) <| sm 1 rfl <| nL ?_
    refine tC rfl (fun hc9=>?_) fun hc9=>?_
    ·have hlt:k<l.length:=by simpa using hc9
     have hd:=List.drop_eq_getElem_cons hlt
     have hm:=List.getElem_mem hlt
     have hi:=z0g (List.getElem?_eq_getElem hlt)
     generalize l[k]=x at hd hm hi
     refine tSk <| tQ <| tBk <| tQ <| tG <| sm 2 rfl <| cV rfl (iSq rfl rfl rfl uT43 hi tS42 rfl (by rfl)) <| cV rfl (lEA rfl rfl uT42 rfl tS42 (lb rfl)) <| cE rfl (aLc (k:=104) rfl tZ42 rfl rfl rfl rfl) <| c0 (sBA rfl rfl rfl rfl rfl ((fun h=>h)) tS42 (flk rfl) (lb rfl)) <| nL <| tQ ?_
     refine tQ <| Tr.freezeBox (t:=4) (k:=104) rfl rfl rfl <| Tr.heap (σ':=look []) (fun k=>by simp only [look];cases Nat.beq 104 k<;>rfl) ?_
     refine Tr.cut (fr':=[(54,iBool (z9s x)),(4,.pv (.ept [vInt x.kind,vInt x.op,vInt x.n,vStr x.name,ints x.args,ints x.outs,ints x.params,kids x.kids] 0)),(3,iInt k),(0,.pv (z0j l))]) (σ':=look []) ?_ ?_
     ·refine tDr z7w (fun k=>k∈([]:List Nat)) <| wR 15 [0,1,2,3,4,5,6,7,8,9,10,11,12,13,14,15,16,17,18,19,20,21,22,23] kR0 (fun _ _ _ h=>pn h.1) <| smR 4 rfl ?_
      refine WR.split (t:=19) rfl (fun hb19=>?_) (fun hb19=>?_)
      ·refine smR 2 rfl <| ryV rfl rfl rfl (oSm uT40 rfl) <| smR 3 rfl ?_
       refine WR.split (t:=25) rfl (fun hb25=>?_) (fun hb25=>?_)
       ·obtain ⟨q0,hq0⟩:∃ q,x.kids=[q]:=List.length_eq_one_iff.1 (by have:=hb25;simp at this;omega)
        have hiq:(x.kids.map eKid)[0]? = some [z0j q0]:=by rw [hq0];rfl
        refine smR 2 rfl <| ryV rfl rfl rfl (iSq rfl rfl rfl uT40 hiq tS43 rfl (by rfl)) <| smR 1 rfl <| ryV rfl rfl rfl (oSm uT43 rfl) <| smR 3 rfl ?_
        refine WR.split (t:=33) rfl (fun hb33=>?_) (fun hb33=>?_)
        ·obtain ⟨y,yr,hy⟩:∃ y yr,q0=y::yr:=List.exists_cons_of_ne_nil (by intro e;simp_all)
         have hiy:=z0g (l:=q0) (i:=0) (x:=y) (by rw [hy];rfl)
         refine smR 2 rfl <| ryV rfl rfl rfl (iSq rfl rfl rfl uT40 hiq tS43 rfl (by rfl)) <| smR 1 rfl <| ryV rfl rfl rfl (iSq rfl rfl rfl uT43 hiy tS42 rfl (by rfl)) <| ryV rfl rfl rfl (lEA rfl rfl uT42 rfl tS42 (lb rfl)) <| nR <| wO 24 kR0 <| wY rfl rfl rfl nf nw (fun _ _=>ocq (sc_idle y) ent40 rfl rfl) <| wR 3 [25,26,27,28,29,30,31,32,33,34,35] kR0 (fun _ _ _ h=>pn h.1) <| smR 2 rfl ?_
         refine WR.split (t:=42) rfl (fun hb42=>?_) (fun hb42=>?_)
         ·refine smR 2 rfl <| ryV rfl rfl rfl (iSq rfl rfl rfl uT40 hiq tS43 rfl (by rfl)) <| smR 1 rfl <| ryV rfl rfl rfl (iSq rfl rfl rfl uT43 hiy tS42 rfl (by rfl)) <| smR 4 rfl <| nR <| wO 36 kR0 <| wY rfl rfl rfl nf nw (fun _ _=>ocq (sc_any y.args x.params) ent41 rfl rfl) <| wR 0 [37,38] kR0 (fun _ _ _ h=>pn h.1) <| smR 2 rfl <| nR <| wDn kR0 ?_
          refine ⟨rfl,Sub.of ⟨?_,rfl,rfl,rfl,trivial⟩,rfl⟩
          refine congrArg (fun b=>some (iBool b)) ?_
          unfold z9s
          simp_all
         refine smR 9 rfl <| nR <| wN 36 kR0 (fun _ _ _ h=>pn h.1) rfl rfl rfl <| wR 0 [37,38] kR0 (fun _ _ _ h=>pn h.1) <| smR 2 rfl <| nR <| wDn kR0 ?_
         refine ⟨rfl,Sub.of ⟨?_,rfl,rfl,rfl,trivial⟩,rfl⟩
         refine congrArg (fun b=>some (iBool b)) ?_
         unfold z9s
         simp_all
        refine smR 6 rfl <| nR <| wN 24 kR0 (fun _ _ _ h=>pn h.1) rfl rfl rfl <| wR 3 [25,26,27,28,29,30,31,32,33,34,35] kR0 (fun _ _ _ h=>pn h.1) <| smR 11 rfl <| nR <| wN 36 kR0 (fun _ _ _ h=>pn h.1) rfl rfl rfl <| wR 0 [37,38] kR0 (fun _ _ _ h=>pn h.1) <| smR 2 rfl <| nR <| wDn kR0 ?_
        refine ⟨rfl,Sub.of ⟨?_,rfl,rfl,rfl,trivial⟩,rfl⟩
        refine congrArg (fun b=>some (iBool b)) ?_
        unfold z9s
        simp_all
       refine smR 14 rfl <| nR <| wN 24 kR0 (fun _ _ _ h=>pn h.1) rfl rfl rfl <| wR 3 [25,26,27,28,29,30,31,32,33,34,35] kR0 (fun _ _ _ h=>pn h.1) <| smR 11 rfl <| nR <| wN 36 kR0 (fun _ _ _ h=>pn h.1) rfl rfl rfl <| wR 0 [37,38] kR0 (fun _ _ _ h=>pn h.1) <| smR 2 rfl <| nR <| wDn kR0 ?_
       refine ⟨rfl,Sub.of ⟨?_,rfl,rfl,rfl,trivial⟩,rfl⟩
       refine congrArg (fun b=>some (iBool b)) ?_
       unfold z9s
       (rcases hxk:x.kids with _ | ⟨_ | ⟨y',r'⟩,_ | ⟨q',r''⟩⟩<;>simp_all;done)
      refine smR 20 rfl <| nR <| wN 24 kR0 (fun _ _ _ h=>pn h.1) rfl rfl rfl <| wR 3 [25,26,27,28,29,30,31,32,33,34,35] kR0 (fun _ _ _ h=>pn h.1) <| smR 11 rfl <| nR <| wN 36 kR0 (fun _ _ _ h=>pn h.1) rfl rfl rfl <| wR 0 [37,38] kR0 (fun _ _ _ h=>pn h.1) <| smR 2 rfl <| nR <| wDn kR0 ?_
      refine ⟨rfl,Sub.of ⟨?_,rfl,rfl,rfl,trivial⟩,rfl⟩
      refine congrArg (fun b=>some (iBool b)) ?_
      unfold z9s
      simp_all
     refine tC rfl (fun hc54=>?_) fun hc54=>?_
     ·refine tQ <| tG <| sm 1 rfl <| nL <| tRt <| rOk rfl ?_ nPo
      have hf:z9s x=true:=hc54
      rw [hI1,hd]
      simp only [z3v,zx9,hf,Bool.not_true,Bool.false_and]
     refine tSk <| tQ ?_
     have hf:z9s x=false:=hc54
     refine tG <| sm 1 rfl <| nL <| tBk <| Tr.sub (Sub.of (fr':=[(5,iInt 0),(4,.pv (.ept [vInt x.kind,vInt x.op,vInt x.n,vStr x.name,ints x.args,ints x.outs,ints x.params,kids x.kids] 0)),(3,iInt k),(0,.pv (z0j l))]) ⟨rfl,rfl,rfl,rfl,trivial⟩) ?_
     refine Tr.loop (fun fr σ m=>∃ (i:Nat),(i<=x.kids.length)/\(zf1 x.kids=zf1 (x.kids.drop i))/\fr=[(5,iInt i),(4,.pv (.ept [vInt x.kind,vInt x.op,vInt x.n,vStr x.name,ints x.args,ints x.outs,ints x.params,kids x.kids] 0)),(3,iInt k),(0,.pv (z0j l))] /\ σ = look []/\m=x.kids.length - i) (n:=x.kids.length - 0) ?_ ?_
     ·exact ⟨0,Nat.zero_le _,rfl,rfl,rfl,rfl⟩
     rintro fr σ m ⟨i,hJ0,hJ1,rfl,rfl,rfl⟩
     refine tQ <| tQ <| tG <| sm 3 rfl ?_
     refine WL.lenOf (t:=57) rfl (fun hl2=>?_)
     simp only [List.length_map] at hl2
     refine cV rfl (oSm uT40 rfl) <| sm 1 rfl <| nL ?_
     refine tC rfl (fun hc59=>?_) fun hc59=>?_
     ·have hlt2:i<x.kids.length:=by simpa using hc59
      have hd2:=List.drop_eq_getElem_cons hlt2
      have hm2:=List.getElem_mem hlt2
      have hi2:=z06 (f:=eKid) (List.getElem?_eq_getElem hlt2)
      generalize x.kids[i]=q at hd2 hm2 hi2
      have hdec:SizeOf.sizeOf q<N:=Nat.lt_of_lt_of_le (z6p hm rfl hm2) (Nat.le_of_lt_succ hN)
      refine tSk <| tQ <| tBk <| tQ <| tG <| sm 3 rfl <| cV rfl (iSq rfl rfl rfl uT40 hi2 tS43 rfl (by rfl)) <| sm 1 rfl <| cE rfl (ocq (ih q hdec) ent24 rfl rfl) <| sm 1 rfl <| nL ?_
      refine tC rfl (fun hc68=>?_) fun hc68=>?_
      ·refine tQ <| tG <| sm 1 rfl <| nL <| tRt <| rOk rfl ?_ nPo
       have hq:z3v q=false:=by simpa using hc68
       rw [hI1,hd]
       simp only [z3v,zx9,hJ1,hd2,zf1,hq,Bool.false_and,Bool.and_false]
      refine tSk <| tG <| sm 1 rfl <| cV rfl (oB rfl rfl (z03 rfl oM0)) <| sm 1 rfl <| nL ?_
      refine ⟨_,_,?_,Sub.of (fr':=[(5,iInt (i+1)),(4,.pv (.ept [vInt x.kind,vInt x.op,vInt x.n,vStr x.name,ints x.args,ints x.outs,ints x.params,kids x.kids] 0)),(3,iInt k),(0,.pv (z0j l))]) ⟨rfl,rfl,rfl,rfl,trivial⟩,(i+1),?_,?_,rfl,rfl,rfl⟩
      ·omega
      ·omega
      rw [hJ1,hd2]
      have hq:z3v q=true:=by simpa using hc68
      simp only [zf1,hq,Bool.true_and]
     have hxf:y8z x=true:=by
       have hge:x.kids.length<=i:=by simpa using hc59
       rw [zx9,hf,hJ1,List.drop_eq_nil_of_le hge]
       rfl
     refine tEx <| tG <| sm 1 rfl <| cV rfl (oB rfl rfl (z03 rfl oM0)) <| sm 1 rfl <| nL ?_
     refine ⟨_,_,?_,Sub.of (fr':=[(3,iInt (k+1)),(0,.pv (z0j l))]) ⟨rfl,rfl,trivial⟩,(k+1),?_,?_,rfl,rfl,rfl⟩
     ·omega
     ·omega
     rw [hI1,hd]
     simp only [z3v,hxf,Bool.true_and]
    refine tEx <| tQ <| tG <| sm 1 rfl <| nL <| tRt <| rOk rfl ?_ nPo
    have hge:l.length<=k:=by simpa using hc9
    rw [hI1,List.drop_eq_nil_of_le hge]
    rfl
theorem sc_fine (l:List Nd):SC Tryz.prog 24 [.pv (z0j l)] [] (fun _=>False) (iBool (z3v l)) []:=y47 _ l (Nat.lt_succ_self _)
theorem sc_right (u:Un):SC Tryz.prog 12 [.pv u.enc] [] (fun _=>False) (iBool (y12 u)) []:=by
  refine SC.of Tryz.func12 rfl (lb rfl) fun F ρ w=>?_
  refine tQ <| tG <| cE rfl (z2r rfl rfl) <| sm 1 rfl <| nL <| tQ <| tQ <| tG <| sm 1 rfl <| nL <| tBk <| Tr.sub (Sub.of (fr':=[(3,iInt 0),(1,.pv (.ept [arrs u.arrays,flws u.flows] 0))]) ⟨rfl,rfl,trivial⟩) ?_
  refine Tr.loop (fun fr σ m=>∃ (k:Nat),(k<=u.flows.length)/\(y12 u=(u.flows.drop k).all (fun f=>z3v f.body))/\fr=[(3,iInt k),(1,.pv (.ept [arrs u.arrays,flws u.flows] 0))] /\ σ = look []/\m=u.flows.length - k) (n:=u.flows.length - 0) ?_ ?_
  ·exact ⟨0,Nat.zero_le _,rfl,rfl,rfl,rfl⟩
  rintro fr σ m ⟨k,hI0,hI1,rfl,rfl,rfl⟩
  refine tQ <| tQ <| tG <| sm 3 rfl ?_
  refine WL.lenOf (t:=6) rfl (fun hl2=>?_)
  simp only [List.length_map] at hl2
  refine cV rfl (oSm uT23 rfl) <| sm 1 rfl <| nL ?_
  refine tC rfl (fun hc8=>?_) fun hc8=>?_
  ·have hlt:k<u.flows.length:=by simpa using hc8
   have hd:=List.drop_eq_getElem_cons hlt
   have hm:=List.getElem_mem hlt
   have hi:=z06 (f:=Fl.enc) (List.getElem?_eq_getElem hlt)
   generalize u.flows[k]=x at hd hm hi
   refine tSk <| tQ <| tBk <| tQ <| tG <| sm 3 rfl <| cV rfl (iSq rfl rfl rfl uT23 hi tS51 rfl (by rfl)) <| sm 2 rfl <| cE rfl (ocq (sc_fine x.body) ent24 rfl rfl) <| sm 1 rfl <| nL ?_
   refine tC rfl (fun hc18=>?_) fun hc18=>?_
   ·refine tQ <| tG <| sm 1 rfl <| nL <| tRt <| rOk rfl ?_ nPo
    have hq:z3v x.body=false:=by simpa using hc18
    rw [hI1,hd]
    simp only [List.all_cons,hq,Bool.false_and]
   refine tSk <| tG <| sm 1 rfl <| cV rfl (oB rfl rfl (z03 rfl oM0)) <| sm 1 rfl <| nL ?_
   refine ⟨_,_,?_,Sub.of (fr':=[(3,iInt (k+1)),(1,.pv (.ept [arrs u.arrays,flws u.flows] 0))]) ⟨rfl,rfl,trivial⟩,(k+1),?_,?_,rfl,rfl,rfl⟩
   ·omega
   ·omega
   rw [hI1,hd]
   have hq:z3v x.body=true:=by simpa using hc18
   simp only [List.all_cons,hq,Bool.true_and]
  refine tEx <| tQ <| tG <| sm 1 rfl <| nL <| tRt <| rOk rfl ?_ nPo
  have hge:u.flows.length<=k:=by simpa using hc8
  rw [hI1,List.drop_eq_nil_of_le hge]
  rfl
theorem yd3 (ts:List Int) (l:List Nd):SC Tryz.prog 16 [.pv (ints ts),.pv (z0j l)] [] (fun _=>False) (.pv (.agg [.val (.slice none 0 0),flws [⟨z0c,1,0,ts,l⟩]])) []:=by
  refine SC.ofC Tryz.func16 rfl (lb rfl) rfl fun F ρ w=>?_
  refine tQ <| tG <| cE rfl (aLc (k:=104) rfl tZ25 rfl rfl rfl rfl) <| nL <| tQ <| tG <| sm 2 rfl <| cV rfl (bPu rfl rfl tZ51 tP51 rfl (fbk rfl) rfl) <| cE rfl (bSl rfl rfl uT23 tZ51 tS51 rfl rfl rfl rfl (fbk rfl) rfl) <| cV rfl (bPu rfl rfl tZ25 tP25 rfl (fbk rfl) rfl) <| c0 (sBA rfl rfl rfl rfl rfl ((fun h=>h)) tS25 (flk rfl) (lb rfl)) <| nL ?_
  refine tRt <| rCk (.inl rfl) (fun _ _ ho=>lBP ho rfl rfl uT25 rfl tS25 (lb rfl) rfl trivial) ?_ nPo
  rfl
mutual
def kdN:Nd->Bool
  | .mk kind _ _ _ _ _ _ ks=>decide (1<=kind)&&kdK ks
def kdL:List Nd->Bool
  | []=>true
  | x::r=>kdN x&&kdL r
def kdK:List (List Nd)->Bool
  | []=>true
  | l::r=>kdL l&&kdK r
end
theorem kdN_eq (x:Nd):kdN x=(decide (1<=x.kind)&&kdK x.kids):=by cases x;simp only [kdN];rfl
theorem z83:∀ a b:List Nd,z3v (a++b)=(z3v a&&z3v b)
  | [],b=>by simp [z3v]
  | x::a,b=>by simp only [List.cons_append,z3v,z83 a b,Bool.and_assoc]
theorem zg0:∀ a b:List Nd,kdL (a++b)=(kdL a&&kdL b)
  | [],b=>by simp [kdL]
  | x::a,b=>by simp only [List.cons_append,kdL,zg0 a b,Bool.and_assoc]
theorem zq0:∀ (l:List Nd) (vs:List Int),z3v l=true->z3v (z0n vs l).1=true/\z3v (z0n vs l).2=true
  | [],_,_=>⟨rfl,rfl⟩
  | x::r,vs,h=>by
    simp only [z3v,Bool.and_eq_true] at h
    unfold z0n
    split
    ·split
     ·have:=zq0 r (vs++[x.outs.headD 0]) h.2
      exact ⟨this.1,by simp only [z3v,Bool.and_eq_true];exact ⟨h.1,this.2⟩⟩
     have:=zq0 r vs h.2
     exact ⟨by simp only [z3v,Bool.and_eq_true];exact ⟨h.1,this.1⟩,this.2⟩
    exact ⟨rfl,by simp only [z3v,Bool.and_eq_true];exact h⟩
theorem y3x:∀ (l:List Nd) (vs:List Int),kdL l=true->kdL (z0n vs l).1=true/\kdL (z0n vs l).2=true
  | [],_,_=>⟨rfl,rfl⟩
  | x::r,vs,h=>by
    simp only [kdL,Bool.and_eq_true] at h
    unfold z0n
    split
    ·split
     ·have:=y3x r (vs++[x.outs.headD 0]) h.2
      exact ⟨this.1,by simp only [kdL,Bool.and_eq_true];exact ⟨h.1,this.2⟩⟩
     have:=y3x r vs h.2
     exact ⟨by simp only [kdL,Bool.and_eq_true];exact ⟨h.1,this.1⟩,this.2⟩
    exact ⟨rfl,by simp only [kdL,Bool.and_eq_true];exact h⟩
theorem y1u:∀ (l:List Nd) (vs:List Int) (y:Nd) (q:List Nd),(z0n vs l).2=y::q->z0x y=false∨(y.args.any fun v=>vs.contains v)=true
  | [],_,_,_,h=>by simp [z0n] at h
  | x::r,vs,y,q,h=>by
    unfold z0n at h
    split at h
    ·split at h
     ·rename_i h1 h2
      cases h
      exact .inr h2
     exact y1u r vs y q h
    rename_i h1
    cases h
    exact .inl (by simpa using h1)
theorem y3g {y:Nd} (h:1<=y.kind) (hm:z0x y=false):y11 y=false:=by
  simp only [z0x,Bool.or_eq_false_iff,beq_eq_false_iff_ne] at hm
  obtain ⟨⟨⟨h1,h2⟩,h3⟩,h4⟩:=hm
  simp only [y11,h4,Bool.or_false,decide_eq_false_iff_not]
  omega
theorem y0u (l vs:List Int):(l.any fun v=>vs.contains v)=fAny l vs:=by
  unfold fAny
  congr 1
  funext v
  exact List.contains_eq_any_beq
theorem out_fine (kind op n:Int) (name:ByteArray) (args outs params:List Int) (ks:List (List Nd)) (h0:1<=kind) (hk:kdK ks=true) (hf:zf1 ks=true) :
    kdL (hOut kind op n name args outs params ks)=true/\z3v (hOut kind op n name args outs params ks)=true:=by
  have one:∀ ks',kdK ks'=true->zf1 ks'=true->z9s (.mk kind op n name args outs params ks')=false->kdL [.mk kind op n name args outs params ks']=true/\z3v [.mk kind op n name args outs params ks']=true:=by
    intro ks' h1 h2 h3
    simp only [kdL,kdN,z3v,y8z,h1,h2,h3,Bool.and_true,Bool.not_false,decide_eq_true_eq]
    exact ⟨h0,trivial⟩
  unfold hOut
  split
  ·rename_i h11
   cases ks with
   | nil=>exact one [] rfl rfl (by simp [z9s,Nd.kids])
   | cons b r =>
     simp only [kdK,zf1,Bool.and_eq_true] at hk hf
     have p1:=zq0 b params hf.1
     have p2:=y3x b params hk.1
     have hh:z9s (.mk kind op n name args outs params ((z0n params b).2::r))=false:=by
       unfold z9s
       simp only [Nd.kids,Nd.params]
       split
       ·rename_i y q he
        cases he':(z0n params b).2 with
        | nil=>rw [he'] at he;simp at he
        | cons z w =>
          rw [he'] at he
          simp only [List.cons.injEq] at he
          obtain ⟨⟨rfl,_⟩,_⟩:=he
          have hkd:=p2.2
          rw [he'] at hkd
          simp only [kdL,kdN_eq,Bool.and_eq_true,decide_eq_true_eq] at hkd
          rcases y1u b params _ _ he' with h1 | h1
          ·rw [y3g hkd.1.1 h1];simp
          rw [y0u] at h1
          rw [h1];simp
       simp
     have h1:=one ((z0n params b).2::r) (by simp only [kdK,Bool.and_eq_true];exact ⟨p2.2,hk.2⟩) (by simp only [zf1,Bool.and_eq_true];exact ⟨p1.2,hf.2⟩) hh
     simp only [zg0,z83,Bool.and_eq_true]
     exact ⟨⟨p2.1,h1.1⟩,⟨p1.1,h1.2⟩⟩
  rename_i h11
  exact one ks hk hf (by simp [z9s,Nd.kind,h11])
mutual
theorem fineN_h:∀ x:Nd,kdN x=true->kdL (z2p x)=true/\z3v (z2p x)=true
  | .mk kind op n name args outs params ks,h=>by
    simp only [kdN,Bool.and_eq_true,decide_eq_true_eq] at h
    have:=y8y ks h.2
    unfold z2p
    exact out_fine kind op n name args outs params _ h.1 this.1 this.2
theorem y38:∀ l:List Nd,kdL l=true->kdL (z0u l)=true/\z3v (z0u l)=true
  | [],_=>⟨rfl,rfl⟩
  | x::r,h=>by
    simp only [kdL,Bool.and_eq_true] at h
    have h1:=fineN_h x h.1
    have h2:=y38 r h.2
    simp only [z0u,zg0,z83,Bool.and_eq_true]
    exact ⟨⟨h1.1,h2.1⟩,⟨h1.2,h2.2⟩⟩
theorem y8y:∀ ks:List (List Nd),kdK ks=true->kdK (z2e ks)=true/\zf1 (z2e ks)=true
  | [],_=>⟨rfl,rfl⟩
  | l::r,h=>by
    simp only [kdK,Bool.and_eq_true] at h
    have h1:=y38 l h.1
    have h2:=y8y r h.2
    simp only [z2e,kdK,zf1,Bool.and_eq_true]
    exact ⟨⟨h1.1,h2.1⟩,⟨h1.2,h2.2⟩⟩
end
theorem y75 {u:Un} {f:Fl} {x:Nd} {s:List Int} {w:Wh} {tys outs:List Int} (h:(z3d u f x s w).ok tys outs=true):1<=x.kind:=by
  rcases Int.lt_or_le x.kind 1 with hk | hk
  ·exfalso
   have e:∀ n:Int,1<=n->(x.kind==n)=false:=fun n hn=>by simp only [beq_eq_false_iff_ne];omega
   unfold z3d at h
   simp only [e 1 oM0,e 2 oM0,e 3 oM0,e 4 oM0,e 5 oM0,e 6 oM0,e 7 oM0,e 8 oM0,e 9 oM0,e 12 oM0,e 13 oM0,e 14 oM0,e 15 oM0,Bool.false_eq_true,if_false] at h
   simp [SForm.ok] at h
  exact hk
mutual
theorem y9i (u:Un) (f:Fl):∀ (x:Nd) (deep:Int) (w:Wh) (s:List Int),z3s u f deep w s x=true->kdN x=true
  | .mk kind op n name args outs params ks,deep,w,s,h=>by
    have hb:=z1x u f deep w s h
    simp only [kdN,Bool.and_eq_true,decide_eq_true_eq]
    by_cases h10:kind=10
    ·refine ⟨by omega,?_⟩
     obtain ⟨a,b,hk⟩:=z34 hb h10
     rw [z46 u f deep w s hb h10 hk] at h
     simp only [Bool.and_eq_true,z2j] at h
     simp only [Nd.kids] at hk
     match ks,hk with
     | [a',b'],hk =>
       cases hk
       simp only [kdK,Bool.and_eq_true,Bool.and_true]
       exact ⟨z88 u f a _ _ _ h.1.1.1.2.2,z88 u f b _ _ _ h.1.1.2.2⟩
    by_cases h11:kind=11
    ·refine ⟨by omega,?_⟩
     obtain ⟨a,hk⟩:=z1o hb h11
     rw [z2d u f deep w s hb h11 hk] at h
     simp only [Bool.and_eq_true,z2j] at h
     simp only [Nd.kids] at hk
     match ks,hk with
     | [a'],hk =>
       cases hk
       simp only [kdK,Bool.and_true]
       exact z88 u f a _ _ _ h.1.1.2.2
    have e10:(kind==10)=false:=by simpa using h10
    have e11:(kind==11)=false:=by simpa using h11
    have hk0:=z6o hb e10 e11
    simp only [Nd.kids] at hk0
    rw [z1r u f deep w s hb e10 e11] at h
    exact ⟨y75 h,by rw [hk0];rfl⟩
theorem z88 (u:Un) (f:Fl):∀ (l:List Nd) (deep:Int) (w:Wh) (s:List Int),vGo u f deep w s l=true->kdL l=true
  | [],_,_,_,_=>rfl
  | x::r,deep,w,s,h=>by
    simp only [vGo,Bool.and_eq_true] at h
    simp only [kdL,Bool.and_eq_true]
    exact ⟨y9i u f x _ _ _ h.1.1.2,z88 u f r _ _ _ h.2⟩
end
theorem kd_valid {u:Un} (h:(z49 u).1=0):∀ f∈u.flows,kdL f.body=true:=by
  rw [z9b] at h
  intro f hf
  have hF:=((z51 u).1 h).2 f hf
  unfold z33 at hF
  simp only [Bool.and_eq_true] at hF
  obtain ⟨h1,h2⟩:=hF
  have hp:f.params.toNat<=f.types.length:=by
    have a1:=h1.1.1.1.1
    have a2:=h1.1.1.2
    simp only [Bool.not_eq_true',decide_eq_false_iff_not] at a1 a2
    omega
  have hn:(z32 f.params.toNat f.types.length).length=f.types.length:=z1z hp
  rw [z4w u f f.body 1 z14 _ _ hn] at h2
  have hv:=h2.1
  simp only [z2j,Bool.and_eq_true] at hv
  exact z88 u f f.body _ _ _ hv.2
theorem y44 (u:Un):y12 (z4j u).1=true:=by
  unfold z4j
  split
  ·rename_i h
   unfold y12 z3l
   simp only [List.all_map,List.all_eq_true]
   intro f hf
   exact (y38 f.body (kd_valid (by simpa using h) f hf)).2
  rfl
def wakeL:List Nd:=[(.mk 1 0 1 ⟨#[]⟩ [] [0] [] []),(.mk 11 0 0 ⟨#[]⟩ [0] [4] [1] [[(.mk 1 0 10 ⟨#[]⟩ [] [2] [] []),(.mk 4 1 0 ⟨#[]⟩ [1,2] [3] [] []),(.mk 14 0 0 ⟨#[]⟩ [3] [] [] [])]]),(.mk 15 0 0 ⟨#[]⟩ [4] [] [] [])]
def y2x:Un:=⟨[],[⟨z0c,1,0,[1,1,1,1,1],wakeL⟩]⟩
theorem zh9:(z19 y2x).1=0:=by decide +kernel
theorem zt1:z0s y2x<=536870912:=by decide +kernel
theorem yh7:((z3m (z3l y2x) 20 (z02 z0c (z3l y2x).flows 0) [] (run0 [] 6)).map fun r=>(z11 r.2,r.1))=some (false,11):=by decide +kernel
theorem wake_run:∃ r,z3m (z3l y2x) 20 (z02 z0c (z3l y2x).flows 0) [] (run0 [] 6)=some r/\(mEnd r).st=1/\(mEnd r).code=11:=by
  have h:=yh7
  rw [Option.map_eq_some_iff] at h
  obtain ⟨r,h1,h2⟩:=h
  simp only [Prod.mk.injEq] at h2
  refine ⟨r,h1,?_,?_⟩
  ·simp only [mEnd,h2.1,Bool.false_eq_true,if_false]
  simp only [mEnd,h2.1,Bool.false_eq_true,if_false,h2.2]
def yh6:PV:=.seq [[vInt 1,vInt 0,vInt 1,vStr ⟨#[]⟩,.val (.slice none 0 0),.seq [[vInt 0]],.val (.slice none 0 0),.val (.slice none 0 0)],[vInt 11,vInt 0,vInt 0,vStr ⟨#[]⟩,.seq [[vInt 0]],.seq [[vInt 4]],.seq [[vInt 1]],.seq [[.seq [[vInt 1,vInt 0,vInt 10,vStr ⟨#[]⟩,.val (.slice none 0 0),.seq [[vInt 2]],.val (.slice none 0 0),.val (.slice none 0 0)],[vInt 4,vInt 1,vInt 0,vStr ⟨#[]⟩,.seq [[vInt 1],[vInt 2]],.seq [[vInt 3]],.val (.slice none 0 0),.val (.slice none 0 0)],[vInt 14,vInt 0,vInt 0,vStr ⟨#[]⟩,.seq [[vInt 3]],.val (.slice none 0 0),.val (.slice none 0 0),.val (.slice none 0 0)]]]]],[vInt 15,vInt 0,vInt 0,vStr ⟨#[]⟩,.seq [[vInt 4]],.val (.slice none 0 0),.val (.slice none 0 0),.val (.slice none 0 0)]]
theorem wake_sub:PSub yh6 (z0j wakeL):=by
  show PSub _ (.seq [_,_,_])
  repeat' (first | exact PSub.nil | exact PSub.refl _ | exact trivial | refine And.intro ?_ ?_ | refine PSub.seq (ps:=[_,_,_]) (qs:=[_,_,_]) ?_ | refine PSub.seq (ps:=[_]) (qs:=[_]) ?_)
theorem y36:z4j ⟨[],[]⟩=(⟨[],[]⟩,1):=y3f (by decide +kernel)
theorem yb1 (L:List Nd) (hL:PSub yh6 (z0j L)) (V:Un) (hH:z4j (⟨[],[⟨z0c,1,0,[1,1,1,1,1],L⟩]⟩:Un)=(V,0)) (hW:z0s (⟨[],[⟨z0c,1,0,[1,1,1,1,1],L⟩]⟩:Un)<=536870912) (hVa:V.arrays=[]) (hVl:V.flows.length=1) (hVr:y12 V=true) (hVW:z0s V<=536870912) (hVz:(z19 V).1=0) (r:Int × Rs) (hr:z3m V 20 (z02 z0c V.flows 0) [] (run0 [] 6)=some r) (h1:(mEnd r).st=1) (h2:(mEnd r).code=11):SC Tryz.prog 7 [] [] (fun _=>False) (iBool true) []:=by
  refine SC.of Tryz.func7 rfl (lb rfl) fun F ρ w=>?_
  have hsc:=y07 (⟨[],[⟨z0c,1,0,[1,1,1,1,1],L⟩]⟩:Un) hW zo0
  rw [hH] at hsc
  have hse:=y07 ⟨[],[]⟩ dC0 zo0
  rw [y36] at hse
  refine tQ <| tG <| sm 1 rfl <| nL <| tQ <| tG <| sm 1 rfl <| nL <| tQ <| tG <| cE rfl (bSl rfl rfl uT35 tZ3 tS3 rfl rfl rfl rfl (fbk rfl) rfl) <| cE rfl (bSl rfl rfl uT35 tZ3 tS3 rfl rfl rfl rfl (fbk rfl) rfl) ?_
  refine cE rfl (bSl rfl rfl uT35 tZ3 tS3 rfl rfl rfl rfl (fbk rfl) rfl) <| cE rfl (bSl rfl rfl uT35 tZ3 tS3 rfl rfl rfl rfl (fbk rfl) rfl) <| cV rfl (bPu rfl rfl tZ42 tP42 rfl (fbk rfl) rfl) <| cE rfl (bSl rfl rfl uT35 tZ3 tS3 rfl rfl rfl rfl (fbk rfl) rfl) <| cE rfl (bSl rfl rfl uT35 tZ3 tS3 rfl rfl rfl rfl (fbk rfl) rfl) <| cV rfl (bPu rfl rfl tZ42 tP42 rfl (fbk rfl) rfl) <| cE rfl (bSl rfl rfl uT35 tZ3 tS3 rfl rfl rfl rfl (fbk rfl) rfl) <| cV rfl (bPu rfl rfl tZ42 tP42 rfl (fbk rfl) rfl) <| cE rfl (bSl rfl rfl uT43 tZ42 tS42 rfl rfl rfl rfl (fbk rfl) rfl) <| cE rfl (bSl rfl rfl uT40 tZ43 tS43 rfl rfl rfl rfl (fbk rfl) rfl) <| cV rfl (bPu rfl rfl tZ42 tP42 rfl (fbk rfl) rfl) <| cE rfl (aLc (k:=102) rfl tZ42 rfl rfl rfl rfl) ?_
  refine c0 (sBA rfl rfl rfl rfl rfl ((fun h=>h)) tS42 (flk rfl) (lb rfl)) <| nL <| tQ <| tG <| sm 5 rfl <| cE rfl (bSl rfl rfl uT35 tZ3 tS3 rfl rfl rfl rfl (fbk rfl) rfl) <| cE rfl (bSl rfl rfl uT35 tZ3 tS3 rfl rfl rfl rfl (fbk rfl) rfl) <| cV rfl (bPu rfl rfl tZ42 tP42 rfl (fbk rfl) rfl) <| cV rfl (lBP rfl rfl rfl uT42 rfl tS42 (lb rfl) rfl trivial) <| cE rfl (bSl rfl rfl uT35 tZ3 tS3 rfl rfl rfl rfl (fbk rfl) rfl) <| cV rfl (bPu rfl rfl tZ42 tP42 rfl (fbk rfl) rfl) <| cE rfl (bSl rfl rfl uT43 tZ42 tS42 rfl rfl rfl rfl (fbk rfl) rfl) ?_
  refine cE rfl (z22 (yd3 [1,1,1,1,1] L) ent16 rfl rfl (sSm rfl (Subs.cons (fun _ _ _ _ h=>z6j hL h) Subs.nil)) rfl) <| cE rfl (z22 (hsc) ent11 rfl rfl (Subs.cons (fun _ _ _ _ h=>z6j (PSub.agg (ps:=[.val (.slice none 0 0),flws [⟨z0c,1,0,[1,1,1,1,1],L⟩]]) (qs:=[.seq [],flws [⟨z0c,1,0,[1,1,1,1,1],L⟩]]) (And.intro PSub.nil (And.intro (PSub.refl _) trivial))) h) Subs.nil) rfl) <| sm 1 rfl <| cV rfl (z1c rfl rfl rfl) <| cV rfl (z1c rfl rfl rfl) <| cE rfl (aLc (k:=103) rfl tZ25 rfl rfl rfl rfl) <| c0 (sBA rfl rfl rfl rfl rfl ((fun h=>h)) tS25 (flk rfl) (lb rfl)) <| sm 1 rfl <| nL <| tQ <| tG <| cV rfl (lBP rfl rfl rfl uT25 rfl tS25 (lb rfl) rfl trivial) ?_
  refine cE rfl (z22 (sc_run0 V hVa hVW hVz [] 6 20 r hr) ent17 rfl rfl (sSm rfl (Subs.cons (fun _ _ _ _ h=>z6j PSub.nil h) (sSm rfl Subs.nil))) rfl) <| cE rfl (aLc (k:=105) rfl tZ46 rfl rfl rfl rfl) <| c0 (sBA rfl rfl rfl rfl rfl ((fun h=>h)) tS46 (flk rfl) (lb rfl)) <| nL <| tQ <| tG <| sm 3 rfl ?_
  refine wS 43 rfl (fun hb43=>?_) fun hb43=>?_
  ·refine sm 2 rfl <| yV rfl rfl (oSm uT23 rfl) <| sm 3 rfl ?_
   refine wS 49 rfl (fun hb49=>?_) fun hb49=>?_
   ·refine yV rfl rfl (lBP rfl rfl rfl uT25 rfl tS25 (lb rfl) rfl trivial) <| WL.yes rfl rfl rfl rfl rfl rfl (z22 (sc_right V) ent12 rfl rfl (sRf _ _) rfl) <| sm 2 rfl ?_
    refine wS 53 rfl (fun hb53=>?_) fun hb53=>?_
    ·refine sm 5 rfl ?_
     refine wS 58 rfl (fun hb58=>?_) fun hb58=>?_
     ·refine sm 5 rfl <| nL <| tQ <| tG <| cV rfl (bPu rfl rfl tZ25 tP25 rfl (fbk rfl) rfl) <| cE rfl (z22 (hse) ent11 rfl rfl (Subs.cons (fun _ _ _ _ h=>zu4 h) Subs.nil) rfl) <| sm 1 rfl <| cV rfl (z1c rfl rfl rfl) <| cV rfl (z1c rfl rfl rfl) <| cE rfl (aLc (k:=107) rfl tZ25 rfl rfl rfl rfl) <| c0 (sBA rfl rfl rfl rfl rfl ((fun h=>h)) tS25 (flk rfl) (lb rfl)) <| sm 1 rfl ?_
      refine nL <| tQ <| tG <| sm 3 rfl ?_
      refine wS 70 rfl (fun hb70=>?_) fun hb70=>?_
      ·refine sm 3 rfl <| nL <| tRt <| rOk rfl ?_ nPo
       rw [h2]
       rfl
      exact Bool.noConfusion (show true=false from hb70)
     rw [h1] at hb58
     cases hb58
    rw [hVr] at hb53
    cases hb53
   simp [hVl] at hb49
  exact Bool.noConfusion (show true=false from hb43)
theorem sc_awake:SC Tryz.prog 7 [] [] (fun _=>False) (iBool true) []:=by
  obtain ⟨r,hr,h1,h2⟩:=wake_run
  have hc:=z9q zh9
  exact yb1 wakeL wake_sub (z3l y2x) (z86 zh9) zt1 rfl rfl (by have:=y44 y2x;rw [z86 zh9] at this;exact this) (by rw [y69];exact zt1) (by rw [hc]) r hr h1 h2
section
def Px (g g':Gn):Prop:=∃ q,g'.types=g.types++q
theorem Px.refl (g:Gn):Px g g:=⟨[],by simp⟩
theorem Px.trans {a b c:Gn} (h:Px a b) (h':Px b c):Px a c:=by
  obtain ⟨q,e⟩:=h
  obtain ⟨r,e'⟩:=h'
  exact ⟨q++r,by rw [e',e,List.append_assoc]⟩
theorem Px.len {a b:Gn} (h:Px a b):a.types.length<=b.types.length:=by obtain ⟨q,e⟩:=h;rw [e];simp
section
variable (l:List UInt8)
theorem zh1 (n:Nat) (g:Gn):Px g (z05 l n g).2:=⟨[],by simp [z05]⟩
theorem zq5 (seen ts:List Int) (g:Gn):Px g (z1i l seen ts g).2:=⟨[],by rw [(z1h l seen ts g).1];simp⟩
theorem z7f (ts:List Int) (g:Gn):Px g (z0i ts g).2:=⟨ts,by rw [(z20 ts g).1]⟩
theorem y02 (g:Gn):Px g (z0m l g).2:=⟨[],by rw [(z4i l g).1];simp⟩
theorem y3z (kind op n:Int) (name:ByteArray) (seen ins outs:List Int) (g:Gn):Px g (z3x l kind op n name seen ins outs g).2:=(zq5 l seen ins g).trans (z7f outs _)
theorem zq6 (seen:List Int) (g:Gn):Px g (z1n l seen g).2:=by
  unfold z1n
  have h0:=zh1 l 12 g
  simp only
  repeat' split
  all_goals first
  | exact h0.trans ((zh1 l _ _).trans (y3z l _ _ _ _ _ _ _ _))
  | exact h0.trans (y3z l _ _ _ _ _ _ _ _)
theorem px_end (seen:List Int) (p:Plc) (g:Gn):Px g (gEnd l seen p g).2:=by
  unfold gEnd
  have h0:=zh1 l 6 g
  simp only
  repeat' split
  all_goals exact h0.trans (y3z l _ _ _ _ _ _ _ _)
def ze5 (rec:GRec):Prop:=∀ seen p g,Px g (rec seen p g).2
theorem y01 (x:List Int->Nd) (t:List Int) (g:Gn):Px g (z77 x t g).2:=by
  unfold z77
  split
  ·exact .refl _
  exact z7f t g
theorem px_if {rec:GRec} (hr:ze5 rec) (all:List Int) (p:Plc) (g:Gn):Px g (gIf l rec all p g).2:=by
  unfold gIf
  exact (y02 l g).trans ((zq5 l _ _ _).trans ((hr _ _ _).trans ((hr _ _ _).trans (y01 _ _ _))))
theorem px_loop {rec:GRec} (hr:ze5 rec) (all:List Int) (g:Gn):Px g (z9f l rec all g).2:=by
  unfold z9f
  exact (y02 l g).trans ((y02 l _).trans ((zq5 l _ _ _).trans ((z7f _ _).trans ((hr _ _ _).trans (y01 _ _ _)))))
theorem y5t {rec:Option GRec} (hr:∀ r,rec=some r->ze5 r) (all:List Int) (p:Plc) (g:Gn):Px g (gAny l rec all p g).2:=by
  have h0:Px g { g with left:=g.left - 1 }:=⟨[],by simp⟩
  have hs:=h0.trans ((zq6 l all { g with left:=g.left - 1 }).trans (zh1 l 6 _))
  unfold gAny
  simp only
  cases rec with
  | none=>exact hs
  | some r =>
    simp only
    split
    ·exact hs.trans (px_if l (hr r rfl) all p _)
    split
    ·exact hs.trans (px_loop l (hr r rfl) all _)
    exact hs
def z58 (rec:Option GRec) (p:Plc):Nat->List Int->Gn->List Nd × Gn
  | 0,all,g=>([(gEnd l all p g).1],(gEnd l all p g).2)
  | i+1,all,g =>
    if g.left=0 then ([(gEnd l all p g).1],(gEnd l all p g).2)
    else if z04 (gAny l rec all p g).1 then ([(gAny l rec all p g).1],(gAny l rec all p g).2)
      else ((gAny l rec all p g).1::(z58 rec p i (all++(gAny l rec all p g).1.outs) (gAny l rec all p g).2).1,(z58 rec p i (all++(gAny l rec all p g).1.outs) (gAny l rec all p g).2).2)
theorem z76 (rec:Option GRec) (p:Plc):∀ (i:Nat) (out:List Nd) (all:List Int) (g:Gn),z39 l rec p i out all g=(out++(z58 l rec p i all g).1,(z58 l rec p i all g).2)
  | 0,out,all,g=>rfl
  | i+1,out,all,g=>by
    unfold z39 z58
    split
    ·rfl
    simp only
    split
    ·rfl
    rw [z76 rec p i];simp
theorem zy1 (rec:Option GRec) (p:Plc):∀ (i:Nat) (all:List Int) (g:Gn),(z58 l rec p i all g).1≠[]
  | 0,all,g=>by simp [z58]
  | i+1,all,g=>by
    unfold z58
    repeat' split
    all_goals simp
theorem zq7 {rec:Option GRec} (hr:∀ r,rec=some r->ze5 r) (p:Plc):∀ (i:Nat) (all:List Int) (g:Gn),Px g (z58 l rec p i all g).2
  | 0,all,g=>px_end l all p g
  | i+1,all,g=>by
    unfold z58
    split
    ·exact px_end l all p g
    split
    ·exact y5t l hr all p g
    exact (y5t l hr all p g).trans (zq7 hr p i _ _)
theorem y00 (d:Nat):ze5 (z2w l d):=by
  induction d with
  | zero =>
    intro seen p g
    rw [z75,z76]
    exact (zh1 l 6 g).trans (zq7 l (fun r h=>by cases h) p _ _ _)
  | succ d ih =>
    intro seen p g
    rw [z75,z76]
    exact (zh1 l 6 g).trans (zq7 l (fun r h=>by cases h;exact ih) p _ _ _)
theorem z5l (d:Nat) (seen:List Int) (p:Plc) (g:Gn):z2w l d seen p g=z58 l (gRec l d) p (z05 l 6 g).1 seen (z05 l 6 g).2:=by
  rw [z75,z76];simp
def Fresh (a b:Nat) (ds:List Int):Prop:=ds.Nodup/\∀ v∈ds,(a:Int)<=v/\v<(b:Int)
theorem Fresh.nil (a b:Nat):Fresh a b []:=⟨List.nodup_nil,fun _ h=>by simp at h⟩
theorem Fresh.app {a b b' c:Nat} {x y:List Int} (h:Fresh a b x) (h':Fresh b' c y) (hb:b<=b') (ha:a<=b') (hc:b<=c):Fresh a c (x++y):=by
  refine ⟨List.nodup_append.2 ⟨h.1,h'.1,fun u hu v hv e=>?_⟩,fun v hv=>?_⟩
  ·have h1:=h.2 u hu
   have h2:=h'.2 v hv
   omega
  rcases List.mem_append.1 hv with hv | hv
  ·have:=h.2 v hv;omega
  have:=h'.2 v hv;omega
theorem Fresh.mono {a b a' b':Nat} {x:List Int} (h:Fresh a b x) (ha:a'<=a) (hb:b<=b'):Fresh a' b' x:=⟨h.1,fun v hv=>by have:=h.2 v hv;omega⟩
theorem z8y:∀ (ts:List Int) (g:Gn),Fresh g.types.length (z0i ts g).2.types.length (z0i ts g).1
  | [],g=>.nil _ _
  | t::r,g=>by
    have ih:=z8y r (z08 t g).2
    have h1:Fresh g.types.length (g.types.length+1) [(z08 t g).1]:=⟨by simp,fun v hv=>by
      rw [List.mem_singleton.1 hv];simp only [z08];omega⟩
    have e:(z08 t g).2.types.length=g.types.length+1:=by simp [z08]
    have hl:=(z7f r (z08 t g).2).len
    rw [e] at ih hl
    exact h1.app ih (Nat.le_refl _) oM0 hl
theorem zu7 (kind op n:Int) (name:ByteArray) (seen ins outs:List Int) (g:Gn):Fresh g.types.length (z3x l kind op n name seen ins outs g).2.types.length (dN (z3x l kind op n name seen ins outs g).1):=by
  have h:=z8y outs (z1i l seen ins g).2
  have e:(z1i l seen ins g).2.types=g.types:=by rw [(z1h l seen ins g).1]
  rw [e] at h
  simpa [z3x,dN_eq,Nd.params,Nd.kids,Nd.outs,dK] using h
theorem y1a (seen:List Int) (g:Gn):Fresh g.types.length (z1n l seen g).2.types.length (dN (z1n l seen g).1):=by
  have N:=fun kind op n name ins outs g'=>zu7 l kind op n name seen ins outs g'
  unfold z1n
  simp only
  repeat' split
  all_goals exact N _ _ _ _ _ _ _
theorem y19 (seen:List Int) (p:Plc) (g:Gn):Fresh g.types.length (gEnd l seen p g).2.types.length (dN (gEnd l seen p g).1):=by
  have N:=fun kind op n name ins outs g'=>zu7 l kind op n name seen ins outs g'
  unfold gEnd
  simp only
  repeat' split
  all_goals exact N _ _ _ _ _ _ _
def y7z (rec:GRec):Prop:=∀ seen p g,Fresh g.types.length (rec seen p g).2.types.length (dL (rec seen p g).1)
theorem zu8 (x:List Int->Nd) (D:List Int) (a:Nat) (hx:∀ o,dN (x o)=D++o) (t:List Int) (g:Gn) (hD:Fresh a g.types.length D) (ha:a<=g.types.length):Fresh a (z77 x t g).2.types.length (dN (z77 x t g).1):=by
  unfold z77
  split
  ·rw [hx,List.append_nil];exact hD
  rw [hx];exact hD.app (z8y t g) (Nat.le_refl _) ha (z7f t g).len
theorem fresh_if {rec:GRec} (hr:y7z rec) (hp:ze5 rec) (all:List Int) (p:Plc) (g:Gn):Fresh g.types.length (gIf l rec all p g).2.types.length (dN (gIf l rec all p g).1):=by
  unfold gIf
  simp only
  generalize hT:z0m l g=T
  generalize hC:z1i l all [2] T.2=C
  have eT:T.2.types=g.types:=by rw [<- hT,(z4i l g).1]
  have eC:C.2.types=g.types:=by rw [<- hC,(z1h l all [2] T.2).1];exact eT
  have hA:=hr all ⟨true,p.Loop,T.1,p.Next,p.Left⟩ C.2
  have pA:=(hp all ⟨true,p.Loop,T.1,p.Next,p.Left⟩ C.2).len
  generalize rec all ⟨true,p.Loop,T.1,p.Next,p.Left⟩ C.2=A at *
  have hB:=hr all ⟨true,p.Loop,T.1,p.Next,p.Left⟩ A.2
  have pB:=(hp all ⟨true,p.Loop,T.1,p.Next,p.Left⟩ A.2).len
  generalize rec all ⟨true,p.Loop,T.1,p.Next,p.Left⟩ A.2=B at *
  rw [eC] at hA pA
  refine zu8 _ (dL A.1++dL B.1) g.types.length (fun o=>by simp [dN,dK]) T.1 B.2 (hA.app hB (Nat.le_refl _) pA pB) oM0
theorem y6k {rec:GRec} (hr:y7z rec) (hp:ze5 rec) (all:List Int) (g:Gn):Fresh g.types.length (z9f l rec all g).2.types.length (dN (z9f l rec all g).1):=by
  unfold z9f
  simp only
  generalize hT:z0m l g=T
  generalize hO:z0m l T.2=O
  generalize hA:z1i l all T.1 O.2=A
  have eT:T.2.types=g.types:=by rw [<- hT,(z4i l g).1]
  have eO:O.2.types=g.types:=by rw [<- hO,(z4i l T.2).1];exact eT
  have eA:A.2.types=g.types:=by rw [<- hA,(z1h l all T.1 O.2).1];exact eO
  have hQ:=z8y T.1 A.2
  have pQ:=(z7f T.1 A.2).len
  generalize z0i T.1 A.2=Q at *
  have hB:=hr (all++Q.1) ⟨false,true,[],T.1,O.1⟩ Q.2
  have pB:=(hp (all++Q.1) ⟨false,true,[],T.1,O.1⟩ Q.2).len
  generalize rec (all++Q.1) ⟨false,true,[],T.1,O.1⟩ Q.2=B at *
  rw [eA] at hQ pQ
  refine zu8 _ (Q.1++dL B.1) g.types.length (fun o=>by simp [dN,dK]) O.1 B.2 (hQ.app hB (Nat.le_refl _) pQ pB) oM0
theorem y92 {rec:Option GRec} (hr:∀ r,rec=some r->y7z r/\ze5 r) (all:List Int) (p:Plc) (g:Gn):Fresh g.types.length (gAny l rec all p g).2.types.length (dN (gAny l rec all p g).1):=by
  have hs:=y1a l all { g with left:=g.left - 1 }
  have ps:=(zq6 l all { g with left:=g.left - 1 }).len
  unfold gAny
  simp only
  cases rec with
  | none=>exact hs
  | some r =>
    simp only
    split
    ·exact (fresh_if l (hr r rfl).1 (hr r rfl).2 all p _).mono ps (Nat.le_refl _)
    split
    ·exact (y6k l (hr r rfl).1 (hr r rfl).2 all _).mono ps (Nat.le_refl _)
    exact hs
theorem zf4 {rec:Option GRec} (hr:∀ r,rec=some r->y7z r/\ze5 r) (p:Plc):∀ (i:Nat) (all:List Int) (g:Gn),Fresh g.types.length (z58 l rec p i all g).2.types.length (dL (z58 l rec p i all g).1)
  | 0,all,g=>by
    have:=y19 l all p g
    simpa [z58,dL] using this
  | i+1,all,g=>by
    have he:=y19 l all p g
    have hx:=y92 l hr all p g
    have px:=(y5t l (fun r h=>(hr r h).2) all p g).len
    unfold z58
    split
    ·simpa [dL] using he
    split
    ·simpa [dL] using hx
    have ih:=zf4 hr p i (all++(gAny l rec all p g).1.outs) (gAny l rec all p g).2
    have pt:=(zq7 l (fun r h=>(hr r h).2) p i (all++(gAny l rec all p g).1.outs) (gAny l rec all p g).2).len
    simp only [dL]
    exact hx.app ih (Nat.le_refl _) px pt
theorem y6j (d:Nat):y7z (z2w l d):=by
  induction d with
  | zero =>
    intro seen p g
    rw [z5l]
    exact zf4 l (fun r h=>by cases h) p (z05 l 6 g).1 seen (z05 l 6 g).2
  | succ d ih =>
    intro seen p g
    rw [z5l]
    exact zf4 l (fun r h=>by cases h;exact ⟨ih,y00 l d⟩) p (z05 l 6 g).1 seen (z05 l 6 g).2
end
end
section
def PxT (g:Gn) (T:List Int):Prop:=∃ q,T=g.types++q
theorem PxT.of {a b:Gn} {T:List Int} (h:Px a b) (h':PxT b T):PxT a T:=by
  obtain ⟨q,e⟩:=h
  obtain ⟨r,e'⟩:=h'
  exact ⟨q++r,by rw [e',e,List.append_assoc]⟩
theorem PxT.len {a:Gn} {T:List Int} (h:PxT a T):a.types.length<=T.length:=by obtain ⟨q,e⟩:=h;rw [e];simp
theorem PxT.getD {a:Gn} {T:List Int} (h:PxT a T) {n:Nat} (hn:n<a.types.length):a.types.getD n 0=T.getD n 0:=by
  obtain ⟨q,rfl⟩:=h
  simp [List.getD,List.getElem?_append_left hn]
structure Sn (T:List Int) (n:Nat) (seen:List Int):Prop where
  zero:(0:Int)∈seen
  one:∃ s∈seen,T.getD s.toNat 0=1
  two:∃ s∈seen,T.getD s.toNat 0=2
  inr:∀ s∈seen,0<=s/\s.toNat<n
theorem Sn.mono {T:List Int} {n m:Nat} {seen:List Int} (h:Sn T n seen) (hm:n<=m):Sn T m seen:=⟨h.zero,h.one,h.two,fun s hs=>⟨(h.inr s hs).1,Nat.lt_of_lt_of_le (h.inr s hs).2 hm⟩⟩
theorem Sn.app {T:List Int} {n m:Nat} {seen new:List Int} (h:Sn T n seen) (hm:n<=m) (hn:∀ s∈new,0<=s/\s.toNat<m):Sn T m (seen++new):=by
  obtain ⟨s,h1,h2⟩:=h.one
  obtain ⟨s',h3,h4⟩:=h.two
  exact ⟨List.mem_append_left _ h.zero,⟨s,List.mem_append_left _ h1,h2⟩,⟨s',List.mem_append_left _ h3,h4⟩,fun v hv=>(List.mem_append.1 hv).elim ((h.mono hm).inr v) (hn v)⟩
theorem y3a {tys seen:List Int} {t:Int}:∀ (r:List Int) (b:Bool) (k v:Int),(∀ s∈r,s∈seen)->v∈seen->gS1 tys t b k v r∈seen
  | [],_,_,_,_,hv=>hv
  | s::r,b,k,v,h,hv=>by
    unfold gS1
    have hr:∀ x∈r,x∈seen:=fun x hx=>h x (.tail _ hx)
    split
    ·exact y3a r _ _ _ hr (h s (.head _))
    exact y3a r _ _ _ hr hv
theorem y3b {tys seen:List Int} {t:Int}:∀ (r:List Int) (v:Int),(∀ s∈r,s∈seen)->v∈seen->gS2 tys t v r∈seen
  | [],_,_,hv=>hv
  | s::r,v,h,hv=>by
    unfold gS2
    have hr:∀ x∈r,x∈seen:=fun x hx=>h x (.tail _ hx)
    split
    ·split
     ·exact y3b r _ hr (h s (.head _))
     exact y3b r _ hr hv
    exact hv
theorem y5a {tys:List Int} {t:Int} {r:List Int} {v:Int} (h:tys.getD v.toNat 0=t):gS2 tys t v r=v:=by
  cases r with
  | nil=>rfl
  | cons s r=>unfold gS2;rw [if_neg (by rw [h];simp)]
theorem gS2_ty {tys:List Int} {t:Int}:∀ (r:List Int) (v:Int),(∃ s∈r,tys.getD s.toNat 0=t)->tys.getD (gS2 tys t v r).toNat 0=t
  | [],v,h=>by obtain ⟨s,hs,_⟩:=h;simp at hs
  | s::r,v,h=>by
    by_cases hv:tys.getD v.toNat 0=t
    ·rw [y5a hv];exact hv
    unfold gS2
    rw [if_pos (by simpa using hv)]
    by_cases hs:tys.getD s.toNat 0=t
    ·rw [if_pos (by simpa using hs),y5a hs];exact hs
    rw [if_neg (by simpa using hs)]
    refine gS2_ty r v ?_
    obtain ⟨x,hx,hxt⟩:=h
    rcases List.mem_cons.1 hx with rfl | hx
    ·exact absurd hxt hs
    exact ⟨x,hx,hxt⟩
def Ty12 (ts:List Int):Prop:=∀ t∈ts,t=1∨t=2
theorem Ty12.ne {ts:List Int} (h:Ty12 ts):∀ t∈ts,t≠0:=fun t ht=>by rcases h t ht with rfl | rfl<;>decide
section
variable (l:List UInt8)
theorem some_ok {g:Gn} {T seen:List Int} {t:Int} (h:PxT g T) (hs:Sn T g.types.length seen) (ht:t=1∨t=2):(zb7 l seen t g).1∈seen/\T.getD (zb7 l seen t g).1.toNat 0=t:=by
  have hm:(zb7 l seen t g).1∈seen:=y3b seen _ (fun _ h=>h) (y3a seen _ _ _ (fun _ h=>h) hs.zero)
  refine ⟨hm,?_⟩
  rw [<- h.getD (hs.inr _ hm).2]
  refine gS2_ty seen _ ?_
  obtain ⟨s,h1,h2⟩:∃ s∈seen,T.getD s.toNat 0=t:=by
    rcases ht with rfl | rfl
    ·exact hs.one
    exact hs.two
  exact ⟨s,h1,by rw [h.getD (hs.inr s h1).2];exact h2⟩
theorem use_ok {T seen:List Int} {n:Nat} {v w:Int} (hs:Sn T n seen) (hn:n<=T.length) (hv:v∈seen) (hw:w=0∨T.getD v.toNat 0=w):z6z T seen v w=true:=by
  obtain ⟨h1,h2⟩:=hs.inr v hv
  unfold z6z
  have e1:decide (v<0)=false:=by simp;omega
  have e2:decide (v ≥ T.length)=false:=by simp;omega
  have e3:seen.contains v=true:=by simpa using hv
  have e4:(w != 0&&(T.getD v.toNat 0 != w))=false:=by
    rcases hw with rfl | h
    ·rfl
    rw [h];simp
  rw [e1,e2,e3,e4];rfl
theorem zn0 {T seen:List Int}:∀ (ts:List Int) {g:Gn},PxT g T->Sn T g.types.length seen->Ty12 ts->z01 T seen (z1i l seen ts g).1 ts=true/\(∀ v∈(z1i l seen ts g).1,v∈seen)/\(z1i l seen ts g).1.map (fun v=>T.getD v.toNat 0)=ts
  | [],g,_,_,_=>⟨rfl,fun v hv=>by simp [z1i] at hv,rfl⟩
  | t::r,g,h,hs,ht=>by
    obtain ⟨h1,h2⟩:=some_ok l h hs (ht t (.head _))
    obtain ⟨i1,i2,i3⟩:=zn0 (seen:=seen) r (g:=(zb7 l seen t g).2) h hs (fun x hx=>ht x (.tail _ hx))
    simp only [z01,Bool.and_eq_true] at i1
    refine ⟨?_,fun v hv=>?_,?_⟩
    ·simp only [z1i,z01,z0w,Bool.and_eq_true,List.length_cons]
     refine ⟨?_,use_ok hs h.len h1 (.inr h2),i1.2⟩
     have:=i1.1
     simp only [beq_iff_eq] at this ⊢
     omega
    ·simp only [z1i,List.mem_cons] at hv
     rcases hv with rfl | hv
     ·exact h1
     exact i2 v hv
    simp only [z1i,List.map_cons,h2,i3]
theorem zg9 {T:List Int}:∀ (ts:List Int) (g:Gn),PxT (z0i ts g).2 T->z24 T (z0i ts g).1 ts=true
  | [],_,_=>rfl
  | t::r,g,h=>by
    have ih:=zg9 r (z08 t g).2 h
    have hg:PxT (z08 t g).2 T:=PxT.of (z7f r (z08 t g).2) h
    obtain ⟨q,e⟩:=hg
    have e2:T=(g.types++[t])++q:=e
    simp only [z0i,z24,Bool.and_eq_true]
    refine ⟨?_,ih⟩
    simp only [z4q,Bool.and_eq_true,Bool.or_eq_true,beq_iff_eq,z08]
    refine ⟨⟨decide_eq_true oM0,decide_eq_true ?_⟩,.inr ?_⟩
    ·rw [e2];simp only [List.length_append,List.length_cons,List.length_nil];omega
    rw [e2]
    simp [List.getD]
theorem ze3 {T:List Int}:∀ {l ts:List Int},z24 T l ts=true->z24 T l (zer l)=true
  | [],[],_=>rfl
  | [],_::_,h=>by simp [z24] at h
  | _::_,[],h=>by simp [z24] at h
  | v::r,t::ts,h=>by
    simp only [z24,Bool.and_eq_true] at h
    have ih:=ze3 h.2
    have h1:=h.1
    simp only [z4q,Bool.and_eq_true] at h1
    show (z4q T v 0&&z24 T r (zer r))=true
    rw [ih]
    simp [z4q,h1.1.1,h1.1.2]
theorem y67 {T:List Int}:∀ {l ts:List Int},z24 T l ts=true->(∀ t∈ts,t≠0)->l.all (z6n T)=true/\l.map (fun v=>T.getD v.toNat 0)=ts
  | [],[],_,_=>⟨rfl,rfl⟩
  | [],_::_,h,_=>by simp [z24] at h
  | _::_,[],h,_=>by simp [z24] at h
  | v::r,t::ts,h,hn=>by
    simp only [z24,Bool.and_eq_true] at h
    obtain ⟨i1,i2⟩:=y67 h.2 (fun x hx=>hn x (.tail _ hx))
    have h1:=h.1
    simp only [z4q,Bool.and_eq_true,Bool.or_eq_true,beq_iff_eq] at h1
    have ht:T.getD v.toNat 0=t:=h1.2.resolve_left (hn t (.head _))
    refine ⟨?_,?_⟩
    ·simp only [List.all_cons,Bool.and_eq_true]
     exact ⟨by simp only [z6n,Bool.and_eq_true];exact h1.1,i1⟩
    simp only [List.map_cons,ht,i2]
theorem y3p {T:List Int} {ts:List Int} {g:Gn} (h:PxT (z0i ts g).2 T) (ht:Ty12 ts):r8of T (z0i ts g).1=ts:=by
  obtain ⟨h1,h2⟩:=y67 (zg9 ts g h) ht.ne
  unfold r8of
  rw [if_pos h1,h2]
theorem tyN_12:∀ (n:Nat) (g:Gn),Ty12 (gTyN l n g).1
  | 0,_=>fun t ht=>by simp [gTyN] at ht
  | n+1,g=>fun t ht=>by
    have h2:(z05 l 2 g).1<2:=z1s oM0
    simp only [gTyN,List.mem_cons] at ht
    rcases ht with rfl | ht
    ·omega
    exact tyN_12 n _ t ht
theorem z9d (g:Gn):Ty12 (z0m l g).1:=tyN_12 l _ _
structure Env (u:Un) (f:Fl):Prop where
  ty:f.ty=1
  ar:z0f z72 u.arrays 0 ≥ 0
  fl:z02 z3k u.flows 0 ≥ 0
  flw:∃ g,u.flows[(z02 z3k u.flows 0).toNat]? = some g/\g.types.take g.params.toNat=[1,2]/\g.ty=1
end
end
section
theorem z3t {kind op n:Int} {name:ByteArray} {args outs:List Int} (ho:(kind=3∨kind=4)∨op=0) (hn:(kind=1∨kind=2)∨n=0) (hm:(kind=5∨kind=6∨kind=7)∨name=z0l) (h10:kind≠10) (h11:kind≠11) :
    z10 (.mk kind op n name args outs [] [])=true:=by
  have e0:z0l.toList=[]:=z5u z0l
  have hm2:(kind=5∨kind=6∨kind=7)∨name.toList=[]:=hm.imp id fun h=>by rw [h,e0]
  simp only [z10,r8op,y42,zr0,r8kn,Nd.kind,Nd.op,Nd.n,Nd.name,Nd.kids,Nd.params,Bool.and_eq_true,Bool.or_eq_true,beq_iff_eq,List.length_nil]
  refine ⟨⟨⟨⟨ho,hn⟩,?_⟩,?_⟩,.inr rfl⟩
  ·rcases hm2 with (h | h | h) | h
   ·exact .inl (.inl (.inl h))
   ·exact .inl (.inl (.inr h))
   ·exact .inl (.inr h)
   exact .inr h
  rw [if_neg h11,if_neg h10];rfl
section
variable (l:List UInt8) {u:Un} {f:Fl} {seen:List Int} {w:Wh} {deep:Int}
def Leaf (u:Un) (f:Fl) (seen:List Int) (w:Wh) (x:Nd):Prop:=z10 x=true/\(x.kind==10)=false/\(x.kind==11)=false/\(z3d u f x seen w).ok f.types x.outs=true
theorem Leaf.ok {x:Nd} (h:Leaf u f seen w x):z3s u f deep w seen x=true:=by
  rw [z1r u f deep w seen h.1 h.2.1 h.2.2.1];exact h.2.2.2
theorem y34 {x:Nd} (h1:(x.kind==10)=false) (h2:(x.kind==11)=false):z04 x=z0o x.kind:=by
  unfold z04
  rw [h1,h2];rfl
section
variable {A O:List Int} {op n:Int} {name:ByteArray}
theorem sF1:z3d u f (.mk 1 op n name A O [] []) seen w=⟨z01 f.types seen A [],some [1]⟩:=rfl
theorem sF2:z3d u f (.mk 2 op n name A O [] []) seen w=⟨(n==0||n==1)&&z01 f.types seen A [],some [2]⟩:=rfl
theorem sF3:z3d u f (.mk 3 op n name A O [] []) seen w=⟨z28 op&&z01 f.types seen A [(z0a op).1],some [(z0a op).2]⟩:=rfl
theorem sF4:z3d u f (.mk 4 op n name A O [] []) seen w=⟨z1q op&&z01 f.types seen A [(z0a op).1,(z0a op).1]&&f.types.getD (A.getD 0 0).toNat 0==f.types.getD (A.getD 1 0).toNat 0,some [(z0a op).2]⟩:=rfl
theorem sF5:z3d u f (.mk 5 op n name A O [] []) seen w=⟨decide (z0f name u.arrays 0 ≥ 0)&&z01 f.types seen A [1],some [1]⟩:=rfl
theorem sF6:z3d u f (.mk 6 op n name A O [] []) seen w=⟨decide (z0f name u.arrays 0 ≥ 0)&&z01 f.types seen A [1,1],none⟩:=rfl
theorem sF7 {g:Fl} (h:z02 name u.flows 0 ≥ 0) (hg:u.flows[(z02 name u.flows 0).toNat]? = some g):z3d u f (.mk 7 op n name A O [] []) seen w=⟨z01 f.types seen A (g.types.take g.params.toNat),some [g.ty]⟩:=by
  have e:z3d u f (.mk 7 op n name A O [] []) seen w=(if decide (z02 name u.flows 0 ≥ 0)=true then match u.flows[(z02 name u.flows 0).toNat]? with
      | some g=>⟨z01 f.types seen A (g.types.take g.params.toNat),some [g.ty]⟩
      | none=>⟨false,none⟩
    else ⟨false,none⟩):=rfl
  rw [e,if_pos (decide_eq_true h),hg]
theorem sF8:z3d u f (.mk 8 op n name A O [] []) seen w=⟨(A.length:Int)==0,some [1]⟩:=rfl
theorem sF9:z3d u f (.mk 9 op n name A O [] []) seen w=⟨z01 f.types seen A [1],none⟩:=rfl
theorem sF12:z3d u f (.mk 12 op n name A O [] []) seen w=⟨w.If&&z01 f.types seen A w.Yield,none⟩:=rfl
theorem sF13:z3d u f (.mk 13 op n name A O [] []) seen w=⟨w.Loop&&z01 f.types seen A w.Next,none⟩:=rfl
theorem sF14:z3d u f (.mk 14 op n name A O [] []) seen w=⟨w.Loop&&z01 f.types seen A w.Left,none⟩:=rfl
theorem sF15:z3d u f (.mk 15 op n name A O [] []) seen w=⟨z01 f.types seen A [f.ty],none⟩:=rfl
theorem leaf1 (hO:z24 f.types O [1]=true):Leaf u f seen w (.mk 1 0 n z0l [] O [] []) :=
  ⟨z3t (.inr rfl) (.inl (.inl rfl)) (.inr rfl) dC0 dC0,rfl,rfl,by
    rw [sF1];simpa [SForm.ok,z01,z0w,Nd.outs] using hO⟩
theorem leaf2 (hn:n=0∨n=1) (hO:z24 f.types O [2]=true):Leaf u f seen w (.mk 2 0 n z0l [] O [] []) :=
  ⟨z3t (.inr rfl) (.inl (.inr rfl)) (.inr rfl) dC0 dC0,rfl,rfl,by
    have h1:(n==0||n==1)=true:=by rcases hn with rfl | rfl<;>rfl
    rw [sF2];simp only [SForm.ok,h1,Nd.outs,hO];rfl⟩
theorem leaf3 {a b:Int} (h1:z28 op=true) (h2:z0a op=(a,b)) (hA:z01 f.types seen A [a]=true) (hO:z24 f.types O [b]=true):Leaf u f seen w (.mk 3 op 0 z0l A O [] []) :=
  ⟨z3t (.inl (.inl rfl)) (.inr rfl) (.inr rfl) dC0 dC0,rfl,rfl,by
    rw [sF3];simp only [SForm.ok,h1,h2,Nd.outs,hA,hO];rfl⟩
theorem leaf4 {a b:Int} (h1:z1q op=true) (h2:z0a op=(a,b)) (hA:z01 f.types seen A [a,a]=true) (ht:f.types.getD (A.getD 0 0).toNat 0=f.types.getD (A.getD 1 0).toNat 0) (hO:z24 f.types O [b]=true):Leaf u f seen w (.mk 4 op 0 z0l A O [] []) :=
  ⟨z3t (.inl (.inr rfl)) (.inr rfl) (.inr rfl) dC0 dC0,rfl,rfl,by
    rw [sF4];simp only [SForm.ok,h1,h2,Nd.outs,hA,hO,ht,Bool.true_and,Bool.and_true,beq_self_eq_true]⟩
theorem leaf5 (E:Env u f) (hA:z01 f.types seen A [1]=true) (hO:z24 f.types O [1]=true):Leaf u f seen w (.mk 5 0 0 z72 A O [] []) :=
  ⟨z3t (.inr rfl) (.inr rfl) (.inl (.inl rfl)) dC0 dC0,rfl,rfl,by
    rw [sF5];simp only [SForm.ok,decide_eq_true E.ar,Nd.outs,hA,hO];rfl⟩
theorem leaf6 (E:Env u f) (hA:z01 f.types seen A [1,1]=true):Leaf u f seen w (.mk 6 0 0 z72 A [] [] []) :=
  ⟨z3t (.inr rfl) (.inr rfl) (.inl (.inr (.inl rfl))) dC0 dC0,rfl,rfl,by
    rw [sF6];simp only [SForm.ok,decide_eq_true E.ar,hA];rfl⟩
theorem leaf7 (E:Env u f) (hA:z01 f.types seen A [1,2]=true) (hO:z24 f.types O [1]=true):Leaf u f seen w (.mk 7 0 0 z3k A O [] []) :=
  ⟨z3t (.inr rfl) (.inr rfl) (.inl (.inr (.inr rfl))) dC0 dC0,rfl,rfl,by
    obtain ⟨g,h1,h2,h3⟩:=E.flw
    rw [sF7 E.fl h1];simp only [SForm.ok,h2,h3,Nd.outs,hA,hO];rfl⟩
theorem leaf8 (hO:z24 f.types O [1]=true):Leaf u f seen w (.mk 8 0 0 z0l [] O [] []) :=
  ⟨z3t (.inr rfl) (.inr rfl) (.inr rfl) dC0 dC0,rfl,rfl,by
    rw [sF8];simp only [SForm.ok,Nd.outs,hO];rfl⟩
theorem leaf9 (hA:z01 f.types seen A [1]=true):Leaf u f seen w (.mk 9 0 0 z0l A [] [] []) :=
  ⟨z3t (.inr rfl) (.inr rfl) (.inr rfl) dC0 dC0,rfl,rfl,by
    rw [sF9];simp only [SForm.ok,hA];rfl⟩
theorem leafE {k:Int} {want:List Int} (hk:(k=12/\w.If=true/\want=w.Yield)∨(k=13/\w.Loop=true/\want=w.Next)∨(k=14/\w.Loop=true/\want=w.Left)∨(k=15/\want=[f.ty])) (hA:z01 f.types seen A want=true):Leaf u f seen w (.mk k 0 0 z0l A [] [] []):=by
  have hb:z10 (.mk k 0 0 z0l A [] [] [])=true:=z3t (.inr rfl) (.inr rfl) (.inr rfl) oM0 oM0
  rcases hk with ⟨rfl,h1,rfl⟩ | ⟨rfl,h1,rfl⟩ | ⟨rfl,h1,rfl⟩ | ⟨rfl,rfl⟩
  ·exact ⟨hb,rfl,rfl,by rw [sF12];simp only [SForm.ok,h1,hA];rfl⟩
  ·exact ⟨hb,rfl,rfl,by rw [sF13];simp only [SForm.ok,h1,hA];rfl⟩
  ·exact ⟨hb,rfl,rfl,by rw [sF14];simp only [SForm.ok,h1,hA];rfl⟩
  exact ⟨hb,rfl,rfl,by rw [sF15];simp only [SForm.ok,hA];rfl⟩
end
theorem y2i (E:Env u f) {g:Gn} (h:PxT (z1n l seen g).2 f.types) (hs:Sn f.types g.types.length seen):Leaf u f seen w (z1n l seen g).1/\z0o (z1n l seen g).1.kind=false:=by
  have key:∀ (kind op n:Int) (name:ByteArray) (ins outs:List Int) (g':Gn),g'.types=g.types->PxT (z3x l kind op n name seen ins outs g').2 f.types->Ty12 ins ->
      (∀ A O,z01 f.types seen A ins=true->A.map (fun v=>f.types.getD v.toNat 0)=ins->z24 f.types O outs=true->Leaf u f seen w (.mk kind op n name A O [] []))->z0o kind=false ->
      Leaf u f seen w (z3x l kind op n name seen ins outs g').1/\z0o (z3x l kind op n name seen ins outs g').1.kind=false:=by
    intro kind op n name ins outs g' hg hp hi hL hk
    have hp1:PxT (z1i l seen ins g').2 f.types:=PxT.of (z7f outs _) hp
    have hp0:PxT g' f.types:=PxT.of (zq5 l seen ins g') hp1
    obtain ⟨a1,_,a3⟩:=zn0 l (seen:=seen) ins hp0 (by rw [hg];exact hs) hi
    exact ⟨hL _ _ a1 a3 (zg9 outs _ hp),hk⟩
  have i1:Ty12 [1]:=by intro t ht;simp at ht;omega
  have i2:Ty12 [2]:=by intro t ht;simp at ht;omega
  have i11:Ty12 [1,1]:=by intro t ht;simp at ht;omega
  have i12:Ty12 [1,2]:=by intro t ht;simp at ht;omega
  have i0:Ty12 []:=by intro t ht;simp at ht
  have nilA:∀ {A:List Int},A.map (fun v=>f.types.getD v.toNat 0)=[]->A=[]:=fun h=>by simpa using h
  have twoA:∀ {A:List Int} {t:Int},A.map (fun v=>f.types.getD v.toNat 0)=[t,t]->f.types.getD (A.getD 0 0).toNat 0=f.types.getD (A.getD 1 0).toNat 0:=by
    intro A t hA
    rcases A with _ | ⟨a,_ | ⟨b,_ | ⟨c,A⟩⟩⟩
    ·simp at hA
    ·simp at hA
    ·simp only [List.map_cons,List.map_nil,List.cons.injEq,and_true] at hA
     show f.types.getD a.toNat 0=f.types.getD b.toNat 0
     rw [hA.1,hA.2]
    simp at hA
  have two00:∀ {A:List Int},z01 f.types seen A [1,1]=true->z01 f.types seen A [0,0]=true:=by
    intro A hA
    rcases A with _ | ⟨a,_ | ⟨b,_ | ⟨c,A⟩⟩⟩
    ·simp [z01] at hA
    ·simp [z01] at hA
    ·simp only [z01,z0w,z6z,Bool.and_eq_true,Bool.not_eq_true',Bool.or_eq_false_iff] at hA ⊢
     simp_all
    simp [z01] at hA
    omega
  unfold z1n at h ⊢
  simp only at h ⊢
  split
  ·rename_i hk;simp only [hk,if_true] at h
   exact key 1 0 _ z0l [] [1] _ rfl h i0 (fun A O _ h2 h3=>by rw [nilA h2];exact leaf1 h3) rfl
  rename_i n0;rw [if_neg n0] at h
  split
  ·rename_i hk;rw [if_pos hk] at h
   have h2:(z05 l 2 (z05 l 12 g).2).1<2:=z1s oM0
   exact key 2 0 _ z0l [] [2] _ rfl h i0 (fun A O _ h2 h3=>by rw [nilA h2];exact leaf2 oM0 h3) rfl
  rename_i n1;rw [if_neg n1] at h
  split
  ·rename_i hk;rw [if_pos hk] at h
   have h4:(z05 l 4 (z05 l 12 g).2).1<4:=z1s oM0
   generalize (z05 l 4 (z05 l 12 g).2).1=z at *
   have hz:y39.getD z 0=20∨y39.getD z 0=21∨y39.getD z 0=23∨y39.getD z 0=27:=by
     have h5:z=0∨z=1∨z=2∨z=3:=by omega
     rcases h5 with rfl | rfl | rfl | rfl
     ·exact .inl rfl
     ·exact .inr (.inl rfl)
     ·exact .inr (.inr (.inl rfl))
     exact .inr (.inr (.inr rfl))
   exact key 3 _ 0 z0l [1] [1] _ rfl h i1 (fun A O h1 _ h3=>leaf3 (by rcases hz with e | e | e | e<;>rw [e]<;>rfl) (by rcases hz with e | e | e | e<;>rw [e]<;>rfl) h1 h3) rfl
  rename_i n2;rw [if_neg n2] at h
  split
  ·rename_i hk;rw [if_pos hk] at h
   exact key 3 22 0 z0l [2] [2] _ rfl h i2 (fun A O h1 _ h3=>leaf3 rfl rfl h1 h3) rfl
  rename_i n3;rw [if_neg n3] at h
  split
  ·rename_i hk;rw [if_pos hk] at h
   have h11:(z05 l 11 (z05 l 12 g).2).1<11:=z1s oM0
   exact key 4 _ 0 z0l [1,1] [1] _ rfl h i11 (fun A O h1 h2 h3=>leaf4 (a:=1) (b:=1) (by simp [z1q];omega) (by
     unfold z0a
     rw [if_neg (by simp;omega),if_neg (by simp;omega),if_neg (by simp;omega)]) h1 (twoA h2) h3) rfl
  rename_i n4;rw [if_neg n4] at h
  split
  ·rename_i hk;rw [if_pos hk] at h
   have h6:(z05 l 6 (z05 l 12 g).2).1<6:=z1s oM0
   refine key 4 _ 0 z0l [1,1] [2] _ rfl h i11 (fun A O h1 h2 h3=>?_) rfl
   by_cases hz:(z05 l 6 (z05 l 12 g).2).1<4
   ·exact leaf4 (a:=1) (b:=2) (by simp [z1q];omega) (by
      unfold z0a
      rw [if_neg (by simp;omega),if_neg (by simp;omega),if_pos (by simp;omega)]) h1 (twoA h2) h3
   exact leaf4 (a:=0) (b:=2) (by simp [z1q];omega) (by
     unfold z0a
     rw [if_neg (by simp;omega),if_pos (by simp;omega)]) (two00 h1) (twoA h2) h3
  rename_i n5;rw [if_neg n5] at h
  split
  ·rename_i hk;rw [if_pos hk] at h
   exact key 5 0 0 z72 [1] [1] _ rfl h i1 (fun A O h1 _ h3=>leaf5 E h1 h3) rfl
  rename_i n6;rw [if_neg n6] at h
  split
  ·rename_i hk;rw [if_pos hk] at h
   exact key 6 0 0 z72 [1,1] [] _ rfl h i11 (fun A O h1 _ h3=>by
     cases O with
     | nil=>exact leaf6 E h1
     | cons _ _=>simp [z24] at h3) rfl
  rename_i n7;rw [if_neg n7] at h
  split
  ·rename_i hk;rw [if_pos hk] at h
   exact key 7 0 0 z3k [1,2] [1] _ rfl h i12 (fun A O h1 _ h3=>leaf7 E h1 h3) rfl
  rename_i n8;rw [if_neg n8] at h
  split
  ·rename_i hk;rw [if_pos hk] at h
   exact key 8 0 0 z0l [] [1] _ rfl h i0 (fun A O _ h2 h3=>by rw [nilA h2];exact leaf8 h3) rfl
  rename_i hk;rw [if_neg hk] at h
  exact key 9 0 0 z0l [1] [] _ rfl h i1 (fun A O h1 _ h3=>by
    cases O with
    | nil=>exact leaf9 h1
    | cons _ _=>simp [z24] at h3) rfl
end
end
end Go.Proofs.YtfaeemilgahcpaaGreat
