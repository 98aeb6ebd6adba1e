/- Units by numbers: whether same refuses one is what the document says; else what comes out may be, has its arrays and flows' heads, and nothing is reckoned twice in a list. Conditions: none beyond those of the given statement. -/
import Derived.Test.YthbcibeddfacbaaGreatSg5
set_option maxRecDepth 8000
set_option maxHeartbeats 2000000
set_option linter.unusedSimpArgs false
set_option linter.unusedVariables false
set_option linter.unusedSectionVars false
namespace Go.Proofs.YthbcibeddfacbaaGreat
open Go
theorem zo2 (N : Nat) : ∀ (l : List Nd) (tb : Tb) (to : TT) (hok : za1 l = true) (hb : lsW l <= 1073741824), SizeOf.sizeOf l < N -> SC Tryz.prog 23 [tV, .pv (z0a l)] (tH tb to) (fun _ => False) (.pv (z0a (z0p tb to l).1)) (tH (z0p tb to l).2.1 (z0p tb to l).2.2) := by
  induction N with
  | zero => intro l tb to hok hb hN; exact absurd hN (Nat.not_lt_zero _)
  | succ N ih =>
    intro l tb to hok hb hN
    refine SC.of Tryz.func23 rfl (lb rfl) fun F ρ w => ?_
    refine Tr.lenOf (t := 1) rfl (fun hl => ?_)
    simp only [List.length_map] at hl
    refine tQ <| tG <| cE rfl (z5g (k := 102) rfl rfl rfl rfl rfl rfl rfl) <| sm 1 rfl <| nL <| tQ <| tQ <| Tr.grow (t := 4) (k := 104) ⟨43, 8⟩ rfl rfl rfl rfl rfl <| tG <| sm 1 rfl <| cV rfl (oSm uT44 rfl) <| sm 1 rfl ?_
    refine nL <| tBk <| Tr.sub (Sub.of (fr' := [(12, iInt 0), (11, iInt l.length), (10, .pv (z0a l)), (4, .sl 104 (([] : List Nd).map Nd.enc).length), (2, .ptr 102 0)]) ⟨rfl, rfl, rfl, rfl, rfl, trivial⟩) ?_
    refine Tr.loop (fun fr σ m => ∃ (k : Nat) (out : List Nd) (tb2 : Tb) (to2 : TT), (k <= l.length) /\ ((out ++ (z0p tb2 to2 (l.drop k)).1, (z0p tb2 to2 (l.drop k)).2) = z0p tb to l) /\ fr = [(12, iInt k), (11, iInt l.length), (10, .pv (z0a l)), (4, .sl 104 (out.map Nd.enc).length), (2, .ptr 102 0)] /\ σ = look [(104, some (.row ⟨43, 8⟩ (out.map Nd.enc))), (102, some (.box [.mp 3001, .mp 3002, .mp 3003])), (3001, some (.map (kyEs tb2.seen))), (3002, some (.map (inEs tb2.nums))), (3003, some (.map (inEs to2)))] /\ m = l.length - k) (n := l.length - 0) ?_ ?_
    ·exact ⟨0, ([] : List Nd), tb, to, Nat.zero_le _, rfl, rfl, rfl, rfl⟩
    ·rintro fr σ m ⟨k, out, tb2, to2, hI0, hI1, rfl, rfl, rfl⟩
     refine tQ <| tG <| sm 1 rfl <| nL <| tQ ?_
     refine tC rfl (fun hc13 => ?_) fun hc13 => ?_
     ·have hlt : k < l.length := by simpa using hc13
      have hd := List.drop_eq_getElem_cons hlt
      have hm := List.getElem_mem hlt
      have hi := z2m (List.getElem?_eq_getElem hlt)
      generalize l[k] = x at hd hm hi
      have hxok := zv3 hok hm
      rw [y0l] at hxok
      simp only [Bool.and_eq_true] at hxok
      have hlen1 := z81 l tb to
      have hlen2 := ls_len l
      have hol : out.length + (z05 tb2 to2 x).1.length <= 1073741824 := by
        have := congrArg (fun p => p.1.length) hI1
        rw [hd] at this
        simp only [z0p, List.length_append] at this
        omega
      have hWx := z91 x
      have hWl := zn2 hm
      have hkl : x.kids.length <= 1073741824 := by
        have := kd_len x.kids; omega
      have hml : (out.map Nd.enc).length = out.length := by simp
      refine tSk <| tQ <| tBk <| tQ <| tG <| cV rfl (iSq rfl rfl rfl uT44 hi tS43 rfl (by rfl)) <| cV rfl (lEA rfl rfl uT43 rfl tS43 (lb rfl)) <| cE rfl (aLc (k := 106) rfl tZ43 rfl rfl rfl rfl) <| c0 (sBA rfl rfl rfl rfl rfl ((fun h => h)) tS43 (flk rfl) (lb rfl)) <| nL <| tQ <| tG ?_
      refine cV rfl (z1n rfl rfl rfl Tryz.underlying62 rfl tS62 (lb rfl) trivial) <| sm 2 rfl <| cE rfl (ocr (y4e x.args tb2 to2 oM0) ent39 rfl (po3 rfl rfl rfl) rfl nf rfl rfl) <| sm 1 rfl <| c0 (sBx rfl rfl rfl rfl ((fun h => h)) tS35 (rfl) (lb rfl)) <| nL <| tQ <| tG <| sm 1 rfl <| nL <| tQ <| tQ ?_
      refine Tr.grow (t := 7) (k := 107) ⟨44, 1⟩ rfl rfl rfl rfl rfl <| tG <| sm 2 rfl <| cV rfl (oSm uT41 rfl) <| sm 1 rfl <| nL <| tBk <| Tr.sub (Sub.of (fr' := [(24, iInt 0), (23, iInt x.kids.length), (22, .pv (kids x.kids)), (7, .sl 107 (([] : List (List Nd)).map eKid).length), (6, .ptr 106 0), (4, .sl 104 (out.map Nd.enc).length), (2, .ptr 102 0), (12, iInt k), (11, iInt l.length), (10, .pv (z0a l))]) ⟨rfl, rfl, rfl, rfl, rfl, rfl, rfl, rfl, rfl, rfl, trivial⟩) ?_
      refine Tr.heap (σ' := look [(107, some (.row ⟨44, 1⟩ (([] : List (List Nd)).map eKid))), (106, some (.box [iInt x.kind, iInt x.op, iInt x.n, iStr x.name, .pv (ints (x.args.map (z23 to2))), .pv (ints x.outs), .pv (ints x.params), .pv (kids x.kids)])), (104, some (.row ⟨43, 8⟩ (out.map Nd.enc))), (102, some (.box [.mp 3001, .mp 3002, .mp 3003])), (3001, some (.map (kyEs tb2.seen))), (3002, some (.map (inEs tb2.nums))), (3003, some (.map (inEs to2)))]) (by
  intro j
  try simp only [look]
  by_cases h107 : 107 = j
  · subst h107; rfl
  · by_cases h106 : 106 = j
    · subst h106; rfl
    · by_cases h104 : 104 = j
      · subst h104; rfl
      · by_cases h102 : 102 = j
        · subst h102; rfl
        · by_cases h3001 : 3001 = j
          · subst h3001; rfl
          · by_cases h3002 : 3002 = j
            · subst h3002; rfl
            · by_cases h3003 : 3003 = j
              · subst h3003; rfl
              · simp [tH, look, up, z00 h107, z00 h106, z00 h104, z00 h102, z00 h3001, z00 h3002, z00 h3003]) ?_
      refine Tr.loop (fun fr σ m => ∃ (i : Nat) (acc : List (List Nd)) (to3 : TT), (i <= x.kids.length) /\ ((acc ++ (z0l tb2 to3 (x.kids.drop i)).1, (z0l tb2 to3 (x.kids.drop i)).2) = z0l tb2 to2 x.kids) /\ (acc.length = i) /\ fr = [(24, iInt i), (23, iInt x.kids.length), (22, .pv (kids x.kids)), (7, .sl 107 (acc.map eKid).length), (6, .ptr 106 0), (4, .sl 104 (out.map Nd.enc).length), (2, .ptr 102 0), (12, iInt k), (11, iInt l.length), (10, .pv (z0a l))] /\ σ = look [(107, some (.row ⟨44, 1⟩ (acc.map eKid))), (106, some (.box [iInt x.kind, iInt x.op, iInt x.n, iStr x.name, .pv (ints (x.args.map (z23 to2))), .pv (ints x.outs), .pv (ints x.params), .pv (kids x.kids)])), (104, some (.row ⟨43, 8⟩ (out.map Nd.enc))), (102, some (.box [.mp 3001, .mp 3002, .mp 3003])), (3001, some (.map (kyEs tb2.seen))), (3002, some (.map (inEs tb2.nums))), (3003, some (.map (inEs to3)))] /\ m = x.kids.length - i) (n := x.kids.length - 0) ?_ ?_
      ·exact ⟨0, ([] : List (List Nd)), to2, Nat.zero_le _, rfl, rfl, rfl, rfl, rfl⟩
      rintro fr σ m ⟨i, acc, to3, hJ0, hJ1, hJ2, rfl, rfl, rfl⟩
      refine tQ <| tG <| sm 1 rfl <| nL <| tQ ?_
      refine tC rfl (fun hc25 => ?_) fun hc25 => ?_
      ·have hlt2 : i < x.kids.length := by simpa using hc25
       have hd2 := List.drop_eq_getElem_cons hlt2
       have hm2 := List.getElem_mem hlt2
       have hi2 := z0f (f := eKid) (List.getElem?_eq_getElem hlt2)
       generalize x.kids[i] = q at hd2 hm2 hi2
       have hdec : SizeOf.sizeOf q < N := Nat.lt_of_lt_of_le (z78 hm rfl hm2) (Nat.le_of_lt_succ hN)
       have hqok := zv2 hxok.2 hm2
       have hqb : lsW q <= 1073741824 := by have := z9l hm2; omega
       have hal : (acc.map eKid).length = acc.length := by simp
       have hsw : SC Tryz.prog 23 [.agg [.mp 3101, .mp 3102, .mp 3003], .pv (z0a q)] [(3101, .map (kyEs tb2.seen)), (3102, .map (inEs tb2.nums)), (3003, .map (inEs to3))] (fun _ => False) (.pv (z0a (z0p tb2 to3 q).1)) [(3101, .map (kyEs (z0p tb2 to3 q).2.1.seen)), (3102, .map (inEs (z0p tb2 to3 q).2.1.nums)), (3003, .map (inEs (z0p tb2 to3 q).2.2))] := SC.sw 3001 3101 (SC.sw 3002 3102 (ih q tb2 to3 hqok hqb hdec))
       refine tSk <| tQ <| tBk <| tQ <| tG <| cV rfl (iSq rfl rfl rfl uT41 hi2 tS44 rfl (by rfl)) <| sm 2 rfl <| nL <| tG <| sm 1 rfl <| cV rfl (z1n rfl rfl rfl Tryz.underlying62 rfl tS62 (lb rfl) trivial) <| cE rfl (y3e (ns := [3101, 3102]) (sc_stKid tb2 to3) ent40 rfl rfl (sRf _ _) (po3 rfl rfl rfl) rfl (mem2 rfl rfl) (mem2 rfl rfl) (mem2 rfl rfl) (mem2 rfl rfl) (fun k (h : _) => (show False from h).elim) rfl (by rfl)) ?_
       refine sm 1 rfl <| cE rfl (ocr (hsw) ent23 rfl (po3 rfl rfl rfl) rfl (fun k (h : _) => .inr h) rfl rfl) <| cE rfl (bSl rfl rfl uT41 tZ44 tS44 rfl rfl rfl rfl (fbk rfl) rfl) ?_
       refine cE rfl (aPp rfl rfl rfl rfl (by rfl) ((fun h => h)) uT41 tB44 dC0 (by (simp [z03]; done)) (by (simp [z03, PV.one]; rfl)) (by simp [maxLen, z03]; omega) (by simp [z03]; omega)) ?_
       refine sm 1 rfl <| nL <| Tr.drop (k := 3101) <| Tr.drop (k := 3102) ?_
       refine Tr.heap (σ' := look [(107, some (.row ⟨44, 1⟩ ((acc ++ [(z0p tb2 to3 q).1]).map eKid))), (106, some (.box [iInt x.kind, iInt x.op, iInt x.n, iStr x.name, .pv (ints (x.args.map (z23 to2))), .pv (ints x.outs), .pv (ints x.params), .pv (kids x.kids)])), (104, some (.row ⟨43, 8⟩ (out.map Nd.enc))), (102, some (.box [.mp 3001, .mp 3002, .mp 3003])), (3001, some (.map (kyEs tb2.seen))), (3002, some (.map (inEs tb2.nums))), (3003, some (.map (inEs (z0p tb2 to3 q).2.2)))]) (by
         rw [List.map_append]
         intro j
         try simp only [look]
         by_cases h3102 : 3102 = j
         · subst h3102; rfl
         · by_cases h3101 : 3101 = j
           · subst h3101; rfl
           · by_cases h107 : 107 = j
             · subst h107; rfl
             · by_cases h106 : 106 = j
               · subst h106; rfl
               · by_cases h104 : 104 = j
                 · subst h104; rfl
                 · by_cases h102 : 102 = j
                   · subst h102; rfl
                   · by_cases h3001 : 3001 = j
                     · subst h3001; rfl
                     · by_cases h3002 : 3002 = j
                       · subst h3002; rfl
                       · by_cases h3003 : 3003 = j
                         · subst h3003; rfl
                         · simp [tH, look, up, z00 h3102, z00 h3101, z00 h107, z00 h106, z00 h104, z00 h102, z00 h3001, z00 h3002, z00 h3003]) ?_
       refine tG <| cV rfl (oB rfl rfl (z07 rfl oM0)) <| sm 1 rfl <| nL ?_
       refine ⟨_, _, ?_, Sub.of (fr' := [(24, iInt (i + 1)), (23, iInt x.kids.length), (22, .pv (kids x.kids)), (7, .sl 107 ((acc ++ [(z0p tb2 to3 q).1]).map eKid).length), (6, .ptr 106 0), (4, .sl 104 (out.map Nd.enc).length), (2, .ptr 102 0), (12, iInt k), (11, iInt l.length), (10, .pv (z0a l))]) ⟨rfl, rfl, rfl, congrArg (fun z => some (IV.sl _ z)) (by rw [List.map_append]; simp [z03]), rfl, rfl, rfl, rfl, rfl, rfl, trivial⟩, (i + 1), (acc ++ [(z0p tb2 to3 q).1]), (z0p tb2 to3 q).2.2, ?_, ?_, ?_, rfl, rfl, rfl⟩
       ·omega
       ·omega
       ·rw [<- hJ1, hd2]
        simp only [z0l, List.append_assoc, List.singleton_append]
       simp [hJ2]
      refine tEx <| tQ ?_
      have hks : (acc, to3) = z0l tb2 to2 x.kids := by
        have := hJ1
        rw [List.drop_eq_nil_of_le (by simpa using hc25)] at this
        simpa [z0l] using this
      have hks1 : acc = (z0l tb2 to2 x.kids).1 := congrArg Prod.fst hks
      have hks2 : to3 = (z0l tb2 to2 x.kids).2 := congrArg Prod.snd hks
      clear hks hJ1
      subst hks1
      subst hks2
      refine tG <| sm 2 rfl <| c0 (sBx rfl rfl rfl rfl ((fun h => h)) tS41 (⟨_, _, rfl, rfl⟩) (lb rfl)) <| nL <| tQ <| tQ <| Tr.freezeCell (k := 107) (k2 := 106) (j := 7) rfl (by rfl) rfl rfl dC0 ?_
      refine Tr.heap (σ' := look [(106, some (.box [iInt x.kind, iInt x.op, iInt x.n, iStr x.name, .pv (ints (x.args.map (z23 to2))), .pv (ints x.outs), .pv (ints x.params), .pv (kids (z0l tb2 to2 x.kids).1)])), (104, some (.row ⟨43, 8⟩ (out.map Nd.enc))), (102, some (.box [.mp 3001, .mp 3002, .mp 3003])), (3001, some (.map (kyEs tb2.seen))), (3002, some (.map (inEs tb2.nums))), (3003, some (.map (inEs (z0l tb2 to2 x.kids).2)))]) (by
        skip
        intro j
        try simp only [look]
        by_cases h107 : 107 = j
        · subst h107; rfl
        · by_cases h106 : 106 = j
          · subst h106; rfl
          · by_cases h104 : 104 = j
            · subst h104; rfl
            · by_cases h102 : 102 = j
              · subst h102; rfl
              · by_cases h3001 : 3001 = j
                · subst h3001; rfl
                · by_cases h3002 : 3002 = j
                  · subst h3002; rfl
                  · by_cases h3003 : 3003 = j
                    · subst h3003; rfl
                    · simp [tH, look, up, z00 h107, z00 h106, z00 h104, z00 h102, z00 h3001, z00 h3002, z00 h3003]) ?_
      refine tG <| sm 2 rfl <| nL <| tBk <| tQ <| tQ <| tG <| sm 2 rfl <| nL ?_
      refine tC rfl (fun hc40 => ?_) fun hc40 => ?_
      ·have hK : stK x.kind = true := by simp only [stK, hc40, Bool.or_true, Bool.true_or]
       have hno : (z0z tb2 to2 x).outs ≠ [] := by
         have h1 := hxok.1.1.1
         rw [hK] at h1
         intro e
         rw [show x.outs = [] from e] at h1
         cases h1
       have hn3' : (z0z tb2 to2 x).kind = 3 -> 0 < (z0z tb2 to2 x).args.length := fun e => by
         have h1 := hxok.1.1.2
         rw [show x.kind = 3 from e] at h1
         simp only [bne_self_eq_false, Bool.false_or, decide_eq_true_eq] at h1
         have h2 : (z0z tb2 to2 x).args.length = x.args.length := List.length_map _
         omega
       have hn4' : (z0z tb2 to2 x).kind = 4 -> 1 < (z0z tb2 to2 x).args.length := fun e => by
         have h1 := hxok.1.2
         rw [show x.kind = 4 from e] at h1
         simp only [bne_self_eq_false, Bool.false_or, decide_eq_true_eq] at h1
         have h2 : (z0z tb2 to2 x).args.length = x.args.length := List.length_map _
         omega
       have hN : z05 tb2 to2 x = (if (z20 tb2 (z0l tb2 to2 x.kids).2 (z0z tb2 to2 x)).1 then [z0z tb2 to2 x] else [], (z20 tb2 (z0l tb2 to2 x.kids).2 (z0z tb2 to2 x)).2) := by rw [z5m, hK]; rfl
       refine tSk ?_
       refine tC rfl (fun hd40 => ?_) fun hd40 => ?_
       ·refine tQ <| tG <| cV rfl (z1n rfl rfl rfl Tryz.underlying62 rfl tS62 (lb rfl) trivial) <| cV rfl (lBP rfl rfl rfl uT43 rfl tS43 (lb rfl) rfl trivial) <| cE rfl (ocr (z9b (z0z tb2 to2 x) tb2 (z0l tb2 to2 x.kids).2 hno hn3' hn4') ent41 rfl (po3 rfl rfl rfl) rfl (fun k (h : _) => .inr h) rfl rfl) <| sm 1 rfl <| nL ?_
        refine tC rfl (fun hc48 => ?_) fun hc48 => ?_
        ·have hPf : (z20 tb2 (z0l tb2 to2 x.kids).2 (z0z tb2 to2 x)).1 = false := by simpa using hc48
         have hN1 : (z05 tb2 to2 x).1 = [] := by rw [hN, hPf]; rfl
         refine tEx ?_
         have hNq : (z05 tb2 to2 x).2 = (z05 tb2 to2 x).2 := rfl
         refine Tr.drop (k := 106) ?_
         refine Tr.heap (σ' := look [(104, some (.row ⟨43, 8⟩ ((out ++ (z05 tb2 to2 x).1).map Nd.enc))), (102, some (.box [.mp 3001, .mp 3002, .mp 3003])), (3001, some (.map (kyEs (z05 tb2 to2 x).2.1.seen))), (3002, some (.map (inEs (z05 tb2 to2 x).2.1.nums))), (3003, some (.map (inEs (z05 tb2 to2 x).2.2)))]) (by
           rw [hN1, List.append_nil, hN]
           intro j
           try simp only [look]
           by_cases h106 : 106 = j
           · subst h106; rfl
           · by_cases h104 : 104 = j
             · subst h104; rfl
             · by_cases h102 : 102 = j
               · subst h102; rfl
               · by_cases h3001 : 3001 = j
                 · subst h3001; rfl
                 · by_cases h3002 : 3002 = j
                   · subst h3002; rfl
                   · by_cases h3003 : 3003 = j
                     · subst h3003; rfl
                     · simp [tH, look, up, z00 h106, z00 h104, z00 h102, z00 h3001, z00 h3002, z00 h3003]) ?_
         refine tG <| cV rfl (oB rfl rfl (z07 rfl oM0)) <| sm 1 rfl <| nL ?_
         refine ⟨_, _, ?_, Sub.of (fr' := [(12, iInt (k + 1)), (11, iInt l.length), (10, .pv (z0a l)), (4, .sl 104 ((out ++ (z05 tb2 to2 x).1).map Nd.enc).length), (2, .ptr 102 0)]) ⟨rfl, rfl, rfl, congrArg (fun z => some (IV.sl _ z)) (by rw [hN1]; simp [z03]), rfl, trivial⟩, (k + 1), (out ++ (z05 tb2 to2 x).1), (z05 tb2 to2 x).2.1, (z05 tb2 to2 x).2.2, ?_, ?_, rfl, rfl, rfl⟩
         ·omega
         ·omega
         rw [<- hI1, hd]
         simp only [z0p, List.append_assoc]
        have hPt : (z20 tb2 (z0l tb2 to2 x.kids).2 (z0z tb2 to2 x)).1 = true := by simpa using hc48
        have hN1 : (z05 tb2 to2 x).1 = [z0z tb2 to2 x] := by rw [hN, hPt]; rfl
        have hol2 : out.length + 1 <= 1073741824 := by rw [hN1] at hol; exact hol
        refine tSk <| tG <| sm 1 rfl <| cV rfl (lBP rfl rfl rfl uT43 rfl tS43 (lb rfl) rfl trivial) <| cE rfl (bSl rfl rfl uT44 tZ43 tS43 rfl rfl rfl rfl (fbk rfl) rfl) ?_
        refine cE rfl (aPp rfl rfl rfl rfl (by rfl) ((fun h => h)) uT44 tB43 dC0 (by (simp [z03]; done)) (z5c _ _ _ _ _ _ _ _) (by simp [maxLen, z03]; omega) (by simp [z03]; omega)) ?_
        refine sm 1 rfl <| nL ?_
        have hNq : (z05 tb2 to2 x).2 = (z05 tb2 to2 x).2 := rfl
        refine Tr.drop (k := 106) ?_
        refine Tr.heap (σ' := look [(104, some (.row ⟨43, 8⟩ ((out ++ (z05 tb2 to2 x).1).map Nd.enc))), (102, some (.box [.mp 3001, .mp 3002, .mp 3003])), (3001, some (.map (kyEs (z05 tb2 to2 x).2.1.seen))), (3002, some (.map (inEs (z05 tb2 to2 x).2.1.nums))), (3003, some (.map (inEs (z05 tb2 to2 x).2.2)))]) (by
          rw [hN1, z8s, hN]
          intro j
          try simp only [look]
          by_cases h106 : 106 = j
          · subst h106; rfl
          · by_cases h104 : 104 = j
            · subst h104; rfl
            · by_cases h102 : 102 = j
              · subst h102; rfl
              · by_cases h3001 : 3001 = j
                · subst h3001; rfl
                · by_cases h3002 : 3002 = j
                  · subst h3002; rfl
                  · by_cases h3003 : 3003 = j
                    · subst h3003; rfl
                    · simp [tH, look, up, z00 h106, z00 h104, z00 h102, z00 h3001, z00 h3002, z00 h3003]) ?_
        refine tG <| cV rfl (oB rfl rfl (z07 rfl oM0)) <| sm 1 rfl <| nL ?_
        refine ⟨_, _, ?_, Sub.of (fr' := [(12, iInt (k + 1)), (11, iInt l.length), (10, .pv (z0a l)), (4, .sl 104 ((out ++ (z05 tb2 to2 x).1).map Nd.enc).length), (2, .ptr 102 0)]) ⟨rfl, rfl, rfl, congrArg (fun z => some (IV.sl _ z)) (by rw [hN1]; simp [z03]), rfl, trivial⟩, (k + 1), (out ++ (z05 tb2 to2 x).1), (z05 tb2 to2 x).2.1, (z05 tb2 to2 x).2.2, ?_, ?_, rfl, rfl, rfl⟩
        ·omega
        ·omega
        rw [<- hI1, hd]
        simp only [z0p, List.append_assoc]
       exact absurd (hc40.symm.trans hd40) dC0
      refine tQ ?_
      have hn1 : (x.kind == 1) = false := hc40
      refine tG <| sm 2 rfl <| nL ?_
      refine tC rfl (fun hc40 => ?_) fun hc40 => ?_
      ·have hK : stK x.kind = true := by simp only [stK, hc40, Bool.or_true, Bool.true_or]
       have hno : (z0z tb2 to2 x).outs ≠ [] := by
         have h1 := hxok.1.1.1
         rw [hK] at h1
         intro e
         rw [show x.outs = [] from e] at h1
         cases h1
       have hn3' : (z0z tb2 to2 x).kind = 3 -> 0 < (z0z tb2 to2 x).args.length := fun e => by
         have h1 := hxok.1.1.2
         rw [show x.kind = 3 from e] at h1
         simp only [bne_self_eq_false, Bool.false_or, decide_eq_true_eq] at h1
         have h2 : (z0z tb2 to2 x).args.length = x.args.length := List.length_map _
         omega
       have hn4' : (z0z tb2 to2 x).kind = 4 -> 1 < (z0z tb2 to2 x).args.length := fun e => by
         have h1 := hxok.1.2
         rw [show x.kind = 4 from e] at h1
         simp only [bne_self_eq_false, Bool.false_or, decide_eq_true_eq] at h1
         have h2 : (z0z tb2 to2 x).args.length = x.args.length := List.length_map _
         omega
       have hN : z05 tb2 to2 x = (if (z20 tb2 (z0l tb2 to2 x.kids).2 (z0z tb2 to2 x)).1 then [z0z tb2 to2 x] else [], (z20 tb2 (z0l tb2 to2 x.kids).2 (z0z tb2 to2 x)).2) := by rw [z5m, hK]; rfl
       refine tSk ?_
       refine tC rfl (fun hd40 => ?_) fun hd40 => ?_
       ·refine tQ <| tG <| cV rfl (z1n rfl rfl rfl Tryz.underlying62 rfl tS62 (lb rfl) trivial) <| cV rfl (lBP rfl rfl rfl uT43 rfl tS43 (lb rfl) rfl trivial) <| cE rfl (ocr (z9b (z0z tb2 to2 x) tb2 (z0l tb2 to2 x.kids).2 hno hn3' hn4') ent41 rfl (po3 rfl rfl rfl) rfl (fun k (h : _) => .inr h) rfl rfl) <| sm 1 rfl <| nL ?_
        refine tC rfl (fun hc48 => ?_) fun hc48 => ?_
        ·have hPf : (z20 tb2 (z0l tb2 to2 x.kids).2 (z0z tb2 to2 x)).1 = false := by simpa using hc48
         have hN1 : (z05 tb2 to2 x).1 = [] := by rw [hN, hPf]; rfl
         refine tEx ?_
         have hNq : (z05 tb2 to2 x).2 = (z05 tb2 to2 x).2 := rfl
         refine Tr.drop (k := 106) ?_
         refine Tr.heap (σ' := look [(104, some (.row ⟨43, 8⟩ ((out ++ (z05 tb2 to2 x).1).map Nd.enc))), (102, some (.box [.mp 3001, .mp 3002, .mp 3003])), (3001, some (.map (kyEs (z05 tb2 to2 x).2.1.seen))), (3002, some (.map (inEs (z05 tb2 to2 x).2.1.nums))), (3003, some (.map (inEs (z05 tb2 to2 x).2.2)))]) (by
           rw [hN1, List.append_nil, hN]
           intro j
           try simp only [look]
           by_cases h106 : 106 = j
           · subst h106; rfl
           · by_cases h104 : 104 = j
             · subst h104; rfl
             · by_cases h102 : 102 = j
               · subst h102; rfl
               · by_cases h3001 : 3001 = j
                 · subst h3001; rfl
                 · by_cases h3002 : 3002 = j
                   · subst h3002; rfl
                   · by_cases h3003 : 3003 = j
                     · subst h3003; rfl
                     · simp [tH, look, up, z00 h106, z00 h104, z00 h102, z00 h3001, z00 h3002, z00 h3003]) ?_
         refine tG <| cV rfl (oB rfl rfl (z07 rfl oM0)) <| sm 1 rfl <| nL ?_
         refine ⟨_, _, ?_, Sub.of (fr' := [(12, iInt (k + 1)), (11, iInt l.length), (10, .pv (z0a l)), (4, .sl 104 ((out ++ (z05 tb2 to2 x).1).map Nd.enc).length), (2, .ptr 102 0)]) ⟨rfl, rfl, rfl, congrArg (fun z => some (IV.sl _ z)) (by rw [hN1]; simp [z03]), rfl, trivial⟩, (k + 1), (out ++ (z05 tb2 to2 x).1), (z05 tb2 to2 x).2.1, (z05 tb2 to2 x).2.2, ?_, ?_, rfl, rfl, rfl⟩
         ·omega
         ·omega
         rw [<- hI1, hd]
         simp only [z0p, List.append_assoc]
        have hPt : (z20 tb2 (z0l tb2 to2 x.kids).2 (z0z tb2 to2 x)).1 = true := by simpa using hc48
        have hN1 : (z05 tb2 to2 x).1 = [z0z tb2 to2 x] := by rw [hN, hPt]; rfl
        have hol2 : out.length + 1 <= 1073741824 := by rw [hN1] at hol; exact hol
        refine tSk <| tG <| sm 1 rfl <| cV rfl (lBP rfl rfl rfl uT43 rfl tS43 (lb rfl) rfl trivial) <| cE rfl (bSl rfl rfl uT44 tZ43 tS43 rfl rfl rfl rfl (fbk rfl) rfl) ?_
        refine cE rfl (aPp rfl rfl rfl rfl (by rfl) ((fun h => h)) uT44 tB43 dC0 (by (simp [z03]; done)) (z5c _ _ _ _ _ _ _ _) (by simp [maxLen, z03]; omega) (by simp [z03]; omega)) ?_
        refine sm 1 rfl <| nL ?_
        have hNq : (z05 tb2 to2 x).2 = (z05 tb2 to2 x).2 := rfl
        refine Tr.drop (k := 106) ?_
        refine Tr.heap (σ' := look [(104, some (.row ⟨43, 8⟩ ((out ++ (z05 tb2 to2 x).1).map Nd.enc))), (102, some (.box [.mp 3001, .mp 3002, .mp 3003])), (3001, some (.map (kyEs (z05 tb2 to2 x).2.1.seen))), (3002, some (.map (inEs (z05 tb2 to2 x).2.1.nums))), (3003, some (.map (inEs (z05 tb2 to2 x).2.2)))]) (by
          rw [hN1, z8s, hN]
          intro j
          try simp only [look]
          by_cases h106 : 106 = j
          · subst h106; rfl
          · by_cases h104 : 104 = j
            · subst h104; rfl
            · by_cases h102 : 102 = j
              · subst h102; rfl
              · by_cases h3001 : 3001 = j
                · subst h3001; rfl
                · by_cases h3002 : 3002 = j
                  · subst h3002; rfl
                  · by_cases h3003 : 3003 = j
                    · subst h3003; rfl
                    · simp [tH, look, up, z00 h106, z00 h104, z00 h102, z00 h3001, z00 h3002, z00 h3003]) ?_
        refine tG <| cV rfl (oB rfl rfl (z07 rfl oM0)) <| sm 1 rfl <| nL ?_
        refine ⟨_, _, ?_, Sub.of (fr' := [(12, iInt (k + 1)), (11, iInt l.length), (10, .pv (z0a l)), (4, .sl 104 ((out ++ (z05 tb2 to2 x).1).map Nd.enc).length), (2, .ptr 102 0)]) ⟨rfl, rfl, rfl, congrArg (fun z => some (IV.sl _ z)) (by rw [hN1]; simp [z03]), rfl, trivial⟩, (k + 1), (out ++ (z05 tb2 to2 x).1), (z05 tb2 to2 x).2.1, (z05 tb2 to2 x).2.2, ?_, ?_, rfl, rfl, rfl⟩
        ·omega
        ·omega
        rw [<- hI1, hd]
        simp only [z0p, List.append_assoc]
       exact absurd (hc40.symm.trans hd40) dC0
      refine tQ ?_
      have hn2 : (x.kind == 2) = false := hc40
      refine tG <| sm 2 rfl <| nL ?_
      refine tC rfl (fun hc40 => ?_) fun hc40 => ?_
      ·have hK : stK x.kind = true := by simp only [stK, hc40, Bool.or_true, Bool.true_or]
       have hno : (z0z tb2 to2 x).outs ≠ [] := by
         have h1 := hxok.1.1.1
         rw [hK] at h1
         intro e
         rw [show x.outs = [] from e] at h1
         cases h1
       have hn3' : (z0z tb2 to2 x).kind = 3 -> 0 < (z0z tb2 to2 x).args.length := fun e => by
         have h1 := hxok.1.1.2
         rw [show x.kind = 3 from e] at h1
         simp only [bne_self_eq_false, Bool.false_or, decide_eq_true_eq] at h1
         have h2 : (z0z tb2 to2 x).args.length = x.args.length := List.length_map _
         omega
       have hn4' : (z0z tb2 to2 x).kind = 4 -> 1 < (z0z tb2 to2 x).args.length := fun e => by
         have h1 := hxok.1.2
         rw [show x.kind = 4 from e] at h1
         simp only [bne_self_eq_false, Bool.false_or, decide_eq_true_eq] at h1
         have h2 : (z0z tb2 to2 x).args.length = x.args.length := List.length_map _
         omega
       have hN : z05 tb2 to2 x = (if (z20 tb2 (z0l tb2 to2 x.kids).2 (z0z tb2 to2 x)).1 then [z0z tb2 to2 x] else [], (z20 tb2 (z0l tb2 to2 x.kids).2 (z0z tb2 to2 x)).2) := by rw [z5m, hK]; rfl
       refine tSk ?_
       refine tC rfl (fun hd40 => ?_) fun hd40 => ?_
       ·refine tQ <| tG <| cV rfl (z1n rfl rfl rfl Tryz.underlying62 rfl tS62 (lb rfl) trivial) <| cV rfl (lBP rfl rfl rfl uT43 rfl tS43 (lb rfl) rfl trivial) <| cE rfl (ocr (z9b (z0z tb2 to2 x) tb2 (z0l tb2 to2 x.kids).2 hno hn3' hn4') ent41 rfl (po3 rfl rfl rfl) rfl (fun k (h : _) => .inr h) rfl rfl) <| sm 1 rfl <| nL ?_
        refine tC rfl (fun hc48 => ?_) fun hc48 => ?_
        ·have hPf : (z20 tb2 (z0l tb2 to2 x.kids).2 (z0z tb2 to2 x)).1 = false := by simpa using hc48
         have hN1 : (z05 tb2 to2 x).1 = [] := by rw [hN, hPf]; rfl
         refine tEx ?_
         have hNq : (z05 tb2 to2 x).2 = (z05 tb2 to2 x).2 := rfl
         refine Tr.drop (k := 106) ?_
         refine Tr.heap (σ' := look [(104, some (.row ⟨43, 8⟩ ((out ++ (z05 tb2 to2 x).1).map Nd.enc))), (102, some (.box [.mp 3001, .mp 3002, .mp 3003])), (3001, some (.map (kyEs (z05 tb2 to2 x).2.1.seen))), (3002, some (.map (inEs (z05 tb2 to2 x).2.1.nums))), (3003, some (.map (inEs (z05 tb2 to2 x).2.2)))]) (by
           rw [hN1, List.append_nil, hN]
           intro j
           try simp only [look]
           by_cases h106 : 106 = j
           · subst h106; rfl
           · by_cases h104 : 104 = j
             · subst h104; rfl
             · by_cases h102 : 102 = j
               · subst h102; rfl
               · by_cases h3001 : 3001 = j
                 · subst h3001; rfl
                 · by_cases h3002 : 3002 = j
                   · subst h3002; rfl
                   · by_cases h3003 : 3003 = j
                     · subst h3003; rfl
                     · simp [tH, look, up, z00 h106, z00 h104, z00 h102, z00 h3001, z00 h3002, z00 h3003]) ?_
         refine tG <| cV rfl (oB rfl rfl (z07 rfl oM0)) <| sm 1 rfl <| nL ?_
         refine ⟨_, _, ?_, Sub.of (fr' := [(12, iInt (k + 1)), (11, iInt l.length), (10, .pv (z0a l)), (4, .sl 104 ((out ++ (z05 tb2 to2 x).1).map Nd.enc).length), (2, .ptr 102 0)]) ⟨rfl, rfl, rfl, congrArg (fun z => some (IV.sl _ z)) (by rw [hN1]; simp [z03]), rfl, trivial⟩, (k + 1), (out ++ (z05 tb2 to2 x).1), (z05 tb2 to2 x).2.1, (z05 tb2 to2 x).2.2, ?_, ?_, rfl, rfl, rfl⟩
         ·omega
         ·omega
         rw [<- hI1, hd]
         simp only [z0p, List.append_assoc]
        have hPt : (z20 tb2 (z0l tb2 to2 x.kids).2 (z0z tb2 to2 x)).1 = true := by simpa using hc48
        have hN1 : (z05 tb2 to2 x).1 = [z0z tb2 to2 x] := by rw [hN, hPt]; rfl
        have hol2 : out.length + 1 <= 1073741824 := by rw [hN1] at hol; exact hol
        refine tSk <| tG <| sm 1 rfl <| cV rfl (lBP rfl rfl rfl uT43 rfl tS43 (lb rfl) rfl trivial) <| cE rfl (bSl rfl rfl uT44 tZ43 tS43 rfl rfl rfl rfl (fbk rfl) rfl) ?_
        refine cE rfl (aPp rfl rfl rfl rfl (by rfl) ((fun h => h)) uT44 tB43 dC0 (by (simp [z03]; done)) (z5c _ _ _ _ _ _ _ _) (by simp [maxLen, z03]; omega) (by simp [z03]; omega)) ?_
        refine sm 1 rfl <| nL ?_
        have hNq : (z05 tb2 to2 x).2 = (z05 tb2 to2 x).2 := rfl
        refine Tr.drop (k := 106) ?_
        refine Tr.heap (σ' := look [(104, some (.row ⟨43, 8⟩ ((out ++ (z05 tb2 to2 x).1).map Nd.enc))), (102, some (.box [.mp 3001, .mp 3002, .mp 3003])), (3001, some (.map (kyEs (z05 tb2 to2 x).2.1.seen))), (3002, some (.map (inEs (z05 tb2 to2 x).2.1.nums))), (3003, some (.map (inEs (z05 tb2 to2 x).2.2)))]) (by
          rw [hN1, z8s, hN]
          intro j
          try simp only [look]
          by_cases h106 : 106 = j
          · subst h106; rfl
          · by_cases h104 : 104 = j
            · subst h104; rfl
            · by_cases h102 : 102 = j
              · subst h102; rfl
              · by_cases h3001 : 3001 = j
                · subst h3001; rfl
                · by_cases h3002 : 3002 = j
                  · subst h3002; rfl
                  · by_cases h3003 : 3003 = j
                    · subst h3003; rfl
                    · simp [tH, look, up, z00 h106, z00 h104, z00 h102, z00 h3001, z00 h3002, z00 h3003]) ?_
        refine tG <| cV rfl (oB rfl rfl (z07 rfl oM0)) <| sm 1 rfl <| nL ?_
        refine ⟨_, _, ?_, Sub.of (fr' := [(12, iInt (k + 1)), (11, iInt l.length), (10, .pv (z0a l)), (4, .sl 104 ((out ++ (z05 tb2 to2 x).1).map Nd.enc).length), (2, .ptr 102 0)]) ⟨rfl, rfl, rfl, congrArg (fun z => some (IV.sl _ z)) (by rw [hN1]; simp [z03]), rfl, trivial⟩, (k + 1), (out ++ (z05 tb2 to2 x).1), (z05 tb2 to2 x).2.1, (z05 tb2 to2 x).2.2, ?_, ?_, rfl, rfl, rfl⟩
        ·omega
        ·omega
        rw [<- hI1, hd]
        simp only [z0p, List.append_assoc]
       exact absurd (hc40.symm.trans hd40) dC0
      have hn3 : (x.kind == 3) = false := hc40
      refine tG <| sm 2 rfl <| nL ?_
      refine tC rfl (fun hc40 => ?_) fun hc40 => ?_
      ·have hK : stK x.kind = true := by simp only [stK, hc40, Bool.or_true, Bool.true_or]
       have hno : (z0z tb2 to2 x).outs ≠ [] := by
         have h1 := hxok.1.1.1
         rw [hK] at h1
         intro e
         rw [show x.outs = [] from e] at h1
         cases h1
       have hn3' : (z0z tb2 to2 x).kind = 3 -> 0 < (z0z tb2 to2 x).args.length := fun e => by
         have h1 := hxok.1.1.2
         rw [show x.kind = 3 from e] at h1
         simp only [bne_self_eq_false, Bool.false_or, decide_eq_true_eq] at h1
         have h2 : (z0z tb2 to2 x).args.length = x.args.length := List.length_map _
         omega
       have hn4' : (z0z tb2 to2 x).kind = 4 -> 1 < (z0z tb2 to2 x).args.length := fun e => by
         have h1 := hxok.1.2
         rw [show x.kind = 4 from e] at h1
         simp only [bne_self_eq_false, Bool.false_or, decide_eq_true_eq] at h1
         have h2 : (z0z tb2 to2 x).args.length = x.args.length := List.length_map _
         omega
       have hN : z05 tb2 to2 x = (if (z20 tb2 (z0l tb2 to2 x.kids).2 (z0z tb2 to2 x)).1 then [z0z tb2 to2 x] else [], (z20 tb2 (z0l tb2 to2 x.kids).2 (z0z tb2 to2 x)).2) := by rw [z5m, hK]; rfl
       refine tQ <| tG <| cV rfl (z1n rfl rfl rfl Tryz.underlying62 rfl tS62 (lb rfl) trivial) <| cV rfl (lBP rfl rfl rfl uT43 rfl tS43 (lb rfl) rfl trivial) <| cE rfl (ocr (z9b (z0z tb2 to2 x) tb2 (z0l tb2 to2 x.kids).2 hno hn3' hn4') ent41 rfl (po3 rfl rfl rfl) rfl (fun k (h : _) => .inr h) rfl rfl) <| sm 1 rfl <| nL ?_
       refine tC rfl (fun hc48 => ?_) fun hc48 => ?_
       ·have hPf : (z20 tb2 (z0l tb2 to2 x.kids).2 (z0z tb2 to2 x)).1 = false := by simpa using hc48
        have hN1 : (z05 tb2 to2 x).1 = [] := by rw [hN, hPf]; rfl
        refine tEx ?_
        have hNq : (z05 tb2 to2 x).2 = (z05 tb2 to2 x).2 := rfl
        refine Tr.drop (k := 106) ?_
        refine Tr.heap (σ' := look [(104, some (.row ⟨43, 8⟩ ((out ++ (z05 tb2 to2 x).1).map Nd.enc))), (102, some (.box [.mp 3001, .mp 3002, .mp 3003])), (3001, some (.map (kyEs (z05 tb2 to2 x).2.1.seen))), (3002, some (.map (inEs (z05 tb2 to2 x).2.1.nums))), (3003, some (.map (inEs (z05 tb2 to2 x).2.2)))]) (by
          rw [hN1, List.append_nil, hN]
          intro j
          try simp only [look]
          by_cases h106 : 106 = j
          · subst h106; rfl
          · by_cases h104 : 104 = j
            · subst h104; rfl
            · by_cases h102 : 102 = j
              · subst h102; rfl
              · by_cases h3001 : 3001 = j
                · subst h3001; rfl
                · by_cases h3002 : 3002 = j
                  · subst h3002; rfl
                  · by_cases h3003 : 3003 = j
                    · subst h3003; rfl
                    · simp [tH, look, up, z00 h106, z00 h104, z00 h102, z00 h3001, z00 h3002, z00 h3003]) ?_
        refine tG <| cV rfl (oB rfl rfl (z07 rfl oM0)) <| sm 1 rfl <| nL ?_
        refine ⟨_, _, ?_, Sub.of (fr' := [(12, iInt (k + 1)), (11, iInt l.length), (10, .pv (z0a l)), (4, .sl 104 ((out ++ (z05 tb2 to2 x).1).map Nd.enc).length), (2, .ptr 102 0)]) ⟨rfl, rfl, rfl, congrArg (fun z => some (IV.sl _ z)) (by rw [hN1]; simp [z03]), rfl, trivial⟩, (k + 1), (out ++ (z05 tb2 to2 x).1), (z05 tb2 to2 x).2.1, (z05 tb2 to2 x).2.2, ?_, ?_, rfl, rfl, rfl⟩
        ·omega
        ·omega
        rw [<- hI1, hd]
        simp only [z0p, List.append_assoc]
       have hPt : (z20 tb2 (z0l tb2 to2 x.kids).2 (z0z tb2 to2 x)).1 = true := by simpa using hc48
       have hN1 : (z05 tb2 to2 x).1 = [z0z tb2 to2 x] := by rw [hN, hPt]; rfl
       have hol2 : out.length + 1 <= 1073741824 := by rw [hN1] at hol; exact hol
       refine tSk <| tG <| sm 1 rfl <| cV rfl (lBP rfl rfl rfl uT43 rfl tS43 (lb rfl) rfl trivial) <| cE rfl (bSl rfl rfl uT44 tZ43 tS43 rfl rfl rfl rfl (fbk rfl) rfl) ?_
       refine cE rfl (aPp rfl rfl rfl rfl (by rfl) ((fun h => h)) uT44 tB43 dC0 (by (simp [z03]; done)) (z5c _ _ _ _ _ _ _ _) (by simp [maxLen, z03]; omega) (by simp [z03]; omega)) ?_
       refine sm 1 rfl <| nL ?_
       have hNq : (z05 tb2 to2 x).2 = (z05 tb2 to2 x).2 := rfl
       refine Tr.drop (k := 106) ?_
       refine Tr.heap (σ' := look [(104, some (.row ⟨43, 8⟩ ((out ++ (z05 tb2 to2 x).1).map Nd.enc))), (102, some (.box [.mp 3001, .mp 3002, .mp 3003])), (3001, some (.map (kyEs (z05 tb2 to2 x).2.1.seen))), (3002, some (.map (inEs (z05 tb2 to2 x).2.1.nums))), (3003, some (.map (inEs (z05 tb2 to2 x).2.2)))]) (by
         rw [hN1, z8s, hN]
         intro j
         try simp only [look]
         by_cases h106 : 106 = j
         · subst h106; rfl
         · by_cases h104 : 104 = j
           · subst h104; rfl
           · by_cases h102 : 102 = j
             · subst h102; rfl
             · by_cases h3001 : 3001 = j
               · subst h3001; rfl
               · by_cases h3002 : 3002 = j
                 · subst h3002; rfl
                 · by_cases h3003 : 3003 = j
                   · subst h3003; rfl
                   · simp [tH, look, up, z00 h106, z00 h104, z00 h102, z00 h3001, z00 h3002, z00 h3003]) ?_
       refine tG <| cV rfl (oB rfl rfl (z07 rfl oM0)) <| sm 1 rfl <| nL ?_
       refine ⟨_, _, ?_, Sub.of (fr' := [(12, iInt (k + 1)), (11, iInt l.length), (10, .pv (z0a l)), (4, .sl 104 ((out ++ (z05 tb2 to2 x).1).map Nd.enc).length), (2, .ptr 102 0)]) ⟨rfl, rfl, rfl, congrArg (fun z => some (IV.sl _ z)) (by rw [hN1]; simp [z03]), rfl, trivial⟩, (k + 1), (out ++ (z05 tb2 to2 x).1), (z05 tb2 to2 x).2.1, (z05 tb2 to2 x).2.2, ?_, ?_, rfl, rfl, rfl⟩
       ·omega
       ·omega
       rw [<- hI1, hd]
       simp only [z0p, List.append_assoc]
      refine tSk ?_
      have hn4 : (x.kind == 4) = false := hc40
      have hK : stK x.kind = false := by simp only [stK, hn1, hn2, hn3, hn4]; rfl
      have hN : z05 tb2 to2 x = ([z0z tb2 to2 x], tb2, (z0l tb2 to2 x.kids).2) := za0 _ _ _ hK
      have hN1 : (z05 tb2 to2 x).1 = [z0z tb2 to2 x] := by rw [hN]
      have hol2 : out.length + 1 <= 1073741824 := by rw [hN1] at hol; exact hol
      refine tG <| sm 1 rfl <| cV rfl (lBP rfl rfl rfl uT43 rfl tS43 (lb rfl) rfl trivial) <| cE rfl (bSl rfl rfl uT44 tZ43 tS43 rfl rfl rfl rfl (fbk rfl) rfl) ?_
      refine cE rfl (aPp rfl rfl rfl rfl (by rfl) ((fun h => h)) uT44 tB43 dC0 (by (simp [z03]; done)) (z5c _ _ _ _ _ _ _ _) (by simp [maxLen, z03]; omega) (by simp [z03]; omega)) ?_
      refine sm 1 rfl <| nL ?_
      have hNq : (z05 tb2 to2 x).2 = (z05 tb2 to2 x).2 := rfl
      refine Tr.drop (k := 106) ?_
      refine Tr.heap (σ' := look [(104, some (.row ⟨43, 8⟩ ((out ++ (z05 tb2 to2 x).1).map Nd.enc))), (102, some (.box [.mp 3001, .mp 3002, .mp 3003])), (3001, some (.map (kyEs (z05 tb2 to2 x).2.1.seen))), (3002, some (.map (inEs (z05 tb2 to2 x).2.1.nums))), (3003, some (.map (inEs (z05 tb2 to2 x).2.2)))]) (by
        rw [hN1, z8s, hN]
        intro j
        try simp only [look]
        by_cases h106 : 106 = j
        · subst h106; rfl
        · by_cases h104 : 104 = j
          · subst h104; rfl
          · by_cases h102 : 102 = j
            · subst h102; rfl
            · by_cases h3001 : 3001 = j
              · subst h3001; rfl
              · by_cases h3002 : 3002 = j
                · subst h3002; rfl
                · by_cases h3003 : 3003 = j
                  · subst h3003; rfl
                  · simp [tH, look, up, z00 h106, z00 h104, z00 h102, z00 h3001, z00 h3002, z00 h3003]) ?_
      refine tG <| cV rfl (oB rfl rfl (z07 rfl oM0)) <| sm 1 rfl <| nL ?_
      refine ⟨_, _, ?_, Sub.of (fr' := [(12, iInt (k + 1)), (11, iInt l.length), (10, .pv (z0a l)), (4, .sl 104 ((out ++ (z05 tb2 to2 x).1).map Nd.enc).length), (2, .ptr 102 0)]) ⟨rfl, rfl, rfl, congrArg (fun z => some (IV.sl _ z)) (by rw [hN1]; simp [z03]), rfl, trivial⟩, (k + 1), (out ++ (z05 tb2 to2 x).1), (z05 tb2 to2 x).2.1, (z05 tb2 to2 x).2.2, ?_, ?_, rfl, rfl, rfl⟩
      ·omega
      ·omega
      rw [<- hI1, hd]
      simp only [z0p, List.append_assoc]
     refine tEx <| tQ <| Tr.freeze (t := 4) (k := 104) rfl rfl sI0 <| tG <| sm 2 rfl <| nL <| tRt ?_
     have hge : l.length <= k := by simpa using hc13
     have he : z0p tb to l = (out, tb2, to2) := by
       rw [<- hI1, List.drop_eq_nil_of_le hge]
       simp [z0p]
     rw [he]
     refine rOk rfl rfl (po3 rfl rfl rfl)
theorem y4d (l : List Nd) (tb : Tb) (to : TT) (hok : za1 l = true) (hb : lsW l <= 1073741824) : SC Tryz.prog 23 [tV, .pv (z0a l)] (tH tb to) (fun _ => False) (.pv (z0a (z0p tb to l).1)) (tH (z0p tb to l).2.1 (z0p tb to l).2.2) := zo2 _ l tb to hok hb (Nat.lt_succ_self _)
theorem zn8 (u : Un) (hW : z1v u <= 536870912) (hok : (z38 u).1 = 0 -> ∀ f ∈ u.flows, za1 f.body = true) : SC Tryz.prog 11 [.pv u.enc] [] (fun _ => False) (.tup [.pv (z25 stB u).1.enc, iInt (z25 stB u).2]) [] := by
  refine SC.ofC2 Tryz.func11 rfl (lb rfl) rfl fun F ρ w => ?_
  have hW2 : z1v u = u.arrays.length + u.flows.length + wtA u.arrays + wtF u.flows := rfl
  refine tQ <| tG <| cE rfl (z1a rfl rfl) <| cE rfl (aLc (k := 102) rfl tZ25 rfl rfl rfl rfl) <| sm 1 rfl <| nL <| tQ <| tQ <| tG <| cV rfl (lEA rfl rfl uT25 rfl tS25 (lb rfl)) <| cE rfl (ocq (y1m u hW) ent22 rfl rfl) <| sm 1 rfl ?_
  refine cV rfl (z0g rfl rfl rfl) <| cV rfl (z0g rfl rfl rfl) <| sm 2 rfl <| nL <| tQ <| tG <| sm 2 rfl <| nL ?_
  refine tC rfl (fun hc15 => ?_) fun hc15 => ?_
  ·refine tQ <| tG <| cV rfl (bPu rfl rfl tZ25 tP25 rfl (fbk rfl) rfl) <| c0 (sBA rfl rfl rfl rfl rfl ((fun h => h)) tS25 (flk rfl) (lb rfl)) <| sm 1 rfl <| nL <| tRt ?_
   have hz : ((z38 u).1 == 0) = false := by simpa using hc15
   have hH : z25 stB u = (⟨[], []⟩, 1) := by simp [z25, hz]
   rw [hH]
   exact ⟨⟨_, _, (fun _ _ ho => lBP ho rfl rfl uT25 rfl tS25 (lb rfl) rfl trivial), rfl, fun _ _ _ _ h => tup2_sub (fun _ h => z9j h) h⟩, nPo⟩
  ·have hz : (z38 u).1 = 0 := by simpa using hc15
   have hH : z25 stB u = (z3k stB u, 0) := by simp [z25, hz]
   refine tSk <| tQ <| tG <| sm 2 rfl <| cV rfl (bPu rfl rfl tZ25 tP25 rfl (fbk rfl) rfl) <| cE rfl (aLc (k := 106) rfl tZ25 rfl rfl rfl rfl) <| c0 (sBA rfl rfl rfl rfl rfl ((fun h => h)) tS25 (flk rfl) (lb rfl)) <| nL <| tQ <| tQ <| Tr.growCell (k := 199) (k2 := 106) (j := 1) ⟨51, 5⟩ rfl rfl rfl rfl rfl rfl <| tG ?_
   refine sm 2 rfl <| cV rfl (oSm uT23 rfl) <| sm 1 rfl <| nL <| tBk <| Tr.sub (Sub.of (fr' := [(23, iInt 0), (22, iInt u.flows.length), (21, .pv (flws u.flows)), (6, .ptr 106 0), (2, .ptr 102 0)]) ⟨rfl, rfl, rfl, rfl, rfl, trivial⟩) ?_
   refine Tr.heap (σ' := look [(106, some (.box [.pv (arrs u.arrays), .sl 199 (([] : List Fl).map Fl.enc).length])), (199, some (.row ⟨51, 5⟩ (([] : List Fl).map Fl.enc))), (102, some (.box [.pv (.val (.slice none 0 0)), .pv (.val (.slice none 0 0))]))]) (by
  intro j
  try simp only [look]
  by_cases h106 : 106 = j
  · subst h106; rfl
  · by_cases h199 : 199 = j
    · subst h199; rfl
    · by_cases h102 : 102 = j
      · subst h102; rfl
      · simp [tH, look, up, z00 h106, z00 h199, z00 h102]) ?_
   refine Tr.loop (fun fr σ m => ∃ (k : Nat) (out : List Fl), (k <= u.flows.length) /\ (out ++ (u.flows.drop k).map (z3q stB) = u.flows.map (z3q stB)) /\ (out.length = k) /\ fr = [(23, iInt k), (22, iInt u.flows.length), (21, .pv (flws u.flows)), (6, .ptr 106 0), (2, .ptr 102 0)] /\ σ = look [(106, some (.box [.pv (arrs u.arrays), .sl 199 (out.map Fl.enc).length])), (199, some (.row ⟨51, 5⟩ (out.map Fl.enc))), (102, some (.box [.pv (.val (.slice none 0 0)), .pv (.val (.slice none 0 0))]))] /\ m = u.flows.length - k) (n := u.flows.length - 0) ?_ ?_
   ·exact ⟨0, ([] : List Fl), Nat.zero_le _, rfl, rfl, rfl, rfl, rfl⟩
   rintro fr σ m ⟨k, out, hI0, hI1, hI2, rfl, rfl, rfl⟩
   refine tQ <| tG <| sm 1 rfl <| nL <| tQ ?_
   refine tC rfl (fun hc24 => ?_) fun hc24 => ?_
   ·have hlt : k < u.flows.length := by simpa using hc24
    have hd := List.drop_eq_getElem_cons hlt
    have hm := List.getElem_mem hlt
    have hi := z0f (f := Fl.enc) (List.getElem?_eq_getElem hlt)
    generalize u.flows[k] = x at hd hm hi
    have hxok := hok hz x hm
    have hxb : lsW x.body <= 1073741824 := by have := zm7 hW hm; omega
    have hol : (out.map Fl.enc).length = out.length := by simp
    refine tSk <| tQ <| tBk <| tQ <| tG <| cV rfl (iSq rfl rfl rfl uT23 hi tS51 rfl (by rfl)) <| cV rfl (lEA rfl rfl Tryz.underlying51 rfl tS51 (lb rfl)) <| cE rfl (aLc (k := 108) rfl tZ51 rfl rfl rfl rfl) <| c0 (sBA rfl rfl rfl rfl rfl ((fun h => h)) tS51 (flk rfl) (lb rfl)) <| nL <| tQ <| tG ?_
    refine cE rfl (z67 (k := 3001) rfl rfl rfl rfl rfl) <| cE rfl (z67 (k := 3002) rfl rfl rfl rfl rfl) <| cE rfl (z67 (k := 3003) rfl rfl rfl rfl rfl) <| cV rfl (z94 rfl rfl tZ62 tP62 rfl (z75 ⟨⟨_, rfl⟩, ⟨_, rfl⟩, ⟨_, rfl⟩, trivial⟩)) <| sm 2 rfl <| cE rfl (ocr (y4d x.body ⟨[], []⟩ [] hxok hxb) ent23 rfl (po3 rfl rfl rfl) rfl (fun k (h : _) => .inr h) rfl rfl) <| sm 1 rfl <| c0 (sBx rfl rfl rfl rfl ((fun h => h)) tS44 (rfl) (lb rfl)) <| nL <| tG <| sm 2 rfl <| cV rfl (lBP rfl rfl rfl Tryz.underlying51 rfl tS51 (lb rfl) rfl trivial) ?_
    refine cE rfl (bSl rfl rfl uT23 tZ51 tS51 rfl rfl rfl rfl (fbk rfl) rfl) ?_
    refine cE rfl (aPp rfl rfl rfl rfl (by rfl) ((fun h => h)) uT23 tB51 dC0 (by (simp [z03]; done)) (z1p _ _ _ _ _) (by simp [maxLen, z03]; omega) (by simp [z03]; omega)) ?_
    refine sm 1 rfl <| c0 (sBx rfl rfl rfl rfl ((fun h => h)) tS23 (⟨_, _, rfl, by simp⟩) (lb rfl)) <| nL <| Tr.drop (k := 108) <| Tr.drop (k := 3001) <| Tr.drop (k := 3002) <| Tr.drop (k := 3003) ?_
    refine Tr.heap (σ' := look [(106, some (.box [.pv (arrs u.arrays), .sl 199 ((out ++ [z3q stB x]).map Fl.enc).length])), (199, some (.row ⟨51, 5⟩ ((out ++ [z3q stB x]).map Fl.enc))), (102, some (.box [.pv (.val (.slice none 0 0)), .pv (.val (.slice none 0 0))]))]) (by
      rw [y2f, List.length_append]
      intro j
      try simp only [look]
      by_cases h3003 : 3003 = j
      · subst h3003; rfl
      · by_cases h3002 : 3002 = j
        · subst h3002; rfl
        · by_cases h3001 : 3001 = j
          · subst h3001; rfl
          · by_cases h108 : 108 = j
            · subst h108; rfl
            · by_cases h106 : 106 = j
              · subst h106; rfl
              · by_cases h199 : 199 = j
                · subst h199; rfl
                · by_cases h102 : 102 = j
                  · subst h102; rfl
                  · simp [tH, look, up, z00 h3003, z00 h3002, z00 h3001, z00 h108, z00 h106, z00 h199, z00 h102]) ?_
    refine tG <| cV rfl (oB rfl rfl (z07 rfl oM0)) <| sm 1 rfl <| nL ?_
    refine ⟨_, _, ?_, Sub.of (fr' := [(23, iInt (k + 1)), (22, iInt u.flows.length), (21, .pv (flws u.flows)), (6, .ptr 106 0), (2, .ptr 102 0)]) ⟨rfl, rfl, rfl, rfl, rfl, trivial⟩, (k + 1), (out ++ [z3q stB x]), ?_, ?_, ?_, rfl, rfl, rfl⟩
    ·omega
    ·omega
    ·rw [List.append_assoc, <- hI1, hd]; rfl
    simp [hI2]
   refine tEx <| tQ <| Tr.freezeCell (k := 199) (k2 := 106) (j := 1) rfl rfl rfl rfl dC0 <| tG <| cV rfl (lBP rfl rfl rfl uT25 rfl tS25 (lb rfl) rfl trivial) <| c0 (sBA rfl rfl rfl rfl rfl ((fun h => h)) tS25 (flk rfl) (lb rfl)) <| sm 1 rfl <| nL <| tRt <| retC2_ok (.inl rfl) (fun _ _ ho => lBP ho rfl rfl uT25 rfl tS25 (lb rfl) rfl trivial) rfl ?_ nPo
   have hge : u.flows.length <= k := by simpa using hc24
   have hout : out = u.flows.map (z3q stB) := by rw [<- hI1, List.drop_eq_nil_of_le hge]; simp
   rw [hH, hout]
   rfl
theorem zu0 (u v : Un) : SC Tryz.prog 20 [.pv u.enc, .pv v.enc] [] (fun _ => False) (iBool (z1y u v)) [] := by
  refine SC.of Tryz.func20 rfl (lb rfl) fun F ρ w => ?_
  refine tQ <| tG <| cE rfl (z1a rfl rfl) <| cE rfl (z1a rfl rfl) <| sm 1 rfl <| nL <| tQ <| tQ <| tG <| sm 2 rfl <| cV rfl (oSm uT22 rfl) <| sm 2 rfl ?_
  refine cV rfl (oSm uT22 rfl) <| sm 2 rfl ?_
  refine wS 17 rfl (fun hb17 => ?_) fun hb17 => ?_
  ·refine sm 8 rfl <| nL <| Tr.condT rfl <| tQ <| tG <| sm 1 rfl <| nL <| tRt <| rOk rfl ?_ nPo
   refine congrArg (fun b => iBool b) ?_
   have hne : ¬ (u.arrays.length = v.arrays.length /\ u.flows.length = v.flows.length) := by
     rintro ⟨h1, h2⟩
     simp_all
   unfold z1y
   by_cases h1 : u.arrays.length = v.arrays.length
   ·have h2 : ¬ u.flows.length = v.flows.length := fun h2 => hne ⟨h1, h2⟩
    simp [h2]
   simp [h1]
  refine sm 2 rfl <| yV rfl rfl (oSm uT23 rfl) <| sm 2 rfl <| yV rfl rfl (oSm uT23 rfl) <| sm 2 rfl <| nL ?_
  refine tC rfl (fun hc25 => ?_) fun hc25 => ?_
  ·refine tQ <| tG <| sm 1 rfl <| nL <| tRt <| rOk rfl ?_ nPo
   refine congrArg (fun b => iBool b) ?_
   have hne : ¬ (u.arrays.length = v.arrays.length /\ u.flows.length = v.flows.length) := by
     rintro ⟨h1, h2⟩
     simp_all
   unfold z1y
   by_cases h1 : u.arrays.length = v.arrays.length
   ·have h2 : ¬ u.flows.length = v.flows.length := fun h2 => hne ⟨h1, h2⟩
    simp [h2]
   simp [h1]
  have hlen : u.arrays.length = v.arrays.length /\ u.flows.length = v.flows.length := by
    (simp_all <;> omega)
  refine tSk <| tQ <| tQ <| tG <| sm 1 rfl <| nL <| tBk <| Tr.sub (Sub.of (fr' := [(5, iInt 0), (2, .pv (.ept [arrs u.arrays, flws u.flows] 0)), (3, .pv (.ept [arrs v.arrays, flws v.flows] 0))]) ⟨rfl, rfl, rfl, trivial⟩) ?_
  refine Tr.loop (fun fr σ m => ∃ (k : Nat), (k <= u.arrays.length) /\ (z4q u.arrays v.arrays = z4q (u.arrays.drop k) (v.arrays.drop k)) /\ fr = [(5, iInt k), (2, .pv (.ept [arrs u.arrays, flws u.flows] 0)), (3, .pv (.ept [arrs v.arrays, flws v.flows] 0))] /\ σ = look [] /\ m = u.arrays.length - k) (n := u.arrays.length - 0) ?_ ?_
  ·exact ⟨0, Nat.zero_le _, rfl, rfl, rfl, rfl⟩
  rintro fr σ m ⟨k, hI0, hI1, rfl, rfl, rfl⟩
  refine tQ <| tQ <| tG <| sm 3 rfl ?_
  refine WL.lenOf (t := 28) rfl (fun hl1 => ?_)
  simp only [List.length_map] at hl1
  refine cV rfl (oSm uT22 rfl) <| sm 1 rfl <| nL ?_
  refine tC rfl (fun hc30 => ?_) fun hc30 => ?_
  ·have hlt : k < u.arrays.length := by simpa using hc30
   have hd := List.drop_eq_getElem_cons hlt
   have hm := List.getElem_mem hlt
   have hi := z0f (f := Ar.enc) (List.getElem?_eq_getElem hlt)
   generalize u.arrays[k] = x at hd hm hi
   have hltw : k < v.arrays.length := by omega
   have hdw := List.drop_eq_getElem_cons hltw
   have hw := z0f (f := Ar.enc) (List.getElem?_eq_getElem hltw)
   generalize v.arrays[k] = y at hdw hw
   refine tSk <| tQ <| tBk <| tQ <| Tr.still z13 kR0 rfl <| smS 3 rfl <| sV rfl (iSq rfl rfl rfl uT22 hi tS49 rfl (by rfl)) <| sV rfl (lEA rfl rfl Tryz.underlying49 rfl tS49 (lb rfl)) <| smS 3 rfl <| sV rfl (iSq rfl rfl rfl uT22 hw tS49 rfl (by rfl)) <| sV rfl (lEA rfl rfl Tryz.underlying49 rfl tS49 (lb rfl)) <| sV rfl (z95 rfl rfl rfl Tryz.underlying49 uT9 uT3 rfl rfl dC0 dC0 kR0 kR0) ?_
   refine WS.nil ?_
   refine tC rfl (fun hc43 => ?_) fun hc43 => ?_
   ·refine tQ <| tG <| sm 1 rfl <| nL <| tRt <| rOk rfl ?_ nPo
    have hxy : zg7 x y = false := by
      clear hd hdw hm hi hw hI1
      cases hb1 : (x.name.toList == y.name.toList) <;> cases hb2 : (x.size == y.size) <;> simp_all [zg7]
    have hA : z4q u.arrays v.arrays = false := by rw [hI1, hd, hdw]; simp [z4q, hxy]
    simp [z1y, hA]
   refine tSk <| tG <| sm 1 rfl <| cV rfl (oB rfl rfl (z07 rfl oM0)) <| sm 1 rfl <| nL ?_
   refine ⟨_, _, ?_, Sub.of (fr' := [(5, iInt (k + 1)), (2, .pv (.ept [arrs u.arrays, flws u.flows] 0)), (3, .pv (.ept [arrs v.arrays, flws v.flows] 0))]) ⟨rfl, rfl, rfl, trivial⟩, (k + 1), ?_, ?_, rfl, rfl, rfl⟩
   ·omega
   ·omega
   rw [hI1, hd, hdw]
   have hxy : zg7 x y = true := by
     clear hd hdw hm hi hw
     simp_all [zg7]
   simp [z4q, hxy]
  refine tEx <| tQ <| tQ ?_
  have hAs : z4q u.arrays v.arrays = true := by
    have hge : u.arrays.length <= k := by simpa using hc30
    rw [hI1, List.drop_eq_nil_of_le hge, List.drop_eq_nil_of_le oM0]
    rfl
  refine tG <| sm 1 rfl <| nL <| tBk <| Tr.sub (Sub.of (fr' := [(6, iInt 0), (2, .pv (.ept [arrs u.arrays, flws u.flows] 0)), (3, .pv (.ept [arrs v.arrays, flws v.flows] 0))]) ⟨rfl, rfl, rfl, trivial⟩) ?_
  refine Tr.loop (fun fr σ m => ∃ (k : Nat), (k <= u.flows.length) /\ (z44 u.flows v.flows = z44 (u.flows.drop k) (v.flows.drop k)) /\ fr = [(6, iInt k), (2, .pv (.ept [arrs u.arrays, flws u.flows] 0)), (3, .pv (.ept [arrs v.arrays, flws v.flows] 0))] /\ σ = look [] /\ m = u.flows.length - k) (n := u.flows.length - 0) ?_ ?_
  ·exact ⟨0, Nat.zero_le _, rfl, rfl, rfl, rfl⟩
  rintro fr σ m ⟨k, hI0, hI1, rfl, rfl, rfl⟩
  refine tQ <| tQ <| tG <| sm 3 rfl ?_
  refine WL.lenOf (t := 46) rfl (fun hl1 => ?_)
  simp only [List.length_map] at hl1
  refine cV rfl (oSm uT23 rfl) <| sm 1 rfl <| nL ?_
  refine tC rfl (fun hc48 => ?_) fun hc48 => ?_
  ·have hlt : k < u.flows.length := by simpa using hc48
   have hd := List.drop_eq_getElem_cons hlt
   have hm := List.getElem_mem hlt
   have hi := z0f (f := Fl.enc) (List.getElem?_eq_getElem hlt)
   generalize u.flows[k] = x at hd hm hi
   have hltw : k < v.flows.length := by omega
   have hdw := List.drop_eq_getElem_cons hltw
   have hw := z0f (f := Fl.enc) (List.getElem?_eq_getElem hltw)
   generalize v.flows[k] = y at hdw hw
   refine tSk <| tQ <| tBk <| tQ ?_
   refine Tr.cut (fr' := [(8, .ptr 108 0), (7, .ptr 107 0), (6, iInt k), (2, .pv (.ept [arrs u.arrays, flws u.flows] 0)), (3, .pv (.ept [arrs v.arrays, flws v.flows] 0))]) (σ' := look [(107, some (.box [iStr x.name, iInt x.ty, iInt x.params, .pv (ints x.types), .pv (z0a x.body)])), (108, some (.box [iStr y.name, iInt y.ty, iInt y.params, .pv (ints y.types), .pv (z0a y.body)]))]) ?_ ?_
   ·refine tDr z13 (fun k => k ∈ ([] : List Nat)) <| wR 4 [0, 1, 2, 3, 4, 5, 6, 7, 8, 9] kR0 (fun _ _ _ h => pn h.1) <| smR 3 rfl <| rV rfl rfl (iSq rfl rfl rfl uT23 hi tS51 rfl (by rfl)) <| rV rfl rfl (lEA rfl rfl Tryz.underlying51 rfl tS51 (lb rfl)) <| smR 3 rfl <| rV rfl rfl (iSq rfl rfl rfl uT23 hw tS51 rfl (by rfl)) <| rV rfl rfl (lEA rfl rfl Tryz.underlying51 rfl tS51 (lb rfl)) <| nR <| WA.all (rs := [10, 11]) kR0 sI0 ?_
    refine fmc ⟨?_, fmc ⟨?_, by simp⟩⟩
    ·refine wI rfl rfl nf (z16 rfl) (fun _ _ => aLc (k := 107) rfl tZ51 rfl rfl rfl rfl) <| wO 11 kR0 <| wI rfl rfl nf (z16 rfl) (fun _ _ => aLc (k := 108) rfl tZ51 rfl rfl rfl rfl) <| wO 12 kR0 <| wI rfl rfl nf (nOl rfl) (fun _ _ => sBA rfl rfl rfl rfl rfl sI0 tS51 (flk rfl) (lb rfl)) <| wO 13 kR0 <| wI rfl rfl nf (nOl rfl) (fun _ _ => sBA rfl rfl rfl rfl rfl sI0 tS51 (flk rfl) (lb rfl)) <| wDn kR0 ?_
     refine ⟨rfl, Sub.of ⟨rfl, rfl, rfl, rfl, rfl, trivial⟩, ?_⟩
     exact z7s rfl rfl (fun k h1 h2 => by simp [look, z00 (Ne.symm h1), z00 (Ne.symm h2)]) dC0
    refine wI rfl rfl nf (z16 rfl) (fun _ _ => aLc (k := 108) rfl tZ51 rfl rfl rfl rfl) <| wO 10 kR0 <| wI rfl rfl nf (z16 rfl) (fun _ _ => aLc (k := 107) rfl tZ51 rfl rfl rfl rfl) <| wO 12 kR0 <| wI rfl rfl nf (nOl rfl) (fun _ _ => sBA rfl rfl rfl rfl rfl sI0 tS51 (flk rfl) (lb rfl)) <| wO 13 kR0 <| wI rfl rfl nf (nOl rfl) (fun _ _ => sBA rfl rfl rfl rfl rfl sI0 tS51 (flk rfl) (lb rfl)) <| wDn kR0 ?_
    refine ⟨rfl, Sub.of ⟨rfl, rfl, rfl, rfl, rfl, trivial⟩, ?_⟩
    exact z7s rfl rfl (fun k h1 h2 => by simp [look, z00 (Ne.symm h1), z00 (Ne.symm h2)]) dC0
   refine Tr.freezeBox (t := 7) (k := 107) rfl rfl rfl <| Tr.freezeBox (t := 8) (k := 108) rfl rfl rfl <| Tr.heap (σ' := look []) (fun k => by simp only [look]; cases Nat.beq 107 k <;> cases Nat.beq 108 k <;> rfl) <| tQ <| tQ <| tG <| sm 4 rfl <| cV rfl (bSt rfl rfl rfl rfl) <| sm 1 rfl ?_
   refine wS 66 rfl (fun hb66 => ?_) fun hb66 => ?_
   ·refine sm 13 rfl <| nL <| Tr.condT rfl <| tQ <| tG <| sm 1 rfl <| nL <| tRt <| rOk rfl ?_ nPo
    have hxy : z76 x y = false := by
      clear hd hdw hm hi hw hI1
      simp_all [z76]
    have hF : z44 u.flows v.flows = false := by rw [hI1, hd, hdw]; simp [z44, hxy]
    simp [z1y, hF]
   refine sm 7 rfl ?_
   refine wS 73 rfl (fun hb73 => ?_) fun hb73 => ?_
   ·refine sm 6 rfl <| nL <| Tr.condT rfl <| tQ <| tG <| sm 1 rfl <| nL <| tRt <| rOk rfl ?_ nPo
    have hxy : z76 x y = false := by
      clear hd hdw hm hi hw hI1
      simp_all [z76]
    have hF : z44 u.flows v.flows = false := by rw [hI1, hd, hdw]; simp [z44, hxy]
    simp [z1y, hF]
   refine sm 6 rfl <| nL ?_
   refine tC rfl (fun hc79 => ?_) fun hc79 => ?_
   ·refine tQ <| tG <| sm 1 rfl <| nL <| tRt <| rOk rfl ?_ nPo
    have hxy : z76 x y = false := by
      clear hd hdw hm hi hw hI1
      simp_all [z76]
    have hF : z44 u.flows v.flows = false := by rw [hI1, hd, hdw]; simp [z44, hxy]
    simp [z1y, hF]
   have hh1 : (x.name.toList == y.name.toList) = true := by clear hd hdw hi hw hm; simp_all
   have hh2 : (x.ty == y.ty) = true := by clear hd hdw hi hw hm; simp_all
   have hh3 : (x.params == y.params) = true := by clear hd hdw hi hw hm; simp_all
   refine tSk <| tQ <| tG <| sm 1 rfl <| nL <| tBk <| Tr.sub (Sub.of (fr' := [(9, iInt 0), (8, .pv (.ept [vStr y.name, vInt y.ty, vInt y.params, ints y.types, z0a y.body] 0)), (7, .pv (.ept [vStr x.name, vInt x.ty, vInt x.params, ints x.types, z0a x.body] 0)), (6, iInt k), (2, .pv (.ept [arrs u.arrays, flws u.flows] 0)), (3, .pv (.ept [arrs v.arrays, flws v.flows] 0))]) ⟨rfl, rfl, rfl, rfl, rfl, rfl, trivial⟩) ?_
   refine Tr.loop (fun fr σ m => ∃ (i : Nat), (i <= x.types.length) /\ (∀ j, j < i -> z3f x.types y.types j = true) /\ fr = [(9, iInt i), (8, .pv (.ept [vStr y.name, vInt y.ty, vInt y.params, ints y.types, z0a y.body] 0)), (7, .pv (.ept [vStr x.name, vInt x.ty, vInt x.params, ints x.types, z0a x.body] 0)), (6, iInt k), (2, .pv (.ept [arrs u.arrays, flws u.flows] 0)), (3, .pv (.ept [arrs v.arrays, flws v.flows] 0))] /\ σ = look [] /\ m = x.types.length - i) (n := x.types.length - 0) ?_ ?_
   ·exact ⟨0, Nat.zero_le _, (fun j hj => absurd hj (Nat.not_lt_zero j)), rfl, rfl, rfl⟩
   rintro fr σ m ⟨i, hJ0, hJ1, rfl, rfl, rfl⟩
   refine tQ <| tQ <| tG <| sm 4 rfl <| nL ?_
   refine tC rfl (fun hc83 => ?_) fun hc83 => ?_
   ·refine tSk <| tQ <| tBk <| tQ <| Tr.still z13 kR0 rfl <| smS 3 rfl ?_
    refine WS.lenOf (t := 88) rfl (fun hl4 => ?_)
    simp only [List.length_map] at hl4
    refine sV rfl (oSm uT35 rfl) <| smS 2 rfl ?_
    refine WS.split (t := 91) rfl (fun hb91 => ?_) (fun hb91 => ?_)
    ·refine smS 19 rfl <| WS.nil <| Tr.condT rfl <| tQ <| tG <| sm 1 rfl <| nL <| tRt <| rOk rfl ?_ nPo
     have hat : z3f x.types y.types i = false := by
       clear hd hdw hi hw hm
       unfold z3f
       (simp_all <;> omega)
     have hty : z85 x.types y.types x.params = false := ze5 (k := i) (by simpa using hc83) hat
     have hxy : z76 x y = false := by unfold z76; rw [hty]; simp
     have hF : z44 u.flows v.flows = false := by rw [hI1, hd, hdw]; simp [z44, hxy]
     simp [z1y, hF]
    refine smS 3 rfl <| syV rfl rfl (oSm uT35 rfl) <| smS 3 rfl ?_
    refine WS.split (t := 98) rfl (fun hb98 => ?_) (fun hb98 => ?_)
    ·refine smS 12 rfl <| WS.nil <| Tr.condT rfl <| tQ <| tG <| sm 1 rfl <| nL <| tRt <| rOk rfl ?_ nPo
     have hat : z3f x.types y.types i = false := by
       clear hd hdw hi hw hm
       unfold z3f
       (simp_all <;> omega)
     have hty : z85 x.types y.types x.params = false := ze5 (k := i) (by simpa using hc83) hat
     have hxy : z76 x y = false := by unfold z76; rw [hty]; simp
     have hF : z44 u.flows v.flows = false := by rw [hI1, hd, hdw]; simp [z44, hxy]
     simp [z1y, hF]
    have hit : i < x.types.length /\ i < y.types.length := by simp at hb91 hb98; omega
    have hta : (x.types.map eInt)[i]? = some [vInt (x.types.getD i 0)] := by rw [List.getElem?_map]; simp [eInt, List.getD, hit.1]
    have htb : (y.types.map eInt)[i]? = some [vInt (y.types.getD i 0)] := by rw [List.getElem?_map]; simp [eInt, List.getD, hit.2]
    refine smS 3 rfl <| syV rfl rfl (iSq rfl rfl rfl uT35 hta tS3 rfl (by rfl)) <| smS 4 rfl <| syV rfl rfl (iSq rfl rfl rfl uT35 htb tS3 rfl (by rfl)) <| smS 3 rfl <| WS.nil ?_
    refine tC rfl (fun hc110 => ?_) fun hc110 => ?_
    ·refine tQ <| tG <| sm 1 rfl <| nL <| tRt <| rOk rfl ?_ nPo
     have hat : z3f x.types y.types i = false := by
       clear hd hdw hi hw hm
       unfold z3f
       simp_all
     have hty : z85 x.types y.types x.params = false := ze5 (k := i) (by simpa using hc83) hat
     have hxy : z76 x y = false := by unfold z76; rw [hty]; simp
     have hF : z44 u.flows v.flows = false := by rw [hI1, hd, hdw]; simp [z44, hxy]
     simp [z1y, hF]
    have hlt1 : i < x.types.length /\ i < y.types.length := by simp at hb91 hb98; omega
    have hat : z3f x.types y.types i = true := by
      have he : x.types.getD i 0 = y.types.getD i 0 := by simpa using hc110
      unfold z3f
      rw [he]
      simp [hlt1.1, hlt1.2]
    refine tSk <| tG <| sm 1 rfl <| cV rfl (oB rfl rfl (z07 rfl oM0)) <| sm 1 rfl <| nL ?_
    refine ⟨_, _, ?_, Sub.of (fr' := [(9, iInt (i + 1)), (8, .pv (.ept [vStr y.name, vInt y.ty, vInt y.params, ints y.types, z0a y.body] 0)), (7, .pv (.ept [vStr x.name, vInt x.ty, vInt x.params, ints x.types, z0a x.body] 0)), (6, iInt k), (2, .pv (.ept [arrs u.arrays, flws u.flows] 0)), (3, .pv (.ept [arrs v.arrays, flws v.flows] 0))]) ⟨rfl, rfl, rfl, rfl, rfl, rfl, trivial⟩, (i + 1), ?_, ?_, rfl, rfl, rfl⟩
    ·omega
    ·omega
    intro j hj
    by_cases e : j = i
    ·subst e; exact hat
    exact hJ1 j oM0
   refine tEx <| tG <| sm 1 rfl <| cV rfl (oB rfl rfl (z07 rfl oM0)) <| sm 1 rfl <| nL ?_
   refine ⟨_, _, ?_, Sub.of (fr' := [(6, iInt (k + 1)), (2, .pv (.ept [arrs u.arrays, flws u.flows] 0)), (3, .pv (.ept [arrs v.arrays, flws v.flows] 0))]) ⟨rfl, rfl, rfl, trivial⟩, (k + 1), ?_, ?_, rfl, rfl, rfl⟩
   ·omega
   ·omega
   rw [hI1, hd, hdw]
   have hty : z85 x.types y.types x.params = true := zk6 (k := i) (by simp at hc83; omega) hJ1
   have hxy : z76 x y = true := by
     unfold z76
     rw [hty, hh1, hh2, hh3]
     rfl
   simp [z44, hxy]
  refine tEx <| tQ <| tG <| sm 1 rfl <| nL <| tRt <| rOk rfl ?_ nPo
  have hge : u.flows.length <= k := by simpa using hc48
  have hF : z44 u.flows v.flows = true := by rw [hI1, List.drop_eq_nil_of_le hge, List.drop_eq_nil_of_le oM0]; rfl
  simp [z1y, hAs, hF, hlen.1, hlen.2]
theorem sc_fits (u : Un) (hW : z1v u <= 536870912) : SC Tryz.prog 9 [.pv u.enc] [] (fun _ => False) (iBool true) [] := by
  refine SC.of Tryz.func9 rfl (lb rfl) fun F ρ w => ?_
  refine tQ <| tG <| cE rfl (z1a rfl rfl) <| sm 1 rfl <| nL <| tQ <| tG <| cV rfl (lEA rfl rfl uT25 rfl tS25 (lb rfl)) <| cE rfl (ocq (zn8 u hW z82) ent11 rfl rfl) <| sm 1 rfl <| cV rfl (z0g rfl rfl rfl) <| cV rfl (z0g rfl rfl rfl) ?_
  refine cE rfl (aLc (k := 103) rfl tZ25 rfl rfl rfl rfl) <| c0 (sBA rfl rfl rfl rfl rfl ((fun h => h)) tS25 (flk rfl) (lb rfl)) <| sm 1 rfl <| nL <| tQ <| Tr.freezeBox (t := 3) (k := 103) rfl rfl rfl <| Tr.heap (σ' := look []) (fun k => by simp only [look]; cases Nat.beq 103 k <;> rfl) <| tG <| cV rfl (lEA rfl rfl uT25 rfl tS25 (lb rfl)) <| cE rfl (ocq (z9t u hW) ent19 rfl rfl) <| sm 1 rfl <| cV rfl (z0g rfl rfl rfl) ?_
  refine cV rfl (z0g rfl rfl rfl) <| sm 2 rfl <| nL <| tQ <| tQ <| tG <| sm 2 rfl <| nL ?_
  refine tC rfl (fun hc20 => ?_) fun hc20 => ?_
  ·refine tQ <| tG <| sm 3 rfl ?_
   refine wS 23 rfl (fun hb23 => ?_) fun hb23 => ?_
   ·refine yV rfl rfl (lEA rfl rfl uT25 rfl tS25 (lb rfl)) <| yV rfl rfl (bPu rfl rfl tZ25 tP25 rfl (fbk rfl) rfl) <| WL.yes rfl rfl rfl rfl rfl rfl (z0v (y40 (z25 stB u).1 ⟨[], []⟩) ent15 rfl rfl (sSm rfl (Subs.cons (fun _ _ _ _ h => z9j h) Subs.nil)) rfl) <| sm 2 rfl <| nL <| tRt <| rOk rfl ?_ nPo
    have hH := z7w stB (u := u) (by simpa using hc20)
    have h1 : ((z25 stB u).2 == 1) = true := by rw [hH]; rfl
    have h2 : z5w (z25 stB u).1 ⟨[], []⟩ = true := by rw [hH]; exact (show z5w ⟨[], []⟩ ⟨[], []⟩ = true from rfl)
    refine congrArg (fun b => iBool b) ?_
    exact h2
   refine sm 5 rfl <| nL <| tRt <| rOk rfl ?_ nPo
   have hH := z7w stB (u := u) (by simpa using hc20)
   have h1 : ((z25 stB u).2 == 1) = true := by rw [hH]; rfl
   have h2 : z5w (z25 stB u).1 ⟨[], []⟩ = true := by rw [hH]; exact (show z5w ⟨[], []⟩ ⟨[], []⟩ = true from rfl)
   refine congrArg (fun b => iBool b) ?_
   simp_all
  refine tSk <| tQ <| tG <| cV rfl (lEA rfl rfl uT25 rfl tS25 (lb rfl)) <| cE rfl (ocq (z9t (z25 stB u).1 (Nat.le_trans (z97 stB zl0 u) hW)) ent19 rfl rfl) <| sm 1 rfl <| cV rfl (z0g rfl rfl rfl) <| cV rfl (z0g rfl rfl rfl) <| sm 2 rfl <| nL <| tQ <| tG ?_
  refine sm 3 rfl ?_
  refine wS 35 rfl (fun hb35 => ?_) fun hb35 => ?_
  ·refine sm 4 rfl ?_
   refine wS 39 rfl (fun hb39 => ?_) fun hb39 => ?_
   ·refine yV rfl rfl (lEA rfl rfl uT25 rfl tS25 (lb rfl)) <| yV rfl rfl (lEA rfl rfl uT25 rfl tS25 (lb rfl)) <| WL.yes rfl rfl rfl rfl rfl rfl (z0v (zu0 u (z25 stB u).1) ent20 rfl rfl (sRf _ _) rfl) <| sm 2 rfl <| nL <| tRt <| rOk rfl ?_ nPo
    have hz : (z1t u).1 = 0 := by simpa using hc20
    have hH := z3z stB (u := u) hz
    have hK := z7p hz
    have hS := z8j stB (u := u) (by rw [z45]; exact hz)
    have h1 : ((z25 stB u).2 == 0) = true := by rw [hH]; rfl
    have h2 : ((z1t (z25 stB u).1).1 == 0) = true := by rw [hH, hK]; rfl
    have h3 : z1y u (z25 stB u).1 = true := by rw [hH]; exact hS
    refine congrArg (fun b => iBool b) ?_
    exact h3
   refine sm 5 rfl <| nL <| tRt <| rOk rfl ?_ nPo
   have hz : (z1t u).1 = 0 := by simpa using hc20
   have hH := z3z stB (u := u) hz
   have hK := z7p hz
   have hS := z8j stB (u := u) (by rw [z45]; exact hz)
   have h1 : ((z25 stB u).2 == 0) = true := by rw [hH]; rfl
   have h2 : ((z1t (z25 stB u).1).1 == 0) = true := by rw [hH, hK]; rfl
   have h3 : z1y u (z25 stB u).1 = true := by rw [hH]; exact hS
   refine congrArg (fun b => iBool b) ?_
   simp_all
  refine sm 9 rfl <| nL <| tRt <| rOk rfl ?_ nPo
  have hz : (z1t u).1 = 0 := by simpa using hc20
  have hH := z3z stB (u := u) hz
  have hK := z7p hz
  have hS := z8j stB (u := u) (by rw [z45]; exact hz)
  have h1 : ((z25 stB u).2 == 0) = true := by rw [hH]; rfl
  have h2 : ((z1t (z25 stB u).1).1 == 0) = true := by rw [hH, hK]; rfl
  have h3 : z1y u (z25 stB u).1 = true := by rw [hH]; exact hS
  refine congrArg (fun b => iBool b) ?_
  simp_all
theorem sc_alike (a b : Nd) : SC Tryz.prog 42 [.pv (ndv a), .pv (ndv b)] [] (fun _ => False) (iBool (z2j a b)) [] := by
  refine SC.of Tryz.func42 rfl (lb rfl) fun F ρ w => ?_
  refine tQ <| tG <| cE rfl (z1a rfl rfl) <| cE rfl (z1a rfl rfl) <| sm 1 rfl <| nL <| tQ <| tQ <| tG <| sm 6 rfl ?_
  refine wS 11 rfl (fun hb11 => ?_) fun hb11 => ?_
  ·refine sm 27 rfl <| nL <| Tr.condT rfl <| tQ <| tG <| sm 1 rfl <| nL <| tRt <| rOk rfl ?_ nPo
   refine congrArg (fun b => iBool b) ?_
   symm
   simp_all [z2j]
  refine sm 7 rfl ?_
  refine wS 18 rfl (fun hb18 => ?_) fun hb18 => ?_
  ·refine sm 20 rfl <| nL <| Tr.condT rfl <| tQ <| tG <| sm 1 rfl <| nL <| tRt <| rOk rfl ?_ nPo
   refine congrArg (fun b => iBool b) ?_
   symm
   simp_all [z2j]
  refine sm 7 rfl ?_
  refine wS 25 rfl (fun hb25 => ?_) fun hb25 => ?_
  ·refine sm 13 rfl <| nL <| Tr.condT rfl <| tQ <| tG <| sm 1 rfl <| nL <| tRt <| rOk rfl ?_ nPo
   refine congrArg (fun b => iBool b) ?_
   symm
   simp_all [z2j]
  refine sm 5 rfl ?_
  refine wS 30 rfl (fun hb30 => ?_) fun hb30 => ?_
  ·refine sm 8 rfl <| nL <| Tr.condT rfl <| tQ <| tG <| sm 1 rfl <| nL <| tRt <| rOk rfl ?_ nPo
   refine congrArg (fun b => iBool b) ?_
   symm
   (simp_all [z2j]; intros; omega)
  refine sm 2 rfl <| yV rfl rfl (oSm uT35 rfl) <| sm 2 rfl <| yV rfl rfl (oSm uT35 rfl) <| sm 2 rfl <| nL ?_
  refine tC rfl (fun hc38 => ?_) fun hc38 => ?_
  ·refine tQ <| tG <| sm 1 rfl <| nL <| tRt <| rOk rfl ?_ nPo
   refine congrArg (fun b => iBool b) ?_
   symm
   (have hne := args_ne (l := a.args) (m := b.args) (by simpa using hc38); unfold z2j; rw [hne, Bool.and_false]; done)
  have hlen : a.args.length = b.args.length := by
    (have := hc38; simp at this; omega)
  have hS : z2j a b = (a.args == b.args) := by
    have h1 : (a.kind == b.kind) = true := by simpa using hb11
    have h2 : (a.op == b.op) = true := by simpa using hb18
    have h3 : (a.n == b.n) = true := by simpa using hb25
    have h4 : decide (a.kind <= 4) = true := by simpa using hb30
    unfold z2j
    rw [h1, h2, h3, h4]
    rfl
  refine tSk <| tQ <| tQ <| tG <| sm 1 rfl <| nL <| tBk <| Tr.sub (Sub.of (fr' := [(5, iInt 0), (2, .pv (.ept [vInt a.kind, vInt a.op, vInt a.n, vStr a.name, ints a.args, ints a.outs, ints a.params, kids a.kids] 0)), (3, .pv (.ept [vInt b.kind, vInt b.op, vInt b.n, vStr b.name, ints b.args, ints b.outs, ints b.params, kids b.kids] 0))]) ⟨rfl, rfl, rfl, trivial⟩) ?_
  refine Tr.loop (fun fr σ m => ∃ (k : Nat), (k <= a.args.length) /\ ((a.args == b.args) = (a.args.drop k == b.args.drop k)) /\ fr = [(5, iInt k), (2, .pv (.ept [vInt a.kind, vInt a.op, vInt a.n, vStr a.name, ints a.args, ints a.outs, ints a.params, kids a.kids] 0)), (3, .pv (.ept [vInt b.kind, vInt b.op, vInt b.n, vStr b.name, ints b.args, ints b.outs, ints b.params, kids b.kids] 0))] /\ σ = look [] /\ m = a.args.length - k) (n := a.args.length - 0) ?_ ?_
  ·exact ⟨0, Nat.zero_le _, rfl, rfl, rfl, rfl⟩
  rintro fr σ m ⟨k, hI0, hI1, rfl, rfl, rfl⟩
  refine tQ <| tQ <| tG <| sm 3 rfl ?_
  refine WL.lenOf (t := 41) rfl (fun hl2 => ?_)
  simp only [List.length_map] at hl2
  refine cV rfl (oSm uT35 rfl) <| sm 1 rfl <| nL ?_
  refine tC rfl (fun hc43 => ?_) fun hc43 => ?_
  ·have hlt : k < a.args.length := by simpa using hc43
   have hd := List.drop_eq_getElem_cons hlt
   have hm := List.getElem_mem hlt
   have hi := z0f (f := eInt) (List.getElem?_eq_getElem hlt)
   generalize a.args[k] = x at hd hm hi
   have hltw : k < b.args.length := by omega
   have hdw := List.drop_eq_getElem_cons hltw
   have hw := z0f (f := eInt) (List.getElem?_eq_getElem hltw)
   generalize b.args[k] = y at hdw hw
   refine tSk <| tQ <| tBk <| tQ <| Tr.still z13 kR0 rfl <| smS 3 rfl <| sV rfl (iSq rfl rfl rfl uT35 hi tS3 rfl (by rfl)) <| smS 4 rfl <| sV rfl (iSq rfl rfl rfl uT35 hw tS3 rfl (by rfl)) <| smS 2 rfl <| WS.nil ?_
   refine tC rfl (fun hc56 => ?_) fun hc56 => ?_
   ·refine tQ <| tG <| sm 1 rfl <| nL <| tRt <| rOk rfl ?_ nPo
    have hxy : (x == y) = false := by simpa using hc56
    rw [hS, hI1, hd, hdw, List.cons_beq_cons, hxy]
    rfl
   refine tSk <| tG <| sm 1 rfl <| cV rfl (oB rfl rfl (z07 rfl oM0)) <| sm 1 rfl <| nL ?_
   refine ⟨_, _, ?_, Sub.of (fr' := [(5, iInt (k + 1)), (2, .pv (.ept [vInt a.kind, vInt a.op, vInt a.n, vStr a.name, ints a.args, ints a.outs, ints a.params, kids a.kids] 0)), (3, .pv (.ept [vInt b.kind, vInt b.op, vInt b.n, vStr b.name, ints b.args, ints b.outs, ints b.params, kids b.kids] 0))]) ⟨rfl, rfl, rfl, trivial⟩, (k + 1), ?_, ?_, rfl, rfl, rfl⟩
   ·omega
   ·omega
   rw [hI1, hd, hdw]
   have hxy : (x == y) = true := by simpa using hc56
   rw [List.cons_beq_cons, hxy, Bool.true_and]
  refine tEx <| tQ <| tG <| sm 1 rfl <| nL <| tRt <| rOk rfl ?_ nPo
  have hge : a.args.length <= k := by simpa using hc43
  rw [hS, hI1, List.drop_eq_nil_of_le hge, List.drop_eq_nil_of_le oM0]
  rfl
theorem zy3 (N : Nat) : ∀ (l : List Nd), SizeOf.sizeOf l < N -> SC Tryz.prog 24 [.pv (z0a l)] [] (fun _ => False) (iBool (onL [] l)) [] := by
  induction N with
  | zero => intro l hN; exact absurd hN (Nat.not_lt_zero _)
  | succ N ih =>
    intro l hN
    refine SC.of Tryz.func24 rfl (lb rfl) fun F ρ w => ?_
    refine Tr.lenOf (t := 0) rfl (fun hl => ?_)
    simp only [List.length_map] at hl
    refine tQ <| tG <| sm 1 rfl <| nL <| tQ <| tQ <| tG <| sm 1 rfl <| nL <| tBk <| Tr.sub (Sub.of (fr' := [(3, iInt 0), (0, .pv (z0a l))]) ⟨rfl, rfl, trivial⟩) ?_
    refine Tr.loop (fun fr σ m => ∃ (k : Nat), (k <= l.length) /\ (onL [] l = onL (l.take k) (l.drop k)) /\ fr = [(3, iInt k), (0, .pv (z0a l))] /\ σ = look [] /\ m = l.length - k) (n := l.length - 0) ?_ ?_
    ·exact ⟨0, Nat.zero_le _, rfl, rfl, rfl, rfl⟩
    rintro fr σ m ⟨k, hI0, hI1, rfl, rfl, rfl⟩
    refine tQ <| tQ <| tG <| sm 2 rfl <| cV rfl (oSm uT44 rfl) <| sm 1 rfl <| nL ?_
    refine tC rfl (fun hc9 => ?_) fun hc9 => ?_
    ·have hlt : k < l.length := by simpa using hc9
     have hd := List.drop_eq_getElem_cons hlt
     have hm := List.getElem_mem hlt
     have hi := z2m (List.getElem?_eq_getElem hlt)
     generalize l[k] = x at hd hm hi
     refine tSk <| tQ <| tBk <| tQ <| tQ <| tG <| sm 1 rfl <| nL <| tBk <| Tr.sub (Sub.of (fr' := [(4, iInt 0), (3, iInt k), (0, .pv (z0a l))]) ⟨rfl, rfl, rfl, trivial⟩) ?_
     refine Tr.loop (fun fr σ m => ∃ (j : Nat), (j <= k) /\ (∀ y ∈ l.take j, z2j y x = false) /\ fr = [(4, iInt j), (3, iInt k), (0, .pv (z0a l))] /\ σ = look [] /\ m = k - j) (n := k - 0) ?_ ?_
     ·exact ⟨0, Nat.zero_le _, (fun y hy => by simp at hy), rfl, rfl, rfl⟩
     rintro fr σ m ⟨j, hJ0, hJ1, rfl, rfl, rfl⟩
     refine tQ <| tQ <| tG <| sm 3 rfl <| nL ?_
     refine tC rfl (fun hc14 => ?_) fun hc14 => ?_
     ·have hjk : j < k := by simpa using hc14
      have hjl : j < l.length := by omega
      have hd2 := List.drop_eq_getElem_cons hjl
      have hi2 := z2m (List.getElem?_eq_getElem hjl)
      have hm2 : l[j] ∈ l.take k := zw8 hjk hjl
      generalize l[j] = y at hd2 hi2 hm2
      refine tSk <| tQ <| tBk <| tQ <| tDr z13 (fun k => k ∈ ([] : List Nat)) <| wR 1 [0, 1, 2, 3, 4, 5, 6, 7] kR0 h30 <| smR 2 rfl <| rV rfl rfl (iSq rfl rfl rfl uT44 hi2 tS43 rfl (by rfl)) <| rV rfl rfl (lEA rfl rfl uT43 rfl tS43 (lb rfl)) <| smR 2 rfl <| rV rfl rfl (iSq rfl rfl rfl uT44 hi tS43 rfl (by rfl)) <| rV rfl rfl (lEA rfl rfl uT43 rfl tS43 (lb rfl)) ?_
      refine nR <| wO 8 kR0 <| wI rfl rfl nf nw (fun _ _ => ocq (sc_alike y x) ent42 rfl rfl) <| wDn kR0 ?_
      refine tC rfl (fun hc25 => ?_) fun hc25 => ?_
      ·refine tQ <| tG <| sm 1 rfl <| nL <| tRt <| rOk rfl ?_ nPo
       have hyx : z2j y x = true := hc25
       have hxa : ((l.take k).any fun y => z2j y x) = true := List.any_eq_true.2 ⟨y, hm2, hyx⟩
       rw [hI1, hd]
       simp only [onL, zs8, hxa, Bool.not_true, Bool.false_and]
      refine tSk <| tG <| sm 1 rfl <| cV rfl (oB rfl rfl (z07 rfl oM0)) <| sm 1 rfl <| nL ?_
      refine ⟨_, _, ?_, Sub.of (fr' := [(4, iInt (j + 1)), (3, iInt k), (0, .pv (z0a l))]) ⟨rfl, rfl, rfl, trivial⟩, (j + 1), ?_, ?_, rfl, rfl, rfl⟩
      ·omega
      ·omega
      have hyx : z2j y x = false := by simpa using hc25
      rw [zi4 hd2]
      intro z hz
      rcases List.mem_append.1 hz with hz | hz
      ·exact hJ1 z hz
      obtain rfl := List.mem_singleton.1 hz; exact hyx
     have hxa : ((l.take k).any fun y => z2j y x) = false := by
       have hge : k <= j := by simpa using hc14
       have he : j = k := by omega
       subst he
       exact y3k hJ1
     refine tEx <| tQ <| tG <| sm 1 rfl <| nL <| tBk <| Tr.sub (Sub.of (fr' := [(5, iInt 0), (3, iInt k), (0, .pv (z0a l))]) ⟨rfl, rfl, rfl, trivial⟩) ?_
     refine Tr.loop (fun fr σ m => ∃ (i : Nat), (i <= x.kids.length) /\ (onK x.kids = onK (x.kids.drop i)) /\ fr = [(5, iInt i), (3, iInt k), (0, .pv (z0a l))] /\ σ = look [] /\ m = x.kids.length - i) (n := x.kids.length - 0) ?_ ?_
     ·exact ⟨0, Nat.zero_le _, rfl, rfl, rfl, rfl⟩
     rintro fr σ m ⟨i, hK0, hK1, rfl, rfl, rfl⟩
     refine tQ <| tQ <| tG <| sm 3 rfl <| cV rfl (iSq rfl rfl rfl uT44 hi tS43 rfl (by rfl)) <| sm 2 rfl ?_
     refine WL.lenOf (t := 31) rfl (fun hl3 => ?_)
     simp only [List.length_map] at hl3
     refine cV rfl (oSm uT41 rfl) <| sm 1 rfl <| nL ?_
     refine tC rfl (fun hc33 => ?_) fun hc33 => ?_
     ·have hlt3 : i < x.kids.length := by simpa using hc33
      have hd3 := List.drop_eq_getElem_cons hlt3
      have hm3 := List.getElem_mem hlt3
      have hi3 := z0f (f := eKid) (List.getElem?_eq_getElem hlt3)
      generalize x.kids[i] = q at hd3 hm3 hi3
      have hdec : SizeOf.sizeOf q < N := Nat.lt_of_lt_of_le (z78 hm rfl hm3) (Nat.le_of_lt_succ hN)
      refine tSk <| tQ <| tBk <| tQ <| tG <| sm 2 rfl <| cV rfl (iSq rfl rfl rfl uT44 hi tS43 rfl (by rfl)) <| sm 3 rfl <| cV rfl (iSq rfl rfl rfl uT41 hi3 tS44 rfl (by rfl)) <| sm 1 rfl <| cE rfl (ocq (ih q hdec) ent24 rfl rfl) <| sm 1 rfl ?_
      refine nL ?_
      refine tC rfl (fun hc45 => ?_) fun hc45 => ?_
      ·refine tQ <| tG <| sm 1 rfl <| nL <| tRt <| rOk rfl ?_ nPo
       have hq : onL [] q = false := by simpa using hc45
       rw [hI1, hd]
       simp only [onL, zs8, hK1, hd3, onK, hq, Bool.false_and, Bool.and_false]
      refine tSk <| tG <| sm 1 rfl <| cV rfl (oB rfl rfl (z07 rfl oM0)) <| sm 1 rfl <| nL ?_
      refine ⟨_, _, ?_, Sub.of (fr' := [(5, iInt (i + 1)), (3, iInt k), (0, .pv (z0a l))]) ⟨rfl, rfl, rfl, trivial⟩, (i + 1), ?_, ?_, rfl, rfl, rfl⟩
      ·omega
      ·omega
      rw [hK1, hd3]
      have hq : onL [] q = true := by simpa using hc45
      simp only [onK, hq, Bool.true_and]
     have hxk : onK x.kids = true := by
       have hge : x.kids.length <= i := by simpa using hc33
       rw [hK1, List.drop_eq_nil_of_le hge]
       rfl
     refine tEx <| tG <| sm 1 rfl <| cV rfl (oB rfl rfl (z07 rfl oM0)) <| sm 1 rfl <| nL ?_
     refine ⟨_, _, ?_, Sub.of (fr' := [(3, iInt (k + 1)), (0, .pv (z0a l))]) ⟨rfl, rfl, trivial⟩, (k + 1), ?_, ?_, rfl, rfl, rfl⟩
     ·omega
     ·omega
     rw [hI1, hd, zi4 hd]
     simp only [onL, zs8, hxa, hxk, Bool.not_false, Bool.true_and]
    refine tEx <| tQ <| tG <| sm 1 rfl <| nL <| tRt <| rOk rfl ?_ nPo
    have hge : l.length <= k := by simpa using hc9
    rw [hI1, List.drop_eq_nil_of_le hge]
    rfl
theorem sc_once (l : List Nd) : SC Tryz.prog 24 [.pv (z0a l)] [] (fun _ => False) (iBool (onL [] l)) [] := zy3 _ l (Nat.lt_succ_self _)
theorem y0i (u : Un) : SC Tryz.prog 12 [.pv u.enc] [] (fun _ => False) (iBool (zt3 u)) [] := by
  refine SC.of Tryz.func12 rfl (lb rfl) fun F ρ w => ?_
  refine tQ <| tG <| cE rfl (z1a rfl rfl) <| sm 1 rfl <| nL <| tQ <| tQ <| tG <| sm 1 rfl <| nL <| tBk <| Tr.sub (Sub.of (fr' := [(3, iInt 0), (1, .pv (.ept [arrs u.arrays, flws u.flows] 0))]) ⟨rfl, rfl, trivial⟩) ?_
  refine Tr.loop (fun fr σ m => ∃ (k : Nat), (k <= u.flows.length) /\ (zt3 u = (u.flows.drop k).all (fun f => onL [] f.body)) /\ fr = [(3, iInt k), (1, .pv (.ept [arrs u.arrays, flws u.flows] 0))] /\ σ = look [] /\ m = u.flows.length - k) (n := u.flows.length - 0) ?_ ?_
  ·exact ⟨0, Nat.zero_le _, rfl, rfl, rfl, rfl⟩
  rintro fr σ m ⟨k, hI0, hI1, rfl, rfl, rfl⟩
  refine tQ <| tQ <| tG <| sm 3 rfl ?_
  refine WL.lenOf (t := 6) rfl (fun hl2 => ?_)
  simp only [List.length_map] at hl2
  refine cV rfl (oSm uT23 rfl) <| sm 1 rfl <| nL ?_
  refine tC rfl (fun hc8 => ?_) fun hc8 => ?_
  ·have hlt : k < u.flows.length := by simpa using hc8
   have hd := List.drop_eq_getElem_cons hlt
   have hm := List.getElem_mem hlt
   have hi := z0f (f := Fl.enc) (List.getElem?_eq_getElem hlt)
   generalize u.flows[k] = x at hd hm hi
   refine tSk <| tQ <| tBk <| tQ <| tG <| sm 3 rfl <| cV rfl (iSq rfl rfl rfl uT23 hi tS51 rfl (by rfl)) <| sm 2 rfl <| cE rfl (ocq (sc_once x.body) ent24 rfl rfl) <| sm 1 rfl <| nL ?_
   refine tC rfl (fun hc18 => ?_) fun hc18 => ?_
   ·refine tQ <| tG <| sm 1 rfl <| nL <| tRt <| rOk rfl ?_ nPo
    have hq : onL [] x.body = false := by simpa using hc18
    rw [hI1, hd]
    simp only [List.all_cons, hq, Bool.false_and]
   refine tSk <| tG <| sm 1 rfl <| cV rfl (oB rfl rfl (z07 rfl oM0)) <| sm 1 rfl <| nL ?_
   refine ⟨_, _, ?_, Sub.of (fr' := [(3, iInt (k + 1)), (1, .pv (.ept [arrs u.arrays, flws u.flows] 0))]) ⟨rfl, rfl, trivial⟩, (k + 1), ?_, ?_, rfl, rfl, rfl⟩
   ·omega
   ·omega
   rw [hI1, hd]
   have hq : onL [] x.body = true := by simpa using hc18
   simp only [List.all_cons, hq, Bool.true_and]
  refine tEx <| tQ <| tG <| sm 1 rfl <| nL <| tRt <| rOk rfl ?_ nPo
  have hge : u.flows.length <= k := by simpa using hc8
  rw [hI1, List.drop_eq_nil_of_le hge]
  rfl
theorem y4g (ts : List Int) (l : List Nd) : SC Tryz.prog 16 [.pv (ints ts), .pv (z0a l)] [] (fun _ => False) (.pv (.agg [.val (.slice none 0 0), flws [⟨z0m, 1, 0, ts, l⟩]])) [] := by
  refine SC.ofC Tryz.func16 rfl (lb rfl) rfl fun F ρ w => ?_
  refine tQ <| tG <| cE rfl (aLc (k := 104) rfl tZ25 rfl rfl rfl rfl) <| nL <| tQ <| tG <| sm 2 rfl <| cV rfl (bPu rfl rfl tZ51 tP51 rfl (fbk rfl) rfl) <| cE rfl (bSl rfl rfl uT23 tZ51 tS51 rfl rfl rfl rfl (fbk rfl) rfl) <| cV rfl (bPu rfl rfl tZ25 tP25 rfl (fbk rfl) rfl) <| c0 (sBA rfl rfl rfl rfl rfl ((fun h => h)) tS25 (flk rfl) (lb rfl)) <| nL ?_
  refine tRt <| rCk (.inl rfl) (fun _ _ ho => lBP ho rfl rfl uT25 rfl tS25 (lb rfl) rfl trivial) ?_ nPo
  rfl
theorem z3g (b : Bool) : SC Tryz.prog 108 [iBool b] [] (fun _ => False) (iInt (zr5 b)) [] := by
  refine SC.of Tryz.func108 rfl (lb rfl) fun F ρ w => ?_
  refine tQ <| tG <| sm 1 rfl <| nL <| tQ <| tQ <| tG <| sm 1 rfl <| nL ?_
  refine tC rfl (fun hc3 => ?_) fun hc3 => ?_
  ·refine tQ <| tG <| sm 1 rfl <| nL <| tRt <| rOk rfl ?_ nPo
   cases b <;> first | rfl | (simp_all; done)
  refine tSk <| tQ <| tG <| sm 1 rfl <| nL <| tRt <| rOk rfl ?_ nPo
  cases b <;> first | rfl | (simp_all; done)
theorem sc_mOne (op a : Int) : SC Tryz.prog 91 [iInt op, iInt a] [] (fun _ => False) (iInt (mOne op a)) [] := by
  refine SC.of Tryz.func91 rfl (lb rfl) fun F ρ w => ?_
  refine tQ <| tG <| sm 1 rfl <| nL <| tQ <| tQ <| tG <| sm 1 rfl <| nL <| tBk <| tQ <| tG ?_
  refine sm 2 rfl <| nL ?_
  refine tC rfl (fun hc6 => ?_) fun hc6 => ?_
  ·refine tQ <| tG <| sm 3 rfl <| nL <| tRt <| rOk rfl ?_ nPo
   (simp only [mOne, *, if_true, Bool.false_eq_true, if_false, Bool.or_true, Bool.true_or, Bool.or_false] <;> rfl)
  refine tQ <| tG <| sm 2 rfl <| nL ?_
  refine tC rfl (fun hc10 => ?_) fun hc10 => ?_
  ·refine tQ <| tG <| sm 3 rfl <| nL <| tRt <| rOk rfl ?_ nPo
   (simp only [mOne, *, if_true, Bool.false_eq_true, if_false, Bool.or_true, Bool.true_or, Bool.or_false] <;> rfl)
  refine tQ <| tG <| sm 2 rfl <| nL ?_
  refine tC rfl (fun hc14 => ?_) fun hc14 => ?_
  ·refine tQ <| tG <| sm 2 rfl <| cE rfl (ocq (z3g _) z66 rfl rfl) <| sm 1 rfl <| nL <| tRt <| rOk rfl ?_ nPo
   (simp only [mOne, *, if_true, Bool.false_eq_true, if_false, Bool.or_true, Bool.true_or, Bool.or_false] <;> rfl)
  refine tQ <| tG <| sm 2 rfl <| nL ?_
  refine tC rfl (fun hc19 => ?_) fun hc19 => ?_
  ·refine tQ <| tG <| sm 3 rfl <| nL <| tRt <| rOk rfl ?_ nPo
   (simp only [mOne, *, if_true, Bool.false_eq_true, if_false, Bool.or_true, Bool.true_or, Bool.or_false] <;> rfl)
  refine tQ <| tG <| sm 2 rfl <| nL ?_
  refine tC rfl (fun hc23 => ?_) fun hc23 => ?_
  ·refine tQ <| tG <| sm 3 rfl <| nL <| tRt <| rOk rfl ?_ nPo
   (simp only [mOne, *, if_true, Bool.false_eq_true, if_false, Bool.or_true, Bool.true_or, Bool.or_false] <;> rfl)
  refine tQ <| tG <| sm 2 rfl <| nL ?_
  refine tC rfl (fun hc27 => ?_) fun hc27 => ?_
  ·refine tQ <| tG <| sm 3 rfl <| nL <| tRt <| rOk rfl ?_ nPo
   (simp only [mOne, *, if_true, Bool.false_eq_true, if_false, Bool.or_true, Bool.true_or, Bool.or_false] <;> rfl)
  refine tQ <| tG <| sm 2 rfl <| nL ?_
  refine tC rfl (fun hc31 => ?_) fun hc31 => ?_
  ·refine tQ <| tG <| sm 5 rfl <| nL <| tRt <| rOk rfl ?_ nPo
   (simp only [mOne, *, if_true, Bool.false_eq_true, if_false, Bool.or_true, Bool.true_or, Bool.or_false] <;> rfl)
  refine tQ <| tG <| sm 2 rfl <| nL ?_
  refine tC rfl (fun hc37 => ?_) fun hc37 => ?_
  ·refine tQ <| tG <| sm 5 rfl <| nL <| tRt <| rOk rfl ?_ nPo
   (simp only [mOne, *, if_true, Bool.false_eq_true, if_false, Bool.or_true, Bool.true_or, Bool.or_false] <;> rfl)
  refine tQ <| tG <| sm 2 rfl <| nL ?_
  refine tC rfl (fun hc43 => ?_) fun hc43 => ?_
  ·refine tQ <| tG <| sm 5 rfl <| nL <| tRt <| rOk rfl ?_ nPo
   (simp only [mOne, *, if_true, Bool.false_eq_true, if_false, Bool.or_true, Bool.true_or, Bool.or_false] <;> rfl)
  refine tSk <| tQ <| tG <| sm 1 rfl <| nL <| tRt <| rOk rfl ?_ nPo
  (simp only [mOne, *, if_true, Bool.false_eq_true, if_false, Bool.or_true, Bool.true_or, Bool.or_false] <;> rfl)
theorem sc_mTwo (op a b : Int) : SC Tryz.prog 92 [iInt op, iInt a, iInt b] [] (fun _ => False) (.tup [iInt (mTwo op a b).1, iBool (mTwo op a b).2]) [] := by
  refine SC.of Tryz.func92 rfl (lb rfl) fun F ρ w => ?_
  refine tQ <| tG <| sm 2 rfl <| nL <| tQ <| tQ <| tG <| sm 1 rfl <| nL <| tBk <| tQ <| tG ?_
  refine sm 2 rfl <| nL ?_
  refine tC rfl (fun hc9 => ?_) fun hc9 => ?_
  ·refine tQ <| tG <| sm 5 rfl <| nL <| tRt <| rOk rfl ?_ nPo
   (simp only [mTwo, *, if_true, Bool.false_eq_true, if_false, Bool.or_true, Bool.true_or, Bool.or_false] <;> rfl)
  refine tQ <| tG <| sm 2 rfl <| nL ?_
  refine tC rfl (fun hc14 => ?_) fun hc14 => ?_
  ·refine tQ <| tG <| sm 5 rfl <| nL <| tRt <| rOk rfl ?_ nPo
   (simp only [mTwo, *, if_true, Bool.false_eq_true, if_false, Bool.or_true, Bool.true_or, Bool.or_false] <;> rfl)
  refine tQ <| tG <| sm 2 rfl <| nL ?_
  refine tC rfl (fun hc19 => ?_) fun hc19 => ?_
  ·refine tQ <| tG <| sm 5 rfl <| nL <| tRt <| rOk rfl ?_ nPo
   (simp only [mTwo, *, if_true, Bool.false_eq_true, if_false, Bool.or_true, Bool.true_or, Bool.or_false] <;> rfl)
  refine tQ <| tQ <| tG <| sm 2 rfl <| nL ?_
  refine tC rfl (fun hc24 => ?_) fun hc24 => ?_
  ·refine tSk ?_
   refine tC rfl (fun hc24 => ?_) fun hc24 => ?_
   ·refine tQ <| tQ <| tG <| sm 2 rfl <| nL ?_
    refine tC rfl (fun hc28 => ?_) fun hc28 => ?_
    ·refine tQ <| tG <| sm 2 rfl <| nL <| tRt <| rOk rfl ?_ nPo
     (simp only [mTwo, *, if_true, Bool.false_eq_true, if_false, Bool.or_true, Bool.true_or, Bool.or_false] <;> rfl)
    refine tSk <| tQ <| tQ <| tG <| sm 2 rfl <| nL ?_
    refine tC rfl (fun hc30 => ?_) fun hc30 => ?_
    ·refine tQ <| tG <| sm 2 rfl <| cV rfl (oB rfl rfl (show z3p .quo .i64 a b = some (.int .i64 (w64 (a.tdiv b))) by simp [z3p, w64, show ¬ b = 0 by simpa using hc28])) <| sm 2 rfl <| nL <| tRt <| rOk rfl ?_ nPo
     (simp only [mTwo, *, if_true, Bool.false_eq_true, if_false, Bool.or_true, Bool.true_or, Bool.or_false] <;> rfl)
    refine tSk <| tQ <| tG <| sm 2 rfl <| cV rfl (oB rfl rfl (show z3p .rem .i64 a b = some (.int .i64 (a.tmod b)) by simp [z3p, show ¬ b = 0 by simpa using hc28])) <| sm 2 rfl <| nL <| tRt <| rOk rfl ?_ nPo
    (exfalso; simp_all; done)
   refine tQ <| tG <| sm 2 rfl <| nL ?_
   refine tC rfl (fun hc37 => ?_) fun hc37 => ?_
   ·refine tQ <| tG <| sm 5 rfl <| nL <| tRt <| rOk rfl ?_ nPo
    (exfalso; simp_all; done)
   refine tQ <| tG <| sm 2 rfl <| nL ?_
   refine tC rfl (fun hc42 => ?_) fun hc42 => ?_
   ·refine tQ <| tG <| sm 5 rfl <| nL <| tRt <| rOk rfl ?_ nPo
    (exfalso; simp_all; done)
   refine tQ <| tG <| sm 2 rfl <| nL ?_
   refine tC rfl (fun hc47 => ?_) fun hc47 => ?_
   ·refine tQ <| tG <| sm 5 rfl <| nL <| tRt <| rOk rfl ?_ nPo
    (exfalso; simp_all; done)
   refine tQ <| tG <| sm 2 rfl <| nL ?_
   refine tC rfl (fun hc52 => ?_) fun hc52 => ?_
   ·refine tQ <| tG <| sm 3 rfl <| cV rfl (ok_shl rfl rfl rfl (y0n b)) <| sm 2 rfl <| nL <| tRt <| rOk rfl ?_ nPo
    (exfalso; simp_all; done)
   refine tQ <| tG <| sm 2 rfl <| nL ?_
   refine tC rfl (fun hc58 => ?_) fun hc58 => ?_
   ·refine tQ <| tG <| sm 3 rfl <| cV rfl (y09 rfl rfl rfl (y0n b)) <| sm 2 rfl <| nL <| tRt <| rOk rfl ?_ nPo
    (exfalso; simp_all; done)
   refine tQ <| tG <| sm 2 rfl <| nL ?_
   refine tC rfl (fun hc64 => ?_) fun hc64 => ?_
   ·refine tQ <| tG <| sm 1 rfl <| cV rfl (z4f rfl rfl ⟨_, uT3⟩ Tryz.underlying134) <| sm 2 rfl <| cV rfl (y09 rfl rfl rfl (y0n b)) <| cV rfl (z4f rfl rfl ⟨_, Tryz.underlying134⟩ uT3) <| sm 2 rfl <| nL <| tRt <| rOk rfl ?_ nPo
    (exfalso; simp_all; done)
   refine tQ <| tG <| sm 2 rfl <| nL ?_
   refine tC rfl (fun hc72 => ?_) fun hc72 => ?_
   ·refine tQ <| tG <| sm 3 rfl <| cE rfl (ocq (z3g _) z66 rfl rfl) <| sm 2 rfl <| nL <| tRt <| rOk rfl ?_ nPo
    (exfalso; simp_all; done)
   refine tQ <| tG <| sm 2 rfl <| nL ?_
   refine tC rfl (fun hc78 => ?_) fun hc78 => ?_
   ·refine tQ <| tG <| sm 3 rfl <| cE rfl (ocq (z3g _) z66 rfl rfl) <| sm 2 rfl <| nL <| tRt <| rOk rfl ?_ nPo
    (exfalso; simp_all; done)
   refine tQ <| tG <| sm 2 rfl <| nL ?_
   refine tC rfl (fun hc84 => ?_) fun hc84 => ?_
   ·refine tQ <| tG <| sm 3 rfl <| cE rfl (ocq (z3g _) z66 rfl rfl) <| sm 2 rfl <| nL <| tRt <| rOk rfl ?_ nPo
    (exfalso; simp_all; done)
   refine tQ <| tG <| sm 2 rfl <| nL ?_
   refine tC rfl (fun hc90 => ?_) fun hc90 => ?_
   ·refine tQ <| tG <| sm 3 rfl <| cE rfl (ocq (z3g _) z66 rfl rfl) <| sm 2 rfl <| nL <| tRt <| rOk rfl ?_ nPo
    (exfalso; simp_all; done)
   refine tQ <| tG <| sm 2 rfl <| nL ?_
   refine tC rfl (fun hc96 => ?_) fun hc96 => ?_
   ·refine tQ <| tG <| sm 3 rfl <| cE rfl (ocq (z3g _) z66 rfl rfl) <| sm 2 rfl <| nL <| tRt <| rOk rfl ?_ nPo
    (exfalso; simp_all; done)
   refine tQ <| tG <| sm 2 rfl <| nL ?_
   refine tC rfl (fun hc102 => ?_) fun hc102 => ?_
   ·refine tQ <| tG <| sm 3 rfl <| cE rfl (ocq (z3g _) z66 rfl rfl) <| sm 2 rfl <| nL <| tRt <| rOk rfl ?_ nPo
    (exfalso; simp_all; done)
   refine tSk <| tQ <| tG <| sm 2 rfl <| nL <| tRt <| rOk rfl ?_ nPo
   (exfalso; simp_all; done)
  refine tG <| sm 2 rfl <| nL ?_
  refine tC rfl (fun hc24 => ?_) fun hc24 => ?_
  ·refine tQ <| tQ <| tG <| sm 2 rfl <| nL ?_
   refine tC rfl (fun hc28 => ?_) fun hc28 => ?_
   ·refine tQ <| tG <| sm 2 rfl <| nL <| tRt <| rOk rfl ?_ nPo
    (simp only [mTwo, *, if_true, Bool.false_eq_true, if_false, Bool.or_true, Bool.true_or, Bool.or_false] <;> rfl)
   refine tSk <| tQ <| tQ <| tG <| sm 2 rfl <| nL ?_
   refine tC rfl (fun hc30 => ?_) fun hc30 => ?_
   ·refine tQ <| tG <| sm 2 rfl <| cV rfl (oB rfl rfl (show z3p .quo .i64 a b = some (.int .i64 (w64 (a.tdiv b))) by simp [z3p, w64, show ¬ b = 0 by simpa using hc28])) <| sm 2 rfl <| nL <| tRt <| rOk rfl ?_ nPo
    (exfalso; simp_all; done)
   refine tSk <| tQ <| tG <| sm 2 rfl <| cV rfl (oB rfl rfl (show z3p .rem .i64 a b = some (.int .i64 (a.tmod b)) by simp [z3p, show ¬ b = 0 by simpa using hc28])) <| sm 2 rfl <| nL <| tRt <| rOk rfl ?_ nPo
   (simp only [mTwo, *, if_true, Bool.false_eq_true, if_false, Bool.or_true, Bool.true_or, Bool.or_false] <;> rfl)
  refine tQ <| tG <| sm 2 rfl <| nL ?_
  refine tC rfl (fun hc37 => ?_) fun hc37 => ?_
  ·refine tQ <| tG <| sm 5 rfl <| nL <| tRt <| rOk rfl ?_ nPo
   (simp only [mTwo, *, if_true, Bool.false_eq_true, if_false, Bool.or_true, Bool.true_or, Bool.or_false] <;> rfl)
  refine tQ <| tG <| sm 2 rfl <| nL ?_
  refine tC rfl (fun hc42 => ?_) fun hc42 => ?_
  ·refine tQ <| tG <| sm 5 rfl <| nL <| tRt <| rOk rfl ?_ nPo
   (simp only [mTwo, *, if_true, Bool.false_eq_true, if_false, Bool.or_true, Bool.true_or, Bool.or_false] <;> rfl)
  refine tQ <| tG <| sm 2 rfl <| nL ?_
  refine tC rfl (fun hc47 => ?_) fun hc47 => ?_
  ·refine tQ <| tG <| sm 5 rfl <| nL <| tRt <| rOk rfl ?_ nPo
   (simp only [mTwo, *, if_true, Bool.false_eq_true, if_false, Bool.or_true, Bool.true_or, Bool.or_false] <;> rfl)
  refine tQ <| tG <| sm 2 rfl <| nL ?_
  refine tC rfl (fun hc52 => ?_) fun hc52 => ?_
  ·refine tQ <| tG <| sm 3 rfl <| cV rfl (ok_shl rfl rfl rfl (y0n b)) <| sm 2 rfl <| nL <| tRt <| rOk rfl ?_ nPo
   (simp only [mTwo, *, if_true, Bool.false_eq_true, if_false, Bool.or_true, Bool.true_or, Bool.or_false] <;> rfl)
  refine tQ <| tG <| sm 2 rfl <| nL ?_
  refine tC rfl (fun hc58 => ?_) fun hc58 => ?_
  ·refine tQ <| tG <| sm 3 rfl <| cV rfl (y09 rfl rfl rfl (y0n b)) <| sm 2 rfl <| nL <| tRt <| rOk rfl ?_ nPo
   (simp only [mTwo, *, if_true, Bool.false_eq_true, if_false, Bool.or_true, Bool.true_or, Bool.or_false] <;> rfl)
  refine tQ <| tG <| sm 2 rfl <| nL ?_
  refine tC rfl (fun hc64 => ?_) fun hc64 => ?_
  ·refine tQ <| tG <| sm 1 rfl <| cV rfl (z4f rfl rfl ⟨_, uT3⟩ Tryz.underlying134) <| sm 2 rfl <| cV rfl (y09 rfl rfl rfl (y0n b)) <| cV rfl (z4f rfl rfl ⟨_, Tryz.underlying134⟩ uT3) <| sm 2 rfl <| nL <| tRt <| rOk rfl ?_ nPo
   (simp only [mTwo, *, if_true, Bool.false_eq_true, if_false, Bool.or_true, Bool.true_or, Bool.or_false] <;> rfl)
  refine tQ <| tG <| sm 2 rfl <| nL ?_
  refine tC rfl (fun hc72 => ?_) fun hc72 => ?_
  ·refine tQ <| tG <| sm 3 rfl <| cE rfl (ocq (z3g _) z66 rfl rfl) <| sm 2 rfl <| nL <| tRt <| rOk rfl ?_ nPo
   (simp only [mTwo, *, if_true, Bool.false_eq_true, if_false, Bool.or_true, Bool.true_or, Bool.or_false] <;> rfl)
  refine tQ <| tG <| sm 2 rfl <| nL ?_
  refine tC rfl (fun hc78 => ?_) fun hc78 => ?_
  ·refine tQ <| tG <| sm 3 rfl <| cE rfl (ocq (z3g _) z66 rfl rfl) <| sm 2 rfl <| nL <| tRt <| rOk rfl ?_ nPo
   (simp only [mTwo, *, if_true, Bool.false_eq_true, if_false, Bool.or_true, Bool.true_or, Bool.or_false] <;> rfl)
  refine tQ <| tG <| sm 2 rfl <| nL ?_
  refine tC rfl (fun hc84 => ?_) fun hc84 => ?_
  ·refine tQ <| tG <| sm 3 rfl <| cE rfl (ocq (z3g _) z66 rfl rfl) <| sm 2 rfl <| nL <| tRt <| rOk rfl ?_ nPo
   (simp only [mTwo, *, if_true, Bool.false_eq_true, if_false, Bool.or_true, Bool.true_or, Bool.or_false] <;> rfl)
  refine tQ <| tG <| sm 2 rfl <| nL ?_
  refine tC rfl (fun hc90 => ?_) fun hc90 => ?_
  ·refine tQ <| tG <| sm 3 rfl <| cE rfl (ocq (z3g _) z66 rfl rfl) <| sm 2 rfl <| nL <| tRt <| rOk rfl ?_ nPo
   (simp only [mTwo, *, if_true, Bool.false_eq_true, if_false, Bool.or_true, Bool.true_or, Bool.or_false] <;> rfl)
  refine tQ <| tG <| sm 2 rfl <| nL ?_
  refine tC rfl (fun hc96 => ?_) fun hc96 => ?_
  ·refine tQ <| tG <| sm 3 rfl <| cE rfl (ocq (z3g _) z66 rfl rfl) <| sm 2 rfl <| nL <| tRt <| rOk rfl ?_ nPo
   (simp only [mTwo, *, if_true, Bool.false_eq_true, if_false, Bool.or_true, Bool.true_or, Bool.or_false] <;> rfl)
  refine tQ <| tG <| sm 2 rfl <| nL ?_
  refine tC rfl (fun hc102 => ?_) fun hc102 => ?_
  ·refine tQ <| tG <| sm 3 rfl <| cE rfl (ocq (z3g _) z66 rfl rfl) <| sm 2 rfl <| nL <| tRt <| rOk rfl ?_ nPo
   (simp only [mTwo, *, if_true, Bool.false_eq_true, if_false, Bool.or_true, Bool.true_or, Bool.or_false] <;> rfl)
  refine tSk <| tQ <| tG <| sm 2 rfl <| nL <| tRt <| rOk rfl ?_ nPo
  (simp only [mTwo, *, if_true, Bool.false_eq_true, if_false, Bool.or_true, Bool.true_or, Bool.or_false] <;> rfl)
theorem z7i (u : Un) (s : Rs) : SC Tryz.prog 31 [.ptr 1001 0] (runH u s) (fun _ => True) (iBool (z4d s)) (runH u s) := by
  refine SC.of Tryz.func31 rfl (lb rfl) fun F ρ w => ?_
  refine tQ <| tG <| sm 1 rfl <| nL <| tQ <| tG <| sm 1 rfl <| cV rfl (nCk rfl rfl rfl) <| sm 3 rfl ?_
  refine wS 7 rfl (fun hb7 => ?_) fun hb7 => ?_
  ·refine sm 8 rfl <| nL <| tRt <| rOk rfl ?_ (fun _ _ h => h)
   cases hsp : s.spent <;> simp_all [z4d, iBool]
  refine sm 1 rfl <| yV rfl rfl (nCk rfl rfl rfl) <| sm 6 rfl <| nL <| tRt <| rOk rfl ?_ (fun _ _ h => h)
  cases hsp : s.spent <;> simp_all [z4d, iBool]
theorem sc_step (u : Un) (s : Rs) : SC Tryz.prog 66 [.ptr 1001 0] (runH u s) (fun _ => False) (iBool (z9m s).1) (runH u (z9m s).2) := by
  refine SC.of Tryz.func66 rfl (lb rfl) fun F ρ w => ?_
  refine tQ <| tG <| sm 1 rfl <| nL <| tQ <| tQ <| tG <| sm 1 rfl <| cE rfl (ocr (z7i u s) zq2 rfl (fun _ _ h => h) rfl (fun k (h : _) => .inr trivial) rfl rfl) <| nL ?_
  refine tC rfl (fun hc4 => ?_) fun hc4 => ?_
  ·refine tQ <| tG <| sm 1 rfl <| nL <| tRt ?_
   have e : z9m s = (false, s) := by simp [z9m, hc4]
   rw [e]
   refine rOk rfl rfl (po2 rfl rfl)
  refine tSk <| tQ <| tQ <| tG <| sm 1 rfl <| cV rfl (nCk rfl rfl rfl) <| sm 4 rfl <| nL ?_
  refine tC rfl (fun hc10 => ?_) fun hc10 => ?_
  ·refine tQ <| tG <| sm 1 rfl <| cV rfl (nCk rfl rfl rfl) <| sm 1 rfl <| c0 (sBx rfl rfl rfl rfl ((fun h => h)) tS4 (rfl) (lb rfl)) <| nL <| tQ <| tG <| sm 1 rfl <| nL <| tRt ?_
   have e : z9m s = (false, { s with spent := true }) := by
     have h1 : s.fuel < 1 := by simpa using hc10
     simp [z9m, hc4, h1]
   rw [e]
   refine rOk rfl rfl (po2 rfl rfl)
  refine tSk <| tQ <| tG <| sm 2 rfl <| cV rfl (nCk rfl rfl rfl) <| sm 4 rfl <| cV rfl (nCk rfl rfl rfl) <| sm 2 rfl <| c0 (sBx rfl rfl rfl rfl ((fun h => h)) tS3 (rfl) (lb rfl)) <| nL <| tQ <| tG ?_
  refine sm 1 rfl <| nL <| tRt ?_
  have e : z9m s = (true, { s with fuel := w64 (s.fuel - 1) }) := by
    have h1 : ¬ s.fuel < 1 := by simpa using hc10
    simp [z9m, hc4, h1]
  rw [e]
  refine rOk rfl rfl (po2 rfl rfl)
theorem sc_of (v l o : List Int) (h : mOf v l = some o) (hb : l.length <= 1073741824) : SC Tryz.prog 67 [.sl 510 (v.map eInt).length, .pv (ints l)] [(510, rowI v)] (fun k => k = 510) (.pv (ints o)) [(510, rowI v)] := by
  refine SC.of Tryz.func67 rfl (lb rfl) fun F ρ w => ?_
  refine Tr.lenOf (t := 1) rfl (fun hl => ?_)
  simp only [List.length_map] at hl
  refine tQ <| tG <| sm 1 rfl <| nL <| tQ <| tG <| sm 1 rfl <| nL <| tQ <| tQ <| Tr.grow (t := 5) (k := 105) ⟨3, 1⟩ rfl rfl rfl rfl rfl <| tG ?_
  refine sm 1 rfl <| nL <| tBk <| Tr.sub (Sub.of (fr' := [(6, iInt 0), (5, .sl 105 (([] : List Int).map eInt).length), (0, .sl 510 (v.map eInt).length), (1, .pv (ints l))]) ⟨rfl, rfl, rfl, rfl, trivial⟩) ?_
  refine Tr.heap (σ' := look [(105, some (rowI ([] : List Int))), (510, some (rowI v))]) (by
  intro j
  simp only [look]
  by_cases h1 : 105 = j
  · subst h1; rfl
  · simp [look, up, z00 h1]) ?_
  refine Tr.loop (fun fr σ m => ∃ (k : Nat) (acc : List Int), (k <= l.length) /\ ((mOf v (l.drop k)).map (acc ++ ·) = some o) /\ (acc.length = k) /\ fr = [(6, iInt k), (5, .sl 105 (acc.map eInt).length), (0, .sl 510 (v.map eInt).length), (1, .pv (ints l))] /\ σ = look [(105, some (rowI acc)), (510, some (rowI v))] /\ m = l.length - k) (n := l.length - 0) ?_ ?_
  ·exact ⟨0, ([] : List Int), Nat.zero_le _, (by rw [List.drop_zero, h]; rfl), rfl, rfl, rfl, rfl⟩
  rintro fr σ m ⟨k, acc, hI0, hI1, hI2, rfl, rfl, rfl⟩
  refine tQ <| tQ <| tG <| sm 2 rfl <| cV rfl (oSm uT35 rfl) <| sm 1 rfl <| nL ?_
  refine tC rfl (fun hc10 => ?_) fun hc10 => ?_
  ·have hlt : k < l.length := by simpa using hc10
   have hd := List.drop_eq_getElem_cons hlt
   have hm := List.getElem_mem hlt
   have hi := z0f (f := eInt) (List.getElem?_eq_getElem hlt)
   generalize l[k] = x at hd hm hi
   rw [hd] at hI1
   obtain ⟨y, hy, hO⟩ := mOf_step hI1
   obtain ⟨hx0, hxl, hxg⟩ := y2t hy
   have hal : (acc.map eInt).length = acc.length := by simp
   refine tSk <| tQ <| tBk <| tG <| sm 4 rfl <| cV rfl (iSq rfl rfl rfl uT35 hi tS3 rfl (by rfl)) <| sm 1 rfl <| cV rfl (iRw rfl rfl rfl rfl rfl uT35 tS3 hxl oM0) <| cV rfl (lRw rfl rfl rfl rfl (Nat.add_zero _).symm hxg rfl uT3 rfl trivial) <| cE rfl (bSl rfl rfl uT35 tZ3 tS3 rfl rfl rfl rfl (fbk rfl) rfl) ?_
   refine cE rfl (aPp rfl rfl rfl rfl (by rfl) sI0 uT35 tB3 dC0 (by (simp [z03]; done)) (by (simp [z03, PV.one]; rfl)) (by simp [maxLen, z03]; omega) (by simp [z03]; omega)) ?_
   refine sm 1 rfl <| nL <| tG <| sm 1 rfl <| cV rfl (oB rfl rfl (z07 rfl oM0)) <| sm 1 rfl <| nL ?_
   refine ⟨_, _, ?_, Sub.of (fr' := [(6, iInt (k + 1)), (5, .sl 105 ((acc ++ [y]).map eInt).length), (0, .sl 510 (v.map eInt).length), (1, .pv (ints l))]) ⟨rfl, congrArg (fun z => some (IV.sl _ z)) (by simp [z03, eInt]), rfl, rfl, trivial⟩, (k + 1), (acc ++ [y]), ?_, ?_, ?_, rfl, (funext (by
  intro j
  simp only [look]
  by_cases h1 : 105 = j
  · subst h1; exact congrArg (fun z => some (HO.row _ z)) (by simp [z03, eInt])
  · simp [look, z00 h1])), rfl⟩
   ·omega
   ·omega
   ·exact hO
   simp [hI2]
  refine tEx <| tQ <| Tr.freeze (t := 5) (k := 105) rfl rfl sI0 <| tG <| sm 2 rfl <| nL <| tRt <| rOk rfl ?_ (po1 rfl)
  have hge : l.length <= k := by simpa using hc10
  rw [List.drop_eq_nil_of_le hge] at hI1
  have : acc = o := by simpa [mOf] using hI1
  rw [this]
  rfl
theorem y0j (v l n v' : List Int) (h : mSet v l n = some v') : SC Tryz.prog 68 [.sl 510 (v.map eInt).length, .pv (ints l), .pv (ints n)] [(510, rowI v)] (fun _ => False) (.tup []) [(510, rowI v')] := by
  refine SC.of Tryz.func68 rfl (lb rfl) fun F ρ w => ?_
  refine Tr.lenOf (t := 1) rfl (fun hl => ?_)
  simp only [List.length_map] at hl
  refine Tr.lenOf (t := 2) rfl (fun hl2 => ?_)
  simp only [List.length_map] at hl2
  refine tQ <| tG <| sm 1 rfl <| nL <| tBk <| Tr.sub (Sub.of (fr' := [(6, iInt 0), (0, .sl 510 (v.map eInt).length), (1, .pv (ints l)), (2, .pv (ints n))]) ⟨rfl, rfl, rfl, rfl, trivial⟩) ?_
  refine Tr.loop (fun fr σ m => ∃ (k : Nat) (w1 : List Int) (m1 : List Int), (k <= l.length) /\ (mSet w1 (l.drop k) m1 = some v') /\ (w1.length = v.length) /\ (m1 = n.drop k) /\ fr = [(6, iInt k), (0, .sl 510 (v.map eInt).length), (1, .pv (ints l)), (2, .pv (ints n))] /\ σ = look [(510, some (rowI w1))] /\ m = l.length - k) (n := l.length - 0) ?_ ?_
  ·exact ⟨0, v, n, Nat.zero_le _, h, rfl, rfl, rfl, rfl, rfl⟩
  rintro fr σ m ⟨k, w1, m1, hI0, hI1, hI2, hI3, rfl, rfl, rfl⟩
  refine tQ <| tQ <| tG <| sm 2 rfl <| cV rfl (oSm uT35 rfl) <| sm 1 rfl <| nL ?_
  refine tC rfl (fun hc10 => ?_) fun hc10 => ?_
  ·have hlt : k < l.length := by simpa using hc10
   have hd := List.drop_eq_getElem_cons hlt
   have hm := List.getElem_mem hlt
   have hi := z0f (f := eInt) (List.getElem?_eq_getElem hlt)
   generalize l[k] = x at hd hm hi
   rw [hd] at hI1
   obtain ⟨y, m2, w2, hm1, hs, hO⟩ := zr9 hI1
   obtain ⟨hx0, hxl, hw2⟩ := z7m hs
   obtain ⟨z0, hxg⟩ := zt0 hxl
   have hwn : (w1.map eInt).length = (v.map eInt).length := by simp [hI2]
   have hxl2 : x.toNat < (v.map eInt).length := by rw [<- hwn]; exact hxl
   have hnk : n[k]? = some y := by
     have h0 := List.getElem?_drop (xs := n) (i := k) (j := 0)
     rw [<- hI3, hm1] at h0
     simpa using h0.symm
   have hi2 := z0f (f := eInt) hnk
   refine tSk <| tQ <| tBk <| tDr z13 (fun k => k ∈ ([] : List Nat)) <| wR 1 [0, 1, 2, 3, 4, 5, 6, 7, 8, 9] kR0 h30 <| smR 3 rfl <| rV rfl rfl (iSq rfl rfl rfl uT35 hi tS3 rfl (by rfl)) <| smR 3 rfl <| rV rfl rfl (iSq rfl rfl rfl uT35 hi2 tS3 rfl (by rfl)) <| smR 1 rfl <| rV rfl rfl (iRw rfl rfl rfl rfl hwn uT35 tS3 hxl2 oM0) <| nR ?_
   refine wO 10 kR0 <| wI rfl rfl nf (nOl rfl) (fun _ _ => z1w rfl rfl rfl rfl hwn (Nat.add_zero _).symm hxg sI0 tS3 rfl sI0) <| wDn kR0 <| tG <| sm 1 rfl <| cV rfl (oB rfl rfl (z07 rfl oM0)) <| sm 1 rfl <| nL ?_
   refine ⟨_, _, ?_, Sub.of (fr' := [(6, iInt (k + 1)), (0, .sl 510 (v.map eInt).length), (1, .pv (ints l)), (2, .pv (ints n))]) ⟨rfl, rfl, rfl, rfl, trivial⟩, (k + 1), w2, m2, ?_, ?_, ?_, ?_, rfl, (funext (by
  intro j
  simp only [look]
  by_cases h1 : 510 = j
  · subst h1; exact congrArg (fun z => some (HO.row _ z)) (by rw [hw2]; exact z4b _ _ _ _ hxg)
  · simp [look, z00 h1])), rfl⟩
   ·omega
   ·omega
   ·exact hO
   ·rw [hw2, List.length_set]; exact hI2
   rw [<- List.drop_drop, <- hI3, hm1]; rfl
  refine tEx ?_
  have hge : l.length <= k := by simpa using hc10
  rw [List.drop_eq_nil_of_le hge] at hI1
  have hw : w1 = v' := by simpa [mSet] using hI1
  subst hw
  refine end_ok rfl rfl (po1 rfl)
section
def z4l (s : Rs) : Rs := { s with cost := w64 (s.cost + 1) }
theorem zo3 {v v' : List Int} {x y : Int} (h : setV v x y = some v') : v'.length = v.length := by
  rw [(z7m h).2.2, List.length_set]
theorem z90 : ∀ {l n v v' : List Int}, mSet v l n = some v' -> v'.length = v.length
  | [], _, _, _, h => by cases h; rfl
  | _ :: _, _, _, _, h => by
    obtain ⟨y, n', v1, rfl, h1, h2⟩ := zr9 h
    rw [z90 h2, zo3 h1]
theorem zr7 {rec : List Nd -> List Int -> Rs -> Option Rres} {recLoop : Nd -> List Int -> List Int -> Rs -> Option Rres} {recSum : Nd -> List Int -> Rs -> Option (Int × Rs)} {x : Nd} {a v : List Int} {s : Rs} {r : Rres}
    (hr : ∀ q v s r, rec q v s = some r -> r.2.1.length = v.length) (hl : ∀ x v a s r, recLoop x v a s = some r -> r.2.1.length = v.length) (h : z8y rec recLoop recSum x a v s = some r) : r.2.1.length = v.length := by
  unfold z8y at h
  split at h
  ·simp only [Option.bind_eq_some_iff, Option.map_eq_some_iff] at h
   obtain ⟨o, _, v', h1, rfl⟩ := h
   exact zo3 h1
  split at h
  ·cases h; rfl
  split at h
  ·simp only [Option.bind_eq_some_iff] at h
   obtain ⟨a0, _, q, _, r1, h1, h2⟩ := h
   have h3 := hr _ _ _ _ h1
   split at h2
   ·simp only [Option.map_eq_some_iff] at h2
    obtain ⟨v', h4, rfl⟩ := h2
    exact (z90 h4).trans h3
   cases h2; exact h3
  split at h
  ·exact hl _ _ _ _ _ h
  simp only [Option.bind_eq_some_iff] at h
  obtain ⟨r1, h1, h2⟩ := h
  split at h2
  ·simp only [Option.bind_eq_some_iff, Option.map_eq_some_iff] at h2
   obtain ⟨o, _, v', h4, rfl⟩ := h2
   exact zo3 h4
  cases h2; rfl
theorem zn0 (u : Un) : ∀ d, (∀ l v s r, z5q u d l v s = some r -> r.2.1.length = v.length) /\ ∀ x v a s r, zb5 u d x v a s = some r -> r.2.1.length = v.length
  | 0 => ⟨fun _ _ _ _ h => by simp [z5q] at h, fun _ _ _ _ _ h => by simp [zb5] at h⟩
  | d + 1 => by
    obtain ⟨i1, i2⟩ := zn0 u d
    refine ⟨fun l v s r h => ?_, fun x v a s r h => ?_⟩
    ·cases l with
     | nil => simp only [z5q] at h; cases h; rfl
     | cons x l =>
       rw [z5q] at h
       split at h
       ·cases h; rfl
       simp only [Option.bind_eq_some_iff] at h
       obtain ⟨a, _, r1, h1, h2⟩ := h
       have h3 := zr7 i1 i2 h1
       split at h2
       ·cases h2; exact h3
       exact (i1 _ _ _ _ h2).trans h3
    rw [zb5] at h
    simp only [Option.bind_eq_some_iff] at h
    obtain ⟨v1, hv1, q, _, r1, h1, h2⟩ := h
    have h3 := (i1 _ _ _ _ h1).trans (z90 hv1)
    split at h2
    ·cases h2; exact h3
    split at h2
    ·simp only [Option.map_eq_some_iff] at h2
     obtain ⟨v', h4, rfl⟩ := h2
     exact (z90 h4).trans h3
    exact (i2 _ _ _ _ _ h2).trans h3
theorem zr6 {u : Un} {d : Nat} {l : List Nd} {v : List Int} {s : Rs} {r : Rres} (h : z5q u d l v s = some r) : r.2.1.length = v.length := (zn0 u d).1 _ _ _ _ h
theorem y0y {u : Un} {d : Nat} {x : Nd} {v a : List Int} {s : Rs} {r : Rres} (h : zb5 u d x v a s = some r) : ∃ d1 v2 q r1, d = d1 + 1 /\ mSet v x.params a = some v2 /\ x.kids[0]? = some q /\ z5q u d1 q v2 s = some r1 /\
    (if z4d r1.2.2 || r1.1.1 == 15 then some r1 else if r1.1.1 == 14 then (mSet r1.2.1 x.outs r1.1.2).map fun v => ((0, []), v, r1.2.2) else zb5 u d1 x r1.2.1 r1.1.2 r1.2.2) = some r := by
  cases d with
  | zero => simp [zb5] at h
  | succ d =>
    rw [zb5] at h
    simp only [Option.bind_eq_some_iff] at h
    obtain ⟨v2, h1, q, h2, r1, h3, h4⟩ := h
    exact ⟨d, v2, q, r1, rfl, h1, h2, h3, h4⟩
theorem y0x {u : Un} {d : Nat} {x : Nd} {l : List Nd} {v : List Int} {s s2 : Rs} {r : Rres} (hs2 : (z9m s).2 = s2) (h : z5q u d (x :: l) v s = some r) : ∃ d1, d = d1 + 1 /\ (((z9m s).1 = false /\ r = ((0, []), v, s2)) ∨
    ((z9m s).1 = true /\ ∃ a r1, mOf v x.args = some a /\ z8y (z5q u d1) (zb5 u d1) (mSum u d1) x a v s2 = some r1 /\ (if z4d r1.2.2 || r1.1.1 != 0 then some r1 else z5q u d1 l r1.2.1 r1.2.2) = some r)) := by
  cases d with
  | zero => simp [z5q] at h
  | succ d =>
    refine ⟨d, rfl, ?_⟩
    subst hs2
    rw [z5q] at h
    split at h
    ·rename_i s' e; cases h; exact .inl ⟨by rw [e], by rw [e]⟩
    rename_i s' e
    simp only [Option.bind_eq_some_iff] at h
    obtain ⟨a, h1, r1, h2, h3⟩ := h
    exact .inr ⟨by rw [e], a, r1, h1, by rw [e]; exact h2, h3⟩
section
variable {rec : List Nd -> List Int -> Rs -> Option Rres} {recLoop : Nd -> List Int -> List Int -> Rs -> Option Rres} {recSum : Nd -> List Int -> Rs -> Option (Int × Rs)} {x : Nd} {a v : List Int} {s : Rs} {r : Rres}
theorem zr8 (h : z8y rec recLoop recSum x a v s = some r) (hk : (x.kind == 1 || x.kind == 2) = true) : ∃ o v2, x.outs[0]? = some o /\ setV v o x.n = some v2 /\ r = ((0, []), v2, s) := by
  unfold z8y at h
  rw [if_pos hk] at h
  simp only [Option.bind_eq_some_iff, Option.map_eq_some_iff] at h
  obtain ⟨o, h1, v2, h2, rfl⟩ := h
  exact ⟨o, v2, h1, h2, rfl⟩
theorem z8z (h : z8y rec recLoop recSum x a v s = some r) (hk : (x.kind == 12 || x.kind == 13 || x.kind == 14 || x.kind == 15) = true) : r = ((x.kind, a), v, s) := by
  unfold z8y at h
  rw [if_neg (by simp only [Bool.or_eq_true, beq_iff_eq] at hk ⊢; omega), if_pos hk] at h
  cases h; rfl
theorem mNode_if (h : z8y rec recLoop recSum x a v s = some r) (hk : (x.kind == 10) = true) : ∃ a0 q r1, a[0]? = some a0 /\ x.kids[if a0 != 0 then 0 else 1]? = some q /\ rec q v s = some r1 /\
    (if !z4d r1.2.2 && r1.1.1 == 12 then (mSet r1.2.1 x.outs r1.1.2).map fun v' => ((0, []), v', r1.2.2) else some r1) = some r := by
  unfold z8y at h
  rw [if_neg (by simp only [Bool.or_eq_true, beq_iff_eq] at hk ⊢; omega), if_neg (by simp only [Bool.or_eq_true, beq_iff_eq] at hk ⊢; omega), if_pos hk] at h
  simp only [Option.bind_eq_some_iff] at h
  obtain ⟨a0, h1, q, h2, r1, h3, h4⟩ := h
  exact ⟨a0, q, r1, h1, h2, h3, h4⟩
theorem y0z (h : z8y rec recLoop recSum x a v s = some r) (hk : (x.kind == 11) = true) : recLoop x v a s = some r := by
  unfold z8y at h
  rw [if_neg (by simp only [Bool.or_eq_true, beq_iff_eq] at hk ⊢; omega), if_neg (by simp only [Bool.or_eq_true, beq_iff_eq] at hk ⊢; omega), if_neg (by simp only [beq_iff_eq] at hk ⊢; omega), if_pos hk] at h
  exact h
theorem y36 (h : z8y rec recLoop recSum x a v s = some r) (h1 : (x.kind == 1 || x.kind == 2) = false) (h2 : (x.kind == 12 || x.kind == 13 || x.kind == 14 || x.kind == 15) = false) (h3 : (x.kind == 10) = false) (h4 : (x.kind == 11) = false) : ∃ r1, recSum x a s = some r1 /\
    (if !z4d r1.2 && decide (0 < x.outs.length) then (x.outs[0]?).bind fun o => (setV v o r1.1).map fun v' => ((0, []), v', r1.2) else some ((0, []), v, r1.2)) = some r := by
  unfold z8y at h
  rw [h1, h2, h3, h4] at h
  simp only [Bool.false_eq_true, if_false, Option.bind_eq_some_iff] at h
  exact h
end
theorem y0w {u : Un} {d : Nat} {k : Int} {a : List Int} {s : Rs} {r : Int × Rs} (h : ze8 u d k a s = some r) : ∃ d1 f r1, d = d1 + 1 /\ 0 <= k /\ u.flows[k.toNat]? = some f /\ a.length <= f.types.length /\ f.types.length <= 1073741824 /\
    z5q u d1 f.body (a ++ List.replicate (f.types.length - a.length) 0) s = some r1 /\ r = (if z4d r1.2.2 then 0 else r1.1.2.headD 0, r1.2.2) := by
  cases d with
  | zero => simp [ze8] at h
  | succ d =>
    rw [ze8] at h
    split at h
    ·rename_i hk
     simp only [Option.bind_eq_some_iff] at h
     obtain ⟨f, hf, h⟩ := h
     split at h
     ·rename_i hl
      simp only [Option.bind_eq_some_iff] at h
      obtain ⟨r1, h1, h2⟩ := h
      refine ⟨d, f, r1, rfl, hk, hf, hl.1, hl.2, h1, ?_⟩
      split at h2 <;> cases h2 <;> simp_all
     cases h
    cases h
variable {u : Un} {d : Nat} {x : Nd} {a : List Int} {s : Rs} {r : Int × Rs}
theorem mSum_pos (h : mSum u d x a s = some r) : ∃ d', d = d' + 1 := by
  cases d with
  | zero => simp [mSum] at h
  | succ d => exact ⟨d, rfl⟩
theorem mSum_one (h : mSum u (d + 1) x a s = some r) (hk : (x.kind == 3) = true) : ∃ a0, a[0]? = some a0 /\ r = (mOne x.op a0, z4l s) := by
  simp only [mSum, hk, if_true, Option.map_eq_some_iff] at h
  obtain ⟨a0, h1, rfl⟩ := h
  exact ⟨a0, h1, rfl⟩
theorem mSum_two (h : mSum u (d + 1) x a s = some r) (hk : (x.kind == 4) = true) : ∃ a0 a1, a[0]? = some a0 /\ a[1]? = some a1 /\ r = ((mTwo x.op a0 a1).1, if (mTwo x.op a0 a1).2 then z4l s else { z4l s with st := 2 }) := by
  have h3 : (x.kind == 3) = false := by have := eq_of_beq hk; rw [this]; rfl
  simp only [mSum, h3, hk, if_true, Bool.false_eq_true, if_false, Option.map_eq_some_iff, Option.bind_eq_some_iff] at h
  obtain ⟨a0, h1, a1, h2, rfl⟩ := h
  exact ⟨a0, a1, h1, h2, rfl⟩
theorem zr4 {k n : Int} {q : Bool × Rs} (hk : k < 0) (h : mCell s k n = some q) : n < 0 /\ q = (false, { s with st := 3 }) := by
  unfold mCell at h
  split at h
  ·rename_i h1; cases h; exact ⟨h1, rfl⟩
  rw [if_neg oM0] at h; cases h
theorem y39 (hu : u.arrays = []) (h : mSum u (d + 1) x a s = some r) (hk : (x.kind == 5) = true) : ∃ a0, a[0]? = some a0 /\ a0 < 0 /\ r = (0, { z4l s with st := 3 }) := by
  have h3 : (x.kind == 3) = false := by have := eq_of_beq hk; rw [this]; rfl
  have h4 : (x.kind == 4) = false := by have := eq_of_beq hk; rw [this]; rfl
  simp only [mSum, h3, h4, hk, if_true, Bool.false_eq_true, if_false, Option.bind_eq_some_iff] at h
  obtain ⟨a0, h1, q, h2, h5⟩ := h
  rw [hu] at h2
  obtain ⟨h6, rfl⟩ := zr4 (by show (-1 : Int) < 0; decide) h2
  simp only [Bool.false_eq_true, if_false] at h5
  cases h5
  exact ⟨a0, h1, h6, rfl⟩
theorem y11 (hu : u.arrays = []) (h : mSum u (d + 1) x a s = some r) (hk : (x.kind == 6) = true) : ∃ a0, a[0]? = some a0 /\ a0 < 0 /\ r = (0, { z4l s with st := 3 }) := by
  have h3 : (x.kind == 3) = false := by have := eq_of_beq hk; rw [this]; rfl
  have h4 : (x.kind == 4) = false := by have := eq_of_beq hk; rw [this]; rfl
  have h5 : (x.kind == 5) = false := by have := eq_of_beq hk; rw [this]; rfl
  simp only [mSum, h3, h4, h5, hk, if_true, Bool.false_eq_true, if_false, Option.bind_eq_some_iff] at h
  obtain ⟨a0, h1, q, h2, h5⟩ := h
  rw [hu] at h2
  obtain ⟨h6, rfl⟩ := zr4 (by show (-1 : Int) < 0; decide) h2
  simp only [Bool.false_eq_true, if_false] at h5
  cases h5
  exact ⟨a0, h1, h6, rfl⟩
theorem y37 (h : mSum u (d + 1) x a s = some r) (hk : (x.kind == 7) = true) : ze8 u d (z0b x.name u.flows 0) a (z4l s) = some r := by
  have e := eq_of_beq hk
  simp only [mSum, e] at h
  exact h
theorem y10 (h : mSum u (d + 1) x a s = some r) (hk : (x.kind == 9) = true) : ∃ a0, a[0]? = some a0 /\ s.out.length < 1073741824 /\ r = (0, { z4l s with out := s.out ++ [a0] }) := by
  have e := eq_of_beq hk
  simp only [mSum, e] at h
  simp only [show ((9 : Int) == 3) = false from rfl, show ((9 : Int) == 4) = false from rfl, show ((9 : Int) == 5) = false from rfl, show ((9 : Int) == 6) = false from rfl, show ((9 : Int) == 7) = false from rfl, show ((9 : Int) == 9) = true from rfl, if_true, Bool.false_eq_true, if_false, Option.bind_eq_some_iff] at h
  obtain ⟨a0, h1, h2⟩ := h
  split at h2
  ·rename_i h3; cases h2; exact ⟨a0, h1, h3, rfl⟩
  cases h2
theorem y3a (h : mSum u (d + 1) x a s = some r) (hk : (x.kind == 8) = true) : (s.ins = [] /\ r = (0, { z4l s with st := 4 })) ∨ ∃ y q, s.ins = y :: q /\ r = (y, { z4l s with ins := q }) := by
  have e := eq_of_beq hk
  simp only [mSum, e] at h
  simp only [show ((8 : Int) == 3) = false from rfl, show ((8 : Int) == 4) = false from rfl, show ((8 : Int) == 5) = false from rfl, show ((8 : Int) == 6) = false from rfl, show ((8 : Int) == 7) = false from rfl, show ((8 : Int) == 9) = false from rfl, show ((8 : Int) == 8) = true from rfl, if_true, Bool.false_eq_true, if_false] at h
  split at h
  ·rename_i h1; cases h; exact .inl ⟨h1, rfl⟩
  rename_i y q h1; cases h; exact .inr ⟨y, q, h1, rfl⟩
theorem y38 (h : mSum u (d + 1) x a s = some r) (h3 : (x.kind == 3) = false) (h4 : (x.kind == 4) = false) (h5 : (x.kind == 5) = false) (h6 : (x.kind == 6) = false) (h7 : (x.kind == 7) = false) (h9 : (x.kind == 9) = false) (h8 : (x.kind == 8) = false) : r = (0, z4l s) := by
  simp only [mSum, h3, h4, h5, h6, h7, h8, h9, Bool.false_eq_true, if_false] at h
  cases h; rfl
end
theorem y0f (u : Un) (s : Rs) (k n : Int) (hn : n < 0) : SC Tryz.prog 93 [.ptr 1001 0, iInt k, iInt n] (runH u s) (fun _ => False) (iBool false) (runH u { s with st := 3 }) := by
  refine SC.of Tryz.func93 rfl (lb rfl) fun F ρ w => ?_
  refine tQ <| tG <| sm 1 rfl <| nL <| tQ <| tQ <| tG <| sm 3 rfl ?_
  refine wS 9 rfl (fun hb9 => ?_) fun hb9 => ?_
  ·refine sm 11 rfl <| nL <| Tr.condT rfl <| tQ <| tG <| sm 1 rfl <| cV rfl (nCk rfl rfl rfl) <| sm 2 rfl <| c0 (sBx rfl rfl rfl rfl ((fun h => h)) tS3 (rfl) (lb rfl)) <| nL <| tQ <| tG ?_
   refine sm 1 rfl <| nL <| tRt <| rOk rfl rfl (po2 rfl rfl)
  exact absurd hn (by simpa using hb9)
def SCC (u : Un) (D : Nat) : Prop := ∀ d, d < D -> ∀ k a s r, ze8 u d k a s = some r -> SC Tryz.prog 29 [.ptr 1001 0, iInt k, .pv (ints a)] (runH u s) (fun _ => False) (iInt r.1) (runH u r.2)
def SCL (u : Un) (D : Nat) : Prop := ∀ d, d < D -> ∀ l v s r, z5q u d l v s = some r -> lsW l <= 1073741824 -> SC Tryz.prog 46 [.ptr 1001 0, .pv (z0a l), .sl 510 (v.map eInt).length] (runV u s v) (fun _ => False) (.pv (endv r.1)) (runV u r.2.2 r.2.1)
theorem sc_sum (u : Un) (hu : u.arrays = []) (D : Nat) (ihC : SCC u D) (d : Nat) (hd : d <= D) (x : Nd) (a : List Int) (s : Rs) (r : Int × Rs) (h : mSum u d x a s = some r) : SC Tryz.prog 70 [.ptr 1001 0, .pv (ndv x), .pv (ints a)] (runH u s) (fun _ => False) (iInt r.1) (runH u r.2) := by
  refine SC.of Tryz.func70 rfl (lb rfl) fun F ρ w => ?_
  obtain ⟨d, rfl⟩ := mSum_pos h
  refine Tr.lenOf (t := 2) rfl (fun hl => ?_)
  simp only [List.length_map] at hl
  refine tQ <| tG <| cE rfl (z1a rfl rfl) <| sm 1 rfl <| nL <| tQ <| tG <| sm 2 rfl <| cV rfl (nCk rfl rfl rfl) <| sm 4 rfl <| cV rfl (nCk rfl rfl rfl) <| sm 2 rfl ?_
  refine c0 (sBx rfl rfl rfl rfl ((fun h => h)) tS3 (rfl) (lb rfl)) <| nL <| tQ <| Tr.heap (σ' := look (up (runH u (z4l s)))) (lkq [1001, 1002] rfl rfl ⟨rfl, rfl, trivial⟩) <| tDr z13 (fun k => k ∈ ([1001] : List Nat)) <| wR 2 [0, 1, 2, 3, 4, 5] kR0 h30 <| smR 1 rfl <| rV rfl rfl (nCk rfl rfl rfl) <| smR 1 rfl <| rV rfl rfl (lBP rfl rfl rfl uT25 rfl tS25 (lb rfl) rfl dC0) <| smR 2 rfl <| nR ?_
  refine wO 6 kR0 <| wI rfl rfl nf nw (fun _ _ => ocq (z7y _ _) ent48 rfl rfl) <| wR 0 [7] kR0 h30 <| smR 1 rfl <| nR <| wDn kR0 <| tQ <| tQ <| tG <| sm 2 rfl <| nL <| tBk ?_
  refine tQ <| tG <| sm 2 rfl <| nL ?_
  refine tC rfl (fun hc30 => ?_) fun hc30 => ?_
  ·obtain ⟨a0, h0, rfl⟩ := mSum_one h hc30
   have hi0 := z0f (f := eInt) h0
   refine tQ <| tDr z13 (fun k => k ∈ ([] : List Nat)) <| wR 2 [0, 1, 2, 3, 4] kR0 h30 <| smR 3 rfl <| rV rfl rfl (iSq rfl rfl rfl uT35 hi0 tS3 rfl (by rfl)) <| smR 1 rfl <| nR <| wO 5 kR0 <| wI rfl rfl nf nw (fun _ _ => ocq (sc_mOne _ _) ent91 rfl rfl) <| wR 0 [6] kR0 h30 <| smR 1 rfl <| nR ?_
   refine wDn kR0 <| tRt <| rOk rfl ?_ (po2 rfl rfl)
   rfl
  refine tQ <| tG <| sm 2 rfl <| nL ?_
  refine tC rfl (fun hc38 => ?_) fun hc38 => ?_
  ·obtain ⟨a0, a1, h0, h1, rfl⟩ := mSum_two h hc38
   have hi0 := z0f (f := eInt) h0
   have hi1 := z0f (f := eInt) h1
   refine tQ <| tDr z13 (fun k => k ∈ ([] : List Nat)) <| wR 6 [0, 1, 2, 3, 4, 5, 6, 7] kR0 h30 <| smR 3 rfl <| rV rfl rfl (iSq rfl rfl rfl uT35 hi0 tS3 rfl (by rfl)) <| smR 2 rfl <| rV rfl rfl (iSq rfl rfl rfl uT35 hi1 tS3 rfl (by rfl)) <| smR 1 rfl <| nR <| wO 8 kR0 <| wI rfl rfl nf nw (fun _ _ => ocq (sc_mTwo _ _ _) ent92 rfl rfl) <| wR 0 [9, 10, 11, 12, 13] kR0 h30 ?_
   refine smR 1 rfl <| rV rfl rfl (z0g rfl rfl rfl) <| rV rfl rfl (z0g rfl rfl rfl) <| smR 2 rfl <| nR <| wDn kR0 <| tQ <| tQ <| tG <| sm 2 rfl <| nL ?_
   refine tC rfl (fun hc53 => ?_) fun hc53 => ?_
   ·have hok : (mTwo x.op a0 a1).2 = false := by simpa using hc53
    refine tG <| sm 1 rfl <| cV rfl (nCk rfl rfl rfl) <| sm 2 rfl <| c0 (sBx rfl rfl rfl rfl ((fun h => h)) tS3 (rfl) (lb rfl)) <| nL <| tQ <| tG <| sm 2 rfl <| nL <| tRt ?_
    rw [hok]
    refine rOk rfl rfl (po2 rfl rfl)
   have hok : (mTwo x.op a0 a1).2 = true := by simpa using hc53
   refine tSk <| tQ <| tG <| sm 2 rfl <| nL <| tRt ?_
   rw [hok]
   refine rOk rfl rfl (po2 rfl rfl)
  refine tQ <| tG <| sm 2 rfl <| nL ?_
  refine tC rfl (fun hc59 => ?_) fun hc59 => ?_
  ·obtain ⟨a0, h0, ha0, rfl⟩ := y39 hu h hc59
   have hi0 := z0f (f := eInt) h0
   refine tQ <| tG <| sm 3 rfl <| cV rfl (iSq rfl rfl rfl uT35 hi0 tS3 rfl (by rfl)) <| sm 1 rfl <| cE rfl (ocr (y0f u (z4l s) _ a0 ha0) ent93 rfl (fun _ _ h => h) rfl (fun k (h : _) => .inr h) rfl rfl) <| nL ?_
   refine tC rfl (fun hc66 => ?_) fun hc66 => ?_
   ·cases hc66
   refine tSk <| tQ <| tG <| sm 1 rfl <| nL <| tRt <| rOk rfl rfl (po2 rfl rfl)
  refine tQ <| tG <| sm 2 rfl <| nL ?_
  refine tC rfl (fun hc79 => ?_) fun hc79 => ?_
  ·obtain ⟨a0, h0, ha0, rfl⟩ := y11 hu h hc79
   have hi0 := z0f (f := eInt) h0
   refine tQ <| tG <| sm 3 rfl <| cV rfl (iSq rfl rfl rfl uT35 hi0 tS3 rfl (by rfl)) <| sm 1 rfl <| cE rfl (ocr (y0f u (z4l s) _ a0 ha0) ent93 rfl (fun _ _ h => h) rfl (fun k (h : _) => .inr h) rfl rfl) <| nL ?_
   refine tC rfl (fun hc86 => ?_) fun hc86 => ?_
   ·cases hc86
   refine tSk <| tQ <| tG <| sm 1 rfl <| nL <| tRt <| rOk rfl rfl (po2 rfl rfl)
  refine tQ <| tG <| sm 2 rfl <| nL ?_
  refine tC rfl (fun hc101 => ?_) fun hc101 => ?_
  ·have hcall := y37 h hc101
   refine tQ <| tDr z13 (fun k => k ∈ ([] : List Nat)) <| wR 4 [0, 1, 2, 3, 5, 6, 8] kR0 h30 <| smR 2 rfl <| rV rfl rfl (nCk rfl rfl rfl) <| smR 4 rfl <| nR <| wO 4 kR0 <| wI rfl rfl nf nw (fun _ _ => OkV.ok (R1 := fun _ => True) ((lBP rfl rfl rfl uT25 rfl tS25 (lb rfl) rfl trivial))) <| wO 7 kR0 <| wI rfl rfl nf nw (fun _ _ => ocq (z55 _ _) y0r rfl rfl) <| wO 9 kR0 ?_
   refine wI rfl rfl nf (nAp rfl) (fun _ _ => ocr (ihC d oM0 _ a (z4l s) r hcall) ent29 rfl (fun _ _ h => h) rfl nl rfl rfl) <| wR 0 [10] kR0 h30 <| smR 1 rfl <| nR <| wDn kR0 <| tRt <| rOk rfl ?_ (po2 rfl rfl)
   rfl
  refine tQ <| tG <| sm 2 rfl <| nL ?_
  refine tC rfl (fun hc113 => ?_) fun hc113 => ?_
  ·obtain ⟨a0, h0, hol, rfl⟩ := y10 h hc113
   have hi0 := z0f (f := eInt) h0
   have hol2 : (z4l s).out.length < 1073741824 := hol
   refine tDr z13 (fun k => k ∈ ([] : List Nat)) <| wR 7 [0, 1, 2, 3, 4, 6, 7, 8] kR0 h30 <| smR 2 rfl <| rV rfl rfl (nCk rfl rfl rfl) <| smR 3 rfl <| rV rfl rfl (iSq rfl rfl rfl uT35 hi0 tS3 rfl (by rfl)) <| smR 1 rfl <| nR <| WA.all (rs := [5, 9]) kR0 sI0 ?_
   refine fmc ⟨?_, fmc ⟨?_, by simp⟩⟩
   ·refine wI rfl rfl nf nw (fun _ _ => OkV.ok (R1 := fun _ => True) ((z17 rfl rfl rfl uT35 rfl rfl trivial))) <| wO 9 kR0 <| wI rfl rfl nf nw (fun _ _ => bSl rfl rfl uT35 tZ3 tS3 rfl rfl rfl rfl (fbk rfl) rfl) <| wO 10 kR0 ?_
    refine wI rfl rfl nf (nOl rfl) (fun _ _ => aPp rfl rfl rfl rfl (by rfl) sI0 uT35 tB3 dC0 (by (simp [z03]; done)) (by (simp [z03, PV.one]; rfl)) (by simp [maxLen, z03]; omega) (by simp [z03]; omega)) ?_
    refine wR 1 [11, 12, 13] kR0 h30 <| rV rfl rfl (nCk rfl rfl rfl) <| smR 2 rfl <| nR <| wO 14 kR0 <| wI rfl rfl nf (nOl rfl) (fun _ _ => sBx rfl rfl rfl rfl sI0 tS35 (⟨_, _, rfl, by simp⟩) (lb rfl)) <| wDn kR0 <| tQ <| tG <| sm 1 rfl <| nL <| tRt <| rOk rfl rfl (z22 (And.intro (congrArg (fun z => some (HO.box z)) (by simp [z03, eInt, z4l])) (And.intro (congrArg (fun z => some (HO.row _ z)) (by simp [z03, eInt, z4l])) trivial)))
   refine wI rfl rfl nf nw (fun _ _ => bSl rfl rfl uT35 tZ3 tS3 rfl rfl rfl rfl (fbk rfl) rfl) <| wO 5 kR0 <| wI rfl rfl nf nw (fun _ _ => OkV.ok (R1 := fun _ => True) ((z17 rfl rfl rfl uT35 rfl rfl trivial))) <| wO 10 kR0 ?_
   refine wI rfl rfl nf (nOl rfl) (fun _ _ => aPp rfl rfl rfl rfl (by rfl) sI0 uT35 tB3 dC0 (by (simp [z03]; done)) (by (simp [z03, PV.one]; rfl)) (by simp [maxLen, z03]; omega) (by simp [z03]; omega)) ?_
   refine wR 1 [11, 12, 13] kR0 h30 <| rV rfl rfl (nCk rfl rfl rfl) <| smR 2 rfl <| nR <| wO 14 kR0 <| wI rfl rfl nf (nOl rfl) (fun _ _ => sBx rfl rfl rfl rfl sI0 tS35 (⟨_, _, rfl, by simp⟩) (lb rfl)) <| wDn kR0 <| tQ <| tG <| sm 1 rfl <| nL <| tRt <| rOk rfl rfl (z22 (And.intro (congrArg (fun z => some (HO.box z)) (by simp [z03, eInt, z4l])) (And.intro (congrArg (fun z => some (HO.row _ z)) (by simp [z03, eInt, z4l])) trivial)))
  refine tQ <| tG <| sm 2 rfl <| nL ?_
  refine tC rfl (fun hc129 => ?_) fun hc129 => ?_
  ·have hrd := y3a h hc129
   refine tQ <| tQ <| tG <| sm 1 rfl <| cV rfl (nCk rfl rfl rfl) <| sm 2 rfl <| cV rfl (oSm uT35 rfl) <| sm 1 rfl <| nL ?_
   refine tC rfl (fun hc136 => ?_) fun hc136 => ?_
   ·obtain ⟨hin, rfl⟩ : s.ins = [] /\ r = (0, { z4l s with st := 4 }) := by
      rcases hrd with h1 | ⟨y, q, h1, _⟩
      ·exact h1
      simp [z4l, h1] at hc136
      omega
    refine tQ <| tG <| sm 1 rfl <| cV rfl (nCk rfl rfl rfl) <| sm 2 rfl <| c0 (sBx rfl rfl rfl rfl ((fun h => h)) tS3 (rfl) (lb rfl)) <| nL <| tQ <| tG <| sm 1 rfl <| nL <| tRt <| rOk rfl ?_ (po2 rfl rfl)
    rfl
   obtain ⟨y, q, hin, rfl⟩ : ∃ y q, s.ins = y :: q /\ r = (y, { z4l s with ins := q }) := by
     rcases hrd with ⟨h1, _⟩ | h1
     ·simp [z4l, h1] at hc136
     exact h1
   have hil : (z4l s).ins = y :: q := hin
   have hi0 : ((z4l s).ins.map eInt)[0]? = some (eInt y) := by show (s.ins.map eInt)[0]? = _; rw [hin]; rfl
   refine tSk <| tQ <| tG <| sm 1 rfl <| cV rfl (nCk rfl rfl rfl) <| sm 2 rfl <| cV rfl (iSq rfl rfl rfl uT35 hi0 tS3 rfl (by rfl)) <| sm 2 rfl <| nL <| tQ <| tG <| sm 2 rfl ?_
   refine cV rfl (nCk rfl rfl rfl) <| sm 2 rfl ?_
   refine cV rfl (z5v (i := 1) (j := (y :: q).length) rfl (show _ = some (IV.pv (ints (z4l s).ins)) from rfl) uT35 tS3 (.inr ⟨_, _, rfl, rfl⟩) (.inl ⟨rfl, by simp [hil]⟩) sI0 (by simp [hil]) z5d) ?_
   refine cV rfl (nCk rfl rfl rfl) <| sm 1 rfl <| c0 (sBx rfl rfl rfl rfl ((fun h => h)) tS35 (rfl) (lb rfl)) <| nL <| tQ <| tG <| sm 2 rfl <| nL <| tRt <| rOk rfl rfl (z22 (And.intro (congrArg (fun z => some (HO.box z)) (by (simp [hil, ints, List.take_of_length_le]; done))) (And.intro rfl trivial)))
  obtain rfl := y38 h hc30 hc38 hc59 hc79 hc101 hc113 hc129
  refine tSk <| tQ <| tG <| sm 1 rfl <| nL <| tRt <| rOk rfl rfl (po2 rfl rfl)
theorem ze0 : PSub (.agg [vInt 0, .val (.slice none 0 0)]) (endv (0, [])) := PSub.agg (ps := [vInt 0, .val (.slice none 0 0)]) (qs := [vInt 0, .seq []]) (And.intro (PSub.refl _) (And.intro PSub.nil trivial))
theorem sc_loop (u : Un) (D : Nat) (ihL : SCL u D) (d : Nat) (hd : d <= D) (x : Nd) (hx : ndW x <= 1073741824) (v a : List Int) (s : Rs) (r : Rres) (h : zb5 u d x v a s = some r) : SC Tryz.prog 69 [.ptr 1001 0, .pv (ndv x), .sl 510 (v.map eInt).length, .pv (ints a)] (runV u s v) (fun _ => False) (.pv (endv r.1)) (runV u r.2.2 r.2.1) := by
  refine SC.ofC Tryz.func69 rfl (lb rfl) rfl fun F ρ w => ?_
  refine tQ <| tG <| cE rfl (z1a rfl rfl) <| cE rfl (aLc (k := 108) rfl tZ83 rfl rfl rfl rfl) <| nL <| tBk <| Tr.sub (Sub.of (fr' := [(8, .ptr 108 0), (5, .pv (.ept [vInt x.kind, vInt x.op, vInt x.n, vStr x.name, ints x.args, ints x.outs, ints x.params, kids x.kids] 0)), (0, .ptr 1001 0), (2, .sl 510 (v.map eInt).length), (3, .pv (ints a))]) ⟨rfl, rfl, rfl, rfl, rfl, trivial⟩) <| Tr.heap (σ' := look [(108, some (.box [iInt 0, .pv (.val (.slice none 0 0))])), (1001, some (z4w u s)), (1002, some (rowI (s).out)), (510, some (rowI v))]) (lkq [108, 1001, 1002, 510] rfl rfl ⟨rfl, rfl, rfl, rfl, trivial⟩) ?_
  refine Tr.loop (fun fr σ m => ∃ (d0 : Nat) (v1 : List Int) (a1 : List Int) (s1 : Rs), (d0 <= d) /\ (zb5 u d0 x v1 a1 s1 = some r) /\ ((v1.map eInt).length = (v.map eInt).length) /\ fr = [(8, .ptr 108 0), (5, .pv (.ept [vInt x.kind, vInt x.op, vInt x.n, vStr x.name, ints x.args, ints x.outs, ints x.params, kids x.kids] 0)), (0, .ptr 1001 0), (2, .sl 510 (v.map eInt).length), (3, .pv (ints a1))] /\ σ = look [(108, some (.box [iInt 0, .pv (.val (.slice none 0 0))])), (1001, some (z4w u s1)), (1002, some (rowI (s1).out)), (510, some (rowI v1))] /\ m = d0) (n := d) ?_ ?_
  ·exact ⟨d, v, a, s, Nat.le_refl _, h, rfl, rfl, rfl, rfl⟩
  rintro fr σ m ⟨d0, v1, a1, s1, hI0, hI1, hI2, rfl, rfl, rfl⟩
  obtain ⟨d1, v2, q, r1, rfl, hset, hq, hlist, hrest⟩ := y0y hI1
  have hi0 := z0f (f := eKid) hq
  have hqb : lsW q <= 1073741824 := by have := z9l (List.mem_of_getElem? hq); have := z91 x; omega
  have hl2 : (v2.map eInt).length = (v.map eInt).length := by rw [<- hI2]; simp [z90 hset]
  have hl3 : (r1.2.1.map eInt).length = (v.map eInt).length := by rw [<- hl2]; simp [zr6 hlist]
  refine tBk <| tQ <| tG <| sm 4 rfl <| cE rfl (cRr (y0j v1 x.params a1 v2 hset) ent68 rfl rfl (sSm (congrArg (fun n => IV.sl 510 n) hI2.symm) (sRf _ _)) (po1 rfl) (by rfl) (fun k (h : _) => .inr h) rfl (by rfl)) <| nL <| tQ <| Tr.heap (σ' := look [(108, some (.box [iInt 0, .pv (.val (.slice none 0 0))])), (1001, some (z4w u s1)), (1002, some (rowI (s1).out)), (510, some (rowI v2))]) (lkq [108, 1001, 1002, 510] rfl rfl ⟨rfl, rfl, rfl, rfl, trivial⟩) <| tG <| sm 3 rfl <| cV rfl (iSq rfl rfl rfl uT41 hi0 tS44 rfl (by rfl)) <| sm 2 rfl ?_
  refine cE rfl (cRr (ihL d1 oM0 q v2 s1 r1 hlist hqb) ent46 rfl rfl (sSm rfl (sSm rfl (sSm (congrArg (fun n => IV.sl 510 n) hl2.symm) Subs.nil))) (po3 rfl rfl rfl) (by rfl) (fun k (h : _) => .inr h) rfl (by rfl)) <| cE rfl (aLc (k := 109) rfl tZ83 rfl rfl rfl rfl) <| c0 (sBA rfl rfl rfl rfl rfl ((fun h => h)) tS83 (flk rfl) (lb rfl)) <| nL <| tQ <| tBk <| tQ <| Tr.freezeBox (t := 9) (k := 109) rfl rfl rfl <| Tr.heap (σ' := look [(108, some (.box [iInt 0, .pv (.val (.slice none 0 0))])), (1001, some (z4w u r1.2.2)), (1002, some (rowI (r1.2.2).out)), (510, some (rowI r1.2.1))]) (lkq [109, 108, 1001, 1002, 510] rfl rfl ⟨rfl, rfl, rfl, rfl, rfl, trivial⟩) <| tG <| sm 1 rfl <| cE rfl (ocr (z7i u r1.2.2) zq2 rfl (po2 rfl rfl) rfl (fun k (h : _) => .inr trivial) rfl rfl) ?_
  refine sm 1 rfl ?_
  refine wS 25 rfl (fun hb25 => ?_) fun hb25 => ?_
  ·refine sm 5 rfl <| nL <| Tr.condT rfl <| tQ <| tG <| cV rfl (lEA rfl rfl Tryz.underlying83 rfl tS83 (lb rfl)) <| c0 (sBA rfl rfl rfl rfl rfl ((fun h => h)) tS83 (flk rfl) (lb rfl)) <| nL <| tRt ?_
   have hov : (z4d r1.2.2 || r1.1.1 == 15) = true := by first | (rw [hb25]; rfl) | (rw [hc22, Bool.or_true])
   rw [if_pos hov] at hrest
   obtain rfl : r1 = r := by injection hrest
   refine rCk (.inl rfl) (fun _ _ ho => lBP ho rfl rfl Tryz.underlying83 rfl tS83 (lb rfl) rfl trivial) rfl (po3 rfl rfl rfl)
  refine sm 5 rfl <| nL ?_
  refine tC rfl (fun hc22 => ?_) fun hc22 => ?_
  ·refine tQ <| tG <| cV rfl (lEA rfl rfl Tryz.underlying83 rfl tS83 (lb rfl)) <| c0 (sBA rfl rfl rfl rfl rfl ((fun h => h)) tS83 (flk rfl) (lb rfl)) <| nL <| tRt ?_
   have hov : (z4d r1.2.2 || r1.1.1 == 15) = true := by first | (rw [hb25]; rfl) | (rw [hc22, Bool.or_true])
   rw [if_pos hov] at hrest
   obtain rfl : r1 = r := by injection hrest
   refine rCk (.inl rfl) (fun _ _ ho => lBP ho rfl rfl Tryz.underlying83 rfl tS83 (lb rfl) rfl trivial) rfl (po3 rfl rfl rfl)
  rw [if_neg (by rw [hb25, hc22]; decide)] at hrest
  refine tQ <| tG <| sm 4 rfl <| nL ?_
  refine tC rfl (fun hc31 => ?_) fun hc31 => ?_
  ·rw [if_pos hc31, Option.map_eq_some_iff] at hrest
   obtain ⟨v3, hset2, rfl⟩ := hrest
   refine tQ <| tG <| sm 5 rfl <| cE rfl (cRr (y0j r1.2.1 x.outs r1.1.2 v3 hset2) ent68 rfl rfl (sSm (congrArg (fun n => IV.sl 510 n) hl3.symm) (sRf _ _)) (po1 rfl) (by rfl) (fun k (h : _) => .inr h) rfl (by rfl)) <| nL <| tQ <| tG <| cV rfl (bPu rfl rfl tZ83 tP83 rfl (fbk rfl) rfl) <| WL.sub (Sub.cons2 (fun _ _ _ _ h => z3c ze0 h) Sub.rfl') <| c0 (sBA rfl rfl rfl rfl rfl ((fun h => h)) tS83 (flk rfl) (lb rfl)) <| nL <| tRt <| rCk (.inl rfl) (fun _ _ ho => lBP ho rfl rfl Tryz.underlying83 rfl tS83 (lb rfl) rfl trivial) rfl (po3 rfl rfl rfl)
  rw [if_neg (by rw [hc31]; decide)] at hrest
  have hrest3 := hrest
  refine tSk <| tG <| sm 3 rfl <| nL ?_
  refine ⟨_, _, ?_, Sub.of (fr' := [(8, .ptr 108 0), (5, .pv (.ept [vInt x.kind, vInt x.op, vInt x.n, vStr x.name, ints x.args, ints x.outs, ints x.params, kids x.kids] 0)), (0, .ptr 1001 0), (2, .sl 510 (v.map eInt).length), (3, .pv (ints r1.1.2))]) ⟨rfl, rfl, rfl, rfl, rfl, trivial⟩, d1, r1.2.1, r1.1.2, r1.2.2, ?_, ?_, ?_, rfl, (funext (lkq [108, 1001, 1002, 510] rfl rfl ⟨rfl, rfl, rfl, rfl, trivial⟩)), rfl⟩
  ·omega
  ·omega
  ·exact hrest3
  exact hl3
theorem y35 {u : Un} {d : Nat} {v : List Int} {s : Rs} {r : Rres} (h : z5q u d [] v s = some r) : r = ((0, []), v, s) := by
  cases d with
  | zero => simp [z5q] at h
  | succ d => simp only [z5q] at h; cases h; rfl
theorem sc_list0 (u : Un) (hu : u.arrays = []) (D : Nat) (ihC : SCC u D) (ihL : SCL u D) (d : Nat) (hd : d <= D) (l : List Nd) (v : List Int) (s : Rs) (r : Rres) (h : z5q u d l v s = some r) (hb : lsW l <= 1073741824) : SC Tryz.prog 46 [.ptr 1001 0, .pv (z0a l), .sl 510 (v.map eInt).length] (runV u s v) (fun _ => False) (.pv (endv r.1)) (runV u r.2.2 r.2.1) := by
  refine SC.ofC Tryz.func46 rfl (lb rfl) rfl fun F ρ w => ?_
  refine Tr.lenOf (t := 1) rfl (fun hl => ?_)
  simp only [List.length_map] at hl
  refine tQ <| tG <| cE rfl (aLc (k := 106) rfl tZ83 rfl rfl rfl rfl) <| nL <| tQ <| tQ <| Tr.subBox (k := 106) [.pv (vInt 0), .pv (ints [])] rfl ⟨ISub.refl _, ISub.pv PSub.nil, trivial⟩ (fun h => h) <| tG <| sm 1 rfl <| nL <| tBk <| Tr.sub (Sub.of (fr' := [(7, iInt 0), (6, .ptr 106 0), (0, .ptr 1001 0), (1, .pv (z0a l)), (2, .sl 510 (v.map eInt).length)]) ⟨rfl, rfl, rfl, rfl, rfl, trivial⟩) ?_
  refine Tr.heap (σ' := look [(106, some (.box [.pv (vInt 0), .pv (ints [])])), (1001, some (z4w u s)), (1002, some (rowI (s).out)), (510, some (rowI v))]) (lkq [106, 1001, 1002, 510] rfl rfl ⟨rfl, rfl, rfl, rfl, trivial⟩) ?_
  refine Tr.loop (fun fr σ m => ∃ (k : Nat) (d0 : Nat) (v1 : List Int) (s1 : Rs), (k <= l.length) /\ (d0 <= d) /\ (z5q u d0 (l.drop k) v1 s1 = some r) /\ ((v1.map eInt).length = (v.map eInt).length) /\ fr = [(7, iInt k), (6, .ptr 106 0), (0, .ptr 1001 0), (1, .pv (z0a l)), (2, .sl 510 (v.map eInt).length)] /\ σ = look [(106, some (.box [.pv (vInt 0), .pv (ints [])])), (1001, some (z4w u s1)), (1002, some (rowI (s1).out)), (510, some (rowI v1))] /\ m = l.length - k) (n := l.length - 0) ?_ ?_
  ·exact ⟨0, d, v, s, Nat.zero_le _, Nat.le_refl _, h, rfl, rfl, rfl, rfl⟩
  rintro fr σ m ⟨k, d0, v1, s1, hIk, hI1, hI2, hI3, rfl, rfl, rfl⟩
  refine tQ <| tQ <| tG <| sm 2 rfl <| cV rfl (oSm uT44 rfl) <| sm 1 rfl <| nL ?_
  refine tC rfl (fun hc16 => ?_) fun hc16 => ?_
  ·have hlt : k < l.length := by simpa using hc16
   have hd2 := List.drop_eq_getElem_cons hlt
   have hm := List.getElem_mem hlt
   have hi := z2m (List.getElem?_eq_getElem hlt)
   generalize l[k] = x at hd2 hm hi
   rw [hd2] at hI2
   obtain ⟨s2, hs2⟩ : ∃ s2, (z9m s1).2 = s2 := ⟨_, rfl⟩
   obtain ⟨d1, rfl, hst⟩ := y0x hs2 hI2
   have hxb : ndW x <= 1073741824 := by have := zn2 hm; omega
   refine tSk <| tQ <| tBk <| tQ <| tG <| sm 2 rfl <| cV rfl (iSq rfl rfl rfl uT44 hi tS43 rfl (by rfl)) <| cV rfl (lEA rfl rfl uT43 rfl tS43 (lb rfl)) <| cE rfl (aLc (k := 108) rfl tZ43 rfl rfl rfl rfl) <| c0 (sBA rfl rfl rfl rfl rfl ((fun h => h)) tS43 (flk rfl) (lb rfl)) <| nL <| tQ ?_
   refine tQ <| Tr.freezeBox (t := 8) (k := 108) rfl rfl rfl <| Tr.heap (σ' := look [(106, some (.box [.pv (vInt 0), .pv (ints [])])), (1001, some (z4w u s1)), (1002, some (rowI (s1).out)), (510, some (rowI v1))]) (lkq [108, 106, 1001, 1002, 510] rfl rfl ⟨rfl, rfl, rfl, rfl, rfl, trivial⟩) <| tG <| sm 1 rfl <| cE rfl (ocr (sc_step u s1) ent66 rfl (po2 rfl rfl) rfl (fun k (h : _) => .inr h) rfl rfl) ?_
   rw [hs2]
   refine sm 1 rfl <| nL ?_
   refine tC rfl (fun hc25 => ?_) fun hc25 => ?_
   ·refine tQ <| tG <| cV rfl (bPu rfl rfl tZ83 tP83 rfl (fbk rfl) rfl) <| WL.sub (Sub.cons2 (fun _ _ _ _ h => z3c ze0 h) Sub.rfl') <| c0 (sBA rfl rfl rfl rfl rfl ((fun h => h)) tS83 (flk rfl) (lb rfl)) <| nL <| tRt ?_
    obtain rfl : r = ((0, []), v1, s2) := by
      rcases hst with ⟨_, e⟩ | ⟨e, _⟩
      ·exact e
      rw [e] at hc25; exact absurd hc25 dC0
    refine rCk (.inl rfl) (fun _ _ ho => lBP ho rfl rfl Tryz.underlying83 rfl tS83 (lb rfl) rfl trivial) rfl (po3 rfl rfl rfl)
   obtain ⟨hst1, a, r1, hof, hnode, hrest⟩ := hst.resolve_left (fun hh => by rw [hh.1] at hc25; exact absurd hc25 dC0)
   have hl1 : (r1.2.1.map eInt).length = (v.map eInt).length := by
     have := zr7 (fun _ _ _ _ h => (zn0 u d1).1 _ _ _ _ h) (fun _ _ _ _ _ h => (zn0 u d1).2 _ _ _ _ _ h) hnode
     rw [<- hI3, List.length_map, List.length_map, this]
   refine Tr.heap (σ' := look [(106, some (.box [.pv (vInt 0), .pv (ints [])])), (1001, some (z4w u s2)), (1002, some (rowI (s2).out)), (510, some (rowI v1))]) (lkq [106, 1001, 1002, 510] rfl rfl ⟨rfl, rfl, rfl, rfl, trivial⟩) <| tSk <| tQ <| tG <| sm 3 rfl <| cE rfl (cRr (sc_of v1 x.args a hof (by have := z91 x; omega)) ent67 rfl rfl (sSm (congrArg (fun n => IV.sl 510 n) hI3.symm) (sRf _ _)) (po1 rfl) (by rfl) (fun k (h : _) => (show False from h).elim) rfl (by rfl)) <| sm 1 rfl <| nL <| tQ <| tG <| cE rfl (aLc (k := 110) rfl tZ83 rfl rfl rfl rfl) <| nL ?_
   refine tQ <| tQ <| Tr.subBox (k := 110) [.pv (vInt 0), .pv (ints [])] rfl ⟨ISub.refl _, ISub.pv PSub.nil, trivial⟩ (fun h => h) <| Tr.heap (σ' := look [(110, some (.box [.pv (vInt (((0, []) : Rend)).1), .pv (ints (((0, []) : Rend)).2)])), (106, some (.box [.pv (vInt 0), .pv (ints [])])), (1001, some (z4w u s2)), (1002, some (rowI (s2).out)), (510, some (rowI v1))]) (lkq [110, 106, 1001, 1002, 510] rfl rfl ⟨rfl, rfl, rfl, rfl, rfl, trivial⟩) <| tG <| sm 2 rfl <| nL ?_
   refine Tr.cutR (fr' := [(10, .ptr 110 0), (7, iInt k), (6, .ptr 106 0), (0, .ptr 1001 0), (1, .pv (z0a l)), (2, .sl 510 (v.map eInt).length)]) (σ' := look [(110, some (.box [.pv (vInt (r1.1).1), .pv (ints (r1.1).2)])), (106, some (.box [.pv (vInt 0), .pv (ints [])])), (1001, some (z4w u r1.2.2)), (1002, some (rowI (r1.2.2).out)), (510, some (rowI r1.2.1))]) ?_ ?_
   ·refine tBk <| tQ <| tQ <| tG <| sm 2 rfl <| nL ?_
    refine tC rfl (fun hc53 => ?_) fun hc53 => ?_
    ·refine tSk ?_
     refine tC rfl (fun hd53 => ?_) fun hd53 => ?_
     ·have hk : (x.kind == 1 || x.kind == 2) = true := by first | (rw [hc53]; rfl) | (rw [hc53, Bool.or_true])
      obtain ⟨o, v2, ho, hv0, rfl⟩ := zr8 hnode hk
      obtain ⟨hx0, hxl, hv2⟩ := z7m hv0
      obtain ⟨z0, hxg⟩ := zt0 hxl
      have hi2 := z0f (f := eInt) ho
      have hxl2 : o.toNat < (v.map eInt).length := by rw [<- hI3]; exact hxl
      refine tDr z13 (fun k => k ∈ ([] : List Nat)) <| wR 1 [0, 1, 2, 3, 4, 5, 6, 7] kR0 (fun _ _ _ h => h.elim (fun g => pn g.1) (fun g => g.2)) <| smR 3 rfl <| rV rfl rfl (iSq rfl rfl rfl uT35 hi2 tS3 rfl (by rfl)) <| smR 3 rfl <| rV rfl rfl (iRw rfl rfl rfl rfl hI3 uT35 tS3 hxl2 oM0) <| nR <| wO 8 kR0 <| wI rfl rfl nf (nOl rfl) (fun _ _ => z1w rfl rfl rfl rfl hI3 (Nat.add_zero _).symm hxg sI0 tS3 rfl sI0) <| wDn kR0 <| Or.inl ?_
      refine ⟨rfl, Sub.of ⟨rfl, rfl, rfl, rfl, rfl, rfl, trivial⟩, funext (lkq [110, 106, 1001, 1002, 510] rfl rfl ⟨rfl, rfl, rfl, rfl, (by first | rfl | exact congrArg (fun z => some (HO.row _ z)) (by rw [hv2]; exact z4b _ _ _ _ hxg)), trivial⟩)⟩
     exact absurd (hc53.symm.trans hd53) dC0
    have hk1 := hc53
    refine tG <| sm 2 rfl <| nL ?_
    refine tC rfl (fun hc53 => ?_) fun hc53 => ?_
    ·have hk : (x.kind == 1 || x.kind == 2) = true := by first | (rw [hc53]; rfl) | (rw [hc53, Bool.or_true])
     obtain ⟨o, v2, ho, hv0, rfl⟩ := zr8 hnode hk
     obtain ⟨hx0, hxl, hv2⟩ := z7m hv0
     obtain ⟨z0, hxg⟩ := zt0 hxl
     have hi2 := z0f (f := eInt) ho
     have hxl2 : o.toNat < (v.map eInt).length := by rw [<- hI3]; exact hxl
     refine tDr z13 (fun k => k ∈ ([] : List Nat)) <| wR 1 [0, 1, 2, 3, 4, 5, 6, 7] kR0 (fun _ _ _ h => h.elim (fun g => pn g.1) (fun g => g.2)) <| smR 3 rfl <| rV rfl rfl (iSq rfl rfl rfl uT35 hi2 tS3 rfl (by rfl)) <| smR 3 rfl <| rV rfl rfl (iRw rfl rfl rfl rfl hI3 uT35 tS3 hxl2 oM0) <| nR <| wO 8 kR0 <| wI rfl rfl nf (nOl rfl) (fun _ _ => z1w rfl rfl rfl rfl hI3 (Nat.add_zero _).symm hxg sI0 tS3 rfl sI0) <| wDn kR0 <| Or.inl ?_
     refine ⟨rfl, Sub.of ⟨rfl, rfl, rfl, rfl, rfl, rfl, trivial⟩, funext (lkq [110, 106, 1001, 1002, 510] rfl rfl ⟨rfl, rfl, rfl, rfl, (by first | rfl | exact congrArg (fun z => some (HO.row _ z)) (by rw [hv2]; exact z4b _ _ _ _ hxg)), trivial⟩)⟩
    refine tQ <| tQ ?_
    have hk12 : (x.kind == 1 || x.kind == 2) = false := by rw [hk1, hc53]; rfl
    refine tG <| sm 2 rfl <| nL ?_
    refine tC rfl (fun hc64 => ?_) fun hc64 => ?_
    ·refine tSk ?_
     refine tC rfl (fun hd64 => ?_) fun hd64 => ?_
     ·refine tQ ?_
      have hke : (x.kind == 12 || x.kind == 13 || x.kind == 14 || x.kind == 15) = true := by simp only [hc64, Bool.or_true, Bool.true_or]
      obtain rfl := z8z hnode hke
      have hne : (x.kind != 0) = true := by rw [eq_of_beq hc64]; rfl
      simp only [hne, Bool.or_true, if_true] at hrest
      cases hrest
      refine tG <| sm 3 rfl <| cV rfl (bPu rfl rfl tZ83 tP83 rfl (fbk rfl) rfl) <| c0 (sBA rfl rfl rfl rfl rfl ((fun h => h)) tS83 (flk rfl) (lb rfl)) <| nL <| tRt ?_
      refine Or.inr ⟨Exit.noConfusion, ?_⟩
      refine rCk (.inl rfl) (fun _ _ ho => lBP ho rfl rfl Tryz.underlying83 rfl tS83 (lb rfl) rfl trivial) rfl (po3 rfl rfl rfl)
     exact absurd (hc64.symm.trans hd64) dC0
    refine tQ ?_
    have hk3 := hc64
    refine tG <| sm 2 rfl <| nL ?_
    refine tC rfl (fun hc64 => ?_) fun hc64 => ?_
    ·refine tSk ?_
     refine tC rfl (fun hd64 => ?_) fun hd64 => ?_
     ·refine tQ ?_
      have hke : (x.kind == 12 || x.kind == 13 || x.kind == 14 || x.kind == 15) = true := by simp only [hc64, Bool.or_true, Bool.true_or]
      obtain rfl := z8z hnode hke
      have hne : (x.kind != 0) = true := by rw [eq_of_beq hc64]; rfl
      simp only [hne, Bool.or_true, if_true] at hrest
      cases hrest
      refine tG <| sm 3 rfl <| cV rfl (bPu rfl rfl tZ83 tP83 rfl (fbk rfl) rfl) <| c0 (sBA rfl rfl rfl rfl rfl ((fun h => h)) tS83 (flk rfl) (lb rfl)) <| nL <| tRt ?_
      refine Or.inr ⟨Exit.noConfusion, ?_⟩
      refine rCk (.inl rfl) (fun _ _ ho => lBP ho rfl rfl Tryz.underlying83 rfl tS83 (lb rfl) rfl trivial) rfl (po3 rfl rfl rfl)
     exact absurd (hc64.symm.trans hd64) dC0
    refine tQ ?_
    have hk4 := hc64
    refine tG <| sm 2 rfl <| nL ?_
    refine tC rfl (fun hc64 => ?_) fun hc64 => ?_
    ·refine tSk ?_
     refine tC rfl (fun hd64 => ?_) fun hd64 => ?_
     ·refine tQ ?_
      have hke : (x.kind == 12 || x.kind == 13 || x.kind == 14 || x.kind == 15) = true := by simp only [hc64, Bool.or_true, Bool.true_or]
      obtain rfl := z8z hnode hke
      have hne : (x.kind != 0) = true := by rw [eq_of_beq hc64]; rfl
      simp only [hne, Bool.or_true, if_true] at hrest
      cases hrest
      refine tG <| sm 3 rfl <| cV rfl (bPu rfl rfl tZ83 tP83 rfl (fbk rfl) rfl) <| c0 (sBA rfl rfl rfl rfl rfl ((fun h => h)) tS83 (flk rfl) (lb rfl)) <| nL <| tRt ?_
      refine Or.inr ⟨Exit.noConfusion, ?_⟩
      refine rCk (.inl rfl) (fun _ _ ho => lBP ho rfl rfl Tryz.underlying83 rfl tS83 (lb rfl) rfl trivial) rfl (po3 rfl rfl rfl)
     exact absurd (hc64.symm.trans hd64) dC0
    have hk5 := hc64
    refine tG <| sm 2 rfl <| nL ?_
    refine tC rfl (fun hc64 => ?_) fun hc64 => ?_
    ·refine tQ ?_
     have hke : (x.kind == 12 || x.kind == 13 || x.kind == 14 || x.kind == 15) = true := by simp only [hc64, Bool.or_true, Bool.true_or]
     obtain rfl := z8z hnode hke
     have hne : (x.kind != 0) = true := by rw [eq_of_beq hc64]; rfl
     simp only [hne, Bool.or_true, if_true] at hrest
     cases hrest
     refine tG <| sm 3 rfl <| cV rfl (bPu rfl rfl tZ83 tP83 rfl (fbk rfl) rfl) <| c0 (sBA rfl rfl rfl rfl rfl ((fun h => h)) tS83 (flk rfl) (lb rfl)) <| nL <| tRt ?_
     refine Or.inr ⟨Exit.noConfusion, ?_⟩
     refine rCk (.inl rfl) (fun _ _ ho => lBP ho rfl rfl Tryz.underlying83 rfl tS83 (lb rfl) rfl trivial) rfl (po3 rfl rfl rfl)
    refine tQ ?_
    have hke : (x.kind == 12 || x.kind == 13 || x.kind == 14 || x.kind == 15) = false := by rw [hk3, hk4, hk5, hc64]; rfl
    refine tG <| sm 2 rfl <| nL ?_
    refine tC rfl (fun hc73 => ?_) fun hc73 => ?_
    ·refine tQ ?_
     obtain ⟨a0, q, r2, ha0, hq, hlist, hcont⟩ := mNode_if hnode hc73
     have hi0 := z0f (f := eInt) ha0
     have hl2 : (r2.2.1.map eInt).length = (v.map eInt).length := by rw [<- hI3]; simp [zr6 hlist]
     refine tG <| sm 1 rfl <| nL <| tQ <| tQ <| tG <| sm 1 rfl <| cV rfl (iSq rfl rfl rfl uT35 hi0 tS3 rfl (by rfl)) <| sm 2 rfl <| nL ?_
     refine tC rfl (fun hc78 => ?_) fun hc78 => ?_
     ·rw [if_pos hc78] at hq
      have hi1 := z0f (f := eKid) hq
      have hqb : lsW q <= 1073741824 := by have := z9l (List.mem_of_getElem? hq); have := z91 x; omega
      refine tG <| sm 1 rfl <| nL <| tQ <| tG <| sm 4 rfl <| cV rfl (iSq rfl rfl rfl uT41 hi1 tS44 rfl (by rfl)) <| sm 2 rfl <| cE rfl (cRr (ihL d1 oM0 q v1 s2 r2 hlist hqb) ent46 rfl rfl (sSm rfl (sSm rfl (sSm (congrArg (fun n => IV.sl 510 n) hI3.symm) Subs.nil))) (po3 rfl rfl rfl) (by rfl) (fun k (h : _) => .inr h) rfl (by rfl)) <| c0 (sBA rfl rfl rfl rfl rfl ((fun h => h)) tS83 (flk rfl) (lb rfl)) <| nL <| tQ ?_
      refine tG <| sm 1 rfl <| cE rfl (ocr (z7i u r2.2.2) zq2 rfl (po2 rfl rfl) rfl (fun k (h : _) => .inr trivial) rfl rfl) <| sm 2 rfl ?_
      refine wS 90 rfl (fun hb90 => ?_) fun hb90 => ?_
      ·refine sm 4 rfl <| nL ?_
       refine tC rfl (fun hc94 => ?_) fun hc94 => ?_
       ·have hcd : (!z4d r2.2.2 && r2.1.1 == 12) = true := by rw [hb90, hc94]; rfl
        rw [if_pos hcd, Option.map_eq_some_iff] at hcont
        obtain ⟨v3, hset, rfl⟩ := hcont
        refine tQ <| tG <| sm 5 rfl <| cE rfl (cRr (y0j r2.2.1 x.outs r2.1.2 v3 hset) ent68 rfl rfl (sSm (congrArg (fun n => IV.sl 510 n) hl2.symm) (sRf _ _)) (po1 rfl) (by rfl) (fun k (h : _) => .inr h) rfl (by rfl)) <| nL <| tG <| cV rfl (bPu rfl rfl tZ83 tP83 rfl (fbk rfl) rfl) <| WL.sub (Sub.cons2 (fun _ _ _ _ h => z3c ze0 h) Sub.rfl') <| c0 (sBA rfl rfl rfl rfl rfl ((fun h => h)) tS83 (flk rfl) (lb rfl)) <| nL <| Or.inl ?_
        refine ⟨rfl, Sub.of ⟨rfl, rfl, rfl, rfl, rfl, rfl, trivial⟩, funext (lkq [110, 106, 1001, 1002, 510] rfl rfl ⟨rfl, rfl, rfl, rfl, (by first | rfl | exact congrArg (fun z => some (HO.row _ z)) (by rw [hv2]; exact z4b _ _ _ _ hxg)), trivial⟩)⟩
       have hcd : (!z4d r2.2.2 && r2.1.1 == 12) = false := by first | (rw [hb90, hc94]; rfl) | (rw [hb90]; rfl)
       rw [if_neg (by rw [hcd]; decide)] at hcont
       cases hcont
       refine tSk <| Or.inl ?_
       refine ⟨rfl, Sub.of ⟨rfl, rfl, rfl, rfl, rfl, rfl, trivial⟩, funext (lkq [110, 106, 1001, 1002, 510] rfl rfl ⟨rfl, rfl, rfl, rfl, (by first | rfl | exact congrArg (fun z => some (HO.row _ z)) (by rw [hv2]; exact z4b _ _ _ _ hxg)), trivial⟩)⟩
      refine sm 4 rfl <| nL <| Tr.condF rfl ?_
      have hcd : (!z4d r2.2.2 && r2.1.1 == 12) = false := by first | (rw [hb90, hc94]; rfl) | (rw [hb90]; rfl)
      rw [if_neg (by rw [hcd]; decide)] at hcont
      cases hcont
      refine tSk <| Or.inl ?_
      refine ⟨rfl, Sub.of ⟨rfl, rfl, rfl, rfl, rfl, rfl, trivial⟩, funext (lkq [110, 106, 1001, 1002, 510] rfl rfl ⟨rfl, rfl, rfl, rfl, (by first | rfl | exact congrArg (fun z => some (HO.row _ z)) (by rw [hv2]; exact z4b _ _ _ _ hxg)), trivial⟩)⟩
     rw [if_neg (by rw [hc78]; decide)] at hq
     have hi1 := z0f (f := eKid) hq
     have hqb : lsW q <= 1073741824 := by have := z9l (List.mem_of_getElem? hq); have := z91 x; omega
     refine tSk <| tQ <| tG <| sm 4 rfl <| cV rfl (iSq rfl rfl rfl uT41 hi1 tS44 rfl (by rfl)) <| sm 2 rfl <| cE rfl (cRr (ihL d1 oM0 q v1 s2 r2 hlist hqb) ent46 rfl rfl (sSm rfl (sSm rfl (sSm (congrArg (fun n => IV.sl 510 n) hI3.symm) Subs.nil))) (po3 rfl rfl rfl) (by rfl) (fun k (h : _) => .inr h) rfl (by rfl)) <| c0 (sBA rfl rfl rfl rfl rfl ((fun h => h)) tS83 (flk rfl) (lb rfl)) <| nL <| tQ <| tG <| sm 1 rfl ?_
     refine cE rfl (ocr (z7i u r2.2.2) zq2 rfl (po2 rfl rfl) rfl (fun k (h : _) => .inr trivial) rfl rfl) <| sm 2 rfl ?_
     refine wS 90 rfl (fun hb90 => ?_) fun hb90 => ?_
     ·refine sm 4 rfl <| nL ?_
      refine tC rfl (fun hc94 => ?_) fun hc94 => ?_
      ·have hcd : (!z4d r2.2.2 && r2.1.1 == 12) = true := by rw [hb90, hc94]; rfl
       rw [if_pos hcd, Option.map_eq_some_iff] at hcont
       obtain ⟨v3, hset, rfl⟩ := hcont
       refine tQ <| tG <| sm 5 rfl <| cE rfl (cRr (y0j r2.2.1 x.outs r2.1.2 v3 hset) ent68 rfl rfl (sSm (congrArg (fun n => IV.sl 510 n) hl2.symm) (sRf _ _)) (po1 rfl) (by rfl) (fun k (h : _) => .inr h) rfl (by rfl)) <| nL <| tG <| cV rfl (bPu rfl rfl tZ83 tP83 rfl (fbk rfl) rfl) <| WL.sub (Sub.cons2 (fun _ _ _ _ h => z3c ze0 h) Sub.rfl') <| c0 (sBA rfl rfl rfl rfl rfl ((fun h => h)) tS83 (flk rfl) (lb rfl)) <| nL <| Or.inl ?_
       refine ⟨rfl, Sub.of ⟨rfl, rfl, rfl, rfl, rfl, rfl, trivial⟩, funext (lkq [110, 106, 1001, 1002, 510] rfl rfl ⟨rfl, rfl, rfl, rfl, (by first | rfl | exact congrArg (fun z => some (HO.row _ z)) (by rw [hv2]; exact z4b _ _ _ _ hxg)), trivial⟩)⟩
      have hcd : (!z4d r2.2.2 && r2.1.1 == 12) = false := by first | (rw [hb90, hc94]; rfl) | (rw [hb90]; rfl)
      rw [if_neg (by rw [hcd]; decide)] at hcont
      cases hcont
      refine tSk <| Or.inl ?_
      refine ⟨rfl, Sub.of ⟨rfl, rfl, rfl, rfl, rfl, rfl, trivial⟩, funext (lkq [110, 106, 1001, 1002, 510] rfl rfl ⟨rfl, rfl, rfl, rfl, (by first | rfl | exact congrArg (fun z => some (HO.row _ z)) (by rw [hv2]; exact z4b _ _ _ _ hxg)), trivial⟩)⟩
     refine sm 4 rfl <| nL <| Tr.condF rfl ?_
     have hcd : (!z4d r2.2.2 && r2.1.1 == 12) = false := by first | (rw [hb90, hc94]; rfl) | (rw [hb90]; rfl)
     rw [if_neg (by rw [hcd]; decide)] at hcont
     cases hcont
     refine tSk <| Or.inl ?_
     refine ⟨rfl, Sub.of ⟨rfl, rfl, rfl, rfl, rfl, rfl, trivial⟩, funext (lkq [110, 106, 1001, 1002, 510] rfl rfl ⟨rfl, rfl, rfl, rfl, (by first | rfl | exact congrArg (fun z => some (HO.row _ z)) (by rw [hv2]; exact z4b _ _ _ _ hxg)), trivial⟩)⟩
    refine tQ ?_
    have hk10 := hc73
    refine tG <| sm 2 rfl <| nL ?_
    refine tC rfl (fun hc102 => ?_) fun hc102 => ?_
    ·have hlp := y0z hnode hc102
     refine tG <| sm 1 rfl <| cV rfl (lEA rfl rfl uT43 rfl tS43 (lb rfl)) <| sm 2 rfl <| cE rfl (cRr (sc_loop u D ihL d1 oM0 x hxb v1 a s2 r1 hlp) ent69 rfl rfl (sSm rfl (sSm rfl (sSm (congrArg (fun n => IV.sl 510 n) hI3.symm) (sRf _ _)))) (po3 rfl rfl rfl) (by rfl) (fun k (h : _) => .inr h) rfl (by rfl)) <| c0 (sBA rfl rfl rfl rfl rfl ((fun h => h)) tS83 (flk rfl) (lb rfl)) <| nL <| Or.inl ?_
     refine ⟨rfl, Sub.of ⟨rfl, rfl, rfl, rfl, rfl, rfl, trivial⟩, funext (lkq [110, 106, 1001, 1002, 510] rfl rfl ⟨rfl, rfl, rfl, rfl, (by first | rfl | exact congrArg (fun z => some (HO.row _ z)) (by rw [hv2]; exact z4b _ _ _ _ hxg)), trivial⟩)⟩
    refine tQ ?_
    obtain ⟨q1, hsum, hcont⟩ := y36 hnode hk12 hke hk10 hc102
    refine tG <| sm 1 rfl <| cV rfl (lEA rfl rfl uT43 rfl tS43 (lb rfl)) <| sm 1 rfl <| cE rfl (ocr (sc_sum u hu D ihC d1 oM0 x a s2 q1 hsum) ent70 rfl (po2 rfl rfl) rfl (fun k (h : _) => .inr h) rfl rfl) <| sm 1 rfl <| nL <| tQ <| tG <| sm 1 rfl <| cE rfl (ocr (z7i u q1.2) zq2 rfl (po2 rfl rfl) rfl (fun k (h : _) => .inr trivial) rfl rfl) <| sm 2 rfl ?_
    refine wS 40 rfl (fun hb40 => ?_) fun hb40 => ?_
    ·refine sm 2 rfl <| yV rfl rfl (oSm uT35 rfl) <| sm 2 rfl <| nL ?_
     refine tC rfl (fun hc45 => ?_) fun hc45 => ?_
     ·have h0 : 0 < x.outs.length := by simpa using hc45
      rw [if_pos (by rw [hb40, decide_eq_true h0]; rfl)] at hcont
      simp only [Option.bind_eq_some_iff, Option.map_eq_some_iff] at hcont
      obtain ⟨o, ho, v2, hv0, rfl⟩ := hcont
      obtain ⟨hx0, hxl, hv2⟩ := z7m hv0
      obtain ⟨z0, hxg⟩ := zt0 hxl
      have hi2 := z0f (f := eInt) ho
      have hxl2 : o.toNat < (v.map eInt).length := by rw [<- hI3]; exact hxl
      refine tG <| sm 3 rfl <| cV rfl (iSq rfl rfl rfl uT35 hi2 tS3 rfl (by rfl)) <| sm 2 rfl <| cV rfl (iRw rfl rfl rfl rfl hI3 uT35 tS3 hxl2 oM0) <| c0 (z1w rfl rfl rfl rfl hI3 (Nat.add_zero _).symm hxg sI0 tS3 rfl sI0) <| nL <| Or.inl ?_
      refine ⟨rfl, Sub.of ⟨rfl, rfl, rfl, rfl, rfl, rfl, trivial⟩, funext (lkq [110, 106, 1001, 1002, 510] rfl rfl ⟨rfl, rfl, rfl, rfl, (by first | rfl | exact congrArg (fun z => some (HO.row _ z)) (by rw [hv2]; exact z4b _ _ _ _ hxg)), trivial⟩)⟩
     have hcd : (!z4d q1.2 && decide (0 < x.outs.length)) = false := by first | (rw [hb40]; rfl) | (rw [hb40]; simpa using hc45)
     rw [if_neg (by rw [hcd]; decide)] at hcont
     cases hcont
     refine tSk <| Or.inl ?_
     refine ⟨rfl, Sub.of ⟨rfl, rfl, rfl, rfl, rfl, rfl, trivial⟩, funext (lkq [110, 106, 1001, 1002, 510] rfl rfl ⟨rfl, rfl, rfl, rfl, (by first | rfl | exact congrArg (fun z => some (HO.row _ z)) (by rw [hv2]; exact z4b _ _ _ _ hxg)), trivial⟩)⟩
    refine sm 5 rfl <| nL <| Tr.condF rfl ?_
    have hcd : (!z4d q1.2 && decide (0 < x.outs.length)) = false := by first | (rw [hb40]; rfl) | (rw [hb40]; simpa using hc45)
    rw [if_neg (by rw [hcd]; decide)] at hcont
    cases hcont
    refine tSk <| Or.inl ?_
    refine ⟨rfl, Sub.of ⟨rfl, rfl, rfl, rfl, rfl, rfl, trivial⟩, funext (lkq [110, 106, 1001, 1002, 510] rfl rfl ⟨rfl, rfl, rfl, rfl, (by first | rfl | exact congrArg (fun z => some (HO.row _ z)) (by rw [hv2]; exact z4b _ _ _ _ hxg)), trivial⟩)⟩
   refine tQ <| tG <| sm 1 rfl <| cE rfl (ocr (z7i u r1.2.2) zq2 rfl (po2 rfl rfl) rfl (fun k (h : _) => .inr trivial) rfl rfl) <| sm 1 rfl ?_
   refine wS 111 rfl (fun hb111 => ?_) fun hb111 => ?_
   ·refine sm 4 rfl <| nL <| Tr.condT rfl ?_
    have hov : (z4d r1.2.2 || r1.1.1 != 0) = true := by first | (rw [hb111]; rfl) | (rw [hc115, Bool.or_true])
    rw [if_pos hov] at hrest
    obtain rfl : r1 = r := by injection hrest
    refine tQ <| tG <| cV rfl (lBP rfl rfl rfl Tryz.underlying83 rfl tS83 (lb rfl) rfl trivial) <| c0 (sBA rfl rfl rfl rfl rfl ((fun h => h)) tS83 (flk rfl) (lb rfl)) <| nL <| tRt <| rCk (.inl rfl) (fun _ _ ho => lBP ho rfl rfl Tryz.underlying83 rfl tS83 (lb rfl) rfl trivial) rfl (po3 rfl rfl rfl)
   refine sm 4 rfl <| nL ?_
   refine tC rfl (fun hc115 => ?_) fun hc115 => ?_
   ·have hov : (z4d r1.2.2 || r1.1.1 != 0) = true := by first | (rw [hb111]; rfl) | (rw [hc115, Bool.or_true])
    rw [if_pos hov] at hrest
    obtain rfl : r1 = r := by injection hrest
    refine tQ <| tG <| cV rfl (lBP rfl rfl rfl Tryz.underlying83 rfl tS83 (lb rfl) rfl trivial) <| c0 (sBA rfl rfl rfl rfl rfl ((fun h => h)) tS83 (flk rfl) (lb rfl)) <| nL <| tRt <| rCk (.inl rfl) (fun _ _ ho => lBP ho rfl rfl Tryz.underlying83 rfl tS83 (lb rfl) rfl trivial) rfl (po3 rfl rfl rfl)
   rw [if_neg (by rw [hb111, hc115]; decide)] at hrest
   refine tSk <| Tr.drop (k := 110) <| tG <| sm 1 rfl <| cV rfl (oB rfl rfl (z07 rfl oM0)) <| sm 1 rfl <| nL ?_
   refine ⟨_, _, ?_, Sub.of (fr' := [(7, iInt (k + 1)), (6, .ptr 106 0), (0, .ptr 1001 0), (1, .pv (z0a l)), (2, .sl 510 (v.map eInt).length)]) ⟨rfl, rfl, rfl, rfl, rfl, trivial⟩, (k + 1), d1, r1.2.1, r1.2.2, ?_, ?_, ?_, ?_, rfl, (funext (lkq [110, 106, 1001, 1002, 510] rfl rfl ⟨rfl, rfl, rfl, rfl, rfl, trivial⟩)), rfl⟩
   ·omega
   ·omega
   ·omega
   ·exact hrest
   exact hl1
  refine tEx <| tQ ?_
  have hge : l.length <= k := by simpa using hc16
  rw [List.drop_eq_nil_of_le hge] at hI2
  obtain rfl := y35 hI2
  refine tG <| cV rfl (bPu rfl rfl tZ83 tP83 rfl (fbk rfl) rfl) <| WL.sub (Sub.cons2 (fun _ _ _ _ h => z3c ze0 h) Sub.rfl') <| c0 (sBA rfl rfl rfl rfl rfl ((fun h => h)) tS83 (flk rfl) (lb rfl)) <| nL <| tRt <| rCk (.inl rfl) (fun _ _ ho => lBP ho rfl rfl Tryz.underlying83 rfl tS83 (lb rfl) rfl trivial) rfl (po3 rfl rfl rfl)
theorem y2b {a : List Int} {i n : Nat} {x : Int} (hx : a[i]? = some x) (hn : a.length <= n) : (a.take i ++ List.replicate (n - i) 0).set i x = a.take (i + 1) ++ List.replicate (n - (i + 1)) 0 := by
  have hi : i < a.length := (List.getElem?_eq_some_iff.1 hx).1
  have hl : (a.take i).length = i := by rw [List.length_take]; omega
  rw [List.set_append_right _ _ oM0, hl, Nat.sub_self, show n - i = (n - (i + 1)) + 1 by omega, List.replicate_succ, List.set_cons_zero, List.take_add_one, hx]
  simp
theorem sc_call0 (u : Un) (hub : ∀ f ∈ u.flows, lsW f.body <= 1073741824) (D : Nat) (ihL : SCL u D) (d : Nat) (hd : d <= D) (k : Int) (a : List Int) (s : Rs) (r : Int × Rs) (h : ze8 u d k a s = some r) : SC Tryz.prog 29 [.ptr 1001 0, iInt k, .pv (ints a)] (runH u s) (fun _ => False) (iInt r.1) (runH u r.2) := by
  refine SC.of Tryz.func29 rfl (lb rfl) fun F ρ w => ?_
  refine Tr.lenOf (t := 2) rfl (fun hl => ?_)
  simp only [List.length_map] at hl
  obtain ⟨d1, f, r1, rfl, hk0, hf, hal, hfl, hlist, rfl⟩ := y0w h
  have hif := z0f (f := Fl.enc) hf
  have hfb := hub f (List.mem_of_getElem? hf)
  refine tQ <| tG <| sm 1 rfl <| nL <| tQ <| tG <| sm 1 rfl <| cV rfl (nCk rfl rfl rfl) <| sm 4 rfl <| cV rfl (iSq rfl rfl rfl uT23 hif tS51 rfl oM0) <| cV rfl (lEA rfl rfl Tryz.underlying51 rfl tS51 (lb rfl)) <| cE rfl (aLc (k := 107) rfl tZ51 rfl rfl rfl rfl) ?_
  refine c0 (sBA rfl rfl rfl rfl rfl ((fun h => h)) tS51 (flk rfl) (lb rfl)) <| nL <| tQ <| Tr.freezeBox (t := 7) (k := 107) rfl rfl rfl <| tG <| sm 2 rfl <| cV rfl (oSm uT35 rfl) <| cE rfl (z14 (k := 510) (s := ⟨3, 1⟩) rfl rfl rfl uT35 tZ3 tC3 rfl dC0 oM0 oM0 rfl rfl rfl rfl) <| sm 1 rfl <| nL <| tQ <| tQ ?_
  refine tG <| sm 1 rfl <| nL <| tBk <| Tr.sub (Sub.of (fr' := [(9, iInt 0), (8, .sl 510 f.types.length), (7, .pv (.ept [vStr f.name, vInt f.ty, vInt f.params, ints f.types, z0a f.body] 0)), (0, .ptr 1001 0), (2, .pv (ints a))]) ⟨rfl, rfl, rfl, rfl, rfl, trivial⟩) <| Tr.heap (σ' := look [(1001, some (z4w u s)), (1002, some (rowI (s).out)), (510, some (rowI (a.take 0 ++ List.replicate (f.types.length - 0) 0)))]) (lkq [107, 1001, 1002, 510] rfl rfl ⟨rfl, rfl, rfl, (by exact congrArg (fun z => some (HO.row _ z)) (by rw [List.take_zero, List.nil_append, Nat.sub_zero, List.map_replicate]; rfl)), trivial⟩) ?_
  refine Tr.loop (fun fr σ m => ∃ (i : Nat), (i <= a.length) /\ fr = [(9, iInt i), (8, .sl 510 f.types.length), (7, .pv (.ept [vStr f.name, vInt f.ty, vInt f.params, ints f.types, z0a f.body] 0)), (0, .ptr 1001 0), (2, .pv (ints a))] /\ σ = look [(1001, some (z4w u s)), (1002, some (rowI (s).out)), (510, some (rowI (a.take i ++ List.replicate (f.types.length - i) 0)))] /\ m = a.length - i) (n := a.length - 0) ?_ ?_
  ·exact ⟨0, Nat.zero_le _, rfl, rfl, rfl⟩
  rintro fr σ m ⟨i, hI0, rfl, rfl, rfl⟩
  refine tQ <| tQ <| tG <| sm 2 rfl <| cV rfl (oSm uT35 rfl) <| sm 1 rfl <| nL ?_
  refine tC rfl (fun hc26 => ?_) fun hc26 => ?_
  ·have hlt : i < a.length := by simpa using hc26
   have hil : i < f.types.length := by omega
   obtain ⟨x, hx⟩ : ∃ x, a[i]? = some x := ⟨_, List.getElem?_eq_getElem hlt⟩
   have hi := z0f (f := eInt) hx
   have hvl : ((a.take i ++ List.replicate (f.types.length - i) 0).map eInt).length = f.types.length := by simp; omega
   obtain ⟨z0, hxg⟩ := zt0 (v := (a.take i ++ List.replicate (f.types.length - i) 0)) (i := i) (by rw [hvl]; omega)
   refine tSk <| tQ <| tBk <| tG <| sm 4 rfl <| cV rfl (iSq rfl rfl rfl uT35 hi tS3 rfl (by rfl)) <| sm 1 rfl <| cV rfl (iRw rfl rfl rfl rfl hvl uT35 tS3 hil rfl) <| c0 (z1w rfl rfl rfl rfl hvl (Nat.add_zero _).symm hxg sI0 tS3 rfl sI0) <| nL <| tG <| sm 1 rfl ?_
   refine cV rfl (oB rfl rfl (z07 rfl oM0)) <| sm 1 rfl <| nL ?_
   refine ⟨_, _, ?_, Sub.of (fr' := [(9, iInt (i + 1)), (8, .sl 510 f.types.length), (7, .pv (.ept [vStr f.name, vInt f.ty, vInt f.params, ints f.types, z0a f.body] 0)), (0, .ptr 1001 0), (2, .pv (ints a))]) ⟨rfl, rfl, rfl, rfl, rfl, trivial⟩, (i + 1), ?_, rfl, (funext (lkq [1001, 1002, 510] rfl rfl ⟨rfl, rfl, (congrArg (fun z => some (HO.row _ z)) ((z4b _ _ _ _ hxg).trans (congrArg (List.map eInt) (y2b hx hal)))), trivial⟩)), rfl⟩
   ·omega
   omega
  refine tEx <| tQ ?_
  have he : (a.take i ++ List.replicate (f.types.length - i) 0) = a ++ List.replicate (f.types.length - a.length) 0 := by
    have hge : a.length <= i := by simpa using hc26
    obtain rfl : i = a.length := by omega
    rw [List.take_length]
  rw [he]
  have hvl2 : ((a ++ List.replicate (f.types.length - a.length) 0).map eInt).length = f.types.length := by simp; omega
  refine tG <| sm 4 rfl <| cE rfl (cRr (ihL d1 oM0 f.body (a ++ List.replicate (f.types.length - a.length) 0) s r1 hlist hfb) ent46 rfl rfl (sSm rfl (sSm rfl (sSm (congrArg (fun n => IV.sl 510 n) hvl2.symm) Subs.nil))) (po3 rfl rfl rfl) (by rfl) (fun k (h : _) => .inr h) rfl (by rfl)) <| cE rfl (aLc (k := 110) rfl tZ83 rfl rfl rfl rfl) <| c0 (sBA rfl rfl rfl rfl rfl ((fun h => h)) tS83 (flk rfl) (lb rfl)) <| nL <| tQ <| tQ <| tG <| sm 1 rfl <| cE rfl (ocr (z7i u r1.2.2) zq2 rfl (po2 rfl rfl) rfl (fun k (h : _) => .inr trivial) rfl rfl) <| sm 1 rfl ?_
  refine wS 43 rfl (fun hb43 => ?_) fun hb43 => ?_
  ·refine sm 5 rfl <| nL <| Tr.condT rfl <| tQ <| tG <| sm 1 rfl <| nL <| tRt <| rOk rfl ?_ (po2 rfl rfl)
   (rw [if_pos hb43]; done)
  refine sm 2 rfl <| yV rfl rfl (oSm uT35 rfl) <| sm 2 rfl <| nL ?_
  refine tC rfl (fun hc48 => ?_) fun hc48 => ?_
  ·refine tQ <| tG <| sm 1 rfl <| nL <| tRt <| rOk rfl ?_ (po2 rfl rfl)
   (have hz : r1.1.2 = [] := by simpa using hc48
    rw [hz]
    split <;> rfl)
  obtain ⟨x, q, hxq⟩ : ∃ x q, r1.1.2 = x :: q := by
    cases hz : r1.1.2 with
    | nil => rw [hz] at hc48; simp at hc48
    | cons x q => exact ⟨x, q, rfl⟩
  have hi0 : (r1.1.2.map eInt)[0]? = some (eInt x) := by rw [hxq]; rfl
  refine tSk <| tQ <| tG <| sm 2 rfl <| cV rfl (iSq rfl rfl rfl uT35 hi0 tS3 rfl (by rfl)) <| sm 2 rfl <| nL <| tRt <| rOk rfl ?_ (po2 rfl rfl)
  rw [if_neg (by rw [hb43]; decide), hxq]
  rfl
theorem z7z (u : Un) (hu : u.arrays = []) (hub : ∀ f ∈ u.flows, lsW f.body <= 1073741824) : ∀ D, SCC u D /\ SCL u D
  | 0 => ⟨fun _ h => absurd h (Nat.not_lt_zero _), fun _ h => absurd h (Nat.not_lt_zero _)⟩
  | D + 1 => ⟨fun d hd k a s r h => sc_call0 u hub D (z7z u hu hub D).2 d (Nat.le_of_lt_succ hd) k a s r h,
      fun d hd l v s r h hb => sc_list0 u hu D (z7z u hu hub D).1 (z7z u hu hub D).2 d (Nat.le_of_lt_succ hd) l v s r h hb⟩
def run0 (ins : List Int) (fuel : Int) : Rs := { ins := ins, ar := [], st := 0, code := 0, out := [], cost := 0, fuel := if fuel < 0 then 0 else fuel, spent := false }
def mEnd (r : Int × Rs) : Rs := if z4d r.2 then r.2 else { r.2 with st := 1, code := r.1 }
def runv (s : Rs) : PV := .agg [vInt s.st, vInt s.code, ints s.out, vInt s.cost, vInt s.fuel]
theorem sc_run0 (u : Un) (hu : u.arrays = []) (hW : z1v u <= 536870912) (hz : (z1t u).1 = 0) (ins : List Int) (fuel : Int) (d : Nat) (r : Int × Rs) (h : ze8 u d (z0b z0m u.flows 0) [] (run0 ins fuel) = some r) : SC Tryz.prog 17 [.pv u.enc, .pv (ints ins), iInt fuel] [] (fun _ => False) (.pv (runv (mEnd r))) [] := by
  refine SC.ofC Tryz.func17 rfl (lb rfl) rfl fun F ρ w => ?_
  have hub : ∀ f ∈ u.flows, lsW f.body <= 1073741824 := fun f hf => Nat.le_trans (zm7 hW hf) oM0
  have hcall := (z7z u hu hub (d + 1)).1 d (Nat.lt_succ_self d) _ _ _ _ h
  refine tQ <| tG <| cE rfl (z1a rfl rfl) <| cE rfl (aLc (k := 106) rfl tZ46 rfl rfl rfl rfl) <| nL <| tQ <| tQ <| tG <| cV rfl (lEA rfl rfl uT25 rfl tS25 (lb rfl)) <| cE rfl (ocq (z9t u hW) ent19 rfl rfl) <| sm 1 rfl <| cV rfl (z0g rfl rfl rfl) ?_
  refine cV rfl (z0g rfl rfl rfl) <| sm 2 rfl <| nL <| tQ <| tG <| sm 2 rfl <| nL ?_
  refine tC rfl (fun hc18 => ?_) fun hc18 => ?_
  ·exact absurd hc18 (by rw [hz]; decide)
  refine tSk <| tQ <| tG <| cV rfl (lEA rfl rfl uT25 rfl tS25 (lb rfl)) <| sm 2 rfl <| cV rfl (ok_max rfl rfl rfl) <| cV rfl (bPu rfl rfl tZ46 tP46 rfl (fbk rfl) rfl) <| cV rfl (bPu rfl rfl tZ71 tP71 rfl (fbk rfl) rfl) <| cE rfl (z7t (k := 1001) rfl rfl rfl rfl rfl rfl) <| sm 1 rfl <| nL <| tQ ?_
  refine tQ <| Tr.growCell (k := 1002) (k2 := 1001) (j := 6) ⟨3, 1⟩ rfl rfl rfl rfl rfl rfl <| tG <| sm 1 rfl <| nL <| tBk <| Tr.sub (Sub.of (fr' := [(10, iInt 0), (9, .ptr 1001 0), (6, .ptr 106 0), (3, .pv (.ept [arrs u.arrays, flws u.flows] 0))]) ⟨rfl, rfl, rfl, rfl, trivial⟩) <| Tr.heap (σ' := look [(106, some (.box [iInt 0, iInt 0, .pv (.val (.slice none 0 0)), iInt 0, iInt 0])), (1001, some (z4w u (run0 ins fuel))), (1002, some (rowI []))]) (lkq [106, 1001, 1002] rfl rfl ⟨rfl, rfl, rfl, trivial⟩) ?_
  refine Tr.loop (fun fr σ m => fr = [(10, iInt 0), (9, .ptr 1001 0), (6, .ptr 106 0), (3, .pv (.ept [arrs u.arrays, flws u.flows] 0))] /\ σ = look [(106, some (.box [iInt 0, iInt 0, .pv (.val (.slice none 0 0)), iInt 0, iInt 0])), (1001, some (z4w u (run0 ins fuel))), (1002, some (rowI []))] /\ m = 0) (n := 0) ?_ ?_
  ·exact ⟨rfl, rfl, rfl⟩
  rintro fr σ m ⟨rfl, rfl, rfl⟩
  refine tQ <| tQ <| tG <| sm 3 rfl <| cV rfl (oSm uT22 rfl) <| sm 1 rfl <| nL ?_
  refine tC rfl (fun hc31 => ?_) fun hc31 => ?_
  ·exact absurd hc31 (by rw [hu]; simp)
  refine tEx <| tQ <| tG <| sm 1 rfl <| cV rfl (lEA rfl rfl uT25 rfl tS25 (lb rfl)) <| cE rfl (ocq (z55 _ _) y0r rfl rfl) <| cE rfl (cRr (hcall) ent29 rfl rfl (sSm rfl (sSm rfl (Subs.cons (fun _ _ _ _ h => z3c PSub.nil h) Subs.nil))) (po2 rfl rfl) (by rfl) (fun k (h : _) => .inr h) rfl (by rfl)) <| sm 1 rfl <| nL <| tQ <| tQ <| tG ?_
  refine sm 1 rfl <| cE rfl (ocr (z7i u r.2) zq2 rfl (po2 rfl rfl) rfl (fun k (h : _) => .inr trivial) rfl rfl) <| sm 1 rfl <| nL ?_
  refine tC rfl (fun hc56 => ?_) fun hc56 => ?_
  ·have hend : mEnd r = { r.2 with st := 1, code := r.1 } := if_neg (by intro hh; rw [hh] at hc56; exact absurd hc56 dC0)
   refine tG <| sm 3 rfl <| cV rfl (nCk rfl rfl rfl) <| sm 2 rfl <| c0 (sBx rfl rfl rfl rfl ((fun h => h)) tS3 (rfl) (lb rfl)) <| cV rfl (nCk rfl rfl rfl) <| sm 2 rfl <| c0 (sBx rfl rfl rfl rfl ((fun h => h)) tS3 (rfl) (lb rfl)) <| nL <| tQ <| Tr.freezeCell (k := 1002) (k2 := 1001) (j := 6) (n := (r.2.out.map eInt).length) rfl rfl rfl rfl dC0 <| tG ?_
   refine sm 1 rfl <| cV rfl (nCk rfl rfl rfl) <| sm 1 rfl <| cV rfl (lBP rfl rfl rfl Tryz.underlying46 rfl tS46 (lb rfl) rfl trivial) <| c0 (sBA rfl rfl rfl rfl rfl ((fun h => h)) tS46 (flk rfl) (lb rfl)) <| nL <| tRt ?_
   rw [hend]
   refine rCk (.inl rfl) (fun _ _ ho => lBP ho rfl rfl Tryz.underlying46 rfl tS46 (lb rfl) rfl trivial) rfl nPo
  have hend : mEnd r = r.2 := if_pos (by simpa using hc56)
  refine tSk <| tQ <| Tr.freezeCell (k := 1002) (k2 := 1001) (j := 6) (n := (r.2.out.map eInt).length) rfl rfl rfl rfl dC0 <| tG <| sm 1 rfl <| cV rfl (nCk rfl rfl rfl) <| sm 1 rfl <| cV rfl (lBP rfl rfl rfl Tryz.underlying46 rfl tS46 (lb rfl) rfl trivial) <| c0 (sBA rfl rfl rfl rfl rfl ((fun h => h)) tS46 (flk rfl) (lb rfl)) <| nL <| tRt ?_
  rw [hend]
  refine rCk (.inl rfl) (fun _ _ ho => lBP ho rfl rfl Tryz.underlying46 rfl tS46 (lb rfl) rfl trivial) rfl nPo
def wakeL : List Nd := [(.mk 8 0 0 ⟨#[]⟩ [] [0] [] []), (.mk 4 3 0 ⟨#[]⟩ [0, 0] [1] [] []), (.mk 4 3 0 ⟨#[]⟩ [0, 0] [2] [] []), (.mk 15 0 0 ⟨#[]⟩ [2] [] [] [])]
def zp1 : Un := ⟨[], [⟨z0m, 1, 0, [1, 1, 1], wakeL⟩]⟩
theorem z83 : (z1t zp1).1 = 0 := by decide +kernel
theorem zi7 : z1v zp1 <= 536870912 := by decide +kernel
theorem y4u : ((ze8 (z3k stB zp1) 20 (z0b z0m (z3k stB zp1).flows 0) [] (run0 [3] 4)).map fun r => (z4d r.2, r.1)) = some (false, 9) := by decide +kernel
theorem wake_run : ∃ r, ze8 (z3k stB zp1) 20 (z0b z0m (z3k stB zp1).flows 0) [] (run0 [3] 4) = some r /\ (mEnd r).st = 1 /\ (mEnd r).code = 9 := by
  have h := y4u
  rw [Option.map_eq_some_iff] at h
  obtain ⟨r, h1, h2⟩ := h
  simp only [Prod.mk.injEq] at h2
  refine ⟨r, h1, ?_, ?_⟩
  ·simp only [mEnd, h2.1, Bool.false_eq_true, if_false]
  simp only [mEnd, h2.1, Bool.false_eq_true, if_false, h2.2]
def y4t : PV := .seq [[vInt 8, vInt 0, vInt 0, vStr ⟨#[]⟩, .val (.slice none 0 0), .seq [[vInt 0]], .val (.slice none 0 0), .val (.slice none 0 0)], [vInt 4, vInt 3, vInt 0, vStr ⟨#[]⟩, .seq [[vInt 0], [vInt 0]], .seq [[vInt 1]], .val (.slice none 0 0), .val (.slice none 0 0)], [vInt 4, vInt 3, vInt 0, vStr ⟨#[]⟩, .seq [[vInt 0], [vInt 0]], .seq [[vInt 2]], .val (.slice none 0 0), .val (.slice none 0 0)], [vInt 15, vInt 0, vInt 0, vStr ⟨#[]⟩, .seq [[vInt 2]], .val (.slice none 0 0), .val (.slice none 0 0), .val (.slice none 0 0)]]
theorem wake_sub : PSub y4t (z0a wakeL) := by
  show PSub _ (.seq [_, _, _, _])
  repeat' (first | exact PSub.nil | exact PSub.refl _ | exact trivial | refine And.intro ?_ ?_ | refine PSub.seq (ps := [_, _, _, _]) (qs := [_, _, _, _]) ?_ | refine PSub.seq (ps := [_]) (qs := [_]) ?_)
theorem y0q : z25 stB ⟨[], []⟩ = (⟨[], []⟩, 1) := z7w stB (by decide +kernel)
theorem y3u (L : List Nd) (hL : PSub y4t (z0a L)) (V : Un) (hH : z25 stB (⟨[], [⟨z0m, 1, 0, [1, 1, 1], L⟩]⟩ : Un) = (V, 0)) (hW : z1v (⟨[], [⟨z0m, 1, 0, [1, 1, 1], L⟩]⟩ : Un) <= 536870912) (hVa : V.arrays = []) (hVl : V.flows.length = 1) (hVr : zt3 V = true) (hVW : z1v V <= 536870912) (hVz : (z1t V).1 = 0) (r : Int × Rs) (hr : ze8 V 20 (z0b z0m V.flows 0) [] (run0 [3] 4) = some r) (h1 : (mEnd r).st = 1) (h2 : (mEnd r).code = 9) : SC Tryz.prog 7 [] [] (fun _ => False) (iBool true) [] := by
  refine SC.of Tryz.func7 rfl (lb rfl) fun F ρ w => ?_
  have hsc := zn8 (⟨[], [⟨z0m, 1, 0, [1, 1, 1], L⟩]⟩ : Un) hW z82
  rw [hH] at hsc
  have hse := zn8 ⟨[], []⟩ dC0 z82
  rw [y0q] at hse
  refine tQ <| tG <| sm 1 rfl <| nL <| tQ <| tG <| sm 1 rfl <| nL <| tQ <| tG <| sm 3 rfl <| cE rfl (bSl rfl rfl uT35 tZ3 tS3 rfl rfl rfl rfl (fbk rfl) rfl) ?_
  refine cE rfl (bSl rfl rfl uT35 tZ3 tS3 rfl rfl rfl rfl (fbk rfl) rfl) <| cV rfl (bPu rfl rfl tZ43 tP43 rfl (fbk rfl) rfl) <| cE rfl (bSl rfl rfl uT35 tZ3 tS3 rfl rfl rfl rfl (fbk rfl) rfl) <| cE rfl (bSl rfl rfl uT35 tZ3 tS3 rfl rfl rfl rfl (fbk rfl) rfl) <| cV rfl (bPu rfl rfl tZ43 tP43 rfl (fbk rfl) rfl) <| cE rfl (bSl rfl rfl uT35 tZ3 tS3 rfl rfl rfl rfl (fbk rfl) rfl) <| cE rfl (bSl rfl rfl uT35 tZ3 tS3 rfl rfl rfl rfl (fbk rfl) rfl) <| cV rfl (bPu rfl rfl tZ43 tP43 rfl (fbk rfl) rfl) <| cE rfl (bSl rfl rfl uT35 tZ3 tS3 rfl rfl rfl rfl (fbk rfl) rfl) <| cV rfl (bPu rfl rfl tZ43 tP43 rfl (fbk rfl) rfl) <| cE rfl (bSl rfl rfl uT44 tZ43 tS43 rfl rfl rfl rfl (fbk rfl) rfl) <| cE rfl (z0v (y4g [1, 1, 1] L) ent16 rfl rfl (sSm rfl (Subs.cons (fun _ _ _ _ h => z3c hL h) Subs.nil)) rfl) ?_
  refine cE rfl (z0v (hsc) ent11 rfl rfl (Subs.cons (fun _ _ _ _ h => z3c (PSub.agg (ps := [.val (.slice none 0 0), flws [⟨z0m, 1, 0, [1, 1, 1], L⟩]]) (qs := [.seq [], flws [⟨z0m, 1, 0, [1, 1, 1], L⟩]]) (And.intro PSub.nil (And.intro (PSub.refl _) trivial))) h) Subs.nil) rfl) <| sm 1 rfl <| cV rfl (z0g rfl rfl rfl) <| cV rfl (z0g rfl rfl rfl) <| cE rfl (aLc (k := 102) rfl tZ25 rfl rfl rfl rfl) <| c0 (sBA rfl rfl rfl rfl rfl ((fun h => h)) tS25 (flk rfl) (lb rfl)) <| sm 1 rfl <| nL <| tQ <| tG <| cV rfl (lBP rfl rfl rfl uT25 rfl tS25 (lb rfl) rfl trivial) <| cE rfl (bSl rfl rfl uT35 tZ3 tS3 rfl rfl rfl rfl (fbk rfl) rfl) ?_
  refine cE rfl (ocq (sc_run0 V hVa hVW hVz [3] 4 20 r hr) ent17 rfl rfl) <| cE rfl (aLc (k := 104) rfl tZ46 rfl rfl rfl rfl) <| c0 (sBA rfl rfl rfl rfl rfl ((fun h => h)) tS46 (flk rfl) (lb rfl)) <| nL <| tQ <| tG <| sm 3 rfl ?_
  refine wS 33 rfl (fun hb33 => ?_) fun hb33 => ?_
  ·refine sm 2 rfl <| yV rfl rfl (oSm uT23 rfl) <| sm 3 rfl ?_
   refine wS 39 rfl (fun hb39 => ?_) fun hb39 => ?_
   ·refine yV rfl rfl (lBP rfl rfl rfl uT25 rfl tS25 (lb rfl) rfl trivial) <| WL.yes rfl rfl rfl rfl rfl rfl (z0v (y0i V) ent12 rfl rfl (sRf _ _) rfl) <| sm 2 rfl ?_
    refine wS 43 rfl (fun hb43 => ?_) fun hb43 => ?_
    ·refine sm 5 rfl ?_
     refine wS 48 rfl (fun hb48 => ?_) fun hb48 => ?_
     ·refine sm 5 rfl <| nL <| tQ <| tG <| cV rfl (bPu rfl rfl tZ25 tP25 rfl (fbk rfl) rfl) <| cE rfl (z0v (hse) ent11 rfl rfl (Subs.cons (fun _ _ _ _ h => z9j h) Subs.nil) rfl) <| sm 1 rfl <| cV rfl (z0g rfl rfl rfl) <| cV rfl (z0g rfl rfl rfl) <| cE rfl (aLc (k := 106) rfl tZ25 rfl rfl rfl rfl) <| c0 (sBA rfl rfl rfl rfl rfl ((fun h => h)) tS25 (flk rfl) (lb rfl)) <| sm 1 rfl ?_
      refine nL <| tQ <| tG <| sm 3 rfl ?_
      refine wS 60 rfl (fun hb60 => ?_) fun hb60 => ?_
      ·refine sm 3 rfl <| nL <| tRt <| rOk rfl ?_ nPo
       rw [h2]
       rfl
      exact Bool.noConfusion (show true = false from hb60)
     rw [h1] at hb48
     cases hb48
    rw [hVr] at hb43
    cases hb43
   simp [hVl] at hb39
  exact Bool.noConfusion (show true = false from hb33)
theorem sc_awake : SC Tryz.prog 7 [] [] (fun _ => False) (iBool true) [] := by
  obtain ⟨r, hr, h1, h2⟩ := wake_run
  have hc := z7p z83
  exact y3u wakeL wake_sub (z3k stB zp1) (z3z stB z83) zi7 rfl rfl (by have := zl6 zp1; rw [z3z stB z83] at this; exact this) (by have := z97 stB zl0 zp1; rw [z3z stB z83] at this; exact Nat.le_trans this zi7) (by rw [hc]) r hr h1 h2
section
section
variable (l : List UInt8)
theorem y0m (kind op n : Int) (name : ByteArray) (seen ins outs : List Int) (g : Gn) : wtN (z2a l kind op n name seen ins outs g).1 = ins.length + outs.length + name.size := by
  rw [wtN_eq]
  show (z2g l seen ins g).1.length + (z0u outs _).1.length + 0 + name.size + 0 = _
  rw [(z2c l seen ins g).2, (z2k outs _).2]
  omega
theorem y4y (seen : List Int) (g : Gn) : wtN (z10 l seen g).1 <= 4 := by
  unfold z10
  simp only
  have hn : z1c.size = 0 := rfl
  have ha : zw0.size = 1 := rfl
  have hf : z8d.size = 1 := rfl
  repeat' split
  all_goals (rw [y0m]; simp only [List.length_cons, List.length_nil, hn, ha, hf]; omega)
theorem wt_end (seen : List Int) (p : Plc) (hp : p.small) (g : Gn) : wtN (gEnd l seen p g).1 <= 2 := by
  obtain ⟨h1, h2, h3⟩ := hp
  unfold gEnd
  simp only
  have hn : z1c.size = 0 := rfl
  repeat' split
  all_goals (rw [y0m]; simp only [List.length_cons, List.length_nil, hn]; omega)
def y20 (N : Nat) (rec : GRec) : Prop := ∀ seen p g, p.small -> wtL (rec seen p g).1 <= N /\ (rec seen p g).1.length <= 6
theorem y4x (x : List Int -> Nd) (t : List Int) (ht : t.length <= 2) (g : Gn) (N : Nat) (hx : ∀ o, wtN (x o) = o.length + N) : wtN (zj1 x t g).1 <= N + 2 := by
  unfold zj1
  split
  ·rw [hx]; simp
  rw [hx, (z2k t g).2]; omega
theorem wt_if {N : Nat} {rec : GRec} (hr : y20 N rec) (all : List Int) (p : Plc) (hp : p.small) (g : Gn) : wtN (gIf l rec all p g).1 <= 2 * N + 20 := by
  unfold gIf
  simp only
  obtain ⟨_, h2⟩ := z3d l g
  have hsm : Plc.small ⟨true, p.Loop, (z0w l g).1, p.Next, p.Left⟩ := ⟨h2, hp.2.1, hp.2.2⟩
  refine Nat.le_trans (y4x _ _ h2 _ (1 + (1 + ((rec all ⟨true, p.Loop, (z0w l g).1, p.Next, p.Left⟩ (z2g l all [2] (z0w l g).2).2).1.length + wtL (rec all ⟨true, p.Loop, (z0w l g).1, p.Next, p.Left⟩ (z2g l all [2] (z0w l g).2).2).1) + (1 + ((rec all ⟨true, p.Loop, (z0w l g).1, p.Next, p.Left⟩ (rec all ⟨true, p.Loop, (z0w l g).1, p.Next, p.Left⟩ (z2g l all [2] (z0w l g).2).2).2).1.length + wtL (rec all ⟨true, p.Loop, (z0w l g).1, p.Next, p.Left⟩ (rec all ⟨true, p.Loop, (z0w l g).1, p.Next, p.Left⟩ (z2g l all [2] (z0w l g).2).2).2).1)))) fun o => ?_) ?_
  ·simp only [wtN, wtK, (z2c l all [2] (z0w l g).2).2, show z1c.size = 0 from rfl, List.length_cons, List.length_nil]
   omega
  have h3 := hr all _ (z2g l all [2] (z0w l g).2).2 hsm
  have h4 := hr all _ (rec all ⟨true, p.Loop, (z0w l g).1, p.Next, p.Left⟩ (z2g l all [2] (z0w l g).2).2).2 hsm
  omega
theorem wt_loop {N : Nat} {rec : GRec} (hr : y20 N rec) (all : List Int) (g : Gn) : wtN (y0t l rec all g).1 <= 2 * N + 20 := by
  unfold y0t
  simp only
  obtain ⟨_, h2⟩ := z3d l g
  obtain ⟨_, h4⟩ := z3d l (z0w l g).2
  generalize hA : z2g l all (z0w l g).1 (z0w l (z0w l g).2).2 = A
  have hAl : A.1.length <= 2 := by rw [<- hA, (z2c l all _ _).2]; exact h2
  generalize hQ : z0u (z0w l g).1 A.2 = Q
  have hQl : Q.1.length <= 2 := by rw [<- hQ, (z2k _ _).2]; exact h2
  have h5 := hr (all ++ Q.1) ⟨false, true, [], (z0w l g).1, (z0w l (z0w l g).2).1⟩ Q.2 ⟨by simp, h2, h4⟩
  generalize hB : rec (all ++ Q.1) ⟨false, true, [], (z0w l g).1, (z0w l (z0w l g).2).1⟩ Q.2 = B at h5
  refine Nat.le_trans (y4x _ _ h4 _ (A.1.length + Q.1.length + (1 + (B.1.length + wtL B.1))) fun o => ?_) ?_
  ·simp only [wtN, wtK, show z1c.size = 0 from rfl]
   omega
  omega
theorem wt_any {N : Nat} {rec : Option GRec} (hr : ∀ r, rec = some r -> y20 N r) (all : List Int) (p : Plc) (hp : p.small) (g : Gn) : wtN (gAny l rec all p g).1 <= 2 * N + 20 := by
  have hs := y4y l all { g with left := g.left - 1 }
  unfold gAny
  simp only
  cases rec with
  | none => exact Nat.le_trans hs oM0
  | some r =>
    simp only
    split
    ·exact wt_if l (hr r rfl) all p hp _
    split
    ·exact wt_loop l (hr r rfl) all _
    exact Nat.le_trans hs oM0
theorem zp2 {N : Nat} {rec : Option GRec} (hr : ∀ r, rec = some r -> y20 N r) (p : Plc) (hp : p.small) : ∀ (i : Nat) (out : List Nd) (all : List Int) (g : Gn), wtL (z3o l rec p i out all g).1 <= wtL out + (i + 1) * (2 * N + 20)
  | 0, out, all, g => by
    have := wt_end l all p hp g
    simp only [z3o, z8q, wtL]
    omega
  | i + 1, out, all, g => by
    have he := wt_end l all p hp g
    have hx := wt_any l hr all p hp g
    have e : (i + 1 + 1) * (2 * N + 20) = (i + 1) * (2 * N + 20) + (2 * N + 20) := Nat.succ_mul _ _
    unfold z3o
    split
    ·simp only [z8q, wtL]; omega
    simp only
    split
    ·simp only [z8q, wtL]; omega
    have := zp2 hr p hp i (out ++ [(gAny l rec all p g).1]) (all ++ (gAny l rec all p g).1.outs) (gAny l rec all p g).2
    simp only [z8q, wtL] at this ⊢
    omega
def zj8 : Nat -> Nat
  | 0 => 120
  | d + 1 => 6 * (2 * zj8 d + 20)
theorem y1z (d : Nat) : zj8 (d + 1) = 6 * (2 * zj8 d + 20) := rfl
theorem wt_gList (d : Nat) : y20 (zj8 d) (z3i l d) := by
  induction d with
  | zero =>
    intro seen p g hp
    refine ⟨?_, ze4 l 0 seen p g⟩
    have h6 : (z01 l 6 g).1 < 6 := z2x oM0
    have := zp2 l (N := 0) (rec := none) (fun r h => by cases h) p hp (z01 l 6 g).1 [] seen (z01 l 6 g).2
    rw [zc1]
    show wtL (z3o l none p (z01 l 6 g).1 [] seen (z01 l 6 g).2).1 <= zj8 0
    generalize wtL (z3o l none p (z01 l 6 g).1 [] seen (z01 l 6 g).2).1 = z at this
    generalize (z01 l 6 g).1 = k at *
    have e : zj8 0 = 120 := rfl
    simp only [wtL, Nat.zero_add, Nat.mul_zero] at this
    rw [e]
    omega
  | succ d ih =>
    intro seen p g hp
    refine ⟨?_, ze4 l (d + 1) seen p g⟩
    have h6 : (z01 l 6 g).1 < 6 := z2x oM0
    have := zp2 l (N := zj8 d) (rec := some (z3i l d)) (fun r h => by cases h; exact ih) p hp (z01 l 6 g).1 [] seen (z01 l 6 g).2
    rw [zc1]
    rw [show gRec l (d + 1) = some (z3i l d) from rfl, y1z]
    generalize wtL (z3o l (some (z3i l d)) p (z01 l 6 g).1 [] seen (z01 l 6 g).2).1 = z at this
    generalize (z01 l 6 g).1 = k at *
    generalize zj8 d = m at *
    have h7 : (k + 1) * (2 * m + 20) <= 6 * (2 * m + 20) := Nat.mul_le_mul_right _ oM0
    simp only [wtL, Nat.zero_add] at this
    exact Nat.le_trans this h7
theorem y4w (name : ByteArray) (params : List Int) (hp : params.length <= 10) (g : Gn) : (z3h l name params g).1.types.length <= 1000 /\ z49 (z3h l name params g).1.body <= 1000000 := by
  have hs : plc0.small := ⟨by simp [plc0], by simp [plc0], by simp [plc0]⟩
  have hS := (z2k params { g with types := [], left := 30 }).1
  generalize hB : (z0e 2 (z0e 1 (z0u params { g with types := [], left := 30 }).2).2).2 = B
  generalize hE : (z0u params { g with types := [], left := 30 }).1 ++ [(z0e 1 (z0u params { g with types := [], left := 30 }).2).1, (z0e 2 (z0e 1 (z0u params { g with types := [], left := 30 }).2).2).1] = E
  have h1 : B.types.length = params.length + 2 := by rw [<- hB, hS]; simp [z0e]
  have h2 : B.left = 30 := by rw [<- hB, hS]; rfl
  have hb := (z6e l 3 E plc0 B hs).t2
  have hw := wt_gList l 3 E plc0 B hs
  have e : z3h l name params g = (⟨name, 1, params.length, (z3i l 3 E plc0 B).2.types, zk3 (z0e 1 (z0u params { g with types := [], left := 30 }).2).1 (z0e 2 (z0e 1 (z0u params { g with types := [], left := 30 }).2).2).1 ++ (z3i l 3 E plc0 B).1⟩, (z3i l 3 E plc0 B).2) := by
    unfold z3h
    simp only [hB, hE]
  rw [e]
  refine ⟨by simp only; omega, ?_⟩
  simp only [z49, List.length_append, z8q]
  have h3 : wtL (zk3 (z0e 1 (z0u params { g with types := [], left := 30 }).2).1 (z0e 2 (z0e 1 (z0u params { g with types := [], left := 30 }).2).2).1) = 2 := rfl
  have h4 : (zk3 (z0e 1 (z0u params { g with types := [], left := 30 }).2).1 (z0e 2 (z0e 1 (z0u params { g with types := [], left := 30 }).2).2).1).length = 2 := rfl
  have h5 : zj8 3 <= 500000 := by simp only [zj8]; omega
  omega
theorem wt_made : z1v (made l) <= 536870912 := by
  have h1 := y4w l z0m [] sI0 ⟨0, [], 0⟩
  have h2 := y4w l z8d [1, 2] sI0 (z3h l z0m [] ⟨0, [], 0⟩).2
  have e1 : (z3h l z0m [] ⟨0, [], 0⟩).1.name.size = 4 := rfl
  have e2 : (z3h l z8d [1, 2] (z3h l z0m [] ⟨0, [], 0⟩).2).1.name.size = 1 := rfl
  have e3 : zw0.size = 1 := rfl
  simp only [z1v, made, wtA, wtF, List.length_cons, List.length_nil, e1, e2, e3]
  omega
end
end
theorem zx8 (l : List UInt8) : SC Tryz.prog 4 [.pv (bts l)] [] (fun _ => False) (iBool true) [] := by
  refine SC.of Tryz.func4 rfl (lb rfl) fun F ρ w => ?_
  have hW := wt_made l
  refine tQ <| tG <| sm 1 rfl <| nL <| tQ <| tG <| sm 1 rfl <| cE rfl (ocq (sc_made l) ent10 rfl rfl) <| cE rfl (aLc (k := 103) rfl tZ25 rfl rfl rfl rfl) <| c0 (sBA rfl rfl rfl rfl rfl ((fun h => h)) tS25 (flk rfl) (lb rfl)) <| nL <| tQ ?_
  refine tG <| cV rfl (lBP rfl rfl rfl uT25 rfl tS25 (lb rfl) rfl trivial) <| cE rfl (ocq (zn8 (made l) hW z82) ent11 rfl rfl) <| sm 1 rfl <| cV rfl (z0g rfl rfl rfl) <| cV rfl (z0g rfl rfl rfl) <| cE rfl (aLc (k := 104) rfl tZ25 rfl rfl rfl rfl) <| c0 (sBA rfl rfl rfl rfl rfl ((fun h => h)) tS25 (flk rfl) (lb rfl)) <| sm 1 rfl <| nL <| tQ <| tG ?_
  refine cE rfl (ocq (sc_awake) ent7 rfl rfl) <| sm 1 rfl ?_
  refine wS 14 rfl (fun hb14 => ?_) fun hb14 => ?_
  ·refine yV rfl rfl (lBP rfl rfl rfl uT25 rfl tS25 (lb rfl) rfl trivial) <| WL.yes rfl rfl rfl rfl rfl rfl (z0v (sc_fits (made l) hW) ent9 rfl rfl (sRf _ _) rfl) <| sm 2 rfl ?_
   refine wS 18 rfl (fun hb18 => ?_) fun hb18 => ?_
   ·refine yV rfl rfl (lBP rfl rfl rfl uT25 rfl tS25 (lb rfl) rfl trivial) <| WL.yes rfl rfl rfl rfl rfl rfl (z0v (y0i (z25 stB (made l)).1) ent12 rfl rfl (sRf _ _) rfl) <| sm 2 rfl <| nL <| tRt <| rOk rfl ?_ nPo
    rw [zl6]
   exact Bool.noConfusion (show true = false from hb18)
  exact Bool.noConfusion (show true = false from hb14)
section
open Go Go.ChangeShapes Go.WideShapes Go.ChangeAt Go.RowKit
section
variable {H : Type} {enc : TypeId × Value -> H} {P : Program} {w : World} {base : Nat} {spare : Nat -> Bool} {held : Bool}
def RepEl (own : Nat -> Prop) (w : World) (ps : List PV) (cs : List Value) : Prop := ps.length = cs.length /\ ∀ (j : Nat) p v, ps[j]? = some p -> cs[j]? = some v -> RepP own w p v
theorem RepEl.nil {own : Nat -> Prop} : RepEl own w [] [] := ⟨rfl, fun j p v h => by simp at h⟩
theorem RepEl.cons {own : Nat -> Prop} {p : PV} {v : Value} {ps : List PV} {cs : List Value} (h : RepP own w p v) (hr : RepEl own w ps cs) : RepEl own w (p :: ps) (v :: cs) := by
  refine ⟨by simp [hr.1], fun j q x hq hx => ?_⟩
  cases j with
  | zero => simp at hq hx; subst hq; subst hx; exact h
  | succ j => exact hr.2 j q x (by simpa using hq) (by simpa using hx)
theorem zj9 {α : Type} (f : α -> List PV) (wt : α -> Nat) {own : Nat -> Prop} (R : Nat -> DataW H × List MemPlace -> List Value -> Prop)
    (hR : ∀ i y cs, R i y cs -> ∃ z : α, RepEl own w (f z) cs /\ wt z + 1 <= Rows.uptoBulk y.1) :
    ∀ (ys : List (DataW H × List MemPlace)) (s : Nat), (∀ i y, ys[i]? = some y -> ∃ cs, R (s + i) y cs) ->
      ∃ l : List α, l.length = ys.length /\ (∀ i z, l[i]? = some z -> ∃ y cs, ys[i]? = some y /\ R (s + i) y cs /\ RepEl own w (f z) cs) /\ (l.map wt).sum + l.length <= Rows.uptoBulkAll (ys.map (·.1))
  | [], _, _ => ⟨[], rfl, fun i z h => by simp at h, by simp [Rows.uptoBulkAll]⟩
  | y :: ys, s, h => by
    obtain ⟨cs, hcs⟩ := h 0 y rfl
    obtain ⟨z, hz, hw⟩ := hR _ _ _ hcs
    obtain ⟨l, hl, hg, hb⟩ := zj9 f wt R hR ys (s + 1) (fun i y' hy => by
      have := h (i + 1) y' (by simpa using hy)
      rwa [show s + 1 + i = s + (i + 1) by omega])
    refine ⟨z :: l, by simp [hl], fun i z' hz' => ?_, ?_⟩
    ·cases i with
     | zero => simp at hz'; subst hz'; exact ⟨y, cs, rfl, hcs, hz⟩
     | succ i =>
       obtain ⟨y', cs', h1, h2, h3⟩ := hg i z' (by simpa using hz')
       exact ⟨y', cs', by simpa using h1, by rwa [show s + (i + 1) = s + 1 + i by omega], h3⟩
    simp only [List.map_cons, List.sum_cons, List.length_cons, Rows.uptoBulkAll]; omega
theorem y4r {α : Type} (f : α -> List PV) (wt : α -> Nat) {own : Nat -> Prop} (hown : ∀ b, b < w.heap.size -> ¬ own b) {t e : TypeId} {fuel : Nat} {cs : List Value} {x : DataW H × List MemPlace} {N : Nat} (ht : P.underlying t = some (.slice e)) (hC : P.cellsOf e = N) (hN : 0 < N)
    (h : DataW.trod enc P w base spare held fuel t cs = some x)
    (hel : ∀ n cs' y, n < fuel -> cs'.length = N -> DataW.trod enc P w base spare held n e cs' = some y -> ∃ z : α, RepEl own w (f z) cs' /\ wt z + 1 <= Rows.uptoBulk y.1) :
    ∃ (l : List α) (v : Value), cs = [v] /\ RepP own w (.seq (l.map f)) v /\ (l.map wt).sum + l.length + 1 <= Rows.uptoBulk x.1 := by
  rcases DataW.trod_slice ht h with ⟨rfl, rfl⟩ | ⟨a, len, cap, elems, rest, n, rfl, rfl, rfl, hb, hl, hm, hlen, hg, _, _⟩
  ·refine ⟨[], _, rfl, ?_, by simp [Rows.uptoBulk]⟩
   have := RepP.seq (own := own) (w := w) [] none 0 0 0 (fun _ _ => default) (fun h => absurd rfl h) (fun h => absurd rfl h) (Nat.le_refl _) (Nat.zero_le _) (fun i el h => by simp at h) (fun i el h => by simp at h)
   simpa using this
  obtain ⟨l, hll, hat, hsum⟩ := zj9 (w := w) f wt (own := own) (fun i y cs => w.cells? base (a.add (i * P.cellsOf e)) (P.cellsOf e) = some cs /\ DataW.trod enc P w base spare held n e cs = some y)
    (fun i y cs' hr => hel n cs' y (Nat.lt_succ_self _) (by rw [(World.cells?_some hr.1).2.1, hC]) hr.2) elems 0 (fun i y hy => by
      have hlt : i < len := by rw [<- hlen]; exact (List.getElem?_eq_some_iff.1 hy).1
      have h1 := hg i hlt
      rw [hy, Option.bind_eq_some_iff] at h1
      obtain ⟨cs', h2, h3⟩ := h1
      exact ⟨cs', by rw [Nat.zero_add]; exact h2, h3⟩)
  obtain ⟨ab, ao, asp⟩ := a
  have hlen2 : l.length = len := by rw [hll, hlen]
  -- a cell that can be read
  have hsp : l ≠ [] -> asp = none /\ ab < w.heap.size := by
    intro hne
    obtain ⟨z, r, rfl⟩ := List.exists_cons_of_ne_nil hne
    obtain ⟨y, cs', _, hr, hrep⟩ := hat 0 z rfl
    obtain ⟨_, hcl, hcell⟩ := World.cells?_some hr.1
    have h0 := hcell 0 (by rw [hC]; exact hN)
    have hlt : 0 < cs'.length := by rw [hcl, hC]; exact hN
    rw [List.getElem?_eq_getElem hlt] at h0
    unfold World.cell? at h0
    have e0 : (Addr.add (Addr.add ⟨ab, ao, asp⟩ ((0 + 0) * P.cellsOf e)) 0) = ⟨ab, ao, asp⟩ := by simp [Addr.add]
    rw [e0] at h0
    split at h0
    ·rename_i hh
     refine ⟨?_, (Array.getElem?_eq_some_iff.1 hh).1⟩
     cases asp with
     | none => rfl
     | some _ => simp at h0
    cases h0
  refine ⟨l, _, rfl, ?_, ?_⟩
  ·-- the cells of an element
   have key : ∀ i z, l[i]? = some z -> ∃ cs', RepEl own w (f z) cs' /\ cs'.length = N /\ ∀ j, j < N -> w.cell? ⟨ab, ao + i * N + j, none⟩ = cs'[j]? := by
     intro i z hz
     obtain ⟨y, cs', _, hr, hrep⟩ := hat i z hz
     obtain ⟨_, hcl, hcell⟩ := World.cells?_some hr.1
     refine ⟨cs', hrep, hcl.trans hC, fun j hj => ?_⟩
     have h1 := hcell j (by rw [hC]; exact hj)
     have hne : l ≠ [] := by intro e; subst e; simp at hz
     have hs := (hsp hne).1
     subst hs
     rw [<- h1, Addr.add_mid, Addr.add_mid, hC, Nat.zero_add]
   have hrep := RepP.seq (own := own) (w := w) (l.map f) (some ⟨ab, ao, asp⟩) cap ab ao (fun i j => (w.cell? ⟨ab, ao + i * N + j, none⟩).getD default)
     (fun hne => by rw [(hsp (by intro e; subst e; exact hne rfl)).1]) (fun hne => by
       have := (hsp (by intro e; subst e; exact hne rfl)).2
       exact ⟨hown _ this, this⟩) (by simp; omega) hm ?_ ?_
   ·rw [List.length_map, hlen2] at hrep; exact hrep
   ·intro i el hi j c hj
    rw [List.getElem?_map, Option.map_eq_some_iff] at hi
    obtain ⟨z, hz, rfl⟩ := hi
    obtain ⟨cs', hrep, hcl, hcell⟩ := key i z hz
    have hjN : j < N := by have := (List.getElem?_eq_some_iff.1 hj).1; rw [hrep.1, hcl] at this; exact this
    have h1 := hcell j hjN
    have hfl : (f z).length = N := by rw [hrep.1, hcl]
    rw [hfl, h1, List.getElem?_eq_getElem oM0]
    rfl
   intro i el hi j c hj
   rw [List.getElem?_map, Option.map_eq_some_iff] at hi
   obtain ⟨z, hz, rfl⟩ := hi
   obtain ⟨cs', hrep, hcl, hcell⟩ := key i z hz
   have hjN : j < N := by have := (List.getElem?_eq_some_iff.1 hj).1; rw [hrep.1, hcl] at this; exact this
   have h1 := hcell j hjN
   rw [List.getElem?_eq_getElem oM0] at h1
   rw [h1]
   exact hrep.2 j c _ hj (List.getElem?_eq_getElem oM0)
  simp only [Rows.uptoBulk]; omega
end
end
section
open Go Go.ChangeShapes Go.WideShapes Go.ChangeAt Go.RowKit Go.Deep
theorem Tryz.own : ownKnob Tryz.prog.godebug = none := by kernel_rfl
theorem Tryz.laidOut : laidOutB Tryz.prog = true := by kernel_rfl
section
variable {H : Type} {enc : TypeId × Value -> H} {P : Program}
theorem y3t {W W' : World} {p : MemPlace} (h : W'.heap[p.block]? = W.heap[p.block]?) : W.sameAt W' p := by
  cases p <;> simp_all [World.sameAt, MemPlace.block, World.cell?]
theorem z9g (hl : laidOutB P = true) {W W' : World} (hb : ∀ b, b < W.heap.size -> W'.heap[b]? = W.heap[b]?) : ∀ (ts : List TypeId) (vs : List Value) (ds : List (DataW H)) (ps : List MemPlace),
    (∀ t ∈ ts, P.readableRec t = true /\ t < P.types.size) -> DataW.TrodAll enc P W 0 (fun _ => true) true ts vs ds ps -> (∀ x ∈ ps, x.block < W.heap.size) ->
    DataW.TrodAll enc P W' 0 (fun b => decide (b < W.heap.size)) true ts vs ds ps
  | [], vs, ds, ps, _, h, _ => by
    obtain ⟨rfl, rfl, rfl⟩ := trodAll_nil h
    exact trodAll_mk0
  | t :: ts, vs, ds, ps, hr, h, hp => by
    obtain ⟨v, vs', d, ds', p, q, rfl, rfl, rfl, h1, h2⟩ := trodAll_cons h
    have ht := hr t (.head _)
    refine ⟨p, q, ?_, z9g hl hb ts vs' ds' q (fun t' h' => hr t' (.tail _ h')) h2 (fun x hx => hp x (List.mem_append_right _ hx)), rfl⟩
    refine WideElems.Trod_stays hl ht.1 ht.2 h1 (fun x hx => ?_) (fun x hx => by simpa using hp x (List.mem_append_left _ hx))
    exact y3t (hb _ (hp x (List.mem_append_left _ hx)))
theorem y0v {W W' : World} (may : MemPlace -> Prop) (hos : W'.os = W.os) (hout : W'.output = W.output) (hb : ∀ b, b < W.heap.size -> W'.heap[b]? = W.heap[b]?) : W.keptBut W' may := by
  refine ⟨hos, hout, fun i hi => ?_⟩
  rw [hb i hi]
  rcases h : W.heap[i]? with _ | o
  ·trivial
  cases o with
  | cells c t fr => exact ⟨rfl, rfl, rfl, fun _ _ => rfl⟩
  | map es clock => exact .inr ⟨rfl, rfl⟩
  | _ => rfl
theorem y3j {f : Func} {s : ChangeSpec} {apart fresh handsOn : Bool} {W W' : World} {args : Array Value} {ds gs : List (DataW H)} {before : List MemPlace} {tb : TypeId} (hl : laidOutB P = true) (hv0 : s.vars = [])
    (hW : DataW.Whole enc P f.params.toList s.vars apart W args.toList ds gs before) (hrd : ∀ t ∈ f.params.toList, P.readableRec t = true /\ t < P.types.size) (hres : f.resultTypes = #[tb]) (htb : P.underlying tb = some .bool)
    (hs : s.fn H (ds ++ gs) = { results := [.lit (.bool true)], args := ds }) (hos : W'.os = W.os) (hout : W'.output = W.output) (hb : ∀ b, b < W.heap.size -> W'.heap[b]? = W.heap[b]?) :
    s.post enc P f apart fresh handsOn false W args (.bool true) W' := by
  have hlt := hW.lt
  have hW' := hW
  obtain ⟨p, q, hA, hV, rfl, _, _⟩ := hW
  refine ⟨ds, gs, p ++ q, [], p, [], hW', ?_, ?_, ?_, y0v _ hos hout hb, fun h => by cases h⟩
  ·rw [hs, hres]
   exact trodAll_mk1 ⟨1, by simp [DataW.trod, htb, Value.cells]⟩
  ·rw [hs]
   exact z9g hl hb _ _ _ _ hrd hA (fun x hx => hlt x (List.mem_append_left _ hx))
  rw [hs, hv0]
  exact rfl
end
theorem y3p {W : World} : RelH (fun _ => False) (fun _ => none) (look (up [])) W where
  inj _ _ _ _ _ h := by cases h
  apart _ _ _ h := by cases h
  old _ h := h.elim
  obj _ _ _ h := by cases h
  real _ _ h := by cases h
theorem y29 {P : Program} {f : FuncId} {args : List IV} {R : Nat -> Prop} (hsc : SC P f args [] R (iBool true) []) {W : World} {vs : List Value} (hr : RepL (fun _ => False) (fun _ => none) (look (up [])) W args vs) :
    Calls P f vs.toArray W fun e W' => e = .returned (.bool true) /\ W'.os = W.os /\ W'.output = W.output /\ ∀ b, b < W.heap.size -> W'.heap[b]? = W.heap[b]? := by
  refine (hsc (fun _ => False) (fun _ => none) W vs y3p hr).mono ?_
  rintro e W' ⟨ρ', v, rfl, hv, _, t⟩
  refine ⟨?_, t.os, t.output, fun b hb => t.blk b hb fun k c h => by cases h⟩
  cases hv with
  | pv _ _ hp => cases hp; rfl
theorem own_none {b : Nat} : ¬ owned (fun _ => False) (fun _ => none) b := by
  rintro (h | ⟨_, _, h⟩)
  ·exact h
  cases h
end
section
open Go Go.ChangeShapes Go.WideShapes Go.ChangeAt Go.RowKit Go.Deep
theorem repL_one {x : IV} {v : Value} {F : Nat -> Prop} {ρ : Loc} {σ : Heap'} {w : World} (h : RepI F ρ σ w x v) : RepL F ρ σ w [x] [v] := by
  refine ⟨rfl, fun j y hj => ?_⟩
  cases j with
  | zero => simp at hj; subst hj; exact ⟨v, rfl, h⟩
  | succ j => simp at hj
end
section
open Go Go.ChangeShapes Go.WideShapes Go.ChangeAt Go.RowKit Go.Deep
section
variable {H : Type} {enc : TypeId × Value -> H} {P : Program} {w : World} {base : Nat} {spare : Nat -> Bool} {held : Bool}
theorem y1x {own : Nat -> Prop} (hown : ∀ b, b < w.heap.size -> ¬ own b) {t e : TypeId} {fuel : Nat} {cs : List Value} {x : DataW H × List MemPlace} (ht : P.underlying t = some (.slice e)) (he : P.underlying e = some (.int .u8)) (hC : P.cellsOf e = 1)
    (h : DataW.trod enc P w base spare held fuel t cs = some x) : ∃ (l : List UInt8) (v : Value), cs = [v] /\ RepP own w (bts l) v := by
  obtain ⟨l, v, h1, h2, _⟩ := y4r eB (fun _ => 0) hown ht hC dC0 h (fun n cs' y _ _ hy => by
    obtain ⟨k, rfl, rfl, hk⟩ := DataW.trod_int he hy
    have hr : 0 <= k /\ k <= 255 := by
      simp [Lit.wf, IntKind.min, IntKind.max, IntKind.bits, IntKind.signed] at hk
      omega
    refine ⟨UInt8.ofNat k.toNat, ?_, by simp [Rows.uptoBulk]⟩
    have e : ((UInt8.ofNat k.toNat).toNat : Int) = k := by
      rw [UInt8.toNat_ofNat_of_lt' (by simp [UInt8.size]; omega)]
      omega
    unfold eB
    rw [e]
    exact RepEl.cons (.val _) .nil)
  exact ⟨l, v, h1, h2⟩
end
set_option maxRecDepth 100000 in
theorem y15 {H : Type} {enc : TypeId × Value -> H} {W : World} {base b0 : Nat} {spare : Nat -> Bool} {held : Bool} {r : Reach} {v : Value} {d : DataW H} {p : List MemPlace} (hv : Value.okWide Tryz.prog W r b0 29 v)
    (h : DataW.Trod enc Tryz.prog W base spare held 29 v d p) : ∃ l : List UInt8, RepI (fun _ => False) (fun _ => none) (look (up [])) W (.pv (bts l)) v := by
  obtain ⟨a, len, cap, rfl⟩ := okWide_slice Tryz.underlying29 hv
  obtain ⟨fuel, hf⟩ := h
  obtain ⟨l, v', h1, h2⟩ := y1x (own := owned (fun _ => False) (fun _ => none)) (fun _ _ => own_none) Tryz.underlying29 Tryz.underlying5 kR0 hf
  have e : (Value.slice a len cap).cells.toList = [Value.slice a len cap] := rfl
  rw [e] at h1
  cases h1
  exact ⟨l, .pv _ _ h2⟩
set_option maxRecDepth 100000 in
theorem zg9 (hsc : ∀ l : List UInt8, SC Tryz.prog 4 [.pv (bts l)] [] (fun _ => False) (iBool true) []) (os : Os) (started : os.Started) (H : Type) (enc : TypeId × Value -> H) :
    ReturnsInHanded {} Tryz.checked os 4 .any (Rows.sameGoodSpec.pre6 enc Tryz.prog Tryz.f4 Rows.sameGoodRow.domain false) (Rows.sameGoodSpec.post enc Tryz.prog Tryz.f4 false true false false) := by
  refine returnsInHanded_of_change (C := Tryz.checked) Tryz.own started kR0 Tryz.func4
    (ChangeSpec.witness6 (enc := enc) (C := Tryz.checked) false ⟨#[], #[.slice none 0 0], []⟩ 8 kR0 kR0 kR0 kR0) ?_
  intro W base args ds gs before hval hW _ _
  have hW' := hW
  obtain ⟨p, q, hA0, hV, rfl, hfz, hnd⟩ := hW
  have hA : DataW.TrodAll enc Tryz.prog W 0 (fun _ => true) true Tryz.f4.params.toList args.toList ds p := hA0
  rw [Tryz.params4] at hA hval
  obtain ⟨v0, vs0, d0, ds0, p0, q0, hargs, rfl, rfl, h0, r0⟩ := trodAll_cons hA
  obtain ⟨rfl, rfl, rfl⟩ := trodAll_nil r0
  obtain rfl : args = #[v0] := by cases args; simp_all
  obtain ⟨rfl, rfl⟩ := trodVars_none hV
  obtain ⟨l, hu⟩ := y15 (hval 0 29 v0 rfl rfl) h0
  refine (y29 (hsc l) (repL_one hu)).mono ?_
  rintro e W' ⟨rfl, hos, hout, hbl⟩
  exact ⟨_, rfl, y3j Tryz.laidOut rfl hW' (fun t ht => by
    rw [Tryz.params4] at ht
    obtain rfl : t = 29 := by simpa using ht
    exact ⟨by kernel_rfl, of_decide_eq_true kR0⟩) kR0 Tryz.underlying4 rfl hos hout hbl⟩
set_option maxRecDepth 100000 in
theorem zx7 (hsc : ∀ l : List UInt8, SC Tryz.prog 4 [.pv (bts l)] [] (fun _ => False) (iBool true) []) : Rows.SameGoodSaid :=
  OpenClaim.holds_of_wide 4 Tryz.f4 rfl rfl rfl rfl rfl rfl rfl ⟨rfl, rfl, rfl, rfl, rfl⟩ rfl rfl rfl rfl rfl kR0 Tryz.func4 kR0
    (of_decide_eq_true kR0) (by unfold Func.isWrapper; first | (rw [if_pos (by decide +kernel)]; kernel_rfl) | (rw [if_neg (by decide +kernel)]; exact ⟨rfl, rfl⟩))
    (fun os started H enc _ => zg9 hsc os started H enc)
end
theorem sameGood_holds : Rows.SameGoodSaid := zx7 fun l => zx8 l
end Go.Proofs.YthbcibeddfacbaaGreat
