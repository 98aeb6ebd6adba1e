/- Units by numbers: the same unit gives the same by same, each time, and what comes out may be given again. Conditions: none beyond those of the given statement. -/
import Derived.Test.YthbcibeddfacbaaGreatSs5
set_option maxRecDepth 8000
set_option maxHeartbeats 2000000
set_option linter.unusedSimpArgs false
set_option linter.unusedVariables false
set_option linter.unusedSectionVars false
namespace Go.Proofs.YthbcibeddfacbaaGreat
open Go
theorem zq1 (N : Nat) : ∀ (l : List Nd) (tb : Tb) (to : TT) (hok : zb1 l = true) (hb : lsW l <= 1073741824), SizeOf.sizeOf l < N -> SC Tryz.prog 23 [tV, .pv (z0g l)] (tH tb to) (fun _ => False) (.pv (z0g (z0s tb to l).1)) (tH (z0s tb to l).2.1 (z0s tb to l).2.2) := by
  induction N with
  | zero => intro l tb to hok hb hN; exact absurd hN (Nat.not_lt_zero _)
  | succ N ih =>
    intro l tb to hok hb hN
    refine SC.of Tryz.func23 rfl (lb rfl) fun F ρ w => ?_
    refine Tr.lenOf (t := 1) rfl (fun hl => ?_)
    simp only [List.length_map] at hl
    refine tQ <| tG <| cE rfl (z5l (k := 102) rfl rfl rfl rfl rfl rfl rfl) <| sm 1 rfl <| nL <| tQ <| tQ <| Tr.grow (t := 4) (k := 104) ⟨43, 8⟩ rfl rfl rfl rfl rfl <| tG <| sm 1 rfl <| cV rfl (oSm uT44 rfl) <| sm 1 rfl ?_
    refine nL <| tBk <| Tr.sub (Sub.of (fr' := [(12, iInt 0), (11, iInt l.length), (10, .pv (z0g l)), (4, .sl 104 (([] : List Nd).map Nd.enc).length), (2, .ptr 102 0)]) ⟨rfl, rfl, rfl, rfl, rfl, trivial⟩) ?_
    refine Tr.loop (fun fr σ m => ∃ (k : Nat) (out : List Nd) (tb2 : Tb) (to2 : TT), (k <= l.length) /\ ((out ++ (z0s tb2 to2 (l.drop k)).1, (z0s tb2 to2 (l.drop k)).2) = z0s tb to l) /\ fr = [(12, iInt k), (11, iInt l.length), (10, .pv (z0g l)), (4, .sl 104 (out.map Nd.enc).length), (2, .ptr 102 0)] /\ σ = look [(104, some (.row ⟨43, 8⟩ (out.map Nd.enc))), (102, some (.box [.mp 3001, .mp 3002, .mp 3003])), (3001, some (.map (kyEs tb2.seen))), (3002, some (.map (inEs tb2.nums))), (3003, some (.map (inEs to2)))] /\ m = l.length - k) (n := l.length - 0) ?_ ?_
    ·exact ⟨0, ([] : List Nd), tb, to, Nat.zero_le _, rfl, rfl, rfl, rfl⟩
    ·rintro fr σ m ⟨k, out, tb2, to2, hI0, hI1, rfl, rfl, rfl⟩
     refine tQ <| tG <| sm 1 rfl <| nL <| tQ ?_
     refine tC rfl (fun hc13 => ?_) fun hc13 => ?_
     ·have hlt : k < l.length := by simpa using hc13
      have hd := List.drop_eq_getElem_cons hlt
      have hm := List.getElem_mem hlt
      have hi := z2r (List.getElem?_eq_getElem hlt)
      generalize l[k] = x at hd hm hi
      have hxok := zx7 hok hm
      rw [y1i] at hxok
      simp only [Bool.and_eq_true] at hxok
      have hlen1 := z88 l tb to
      have hlen2 := ls_len l
      have hol : out.length + (z05 tb2 to2 x).1.length <= 1073741824 := by
        have := congrArg (fun p => p.1.length) hI1
        rw [hd] at this
        simp only [z0s, List.length_append] at this
        omega
      have hWx := z96 x
      have hWl := zo9 hm
      have hkl : x.kids.length <= 1073741824 := by
        have := kd_len x.kids; omega
      have hml : (out.map Nd.enc).length = out.length := by simp
      refine tSk <| tQ <| tBk <| tQ <| tG <| cV rfl (iSq rfl rfl rfl uT44 hi tS43 rfl (by rfl)) <| cV rfl (lEA rfl rfl uT43 rfl tS43 (lb rfl)) <| cE rfl (aLc (k := 106) rfl tZ43 rfl rfl rfl rfl) <| c0 (sBA rfl rfl rfl rfl rfl ((fun h => h)) tS43 (flk rfl) (lb rfl)) <| nL <| tQ <| tG ?_
      refine cV rfl (z1q rfl rfl rfl Tryz.underlying62 rfl tS62 (lb rfl) trivial) <| sm 2 rfl <| cE rfl (ocr (y5p x.args tb2 to2 oM0) ent39 rfl (po3 rfl rfl rfl) rfl nf rfl rfl) <| sm 1 rfl <| c0 (sBx rfl rfl rfl rfl ((fun h => h)) tS35 (rfl) (lb rfl)) <| nL <| tQ <| tG <| sm 1 rfl <| nL <| tQ <| tQ ?_
      refine Tr.grow (t := 7) (k := 107) ⟨44, 1⟩ rfl rfl rfl rfl rfl <| tG <| sm 2 rfl <| cV rfl (oSm uT41 rfl) <| sm 1 rfl <| nL <| tBk <| Tr.sub (Sub.of (fr' := [(24, iInt 0), (23, iInt x.kids.length), (22, .pv (kids x.kids)), (7, .sl 107 (([] : List (List Nd)).map eKid).length), (6, .ptr 106 0), (4, .sl 104 (out.map Nd.enc).length), (2, .ptr 102 0), (12, iInt k), (11, iInt l.length), (10, .pv (z0g l))]) ⟨rfl, rfl, rfl, rfl, rfl, rfl, rfl, rfl, rfl, rfl, trivial⟩) ?_
      refine Tr.heap (σ' := look [(107, some (.row ⟨44, 1⟩ (([] : List (List Nd)).map eKid))), (106, some (.box [iInt x.kind, iInt x.op, iInt x.n, iStr x.name, .pv (ints (x.args.map (z29 to2))), .pv (ints x.outs), .pv (ints x.params), .pv (kids x.kids)])), (104, some (.row ⟨43, 8⟩ (out.map Nd.enc))), (102, some (.box [.mp 3001, .mp 3002, .mp 3003])), (3001, some (.map (kyEs tb2.seen))), (3002, some (.map (inEs tb2.nums))), (3003, some (.map (inEs to2)))]) (by
  intro j
  try simp only [look]
  by_cases h107 : 107 = j
  · subst h107; rfl
  · by_cases h106 : 106 = j
    · subst h106; rfl
    · by_cases h104 : 104 = j
      · subst h104; rfl
      · by_cases h102 : 102 = j
        · subst h102; rfl
        · by_cases h3001 : 3001 = j
          · subst h3001; rfl
          · by_cases h3002 : 3002 = j
            · subst h3002; rfl
            · by_cases h3003 : 3003 = j
              · subst h3003; rfl
              · simp [tH, look, up, z00 h107, z00 h106, z00 h104, z00 h102, z00 h3001, z00 h3002, z00 h3003]) ?_
      refine Tr.loop (fun fr σ m => ∃ (i : Nat) (acc : List (List Nd)) (to3 : TT), (i <= x.kids.length) /\ ((acc ++ (z0o tb2 to3 (x.kids.drop i)).1, (z0o tb2 to3 (x.kids.drop i)).2) = z0o tb2 to2 x.kids) /\ (acc.length = i) /\ fr = [(24, iInt i), (23, iInt x.kids.length), (22, .pv (kids x.kids)), (7, .sl 107 (acc.map eKid).length), (6, .ptr 106 0), (4, .sl 104 (out.map Nd.enc).length), (2, .ptr 102 0), (12, iInt k), (11, iInt l.length), (10, .pv (z0g l))] /\ σ = look [(107, some (.row ⟨44, 1⟩ (acc.map eKid))), (106, some (.box [iInt x.kind, iInt x.op, iInt x.n, iStr x.name, .pv (ints (x.args.map (z29 to2))), .pv (ints x.outs), .pv (ints x.params), .pv (kids x.kids)])), (104, some (.row ⟨43, 8⟩ (out.map Nd.enc))), (102, some (.box [.mp 3001, .mp 3002, .mp 3003])), (3001, some (.map (kyEs tb2.seen))), (3002, some (.map (inEs tb2.nums))), (3003, some (.map (inEs to3)))] /\ m = x.kids.length - i) (n := x.kids.length - 0) ?_ ?_
      ·exact ⟨0, ([] : List (List Nd)), to2, Nat.zero_le _, rfl, rfl, rfl, rfl, rfl⟩
      rintro fr σ m ⟨i, acc, to3, hJ0, hJ1, hJ2, rfl, rfl, rfl⟩
      refine tQ <| tG <| sm 1 rfl <| nL <| tQ ?_
      refine tC rfl (fun hc25 => ?_) fun hc25 => ?_
      ·have hlt2 : i < x.kids.length := by simpa using hc25
       have hd2 := List.drop_eq_getElem_cons hlt2
       have hm2 := List.getElem_mem hlt2
       have hi2 := z0i (f := eKid) (List.getElem?_eq_getElem hlt2)
       generalize x.kids[i] = q at hd2 hm2 hi2
       have hdec : SizeOf.sizeOf q < N := Nat.lt_of_lt_of_le (z7j hm rfl hm2) (Nat.le_of_lt_succ hN)
       have hqok := zx6 hxok.2 hm2
       have hqb : lsW q <= 1073741824 := by have := z9u hm2; omega
       have hal : (acc.map eKid).length = acc.length := by simp
       have hsw : SC Tryz.prog 23 [.agg [.mp 3101, .mp 3102, .mp 3003], .pv (z0g q)] [(3101, .map (kyEs tb2.seen)), (3102, .map (inEs tb2.nums)), (3003, .map (inEs to3))] (fun _ => False) (.pv (z0g (z0s tb2 to3 q).1)) [(3101, .map (kyEs (z0s tb2 to3 q).2.1.seen)), (3102, .map (inEs (z0s tb2 to3 q).2.1.nums)), (3003, .map (inEs (z0s tb2 to3 q).2.2))] := SC.sw 3001 3101 (SC.sw 3002 3102 (ih q tb2 to3 hqok hqb hdec))
       refine tSk <| tQ <| tBk <| tQ <| tG <| cV rfl (iSq rfl rfl rfl uT41 hi2 tS44 rfl (by rfl)) <| sm 2 rfl <| nL <| tG <| sm 1 rfl <| cV rfl (z1q rfl rfl rfl Tryz.underlying62 rfl tS62 (lb rfl) trivial) <| cE rfl (y4n (ns := [3101, 3102]) (sc_stKid tb2 to3) ent40 rfl rfl (sRf _ _) (po3 rfl rfl rfl) rfl (mem2 rfl rfl) (mem2 rfl rfl) (mem2 rfl rfl) (mem2 rfl rfl) (fun k (h : _) => (show False from h).elim) rfl (by rfl)) ?_
       refine sm 1 rfl <| cE rfl (ocr (hsw) ent23 rfl (po3 rfl rfl rfl) rfl (fun k (h : _) => .inr h) rfl rfl) <| cE rfl (bSl rfl rfl uT41 tZ44 tS44 rfl rfl rfl rfl (fbk rfl) rfl) ?_
       refine cE rfl (aPp rfl rfl rfl rfl (by rfl) ((fun h => h)) uT41 tB44 dC0 (by (simp [z03]; done)) (by (simp [z03, PV.one]; rfl)) (by simp [maxLen, z03]; omega) (by simp [z03]; omega)) ?_
       refine sm 1 rfl <| nL <| Tr.drop (k := 3101) <| Tr.drop (k := 3102) ?_
       refine Tr.heap (σ' := look [(107, some (.row ⟨44, 1⟩ ((acc ++ [(z0s tb2 to3 q).1]).map eKid))), (106, some (.box [iInt x.kind, iInt x.op, iInt x.n, iStr x.name, .pv (ints (x.args.map (z29 to2))), .pv (ints x.outs), .pv (ints x.params), .pv (kids x.kids)])), (104, some (.row ⟨43, 8⟩ (out.map Nd.enc))), (102, some (.box [.mp 3001, .mp 3002, .mp 3003])), (3001, some (.map (kyEs tb2.seen))), (3002, some (.map (inEs tb2.nums))), (3003, some (.map (inEs (z0s tb2 to3 q).2.2)))]) (by
         rw [List.map_append]
         intro j
         try simp only [look]
         by_cases h3102 : 3102 = j
         · subst h3102; rfl
         · by_cases h3101 : 3101 = j
           · subst h3101; rfl
           · by_cases h107 : 107 = j
             · subst h107; rfl
             · by_cases h106 : 106 = j
               · subst h106; rfl
               · by_cases h104 : 104 = j
                 · subst h104; rfl
                 · by_cases h102 : 102 = j
                   · subst h102; rfl
                   · by_cases h3001 : 3001 = j
                     · subst h3001; rfl
                     · by_cases h3002 : 3002 = j
                       · subst h3002; rfl
                       · by_cases h3003 : 3003 = j
                         · subst h3003; rfl
                         · simp [tH, look, up, z00 h3102, z00 h3101, z00 h107, z00 h106, z00 h104, z00 h102, z00 h3001, z00 h3002, z00 h3003]) ?_
       refine tG <| cV rfl (oB rfl rfl (z0b rfl oM0)) <| sm 1 rfl <| nL ?_
       refine ⟨_, _, ?_, Sub.of (fr' := [(24, iInt (i + 1)), (23, iInt x.kids.length), (22, .pv (kids x.kids)), (7, .sl 107 ((acc ++ [(z0s tb2 to3 q).1]).map eKid).length), (6, .ptr 106 0), (4, .sl 104 (out.map Nd.enc).length), (2, .ptr 102 0), (12, iInt k), (11, iInt l.length), (10, .pv (z0g l))]) ⟨rfl, rfl, rfl, congrArg (fun z => some (IV.sl _ z)) (by rw [List.map_append]; simp [z03]), rfl, rfl, rfl, rfl, rfl, rfl, trivial⟩, (i + 1), (acc ++ [(z0s tb2 to3 q).1]), (z0s tb2 to3 q).2.2, ?_, ?_, ?_, rfl, rfl, rfl⟩
       ·omega
       ·omega
       ·rw [<- hJ1, hd2]
        simp only [z0o, List.append_assoc, List.singleton_append]
       simp [hJ2]
      refine tEx <| tQ ?_
      have hks : (acc, to3) = z0o tb2 to2 x.kids := by
        have := hJ1
        rw [List.drop_eq_nil_of_le (by simpa using hc25)] at this
        simpa [z0o] using this
      have hks1 : acc = (z0o tb2 to2 x.kids).1 := congrArg Prod.fst hks
      have hks2 : to3 = (z0o tb2 to2 x.kids).2 := congrArg Prod.snd hks
      clear hks hJ1
      subst hks1
      subst hks2
      refine tG <| sm 2 rfl <| c0 (sBx rfl rfl rfl rfl ((fun h => h)) tS41 (⟨_, _, rfl, rfl⟩) (lb rfl)) <| nL <| tQ <| tQ <| Tr.freezeCell (k := 107) (k2 := 106) (j := 7) rfl (by rfl) rfl rfl dC0 ?_
      refine Tr.heap (σ' := look [(106, some (.box [iInt x.kind, iInt x.op, iInt x.n, iStr x.name, .pv (ints (x.args.map (z29 to2))), .pv (ints x.outs), .pv (ints x.params), .pv (kids (z0o tb2 to2 x.kids).1)])), (104, some (.row ⟨43, 8⟩ (out.map Nd.enc))), (102, some (.box [.mp 3001, .mp 3002, .mp 3003])), (3001, some (.map (kyEs tb2.seen))), (3002, some (.map (inEs tb2.nums))), (3003, some (.map (inEs (z0o tb2 to2 x.kids).2)))]) (by
        skip
        intro j
        try simp only [look]
        by_cases h107 : 107 = j
        · subst h107; rfl
        · by_cases h106 : 106 = j
          · subst h106; rfl
          · by_cases h104 : 104 = j
            · subst h104; rfl
            · by_cases h102 : 102 = j
              · subst h102; rfl
              · by_cases h3001 : 3001 = j
                · subst h3001; rfl
                · by_cases h3002 : 3002 = j
                  · subst h3002; rfl
                  · by_cases h3003 : 3003 = j
                    · subst h3003; rfl
                    · simp [tH, look, up, z00 h107, z00 h106, z00 h104, z00 h102, z00 h3001, z00 h3002, z00 h3003]) ?_
      refine tG <| sm 2 rfl <| nL <| tBk <| tQ <| tQ <| tG <| sm 2 rfl <| nL ?_
      refine tC rfl (fun hc40 => ?_) fun hc40 => ?_
      ·have hK : stK x.kind = true := by simp only [stK, hc40, Bool.or_true, Bool.true_or]
       have hno : (z13 tb2 to2 x).outs ≠ [] := by
         have h1 := hxok.1.1.1
         rw [hK] at h1
         intro e
         rw [show x.outs = [] from e] at h1
         cases h1
       have hn3' : (z13 tb2 to2 x).kind = 3 -> 0 < (z13 tb2 to2 x).args.length := fun e => by
         have h1 := hxok.1.1.2
         rw [show x.kind = 3 from e] at h1
         simp only [bne_self_eq_false, Bool.false_or, decide_eq_true_eq] at h1
         have h2 : (z13 tb2 to2 x).args.length = x.args.length := List.length_map _
         omega
       have hn4' : (z13 tb2 to2 x).kind = 4 -> 1 < (z13 tb2 to2 x).args.length := fun e => by
         have h1 := hxok.1.2
         rw [show x.kind = 4 from e] at h1
         simp only [bne_self_eq_false, Bool.false_or, decide_eq_true_eq] at h1
         have h2 : (z13 tb2 to2 x).args.length = x.args.length := List.length_map _
         omega
       have hN : z05 tb2 to2 x = (if (z24 tb2 (z0o tb2 to2 x.kids).2 (z13 tb2 to2 x)).1 then [z13 tb2 to2 x] else [], (z24 tb2 (z0o tb2 to2 x.kids).2 (z13 tb2 to2 x)).2) := by rw [z5q, hK]; rfl
       refine tSk ?_
       refine tC rfl (fun hd40 => ?_) fun hd40 => ?_
       ·refine tQ <| tG <| cV rfl (z1q rfl rfl rfl Tryz.underlying62 rfl tS62 (lb rfl) trivial) <| cV rfl (lBP rfl rfl rfl uT43 rfl tS43 (lb rfl) rfl trivial) <| cE rfl (ocr (z9g (z13 tb2 to2 x) tb2 (z0o tb2 to2 x.kids).2 hno hn3' hn4') ent41 rfl (po3 rfl rfl rfl) rfl (fun k (h : _) => .inr h) rfl rfl) <| sm 1 rfl <| nL ?_
        refine tC rfl (fun hc48 => ?_) fun hc48 => ?_
        ·have hPf : (z24 tb2 (z0o tb2 to2 x.kids).2 (z13 tb2 to2 x)).1 = false := by simpa using hc48
         have hN1 : (z05 tb2 to2 x).1 = [] := by rw [hN, hPf]; rfl
         refine tEx ?_
         have hNq : (z05 tb2 to2 x).2 = (z05 tb2 to2 x).2 := rfl
         refine Tr.drop (k := 106) ?_
         refine Tr.heap (σ' := look [(104, some (.row ⟨43, 8⟩ ((out ++ (z05 tb2 to2 x).1).map Nd.enc))), (102, some (.box [.mp 3001, .mp 3002, .mp 3003])), (3001, some (.map (kyEs (z05 tb2 to2 x).2.1.seen))), (3002, some (.map (inEs (z05 tb2 to2 x).2.1.nums))), (3003, some (.map (inEs (z05 tb2 to2 x).2.2)))]) (by
           rw [hN1, List.append_nil, hN]
           intro j
           try simp only [look]
           by_cases h106 : 106 = j
           · subst h106; rfl
           · by_cases h104 : 104 = j
             · subst h104; rfl
             · by_cases h102 : 102 = j
               · subst h102; rfl
               · by_cases h3001 : 3001 = j
                 · subst h3001; rfl
                 · by_cases h3002 : 3002 = j
                   · subst h3002; rfl
                   · by_cases h3003 : 3003 = j
                     · subst h3003; rfl
                     · simp [tH, look, up, z00 h106, z00 h104, z00 h102, z00 h3001, z00 h3002, z00 h3003]) ?_
         refine tG <| cV rfl (oB rfl rfl (z0b rfl oM0)) <| sm 1 rfl <| nL ?_
         refine ⟨_, _, ?_, Sub.of (fr' := [(12, iInt (k + 1)), (11, iInt l.length), (10, .pv (z0g l)), (4, .sl 104 ((out ++ (z05 tb2 to2 x).1).map Nd.enc).length), (2, .ptr 102 0)]) ⟨rfl, rfl, rfl, congrArg (fun z => some (IV.sl _ z)) (by rw [hN1]; simp [z03]), rfl, trivial⟩, (k + 1), (out ++ (z05 tb2 to2 x).1), (z05 tb2 to2 x).2.1, (z05 tb2 to2 x).2.2, ?_, ?_, rfl, rfl, rfl⟩
         ·omega
         ·omega
         rw [<- hI1, hd]
         simp only [z0s, List.append_assoc]
        have hPt : (z24 tb2 (z0o tb2 to2 x.kids).2 (z13 tb2 to2 x)).1 = true := by simpa using hc48
        have hN1 : (z05 tb2 to2 x).1 = [z13 tb2 to2 x] := by rw [hN, hPt]; rfl
        have hol2 : out.length + 1 <= 1073741824 := by rw [hN1] at hol; exact hol
        refine tSk <| tG <| sm 1 rfl <| cV rfl (lBP rfl rfl rfl uT43 rfl tS43 (lb rfl) rfl trivial) <| cE rfl (bSl rfl rfl uT44 tZ43 tS43 rfl rfl rfl rfl (fbk rfl) rfl) ?_
        refine cE rfl (aPp rfl rfl rfl rfl (by rfl) ((fun h => h)) uT44 tB43 dC0 (by (simp [z03]; done)) (z5h _ _ _ _ _ _ _ _) (by simp [maxLen, z03]; omega) (by simp [z03]; omega)) ?_
        refine sm 1 rfl <| nL ?_
        have hNq : (z05 tb2 to2 x).2 = (z05 tb2 to2 x).2 := rfl
        refine Tr.drop (k := 106) ?_
        refine Tr.heap (σ' := look [(104, some (.row ⟨43, 8⟩ ((out ++ (z05 tb2 to2 x).1).map Nd.enc))), (102, some (.box [.mp 3001, .mp 3002, .mp 3003])), (3001, some (.map (kyEs (z05 tb2 to2 x).2.1.seen))), (3002, some (.map (inEs (z05 tb2 to2 x).2.1.nums))), (3003, some (.map (inEs (z05 tb2 to2 x).2.2)))]) (by
          rw [hN1, z8w, hN]
          intro j
          try simp only [look]
          by_cases h106 : 106 = j
          · subst h106; rfl
          · by_cases h104 : 104 = j
            · subst h104; rfl
            · by_cases h102 : 102 = j
              · subst h102; rfl
              · by_cases h3001 : 3001 = j
                · subst h3001; rfl
                · by_cases h3002 : 3002 = j
                  · subst h3002; rfl
                  · by_cases h3003 : 3003 = j
                    · subst h3003; rfl
                    · simp [tH, look, up, z00 h106, z00 h104, z00 h102, z00 h3001, z00 h3002, z00 h3003]) ?_
        refine tG <| cV rfl (oB rfl rfl (z0b rfl oM0)) <| sm 1 rfl <| nL ?_
        refine ⟨_, _, ?_, Sub.of (fr' := [(12, iInt (k + 1)), (11, iInt l.length), (10, .pv (z0g l)), (4, .sl 104 ((out ++ (z05 tb2 to2 x).1).map Nd.enc).length), (2, .ptr 102 0)]) ⟨rfl, rfl, rfl, congrArg (fun z => some (IV.sl _ z)) (by rw [hN1]; simp [z03]), rfl, trivial⟩, (k + 1), (out ++ (z05 tb2 to2 x).1), (z05 tb2 to2 x).2.1, (z05 tb2 to2 x).2.2, ?_, ?_, rfl, rfl, rfl⟩
        ·omega
        ·omega
        rw [<- hI1, hd]
        simp only [z0s, List.append_assoc]
       exact absurd (hc40.symm.trans hd40) dC0
      refine tQ ?_
      have hn1 : (x.kind == 1) = false := hc40
      refine tG <| sm 2 rfl <| nL ?_
      refine tC rfl (fun hc40 => ?_) fun hc40 => ?_
      ·have hK : stK x.kind = true := by simp only [stK, hc40, Bool.or_true, Bool.true_or]
       have hno : (z13 tb2 to2 x).outs ≠ [] := by
         have h1 := hxok.1.1.1
         rw [hK] at h1
         intro e
         rw [show x.outs = [] from e] at h1
         cases h1
       have hn3' : (z13 tb2 to2 x).kind = 3 -> 0 < (z13 tb2 to2 x).args.length := fun e => by
         have h1 := hxok.1.1.2
         rw [show x.kind = 3 from e] at h1
         simp only [bne_self_eq_false, Bool.false_or, decide_eq_true_eq] at h1
         have h2 : (z13 tb2 to2 x).args.length = x.args.length := List.length_map _
         omega
       have hn4' : (z13 tb2 to2 x).kind = 4 -> 1 < (z13 tb2 to2 x).args.length := fun e => by
         have h1 := hxok.1.2
         rw [show x.kind = 4 from e] at h1
         simp only [bne_self_eq_false, Bool.false_or, decide_eq_true_eq] at h1
         have h2 : (z13 tb2 to2 x).args.length = x.args.length := List.length_map _
         omega
       have hN : z05 tb2 to2 x = (if (z24 tb2 (z0o tb2 to2 x.kids).2 (z13 tb2 to2 x)).1 then [z13 tb2 to2 x] else [], (z24 tb2 (z0o tb2 to2 x.kids).2 (z13 tb2 to2 x)).2) := by rw [z5q, hK]; rfl
       refine tSk ?_
       refine tC rfl (fun hd40 => ?_) fun hd40 => ?_
       ·refine tQ <| tG <| cV rfl (z1q rfl rfl rfl Tryz.underlying62 rfl tS62 (lb rfl) trivial) <| cV rfl (lBP rfl rfl rfl uT43 rfl tS43 (lb rfl) rfl trivial) <| cE rfl (ocr (z9g (z13 tb2 to2 x) tb2 (z0o tb2 to2 x.kids).2 hno hn3' hn4') ent41 rfl (po3 rfl rfl rfl) rfl (fun k (h : _) => .inr h) rfl rfl) <| sm 1 rfl <| nL ?_
        refine tC rfl (fun hc48 => ?_) fun hc48 => ?_
        ·have hPf : (z24 tb2 (z0o tb2 to2 x.kids).2 (z13 tb2 to2 x)).1 = false := by simpa using hc48
         have hN1 : (z05 tb2 to2 x).1 = [] := by rw [hN, hPf]; rfl
         refine tEx ?_
         have hNq : (z05 tb2 to2 x).2 = (z05 tb2 to2 x).2 := rfl
         refine Tr.drop (k := 106) ?_
         refine Tr.heap (σ' := look [(104, some (.row ⟨43, 8⟩ ((out ++ (z05 tb2 to2 x).1).map Nd.enc))), (102, some (.box [.mp 3001, .mp 3002, .mp 3003])), (3001, some (.map (kyEs (z05 tb2 to2 x).2.1.seen))), (3002, some (.map (inEs (z05 tb2 to2 x).2.1.nums))), (3003, some (.map (inEs (z05 tb2 to2 x).2.2)))]) (by
           rw [hN1, List.append_nil, hN]
           intro j
           try simp only [look]
           by_cases h106 : 106 = j
           · subst h106; rfl
           · by_cases h104 : 104 = j
             · subst h104; rfl
             · by_cases h102 : 102 = j
               · subst h102; rfl
               · by_cases h3001 : 3001 = j
                 · subst h3001; rfl
                 · by_cases h3002 : 3002 = j
                   · subst h3002; rfl
                   · by_cases h3003 : 3003 = j
                     · subst h3003; rfl
                     · simp [tH, look, up, z00 h106, z00 h104, z00 h102, z00 h3001, z00 h3002, z00 h3003]) ?_
         refine tG <| cV rfl (oB rfl rfl (z0b rfl oM0)) <| sm 1 rfl <| nL ?_
         refine ⟨_, _, ?_, Sub.of (fr' := [(12, iInt (k + 1)), (11, iInt l.length), (10, .pv (z0g l)), (4, .sl 104 ((out ++ (z05 tb2 to2 x).1).map Nd.enc).length), (2, .ptr 102 0)]) ⟨rfl, rfl, rfl, congrArg (fun z => some (IV.sl _ z)) (by rw [hN1]; simp [z03]), rfl, trivial⟩, (k + 1), (out ++ (z05 tb2 to2 x).1), (z05 tb2 to2 x).2.1, (z05 tb2 to2 x).2.2, ?_, ?_, rfl, rfl, rfl⟩
         ·omega
         ·omega
         rw [<- hI1, hd]
         simp only [z0s, List.append_assoc]
        have hPt : (z24 tb2 (z0o tb2 to2 x.kids).2 (z13 tb2 to2 x)).1 = true := by simpa using hc48
        have hN1 : (z05 tb2 to2 x).1 = [z13 tb2 to2 x] := by rw [hN, hPt]; rfl
        have hol2 : out.length + 1 <= 1073741824 := by rw [hN1] at hol; exact hol
        refine tSk <| tG <| sm 1 rfl <| cV rfl (lBP rfl rfl rfl uT43 rfl tS43 (lb rfl) rfl trivial) <| cE rfl (bSl rfl rfl uT44 tZ43 tS43 rfl rfl rfl rfl (fbk rfl) rfl) ?_
        refine cE rfl (aPp rfl rfl rfl rfl (by rfl) ((fun h => h)) uT44 tB43 dC0 (by (simp [z03]; done)) (z5h _ _ _ _ _ _ _ _) (by simp [maxLen, z03]; omega) (by simp [z03]; omega)) ?_
        refine sm 1 rfl <| nL ?_
        have hNq : (z05 tb2 to2 x).2 = (z05 tb2 to2 x).2 := rfl
        refine Tr.drop (k := 106) ?_
        refine Tr.heap (σ' := look [(104, some (.row ⟨43, 8⟩ ((out ++ (z05 tb2 to2 x).1).map Nd.enc))), (102, some (.box [.mp 3001, .mp 3002, .mp 3003])), (3001, some (.map (kyEs (z05 tb2 to2 x).2.1.seen))), (3002, some (.map (inEs (z05 tb2 to2 x).2.1.nums))), (3003, some (.map (inEs (z05 tb2 to2 x).2.2)))]) (by
          rw [hN1, z8w, hN]
          intro j
          try simp only [look]
          by_cases h106 : 106 = j
          · subst h106; rfl
          · by_cases h104 : 104 = j
            · subst h104; rfl
            · by_cases h102 : 102 = j
              · subst h102; rfl
              · by_cases h3001 : 3001 = j
                · subst h3001; rfl
                · by_cases h3002 : 3002 = j
                  · subst h3002; rfl
                  · by_cases h3003 : 3003 = j
                    · subst h3003; rfl
                    · simp [tH, look, up, z00 h106, z00 h104, z00 h102, z00 h3001, z00 h3002, z00 h3003]) ?_
        refine tG <| cV rfl (oB rfl rfl (z0b rfl oM0)) <| sm 1 rfl <| nL ?_
        refine ⟨_, _, ?_, Sub.of (fr' := [(12, iInt (k + 1)), (11, iInt l.length), (10, .pv (z0g l)), (4, .sl 104 ((out ++ (z05 tb2 to2 x).1).map Nd.enc).length), (2, .ptr 102 0)]) ⟨rfl, rfl, rfl, congrArg (fun z => some (IV.sl _ z)) (by rw [hN1]; simp [z03]), rfl, trivial⟩, (k + 1), (out ++ (z05 tb2 to2 x).1), (z05 tb2 to2 x).2.1, (z05 tb2 to2 x).2.2, ?_, ?_, rfl, rfl, rfl⟩
        ·omega
        ·omega
        rw [<- hI1, hd]
        simp only [z0s, List.append_assoc]
       exact absurd (hc40.symm.trans hd40) dC0
      refine tQ ?_
      have hn2 : (x.kind == 2) = false := hc40
      refine tG <| sm 2 rfl <| nL ?_
      refine tC rfl (fun hc40 => ?_) fun hc40 => ?_
      ·have hK : stK x.kind = true := by simp only [stK, hc40, Bool.or_true, Bool.true_or]
       have hno : (z13 tb2 to2 x).outs ≠ [] := by
         have h1 := hxok.1.1.1
         rw [hK] at h1
         intro e
         rw [show x.outs = [] from e] at h1
         cases h1
       have hn3' : (z13 tb2 to2 x).kind = 3 -> 0 < (z13 tb2 to2 x).args.length := fun e => by
         have h1 := hxok.1.1.2
         rw [show x.kind = 3 from e] at h1
         simp only [bne_self_eq_false, Bool.false_or, decide_eq_true_eq] at h1
         have h2 : (z13 tb2 to2 x).args.length = x.args.length := List.length_map _
         omega
       have hn4' : (z13 tb2 to2 x).kind = 4 -> 1 < (z13 tb2 to2 x).args.length := fun e => by
         have h1 := hxok.1.2
         rw [show x.kind = 4 from e] at h1
         simp only [bne_self_eq_false, Bool.false_or, decide_eq_true_eq] at h1
         have h2 : (z13 tb2 to2 x).args.length = x.args.length := List.length_map _
         omega
       have hN : z05 tb2 to2 x = (if (z24 tb2 (z0o tb2 to2 x.kids).2 (z13 tb2 to2 x)).1 then [z13 tb2 to2 x] else [], (z24 tb2 (z0o tb2 to2 x.kids).2 (z13 tb2 to2 x)).2) := by rw [z5q, hK]; rfl
       refine tSk ?_
       refine tC rfl (fun hd40 => ?_) fun hd40 => ?_
       ·refine tQ <| tG <| cV rfl (z1q rfl rfl rfl Tryz.underlying62 rfl tS62 (lb rfl) trivial) <| cV rfl (lBP rfl rfl rfl uT43 rfl tS43 (lb rfl) rfl trivial) <| cE rfl (ocr (z9g (z13 tb2 to2 x) tb2 (z0o tb2 to2 x.kids).2 hno hn3' hn4') ent41 rfl (po3 rfl rfl rfl) rfl (fun k (h : _) => .inr h) rfl rfl) <| sm 1 rfl <| nL ?_
        refine tC rfl (fun hc48 => ?_) fun hc48 => ?_
        ·have hPf : (z24 tb2 (z0o tb2 to2 x.kids).2 (z13 tb2 to2 x)).1 = false := by simpa using hc48
         have hN1 : (z05 tb2 to2 x).1 = [] := by rw [hN, hPf]; rfl
         refine tEx ?_
         have hNq : (z05 tb2 to2 x).2 = (z05 tb2 to2 x).2 := rfl
         refine Tr.drop (k := 106) ?_
         refine Tr.heap (σ' := look [(104, some (.row ⟨43, 8⟩ ((out ++ (z05 tb2 to2 x).1).map Nd.enc))), (102, some (.box [.mp 3001, .mp 3002, .mp 3003])), (3001, some (.map (kyEs (z05 tb2 to2 x).2.1.seen))), (3002, some (.map (inEs (z05 tb2 to2 x).2.1.nums))), (3003, some (.map (inEs (z05 tb2 to2 x).2.2)))]) (by
           rw [hN1, List.append_nil, hN]
           intro j
           try simp only [look]
           by_cases h106 : 106 = j
           · subst h106; rfl
           · by_cases h104 : 104 = j
             · subst h104; rfl
             · by_cases h102 : 102 = j
               · subst h102; rfl
               · by_cases h3001 : 3001 = j
                 · subst h3001; rfl
                 · by_cases h3002 : 3002 = j
                   · subst h3002; rfl
                   · by_cases h3003 : 3003 = j
                     · subst h3003; rfl
                     · simp [tH, look, up, z00 h106, z00 h104, z00 h102, z00 h3001, z00 h3002, z00 h3003]) ?_
         refine tG <| cV rfl (oB rfl rfl (z0b rfl oM0)) <| sm 1 rfl <| nL ?_
         refine ⟨_, _, ?_, Sub.of (fr' := [(12, iInt (k + 1)), (11, iInt l.length), (10, .pv (z0g l)), (4, .sl 104 ((out ++ (z05 tb2 to2 x).1).map Nd.enc).length), (2, .ptr 102 0)]) ⟨rfl, rfl, rfl, congrArg (fun z => some (IV.sl _ z)) (by rw [hN1]; simp [z03]), rfl, trivial⟩, (k + 1), (out ++ (z05 tb2 to2 x).1), (z05 tb2 to2 x).2.1, (z05 tb2 to2 x).2.2, ?_, ?_, rfl, rfl, rfl⟩
         ·omega
         ·omega
         rw [<- hI1, hd]
         simp only [z0s, List.append_assoc]
        have hPt : (z24 tb2 (z0o tb2 to2 x.kids).2 (z13 tb2 to2 x)).1 = true := by simpa using hc48
        have hN1 : (z05 tb2 to2 x).1 = [z13 tb2 to2 x] := by rw [hN, hPt]; rfl
        have hol2 : out.length + 1 <= 1073741824 := by rw [hN1] at hol; exact hol
        refine tSk <| tG <| sm 1 rfl <| cV rfl (lBP rfl rfl rfl uT43 rfl tS43 (lb rfl) rfl trivial) <| cE rfl (bSl rfl rfl uT44 tZ43 tS43 rfl rfl rfl rfl (fbk rfl) rfl) ?_
        refine cE rfl (aPp rfl rfl rfl rfl (by rfl) ((fun h => h)) uT44 tB43 dC0 (by (simp [z03]; done)) (z5h _ _ _ _ _ _ _ _) (by simp [maxLen, z03]; omega) (by simp [z03]; omega)) ?_
        refine sm 1 rfl <| nL ?_
        have hNq : (z05 tb2 to2 x).2 = (z05 tb2 to2 x).2 := rfl
        refine Tr.drop (k := 106) ?_
        refine Tr.heap (σ' := look [(104, some (.row ⟨43, 8⟩ ((out ++ (z05 tb2 to2 x).1).map Nd.enc))), (102, some (.box [.mp 3001, .mp 3002, .mp 3003])), (3001, some (.map (kyEs (z05 tb2 to2 x).2.1.seen))), (3002, some (.map (inEs (z05 tb2 to2 x).2.1.nums))), (3003, some (.map (inEs (z05 tb2 to2 x).2.2)))]) (by
          rw [hN1, z8w, hN]
          intro j
          try simp only [look]
          by_cases h106 : 106 = j
          · subst h106; rfl
          · by_cases h104 : 104 = j
            · subst h104; rfl
            · by_cases h102 : 102 = j
              · subst h102; rfl
              · by_cases h3001 : 3001 = j
                · subst h3001; rfl
                · by_cases h3002 : 3002 = j
                  · subst h3002; rfl
                  · by_cases h3003 : 3003 = j
                    · subst h3003; rfl
                    · simp [tH, look, up, z00 h106, z00 h104, z00 h102, z00 h3001, z00 h3002, z00 h3003]) ?_
        refine tG <| cV rfl (oB rfl rfl (z0b rfl oM0)) <| sm 1 rfl <| nL ?_
        refine ⟨_, _, ?_, Sub.of (fr' := [(12, iInt (k + 1)), (11, iInt l.length), (10, .pv (z0g l)), (4, .sl 104 ((out ++ (z05 tb2 to2 x).1).map Nd.enc).length), (2, .ptr 102 0)]) ⟨rfl, rfl, rfl, congrArg (fun z => some (IV.sl _ z)) (by rw [hN1]; simp [z03]), rfl, trivial⟩, (k + 1), (out ++ (z05 tb2 to2 x).1), (z05 tb2 to2 x).2.1, (z05 tb2 to2 x).2.2, ?_, ?_, rfl, rfl, rfl⟩
        ·omega
        ·omega
        rw [<- hI1, hd]
        simp only [z0s, List.append_assoc]
       exact absurd (hc40.symm.trans hd40) dC0
      have hn3 : (x.kind == 3) = false := hc40
      refine tG <| sm 2 rfl <| nL ?_
      refine tC rfl (fun hc40 => ?_) fun hc40 => ?_
      ·have hK : stK x.kind = true := by simp only [stK, hc40, Bool.or_true, Bool.true_or]
       have hno : (z13 tb2 to2 x).outs ≠ [] := by
         have h1 := hxok.1.1.1
         rw [hK] at h1
         intro e
         rw [show x.outs = [] from e] at h1
         cases h1
       have hn3' : (z13 tb2 to2 x).kind = 3 -> 0 < (z13 tb2 to2 x).args.length := fun e => by
         have h1 := hxok.1.1.2
         rw [show x.kind = 3 from e] at h1
         simp only [bne_self_eq_false, Bool.false_or, decide_eq_true_eq] at h1
         have h2 : (z13 tb2 to2 x).args.length = x.args.length := List.length_map _
         omega
       have hn4' : (z13 tb2 to2 x).kind = 4 -> 1 < (z13 tb2 to2 x).args.length := fun e => by
         have h1 := hxok.1.2
         rw [show x.kind = 4 from e] at h1
         simp only [bne_self_eq_false, Bool.false_or, decide_eq_true_eq] at h1
         have h2 : (z13 tb2 to2 x).args.length = x.args.length := List.length_map _
         omega
       have hN : z05 tb2 to2 x = (if (z24 tb2 (z0o tb2 to2 x.kids).2 (z13 tb2 to2 x)).1 then [z13 tb2 to2 x] else [], (z24 tb2 (z0o tb2 to2 x.kids).2 (z13 tb2 to2 x)).2) := by rw [z5q, hK]; rfl
       refine tQ <| tG <| cV rfl (z1q rfl rfl rfl Tryz.underlying62 rfl tS62 (lb rfl) trivial) <| cV rfl (lBP rfl rfl rfl uT43 rfl tS43 (lb rfl) rfl trivial) <| cE rfl (ocr (z9g (z13 tb2 to2 x) tb2 (z0o tb2 to2 x.kids).2 hno hn3' hn4') ent41 rfl (po3 rfl rfl rfl) rfl (fun k (h : _) => .inr h) rfl rfl) <| sm 1 rfl <| nL ?_
       refine tC rfl (fun hc48 => ?_) fun hc48 => ?_
       ·have hPf : (z24 tb2 (z0o tb2 to2 x.kids).2 (z13 tb2 to2 x)).1 = false := by simpa using hc48
        have hN1 : (z05 tb2 to2 x).1 = [] := by rw [hN, hPf]; rfl
        refine tEx ?_
        have hNq : (z05 tb2 to2 x).2 = (z05 tb2 to2 x).2 := rfl
        refine Tr.drop (k := 106) ?_
        refine Tr.heap (σ' := look [(104, some (.row ⟨43, 8⟩ ((out ++ (z05 tb2 to2 x).1).map Nd.enc))), (102, some (.box [.mp 3001, .mp 3002, .mp 3003])), (3001, some (.map (kyEs (z05 tb2 to2 x).2.1.seen))), (3002, some (.map (inEs (z05 tb2 to2 x).2.1.nums))), (3003, some (.map (inEs (z05 tb2 to2 x).2.2)))]) (by
          rw [hN1, List.append_nil, hN]
          intro j
          try simp only [look]
          by_cases h106 : 106 = j
          · subst h106; rfl
          · by_cases h104 : 104 = j
            · subst h104; rfl
            · by_cases h102 : 102 = j
              · subst h102; rfl
              · by_cases h3001 : 3001 = j
                · subst h3001; rfl
                · by_cases h3002 : 3002 = j
                  · subst h3002; rfl
                  · by_cases h3003 : 3003 = j
                    · subst h3003; rfl
                    · simp [tH, look, up, z00 h106, z00 h104, z00 h102, z00 h3001, z00 h3002, z00 h3003]) ?_
        refine tG <| cV rfl (oB rfl rfl (z0b rfl oM0)) <| sm 1 rfl <| nL ?_
        refine ⟨_, _, ?_, Sub.of (fr' := [(12, iInt (k + 1)), (11, iInt l.length), (10, .pv (z0g l)), (4, .sl 104 ((out ++ (z05 tb2 to2 x).1).map Nd.enc).length), (2, .ptr 102 0)]) ⟨rfl, rfl, rfl, congrArg (fun z => some (IV.sl _ z)) (by rw [hN1]; simp [z03]), rfl, trivial⟩, (k + 1), (out ++ (z05 tb2 to2 x).1), (z05 tb2 to2 x).2.1, (z05 tb2 to2 x).2.2, ?_, ?_, rfl, rfl, rfl⟩
        ·omega
        ·omega
        rw [<- hI1, hd]
        simp only [z0s, List.append_assoc]
       have hPt : (z24 tb2 (z0o tb2 to2 x.kids).2 (z13 tb2 to2 x)).1 = true := by simpa using hc48
       have hN1 : (z05 tb2 to2 x).1 = [z13 tb2 to2 x] := by rw [hN, hPt]; rfl
       have hol2 : out.length + 1 <= 1073741824 := by rw [hN1] at hol; exact hol
       refine tSk <| tG <| sm 1 rfl <| cV rfl (lBP rfl rfl rfl uT43 rfl tS43 (lb rfl) rfl trivial) <| cE rfl (bSl rfl rfl uT44 tZ43 tS43 rfl rfl rfl rfl (fbk rfl) rfl) ?_
       refine cE rfl (aPp rfl rfl rfl rfl (by rfl) ((fun h => h)) uT44 tB43 dC0 (by (simp [z03]; done)) (z5h _ _ _ _ _ _ _ _) (by simp [maxLen, z03]; omega) (by simp [z03]; omega)) ?_
       refine sm 1 rfl <| nL ?_
       have hNq : (z05 tb2 to2 x).2 = (z05 tb2 to2 x).2 := rfl
       refine Tr.drop (k := 106) ?_
       refine Tr.heap (σ' := look [(104, some (.row ⟨43, 8⟩ ((out ++ (z05 tb2 to2 x).1).map Nd.enc))), (102, some (.box [.mp 3001, .mp 3002, .mp 3003])), (3001, some (.map (kyEs (z05 tb2 to2 x).2.1.seen))), (3002, some (.map (inEs (z05 tb2 to2 x).2.1.nums))), (3003, some (.map (inEs (z05 tb2 to2 x).2.2)))]) (by
         rw [hN1, z8w, hN]
         intro j
         try simp only [look]
         by_cases h106 : 106 = j
         · subst h106; rfl
         · by_cases h104 : 104 = j
           · subst h104; rfl
           · by_cases h102 : 102 = j
             · subst h102; rfl
             · by_cases h3001 : 3001 = j
               · subst h3001; rfl
               · by_cases h3002 : 3002 = j
                 · subst h3002; rfl
                 · by_cases h3003 : 3003 = j
                   · subst h3003; rfl
                   · simp [tH, look, up, z00 h106, z00 h104, z00 h102, z00 h3001, z00 h3002, z00 h3003]) ?_
       refine tG <| cV rfl (oB rfl rfl (z0b rfl oM0)) <| sm 1 rfl <| nL ?_
       refine ⟨_, _, ?_, Sub.of (fr' := [(12, iInt (k + 1)), (11, iInt l.length), (10, .pv (z0g l)), (4, .sl 104 ((out ++ (z05 tb2 to2 x).1).map Nd.enc).length), (2, .ptr 102 0)]) ⟨rfl, rfl, rfl, congrArg (fun z => some (IV.sl _ z)) (by rw [hN1]; simp [z03]), rfl, trivial⟩, (k + 1), (out ++ (z05 tb2 to2 x).1), (z05 tb2 to2 x).2.1, (z05 tb2 to2 x).2.2, ?_, ?_, rfl, rfl, rfl⟩
       ·omega
       ·omega
       rw [<- hI1, hd]
       simp only [z0s, List.append_assoc]
      refine tSk ?_
      have hn4 : (x.kind == 4) = false := hc40
      have hK : stK x.kind = false := by simp only [stK, hn1, hn2, hn3, hn4]; rfl
      have hN : z05 tb2 to2 x = ([z13 tb2 to2 x], tb2, (z0o tb2 to2 x.kids).2) := zb0 _ _ _ hK
      have hN1 : (z05 tb2 to2 x).1 = [z13 tb2 to2 x] := by rw [hN]
      have hol2 : out.length + 1 <= 1073741824 := by rw [hN1] at hol; exact hol
      refine tG <| sm 1 rfl <| cV rfl (lBP rfl rfl rfl uT43 rfl tS43 (lb rfl) rfl trivial) <| cE rfl (bSl rfl rfl uT44 tZ43 tS43 rfl rfl rfl rfl (fbk rfl) rfl) ?_
      refine cE rfl (aPp rfl rfl rfl rfl (by rfl) ((fun h => h)) uT44 tB43 dC0 (by (simp [z03]; done)) (z5h _ _ _ _ _ _ _ _) (by simp [maxLen, z03]; omega) (by simp [z03]; omega)) ?_
      refine sm 1 rfl <| nL ?_
      have hNq : (z05 tb2 to2 x).2 = (z05 tb2 to2 x).2 := rfl
      refine Tr.drop (k := 106) ?_
      refine Tr.heap (σ' := look [(104, some (.row ⟨43, 8⟩ ((out ++ (z05 tb2 to2 x).1).map Nd.enc))), (102, some (.box [.mp 3001, .mp 3002, .mp 3003])), (3001, some (.map (kyEs (z05 tb2 to2 x).2.1.seen))), (3002, some (.map (inEs (z05 tb2 to2 x).2.1.nums))), (3003, some (.map (inEs (z05 tb2 to2 x).2.2)))]) (by
        rw [hN1, z8w, hN]
        intro j
        try simp only [look]
        by_cases h106 : 106 = j
        · subst h106; rfl
        · by_cases h104 : 104 = j
          · subst h104; rfl
          · by_cases h102 : 102 = j
            · subst h102; rfl
            · by_cases h3001 : 3001 = j
              · subst h3001; rfl
              · by_cases h3002 : 3002 = j
                · subst h3002; rfl
                · by_cases h3003 : 3003 = j
                  · subst h3003; rfl
                  · simp [tH, look, up, z00 h106, z00 h104, z00 h102, z00 h3001, z00 h3002, z00 h3003]) ?_
      refine tG <| cV rfl (oB rfl rfl (z0b rfl oM0)) <| sm 1 rfl <| nL ?_
      refine ⟨_, _, ?_, Sub.of (fr' := [(12, iInt (k + 1)), (11, iInt l.length), (10, .pv (z0g l)), (4, .sl 104 ((out ++ (z05 tb2 to2 x).1).map Nd.enc).length), (2, .ptr 102 0)]) ⟨rfl, rfl, rfl, congrArg (fun z => some (IV.sl _ z)) (by rw [hN1]; simp [z03]), rfl, trivial⟩, (k + 1), (out ++ (z05 tb2 to2 x).1), (z05 tb2 to2 x).2.1, (z05 tb2 to2 x).2.2, ?_, ?_, rfl, rfl, rfl⟩
      ·omega
      ·omega
      rw [<- hI1, hd]
      simp only [z0s, List.append_assoc]
     refine tEx <| tQ <| Tr.freeze (t := 4) (k := 104) rfl rfl sI0 <| tG <| sm 2 rfl <| nL <| tRt ?_
     have hge : l.length <= k := by simpa using hc13
     have he : z0s tb to l = (out, tb2, to2) := by
       rw [<- hI1, List.drop_eq_nil_of_le hge]
       simp [z0s]
     rw [he]
     refine rOk rfl rfl (po3 rfl rfl rfl)
theorem y5o (l : List Nd) (tb : Tb) (to : TT) (hok : zb1 l = true) (hb : lsW l <= 1073741824) : SC Tryz.prog 23 [tV, .pv (z0g l)] (tH tb to) (fun _ => False) (.pv (z0g (z0s tb to l).1)) (tH (z0s tb to l).2.1 (z0s tb to l).2.2) := zq1 _ l tb to hok hb (Nat.lt_succ_self _)
theorem zi4 (u : Un) (hW : z20 u <= 536870912) (hok : (z3z u).1 = 0 -> ∀ f ∈ u.flows, zb1 f.body = true) : SC Tryz.prog 11 [.pv u.enc] [] (fun _ => False) (.tup [.pv (z3r stB u).1.enc, iInt (z3r stB u).2]) [] := by
  refine SC.ofC2 Tryz.func11 rfl (lb rfl) rfl fun F ρ w => ?_
  have hW2 : z20 u = u.arrays.length + u.flows.length + wtA u.arrays + wtF u.flows := rfl
  refine tQ <| tG <| cE rfl (z1d rfl rfl) <| cE rfl (aLc (k := 102) rfl tZ25 rfl rfl rfl rfl) <| sm 1 rfl <| nL <| tQ <| tQ <| tG <| cV rfl (lEA rfl rfl uT25 rfl tS25 (lb rfl)) <| cE rfl (ocq (y2p u hW) ent22 rfl rfl) <| sm 1 rfl ?_
  refine cV rfl (z0h rfl rfl rfl) <| cV rfl (z0h rfl rfl rfl) <| sm 2 rfl <| nL <| tQ <| tG <| sm 2 rfl <| nL ?_
  refine tC rfl (fun hc15 => ?_) fun hc15 => ?_
  ·refine tQ <| tG <| cV rfl (bPu rfl rfl tZ25 tP25 rfl (fbk rfl) rfl) <| c0 (sBA rfl rfl rfl rfl rfl ((fun h => h)) tS25 (flk rfl) (lb rfl)) <| sm 1 rfl <| nL <| tRt ?_
   have hz : ((z3z u).1 == 0) = false := by simpa using hc15
   have hH : z3r stB u = (⟨[], []⟩, 1) := by simp [z3r, hz]
   rw [hH]
   exact ⟨⟨_, _, (fun _ _ ho => lBP ho rfl rfl uT25 rfl tS25 (lb rfl) rfl trivial), rfl, fun _ _ _ _ h => tup2_sub (fun _ h => zl5 h) h⟩, nPo⟩
  ·have hz : (z3z u).1 = 0 := by simpa using hc15
   have hH : z3r stB u = (z3q stB u, 0) := by simp [z3r, hz]
   refine tSk <| tQ <| tG <| sm 2 rfl <| cV rfl (bPu rfl rfl tZ25 tP25 rfl (fbk rfl) rfl) <| cE rfl (aLc (k := 106) rfl tZ25 rfl rfl rfl rfl) <| c0 (sBA rfl rfl rfl rfl rfl ((fun h => h)) tS25 (flk rfl) (lb rfl)) <| nL <| tQ <| tQ <| Tr.growCell (k := 199) (k2 := 106) (j := 1) ⟨51, 5⟩ rfl rfl rfl rfl rfl rfl <| tG ?_
   refine sm 2 rfl <| cV rfl (oSm uT23 rfl) <| sm 1 rfl <| nL <| tBk <| Tr.sub (Sub.of (fr' := [(23, iInt 0), (22, iInt u.flows.length), (21, .pv (flws u.flows)), (6, .ptr 106 0), (2, .ptr 102 0)]) ⟨rfl, rfl, rfl, rfl, rfl, trivial⟩) ?_
   refine Tr.heap (σ' := look [(106, some (.box [.pv (arrs u.arrays), .sl 199 (([] : List Fl).map Fl.enc).length])), (199, some (.row ⟨51, 5⟩ (([] : List Fl).map Fl.enc))), (102, some (.box [.pv (.val (.slice none 0 0)), .pv (.val (.slice none 0 0))]))]) (by
  intro j
  try simp only [look]
  by_cases h106 : 106 = j
  · subst h106; rfl
  · by_cases h199 : 199 = j
    · subst h199; rfl
    · by_cases h102 : 102 = j
      · subst h102; rfl
      · simp [tH, look, up, z00 h106, z00 h199, z00 h102]) ?_
   refine Tr.loop (fun fr σ m => ∃ (k : Nat) (out : List Fl), (k <= u.flows.length) /\ (out ++ (u.flows.drop k).map (z49 stB) = u.flows.map (z49 stB)) /\ (out.length = k) /\ fr = [(23, iInt k), (22, iInt u.flows.length), (21, .pv (flws u.flows)), (6, .ptr 106 0), (2, .ptr 102 0)] /\ σ = look [(106, some (.box [.pv (arrs u.arrays), .sl 199 (out.map Fl.enc).length])), (199, some (.row ⟨51, 5⟩ (out.map Fl.enc))), (102, some (.box [.pv (.val (.slice none 0 0)), .pv (.val (.slice none 0 0))]))] /\ m = u.flows.length - k) (n := u.flows.length - 0) ?_ ?_
   ·exact ⟨0, ([] : List Fl), Nat.zero_le _, rfl, rfl, rfl, rfl, rfl⟩
   rintro fr σ m ⟨k, out, hI0, hI1, hI2, rfl, rfl, rfl⟩
   refine tQ <| tG <| sm 1 rfl <| nL <| tQ ?_
   refine tC rfl (fun hc24 => ?_) fun hc24 => ?_
   ·have hlt : k < u.flows.length := by simpa using hc24
    have hd := List.drop_eq_getElem_cons hlt
    have hm := List.getElem_mem hlt
    have hi := z0i (f := Fl.enc) (List.getElem?_eq_getElem hlt)
    generalize u.flows[k] = x at hd hm hi
    have hxok := hok hz x hm
    have hxb : lsW x.body <= 1073741824 := by have := zo3 hW hm; omega
    have hol : (out.map Fl.enc).length = out.length := by simp
    refine tSk <| tQ <| tBk <| tQ <| tG <| cV rfl (iSq rfl rfl rfl uT23 hi tS51 rfl (by rfl)) <| cV rfl (lEA rfl rfl Tryz.underlying51 rfl tS51 (lb rfl)) <| cE rfl (aLc (k := 108) rfl tZ51 rfl rfl rfl rfl) <| c0 (sBA rfl rfl rfl rfl rfl ((fun h => h)) tS51 (flk rfl) (lb rfl)) <| nL <| tQ <| tG ?_
    refine cE rfl (z6c (k := 3001) rfl rfl rfl rfl rfl) <| cE rfl (z6c (k := 3002) rfl rfl rfl rfl rfl) <| cE rfl (z6c (k := 3003) rfl rfl rfl rfl rfl) <| cV rfl (z99 rfl rfl tZ62 tP62 rfl (z7h ⟨⟨_, rfl⟩, ⟨_, rfl⟩, ⟨_, rfl⟩, trivial⟩)) <| sm 2 rfl <| cE rfl (ocr (y5o x.body ⟨[], []⟩ [] hxok hxb) ent23 rfl (po3 rfl rfl rfl) rfl (fun k (h : _) => .inr h) rfl rfl) <| sm 1 rfl <| c0 (sBx rfl rfl rfl rfl ((fun h => h)) tS44 (rfl) (lb rfl)) <| nL <| tG <| sm 2 rfl <| cV rfl (lBP rfl rfl rfl Tryz.underlying51 rfl tS51 (lb rfl) rfl trivial) ?_
    refine cE rfl (bSl rfl rfl uT23 tZ51 tS51 rfl rfl rfl rfl (fbk rfl) rfl) ?_
    refine cE rfl (aPp rfl rfl rfl rfl (by rfl) ((fun h => h)) uT23 tB51 dC0 (by (simp [z03]; done)) (z1s _ _ _ _ _) (by simp [maxLen, z03]; omega) (by simp [z03]; omega)) ?_
    refine sm 1 rfl <| c0 (sBx rfl rfl rfl rfl ((fun h => h)) tS23 (⟨_, _, rfl, by simp⟩) (lb rfl)) <| nL <| Tr.drop (k := 108) <| Tr.drop (k := 3001) <| Tr.drop (k := 3002) <| Tr.drop (k := 3003) ?_
    refine Tr.heap (σ' := look [(106, some (.box [.pv (arrs u.arrays), .sl 199 ((out ++ [z49 stB x]).map Fl.enc).length])), (199, some (.row ⟨51, 5⟩ ((out ++ [z49 stB x]).map Fl.enc))), (102, some (.box [.pv (.val (.slice none 0 0)), .pv (.val (.slice none 0 0))]))]) (by
      rw [y3l, List.length_append]
      intro j
      try simp only [look]
      by_cases h3003 : 3003 = j
      · subst h3003; rfl
      · by_cases h3002 : 3002 = j
        · subst h3002; rfl
        · by_cases h3001 : 3001 = j
          · subst h3001; rfl
          · by_cases h108 : 108 = j
            · subst h108; rfl
            · by_cases h106 : 106 = j
              · subst h106; rfl
              · by_cases h199 : 199 = j
                · subst h199; rfl
                · by_cases h102 : 102 = j
                  · subst h102; rfl
                  · simp [tH, look, up, z00 h3003, z00 h3002, z00 h3001, z00 h108, z00 h106, z00 h199, z00 h102]) ?_
    refine tG <| cV rfl (oB rfl rfl (z0b rfl oM0)) <| sm 1 rfl <| nL ?_
    refine ⟨_, _, ?_, Sub.of (fr' := [(23, iInt (k + 1)), (22, iInt u.flows.length), (21, .pv (flws u.flows)), (6, .ptr 106 0), (2, .ptr 102 0)]) ⟨rfl, rfl, rfl, rfl, rfl, trivial⟩, (k + 1), (out ++ [z49 stB x]), ?_, ?_, ?_, rfl, rfl, rfl⟩
    ·omega
    ·omega
    ·rw [List.append_assoc, <- hI1, hd]; rfl
    simp [hI2]
   refine tEx <| tQ <| Tr.freezeCell (k := 199) (k2 := 106) (j := 1) rfl rfl rfl rfl dC0 <| tG <| cV rfl (lBP rfl rfl rfl uT25 rfl tS25 (lb rfl) rfl trivial) <| c0 (sBA rfl rfl rfl rfl rfl ((fun h => h)) tS25 (flk rfl) (lb rfl)) <| sm 1 rfl <| nL <| tRt <| retC2_ok (.inl rfl) (fun _ _ ho => lBP ho rfl rfl uT25 rfl tS25 (lb rfl) rfl trivial) rfl ?_ nPo
   have hge : u.flows.length <= k := by simpa using hc24
   have hout : out = u.flows.map (z49 stB) := by rw [<- hI1, List.drop_eq_nil_of_le hge]; simp
   rw [hH, hout]
   rfl
theorem sc_alike (a b : Nd) : SC Tryz.prog 42 [.pv (ndv a), .pv (ndv b)] [] (fun _ => False) (iBool (z2p a b)) [] := by
  refine SC.of Tryz.func42 rfl (lb rfl) fun F ρ w => ?_
  refine tQ <| tG <| cE rfl (z1d rfl rfl) <| cE rfl (z1d rfl rfl) <| sm 1 rfl <| nL <| tQ <| tQ <| tG <| sm 6 rfl ?_
  refine wS 11 rfl (fun hb11 => ?_) fun hb11 => ?_
  ·refine sm 27 rfl <| nL <| Tr.condT rfl <| tQ <| tG <| sm 1 rfl <| nL <| tRt <| rOk rfl ?_ nPo
   refine congrArg (fun b => iBool b) ?_
   symm
   simp_all [z2p]
  refine sm 7 rfl ?_
  refine wS 18 rfl (fun hb18 => ?_) fun hb18 => ?_
  ·refine sm 20 rfl <| nL <| Tr.condT rfl <| tQ <| tG <| sm 1 rfl <| nL <| tRt <| rOk rfl ?_ nPo
   refine congrArg (fun b => iBool b) ?_
   symm
   simp_all [z2p]
  refine sm 7 rfl ?_
  refine wS 25 rfl (fun hb25 => ?_) fun hb25 => ?_
  ·refine sm 13 rfl <| nL <| Tr.condT rfl <| tQ <| tG <| sm 1 rfl <| nL <| tRt <| rOk rfl ?_ nPo
   refine congrArg (fun b => iBool b) ?_
   symm
   simp_all [z2p]
  refine sm 5 rfl ?_
  refine wS 30 rfl (fun hb30 => ?_) fun hb30 => ?_
  ·refine sm 8 rfl <| nL <| Tr.condT rfl <| tQ <| tG <| sm 1 rfl <| nL <| tRt <| rOk rfl ?_ nPo
   refine congrArg (fun b => iBool b) ?_
   symm
   (simp_all [z2p]; intros; omega)
  refine sm 2 rfl <| yV rfl rfl (oSm uT35 rfl) <| sm 2 rfl <| yV rfl rfl (oSm uT35 rfl) <| sm 2 rfl <| nL ?_
  refine tC rfl (fun hc38 => ?_) fun hc38 => ?_
  ·refine tQ <| tG <| sm 1 rfl <| nL <| tRt <| rOk rfl ?_ nPo
   refine congrArg (fun b => iBool b) ?_
   symm
   (have hne := args_ne (l := a.args) (m := b.args) (by simpa using hc38); unfold z2p; rw [hne, Bool.and_false]; done)
  have hlen : a.args.length = b.args.length := by
    (have := hc38; simp at this; omega)
  have hS : z2p a b = (a.args == b.args) := by
    have h1 : (a.kind == b.kind) = true := by simpa using hb11
    have h2 : (a.op == b.op) = true := by simpa using hb18
    have h3 : (a.n == b.n) = true := by simpa using hb25
    have h4 : decide (a.kind <= 4) = true := by simpa using hb30
    unfold z2p
    rw [h1, h2, h3, h4]
    rfl
  refine tSk <| tQ <| tQ <| tG <| sm 1 rfl <| nL <| tBk <| Tr.sub (Sub.of (fr' := [(5, iInt 0), (2, .pv (.ept [vInt a.kind, vInt a.op, vInt a.n, vStr a.name, ints a.args, ints a.outs, ints a.params, kids a.kids] 0)), (3, .pv (.ept [vInt b.kind, vInt b.op, vInt b.n, vStr b.name, ints b.args, ints b.outs, ints b.params, kids b.kids] 0))]) ⟨rfl, rfl, rfl, trivial⟩) ?_
  refine Tr.loop (fun fr σ m => ∃ (k : Nat), (k <= a.args.length) /\ ((a.args == b.args) = (a.args.drop k == b.args.drop k)) /\ fr = [(5, iInt k), (2, .pv (.ept [vInt a.kind, vInt a.op, vInt a.n, vStr a.name, ints a.args, ints a.outs, ints a.params, kids a.kids] 0)), (3, .pv (.ept [vInt b.kind, vInt b.op, vInt b.n, vStr b.name, ints b.args, ints b.outs, ints b.params, kids b.kids] 0))] /\ σ = look [] /\ m = a.args.length - k) (n := a.args.length - 0) ?_ ?_
  ·exact ⟨0, Nat.zero_le _, rfl, rfl, rfl, rfl⟩
  rintro fr σ m ⟨k, hI0, hI1, rfl, rfl, rfl⟩
  refine tQ <| tQ <| tG <| sm 3 rfl ?_
  refine WL.lenOf (t := 41) rfl (fun hl2 => ?_)
  simp only [List.length_map] at hl2
  refine cV rfl (oSm uT35 rfl) <| sm 1 rfl <| nL ?_
  refine tC rfl (fun hc43 => ?_) fun hc43 => ?_
  ·have hlt : k < a.args.length := by simpa using hc43
   have hd := List.drop_eq_getElem_cons hlt
   have hm := List.getElem_mem hlt
   have hi := z0i (f := eInt) (List.getElem?_eq_getElem hlt)
   generalize a.args[k] = x at hd hm hi
   have hltw : k < b.args.length := by omega
   have hdw := List.drop_eq_getElem_cons hltw
   have hw := z0i (f := eInt) (List.getElem?_eq_getElem hltw)
   generalize b.args[k] = y at hdw hw
   refine tSk <| tQ <| tBk <| tQ <| Tr.still z1a kR0 rfl <| smS 3 rfl <| sV rfl (iSq rfl rfl rfl uT35 hi tS3 rfl (by rfl)) <| smS 4 rfl <| sV rfl (iSq rfl rfl rfl uT35 hw tS3 rfl (by rfl)) <| smS 2 rfl <| WS.nil ?_
   refine tC rfl (fun hc56 => ?_) fun hc56 => ?_
   ·refine tQ <| tG <| sm 1 rfl <| nL <| tRt <| rOk rfl ?_ nPo
    have hxy : (x == y) = false := by simpa using hc56
    rw [hS, hI1, hd, hdw, List.cons_beq_cons, hxy]
    rfl
   refine tSk <| tG <| sm 1 rfl <| cV rfl (oB rfl rfl (z0b rfl oM0)) <| sm 1 rfl <| nL ?_
   refine ⟨_, _, ?_, Sub.of (fr' := [(5, iInt (k + 1)), (2, .pv (.ept [vInt a.kind, vInt a.op, vInt a.n, vStr a.name, ints a.args, ints a.outs, ints a.params, kids a.kids] 0)), (3, .pv (.ept [vInt b.kind, vInt b.op, vInt b.n, vStr b.name, ints b.args, ints b.outs, ints b.params, kids b.kids] 0))]) ⟨rfl, rfl, rfl, trivial⟩, (k + 1), ?_, ?_, rfl, rfl, rfl⟩
   ·omega
   ·omega
   rw [hI1, hd, hdw]
   have hxy : (x == y) = true := by simpa using hc56
   rw [List.cons_beq_cons, hxy, Bool.true_and]
  refine tEx <| tQ <| tG <| sm 1 rfl <| nL <| tRt <| rOk rfl ?_ nPo
  have hge : a.args.length <= k := by simpa using hc43
  rw [hS, hI1, List.drop_eq_nil_of_le hge, List.drop_eq_nil_of_le oM0]
  rfl
theorem y0b (N : Nat) : ∀ (l : List Nd), SizeOf.sizeOf l < N -> SC Tryz.prog 24 [.pv (z0g l)] [] (fun _ => False) (iBool (onL [] l)) [] := by
  induction N with
  | zero => intro l hN; exact absurd hN (Nat.not_lt_zero _)
  | succ N ih =>
    intro l hN
    refine SC.of Tryz.func24 rfl (lb rfl) fun F ρ w => ?_
    refine Tr.lenOf (t := 0) rfl (fun hl => ?_)
    simp only [List.length_map] at hl
    refine tQ <| tG <| sm 1 rfl <| nL <| tQ <| tQ <| tG <| sm 1 rfl <| nL <| tBk <| Tr.sub (Sub.of (fr' := [(3, iInt 0), (0, .pv (z0g l))]) ⟨rfl, rfl, trivial⟩) ?_
    refine Tr.loop (fun fr σ m => ∃ (k : Nat), (k <= l.length) /\ (onL [] l = onL (l.take k) (l.drop k)) /\ fr = [(3, iInt k), (0, .pv (z0g l))] /\ σ = look [] /\ m = l.length - k) (n := l.length - 0) ?_ ?_
    ·exact ⟨0, Nat.zero_le _, rfl, rfl, rfl, rfl⟩
    rintro fr σ m ⟨k, hI0, hI1, rfl, rfl, rfl⟩
    refine tQ <| tQ <| tG <| sm 2 rfl <| cV rfl (oSm uT44 rfl) <| sm 1 rfl <| nL ?_
    refine tC rfl (fun hc9 => ?_) fun hc9 => ?_
    ·have hlt : k < l.length := by simpa using hc9
     have hd := List.drop_eq_getElem_cons hlt
     have hm := List.getElem_mem hlt
     have hi := z2r (List.getElem?_eq_getElem hlt)
     generalize l[k] = x at hd hm hi
     refine tSk <| tQ <| tBk <| tQ <| tQ <| tG <| sm 1 rfl <| nL <| tBk <| Tr.sub (Sub.of (fr' := [(4, iInt 0), (3, iInt k), (0, .pv (z0g l))]) ⟨rfl, rfl, rfl, trivial⟩) ?_
     refine Tr.loop (fun fr σ m => ∃ (j : Nat), (j <= k) /\ (∀ y ∈ l.take j, z2p y x = false) /\ fr = [(4, iInt j), (3, iInt k), (0, .pv (z0g l))] /\ σ = look [] /\ m = k - j) (n := k - 0) ?_ ?_
     ·exact ⟨0, Nat.zero_le _, (fun y hy => by simp at hy), rfl, rfl, rfl⟩
     rintro fr σ m ⟨j, hJ0, hJ1, rfl, rfl, rfl⟩
     refine tQ <| tQ <| tG <| sm 3 rfl <| nL ?_
     refine tC rfl (fun hc14 => ?_) fun hc14 => ?_
     ·have hjk : j < k := by simpa using hc14
      have hjl : j < l.length := by omega
      have hd2 := List.drop_eq_getElem_cons hjl
      have hi2 := z2r (List.getElem?_eq_getElem hjl)
      have hm2 : l[j] ∈ l.take k := zz4 hjk hjl
      generalize l[j] = y at hd2 hi2 hm2
      refine tSk <| tQ <| tBk <| tQ <| tDr z1a (fun k => k ∈ ([] : List Nat)) <| wR 1 [0, 1, 2, 3, 4, 5, 6, 7] kR0 h30 <| smR 2 rfl <| rV rfl rfl (iSq rfl rfl rfl uT44 hi2 tS43 rfl (by rfl)) <| rV rfl rfl (lEA rfl rfl uT43 rfl tS43 (lb rfl)) <| smR 2 rfl <| rV rfl rfl (iSq rfl rfl rfl uT44 hi tS43 rfl (by rfl)) <| rV rfl rfl (lEA rfl rfl uT43 rfl tS43 (lb rfl)) ?_
      refine nR <| wO 8 kR0 <| wI rfl rfl nf nw (fun _ _ => ocq (sc_alike y x) ent42 rfl rfl) <| wDn kR0 ?_
      refine tC rfl (fun hc25 => ?_) fun hc25 => ?_
      ·refine tQ <| tG <| sm 1 rfl <| nL <| tRt <| rOk rfl ?_ nPo
       have hyx : z2p y x = true := hc25
       have hxa : ((l.take k).any fun y => z2p y x) = true := List.any_eq_true.2 ⟨y, hm2, hyx⟩
       rw [hI1, hd]
       simp only [onL, zv3, hxa, Bool.not_true, Bool.false_and]
      refine tSk <| tG <| sm 1 rfl <| cV rfl (oB rfl rfl (z0b rfl oM0)) <| sm 1 rfl <| nL ?_
      refine ⟨_, _, ?_, Sub.of (fr' := [(4, iInt (j + 1)), (3, iInt k), (0, .pv (z0g l))]) ⟨rfl, rfl, rfl, trivial⟩, (j + 1), ?_, ?_, rfl, rfl, rfl⟩
      ·omega
      ·omega
      have hyx : z2p y x = false := by simpa using hc25
      rw [zj9 hd2]
      intro z hz
      rcases List.mem_append.1 hz with hz | hz
      ·exact hJ1 z hz
      obtain rfl := List.mem_singleton.1 hz; exact hyx
     have hxa : ((l.take k).any fun y => z2p y x) = false := by
       have hge : k <= j := by simpa using hc14
       have he : j = k := by omega
       subst he
       exact y4t hJ1
     refine tEx <| tQ <| tG <| sm 1 rfl <| nL <| tBk <| Tr.sub (Sub.of (fr' := [(5, iInt 0), (3, iInt k), (0, .pv (z0g l))]) ⟨rfl, rfl, rfl, trivial⟩) ?_
     refine Tr.loop (fun fr σ m => ∃ (i : Nat), (i <= x.kids.length) /\ (onK x.kids = onK (x.kids.drop i)) /\ fr = [(5, iInt i), (3, iInt k), (0, .pv (z0g l))] /\ σ = look [] /\ m = x.kids.length - i) (n := x.kids.length - 0) ?_ ?_
     ·exact ⟨0, Nat.zero_le _, rfl, rfl, rfl, rfl⟩
     rintro fr σ m ⟨i, hK0, hK1, rfl, rfl, rfl⟩
     refine tQ <| tQ <| tG <| sm 3 rfl <| cV rfl (iSq rfl rfl rfl uT44 hi tS43 rfl (by rfl)) <| sm 2 rfl ?_
     refine WL.lenOf (t := 31) rfl (fun hl3 => ?_)
     simp only [List.length_map] at hl3
     refine cV rfl (oSm uT41 rfl) <| sm 1 rfl <| nL ?_
     refine tC rfl (fun hc33 => ?_) fun hc33 => ?_
     ·have hlt3 : i < x.kids.length := by simpa using hc33
      have hd3 := List.drop_eq_getElem_cons hlt3
      have hm3 := List.getElem_mem hlt3
      have hi3 := z0i (f := eKid) (List.getElem?_eq_getElem hlt3)
      generalize x.kids[i] = q at hd3 hm3 hi3
      have hdec : SizeOf.sizeOf q < N := Nat.lt_of_lt_of_le (z7j hm rfl hm3) (Nat.le_of_lt_succ hN)
      refine tSk <| tQ <| tBk <| tQ <| tG <| sm 2 rfl <| cV rfl (iSq rfl rfl rfl uT44 hi tS43 rfl (by rfl)) <| sm 3 rfl <| cV rfl (iSq rfl rfl rfl uT41 hi3 tS44 rfl (by rfl)) <| sm 1 rfl <| cE rfl (ocq (ih q hdec) ent24 rfl rfl) <| sm 1 rfl ?_
      refine nL ?_
      refine tC rfl (fun hc45 => ?_) fun hc45 => ?_
      ·refine tQ <| tG <| sm 1 rfl <| nL <| tRt <| rOk rfl ?_ nPo
       have hq : onL [] q = false := by simpa using hc45
       rw [hI1, hd]
       simp only [onL, zv3, hK1, hd3, onK, hq, Bool.false_and, Bool.and_false]
      refine tSk <| tG <| sm 1 rfl <| cV rfl (oB rfl rfl (z0b rfl oM0)) <| sm 1 rfl <| nL ?_
      refine ⟨_, _, ?_, Sub.of (fr' := [(5, iInt (i + 1)), (3, iInt k), (0, .pv (z0g l))]) ⟨rfl, rfl, rfl, trivial⟩, (i + 1), ?_, ?_, rfl, rfl, rfl⟩
      ·omega
      ·omega
      rw [hK1, hd3]
      have hq : onL [] q = true := by simpa using hc45
      simp only [onK, hq, Bool.true_and]
     have hxk : onK x.kids = true := by
       have hge : x.kids.length <= i := by simpa using hc33
       rw [hK1, List.drop_eq_nil_of_le hge]
       rfl
     refine tEx <| tG <| sm 1 rfl <| cV rfl (oB rfl rfl (z0b rfl oM0)) <| sm 1 rfl <| nL ?_
     refine ⟨_, _, ?_, Sub.of (fr' := [(3, iInt (k + 1)), (0, .pv (z0g l))]) ⟨rfl, rfl, trivial⟩, (k + 1), ?_, ?_, rfl, rfl, rfl⟩
     ·omega
     ·omega
     rw [hI1, hd, zj9 hd]
     simp only [onL, zv3, hxa, hxk, Bool.not_false, Bool.true_and]
    refine tEx <| tQ <| tG <| sm 1 rfl <| nL <| tRt <| rOk rfl ?_ nPo
    have hge : l.length <= k := by simpa using hc9
    rw [hI1, List.drop_eq_nil_of_le hge]
    rfl
theorem sc_once (l : List Nd) : SC Tryz.prog 24 [.pv (z0g l)] [] (fun _ => False) (iBool (onL [] l)) [] := y0b _ l (Nat.lt_succ_self _)
theorem sc_right (u : Un) : SC Tryz.prog 12 [.pv u.enc] [] (fun _ => False) (iBool (zv8 u)) [] := by
  refine SC.of Tryz.func12 rfl (lb rfl) fun F ρ w => ?_
  refine tQ <| tG <| cE rfl (z1d rfl rfl) <| sm 1 rfl <| nL <| tQ <| tQ <| tG <| sm 1 rfl <| nL <| tBk <| Tr.sub (Sub.of (fr' := [(3, iInt 0), (1, .pv (.ept [arrs u.arrays, flws u.flows] 0))]) ⟨rfl, rfl, trivial⟩) ?_
  refine Tr.loop (fun fr σ m => ∃ (k : Nat), (k <= u.flows.length) /\ (zv8 u = (u.flows.drop k).all (fun f => onL [] f.body)) /\ fr = [(3, iInt k), (1, .pv (.ept [arrs u.arrays, flws u.flows] 0))] /\ σ = look [] /\ m = u.flows.length - k) (n := u.flows.length - 0) ?_ ?_
  ·exact ⟨0, Nat.zero_le _, rfl, rfl, rfl, rfl⟩
  rintro fr σ m ⟨k, hI0, hI1, rfl, rfl, rfl⟩
  refine tQ <| tQ <| tG <| sm 3 rfl ?_
  refine WL.lenOf (t := 6) rfl (fun hl2 => ?_)
  simp only [List.length_map] at hl2
  refine cV rfl (oSm uT23 rfl) <| sm 1 rfl <| nL ?_
  refine tC rfl (fun hc8 => ?_) fun hc8 => ?_
  ·have hlt : k < u.flows.length := by simpa using hc8
   have hd := List.drop_eq_getElem_cons hlt
   have hm := List.getElem_mem hlt
   have hi := z0i (f := Fl.enc) (List.getElem?_eq_getElem hlt)
   generalize u.flows[k] = x at hd hm hi
   refine tSk <| tQ <| tBk <| tQ <| tG <| sm 3 rfl <| cV rfl (iSq rfl rfl rfl uT23 hi tS51 rfl (by rfl)) <| sm 2 rfl <| cE rfl (ocq (sc_once x.body) ent24 rfl rfl) <| sm 1 rfl <| nL ?_
   refine tC rfl (fun hc18 => ?_) fun hc18 => ?_
   ·refine tQ <| tG <| sm 1 rfl <| nL <| tRt <| rOk rfl ?_ nPo
    have hq : onL [] x.body = false := by simpa using hc18
    rw [hI1, hd]
    simp only [List.all_cons, hq, Bool.false_and]
   refine tSk <| tG <| sm 1 rfl <| cV rfl (oB rfl rfl (z0b rfl oM0)) <| sm 1 rfl <| nL ?_
   refine ⟨_, _, ?_, Sub.of (fr' := [(3, iInt (k + 1)), (1, .pv (.ept [arrs u.arrays, flws u.flows] 0))]) ⟨rfl, rfl, trivial⟩, (k + 1), ?_, ?_, rfl, rfl, rfl⟩
   ·omega
   ·omega
   rw [hI1, hd]
   have hq : onL [] x.body = true := by simpa using hc18
   simp only [List.all_cons, hq, Bool.true_and]
  refine tEx <| tQ <| tG <| sm 1 rfl <| nL <| tRt <| rOk rfl ?_ nPo
  have hge : u.flows.length <= k := by simpa using hc8
  rw [hI1, List.drop_eq_nil_of_le hge]
  rfl
theorem y5r (ts : List Int) (l : List Nd) : SC Tryz.prog 16 [.pv (ints ts), .pv (z0g l)] [] (fun _ => False) (.pv (.agg [.val (.slice none 0 0), flws [⟨z0f, 1, 0, ts, l⟩]])) [] := by
  refine SC.ofC Tryz.func16 rfl (lb rfl) rfl fun F ρ w => ?_
  refine tQ <| tG <| cE rfl (aLc (k := 104) rfl tZ25 rfl rfl rfl rfl) <| nL <| tQ <| tG <| sm 2 rfl <| cV rfl (bPu rfl rfl tZ51 tP51 rfl (fbk rfl) rfl) <| cE rfl (bSl rfl rfl uT23 tZ51 tS51 rfl rfl rfl rfl (fbk rfl) rfl) <| cV rfl (bPu rfl rfl tZ25 tP25 rfl (fbk rfl) rfl) <| c0 (sBA rfl rfl rfl rfl rfl ((fun h => h)) tS25 (flk rfl) (lb rfl)) <| nL ?_
  refine tRt <| rCk (.inl rfl) (fun _ _ ho => lBP ho rfl rfl uT25 rfl tS25 (lb rfl) rfl trivial) ?_ nPo
  rfl
theorem z3k (b : Bool) : SC Tryz.prog 108 [iBool b] [] (fun _ => False) (iInt (zu0 b)) [] := by
  refine SC.of Tryz.func108 rfl (lb rfl) fun F ρ w => ?_
  refine tQ <| tG <| sm 1 rfl <| nL <| tQ <| tQ <| tG <| sm 1 rfl <| nL ?_
  refine tC rfl (fun hc3 => ?_) fun hc3 => ?_
  ·refine tQ <| tG <| sm 1 rfl <| nL <| tRt <| rOk rfl ?_ nPo
   cases b <;> first | rfl | (simp_all; done)
  refine tSk <| tQ <| tG <| sm 1 rfl <| nL <| tRt <| rOk rfl ?_ nPo
  cases b <;> first | rfl | (simp_all; done)
theorem sc_mOne (op a : Int) : SC Tryz.prog 91 [iInt op, iInt a] [] (fun _ => False) (iInt (mOne op a)) [] := by
  refine SC.of Tryz.func91 rfl (lb rfl) fun F ρ w => ?_
  refine tQ <| tG <| sm 1 rfl <| nL <| tQ <| tQ <| tG <| sm 1 rfl <| nL <| tBk <| tQ <| tG ?_
  refine sm 2 rfl <| nL ?_
  refine tC rfl (fun hc6 => ?_) fun hc6 => ?_
  ·refine tQ <| tG <| sm 3 rfl <| nL <| tRt <| rOk rfl ?_ nPo
   (simp only [mOne, *, if_true, Bool.false_eq_true, if_false, Bool.or_true, Bool.true_or, Bool.or_false] <;> rfl)
  refine tQ <| tG <| sm 2 rfl <| nL ?_
  refine tC rfl (fun hc10 => ?_) fun hc10 => ?_
  ·refine tQ <| tG <| sm 3 rfl <| nL <| tRt <| rOk rfl ?_ nPo
   (simp only [mOne, *, if_true, Bool.false_eq_true, if_false, Bool.or_true, Bool.true_or, Bool.or_false] <;> rfl)
  refine tQ <| tG <| sm 2 rfl <| nL ?_
  refine tC rfl (fun hc14 => ?_) fun hc14 => ?_
  ·refine tQ <| tG <| sm 2 rfl <| cE rfl (ocq (z3k _) z6b rfl rfl) <| sm 1 rfl <| nL <| tRt <| rOk rfl ?_ nPo
   (simp only [mOne, *, if_true, Bool.false_eq_true, if_false, Bool.or_true, Bool.true_or, Bool.or_false] <;> rfl)
  refine tQ <| tG <| sm 2 rfl <| nL ?_
  refine tC rfl (fun hc19 => ?_) fun hc19 => ?_
  ·refine tQ <| tG <| sm 3 rfl <| nL <| tRt <| rOk rfl ?_ nPo
   (simp only [mOne, *, if_true, Bool.false_eq_true, if_false, Bool.or_true, Bool.true_or, Bool.or_false] <;> rfl)
  refine tQ <| tG <| sm 2 rfl <| nL ?_
  refine tC rfl (fun hc23 => ?_) fun hc23 => ?_
  ·refine tQ <| tG <| sm 3 rfl <| nL <| tRt <| rOk rfl ?_ nPo
   (simp only [mOne, *, if_true, Bool.false_eq_true, if_false, Bool.or_true, Bool.true_or, Bool.or_false] <;> rfl)
  refine tQ <| tG <| sm 2 rfl <| nL ?_
  refine tC rfl (fun hc27 => ?_) fun hc27 => ?_
  ·refine tQ <| tG <| sm 3 rfl <| nL <| tRt <| rOk rfl ?_ nPo
   (simp only [mOne, *, if_true, Bool.false_eq_true, if_false, Bool.or_true, Bool.true_or, Bool.or_false] <;> rfl)
  refine tQ <| tG <| sm 2 rfl <| nL ?_
  refine tC rfl (fun hc31 => ?_) fun hc31 => ?_
  ·refine tQ <| tG <| sm 5 rfl <| nL <| tRt <| rOk rfl ?_ nPo
   (simp only [mOne, *, if_true, Bool.false_eq_true, if_false, Bool.or_true, Bool.true_or, Bool.or_false] <;> rfl)
  refine tQ <| tG <| sm 2 rfl <| nL ?_
  refine tC rfl (fun hc37 => ?_) fun hc37 => ?_
  ·refine tQ <| tG <| sm 5 rfl <| nL <| tRt <| rOk rfl ?_ nPo
   (simp only [mOne, *, if_true, Bool.false_eq_true, if_false, Bool.or_true, Bool.true_or, Bool.or_false] <;> rfl)
  refine tQ <| tG <| sm 2 rfl <| nL ?_
  refine tC rfl (fun hc43 => ?_) fun hc43 => ?_
  ·refine tQ <| tG <| sm 5 rfl <| nL <| tRt <| rOk rfl ?_ nPo
   (simp only [mOne, *, if_true, Bool.false_eq_true, if_false, Bool.or_true, Bool.true_or, Bool.or_false] <;> rfl)
  refine tSk <| tQ <| tG <| sm 1 rfl <| nL <| tRt <| rOk rfl ?_ nPo
  (simp only [mOne, *, if_true, Bool.false_eq_true, if_false, Bool.or_true, Bool.true_or, Bool.or_false] <;> rfl)
theorem sc_mTwo (op a b : Int) : SC Tryz.prog 92 [iInt op, iInt a, iInt b] [] (fun _ => False) (.tup [iInt (mTwo op a b).1, iBool (mTwo op a b).2]) [] := by
  refine SC.of Tryz.func92 rfl (lb rfl) fun F ρ w => ?_
  refine tQ <| tG <| sm 2 rfl <| nL <| tQ <| tQ <| tG <| sm 1 rfl <| nL <| tBk <| tQ <| tG ?_
  refine sm 2 rfl <| nL ?_
  refine tC rfl (fun hc9 => ?_) fun hc9 => ?_
  ·refine tQ <| tG <| sm 5 rfl <| nL <| tRt <| rOk rfl ?_ nPo
   (simp only [mTwo, *, if_true, Bool.false_eq_true, if_false, Bool.or_true, Bool.true_or, Bool.or_false] <;> rfl)
  refine tQ <| tG <| sm 2 rfl <| nL ?_
  refine tC rfl (fun hc14 => ?_) fun hc14 => ?_
  ·refine tQ <| tG <| sm 5 rfl <| nL <| tRt <| rOk rfl ?_ nPo
   (simp only [mTwo, *, if_true, Bool.false_eq_true, if_false, Bool.or_true, Bool.true_or, Bool.or_false] <;> rfl)
  refine tQ <| tG <| sm 2 rfl <| nL ?_
  refine tC rfl (fun hc19 => ?_) fun hc19 => ?_
  ·refine tQ <| tG <| sm 5 rfl <| nL <| tRt <| rOk rfl ?_ nPo
   (simp only [mTwo, *, if_true, Bool.false_eq_true, if_false, Bool.or_true, Bool.true_or, Bool.or_false] <;> rfl)
  refine tQ <| tQ <| tG <| sm 2 rfl <| nL ?_
  refine tC rfl (fun hc24 => ?_) fun hc24 => ?_
  ·refine tSk ?_
   refine tC rfl (fun hc24 => ?_) fun hc24 => ?_
   ·refine tQ <| tQ <| tG <| sm 2 rfl <| nL ?_
    refine tC rfl (fun hc28 => ?_) fun hc28 => ?_
    ·refine tQ <| tG <| sm 2 rfl <| nL <| tRt <| rOk rfl ?_ nPo
     (simp only [mTwo, *, if_true, Bool.false_eq_true, if_false, Bool.or_true, Bool.true_or, Bool.or_false] <;> rfl)
    refine tSk <| tQ <| tQ <| tG <| sm 2 rfl <| nL ?_
    refine tC rfl (fun hc30 => ?_) fun hc30 => ?_
    ·refine tQ <| tG <| sm 2 rfl <| cV rfl (oB rfl rfl (show z3p .quo .i64 a b = some (.int .i64 (w64 (a.tdiv b))) by simp [z3p, w64, show ¬ b = 0 by simpa using hc28])) <| sm 2 rfl <| nL <| tRt <| rOk rfl ?_ nPo
     (simp only [mTwo, *, if_true, Bool.false_eq_true, if_false, Bool.or_true, Bool.true_or, Bool.or_false] <;> rfl)
    refine tSk <| tQ <| tG <| sm 2 rfl <| cV rfl (oB rfl rfl (show z3p .rem .i64 a b = some (.int .i64 (a.tmod b)) by simp [z3p, show ¬ b = 0 by simpa using hc28])) <| sm 2 rfl <| nL <| tRt <| rOk rfl ?_ nPo
    (exfalso; simp_all; done)
   refine tQ <| tG <| sm 2 rfl <| nL ?_
   refine tC rfl (fun hc37 => ?_) fun hc37 => ?_
   ·refine tQ <| tG <| sm 5 rfl <| nL <| tRt <| rOk rfl ?_ nPo
    (exfalso; simp_all; done)
   refine tQ <| tG <| sm 2 rfl <| nL ?_
   refine tC rfl (fun hc42 => ?_) fun hc42 => ?_
   ·refine tQ <| tG <| sm 5 rfl <| nL <| tRt <| rOk rfl ?_ nPo
    (exfalso; simp_all; done)
   refine tQ <| tG <| sm 2 rfl <| nL ?_
   refine tC rfl (fun hc47 => ?_) fun hc47 => ?_
   ·refine tQ <| tG <| sm 5 rfl <| nL <| tRt <| rOk rfl ?_ nPo
    (exfalso; simp_all; done)
   refine tQ <| tG <| sm 2 rfl <| nL ?_
   refine tC rfl (fun hc52 => ?_) fun hc52 => ?_
   ·refine tQ <| tG <| sm 3 rfl <| cV rfl (ok_shl rfl rfl rfl (y1l b)) <| sm 2 rfl <| nL <| tRt <| rOk rfl ?_ nPo
    (exfalso; simp_all; done)
   refine tQ <| tG <| sm 2 rfl <| nL ?_
   refine tC rfl (fun hc58 => ?_) fun hc58 => ?_
   ·refine tQ <| tG <| sm 3 rfl <| cV rfl (y16 rfl rfl rfl (y1l b)) <| sm 2 rfl <| nL <| tRt <| rOk rfl ?_ nPo
    (exfalso; simp_all; done)
   refine tQ <| tG <| sm 2 rfl <| nL ?_
   refine tC rfl (fun hc64 => ?_) fun hc64 => ?_
   ·refine tQ <| tG <| sm 1 rfl <| cV rfl (z4k rfl rfl ⟨_, uT3⟩ Tryz.underlying134) <| sm 2 rfl <| cV rfl (y16 rfl rfl rfl (y1l b)) <| cV rfl (z4k rfl rfl ⟨_, Tryz.underlying134⟩ uT3) <| sm 2 rfl <| nL <| tRt <| rOk rfl ?_ nPo
    (exfalso; simp_all; done)
   refine tQ <| tG <| sm 2 rfl <| nL ?_
   refine tC rfl (fun hc72 => ?_) fun hc72 => ?_
   ·refine tQ <| tG <| sm 3 rfl <| cE rfl (ocq (z3k _) z6b rfl rfl) <| sm 2 rfl <| nL <| tRt <| rOk rfl ?_ nPo
    (exfalso; simp_all; done)
   refine tQ <| tG <| sm 2 rfl <| nL ?_
   refine tC rfl (fun hc78 => ?_) fun hc78 => ?_
   ·refine tQ <| tG <| sm 3 rfl <| cE rfl (ocq (z3k _) z6b rfl rfl) <| sm 2 rfl <| nL <| tRt <| rOk rfl ?_ nPo
    (exfalso; simp_all; done)
   refine tQ <| tG <| sm 2 rfl <| nL ?_
   refine tC rfl (fun hc84 => ?_) fun hc84 => ?_
   ·refine tQ <| tG <| sm 3 rfl <| cE rfl (ocq (z3k _) z6b rfl rfl) <| sm 2 rfl <| nL <| tRt <| rOk rfl ?_ nPo
    (exfalso; simp_all; done)
   refine tQ <| tG <| sm 2 rfl <| nL ?_
   refine tC rfl (fun hc90 => ?_) fun hc90 => ?_
   ·refine tQ <| tG <| sm 3 rfl <| cE rfl (ocq (z3k _) z6b rfl rfl) <| sm 2 rfl <| nL <| tRt <| rOk rfl ?_ nPo
    (exfalso; simp_all; done)
   refine tQ <| tG <| sm 2 rfl <| nL ?_
   refine tC rfl (fun hc96 => ?_) fun hc96 => ?_
   ·refine tQ <| tG <| sm 3 rfl <| cE rfl (ocq (z3k _) z6b rfl rfl) <| sm 2 rfl <| nL <| tRt <| rOk rfl ?_ nPo
    (exfalso; simp_all; done)
   refine tQ <| tG <| sm 2 rfl <| nL ?_
   refine tC rfl (fun hc102 => ?_) fun hc102 => ?_
   ·refine tQ <| tG <| sm 3 rfl <| cE rfl (ocq (z3k _) z6b rfl rfl) <| sm 2 rfl <| nL <| tRt <| rOk rfl ?_ nPo
    (exfalso; simp_all; done)
   refine tSk <| tQ <| tG <| sm 2 rfl <| nL <| tRt <| rOk rfl ?_ nPo
   (exfalso; simp_all; done)
  refine tG <| sm 2 rfl <| nL ?_
  refine tC rfl (fun hc24 => ?_) fun hc24 => ?_
  ·refine tQ <| tQ <| tG <| sm 2 rfl <| nL ?_
   refine tC rfl (fun hc28 => ?_) fun hc28 => ?_
   ·refine tQ <| tG <| sm 2 rfl <| nL <| tRt <| rOk rfl ?_ nPo
    (simp only [mTwo, *, if_true, Bool.false_eq_true, if_false, Bool.or_true, Bool.true_or, Bool.or_false] <;> rfl)
   refine tSk <| tQ <| tQ <| tG <| sm 2 rfl <| nL ?_
   refine tC rfl (fun hc30 => ?_) fun hc30 => ?_
   ·refine tQ <| tG <| sm 2 rfl <| cV rfl (oB rfl rfl (show z3p .quo .i64 a b = some (.int .i64 (w64 (a.tdiv b))) by simp [z3p, w64, show ¬ b = 0 by simpa using hc28])) <| sm 2 rfl <| nL <| tRt <| rOk rfl ?_ nPo
    (exfalso; simp_all; done)
   refine tSk <| tQ <| tG <| sm 2 rfl <| cV rfl (oB rfl rfl (show z3p .rem .i64 a b = some (.int .i64 (a.tmod b)) by simp [z3p, show ¬ b = 0 by simpa using hc28])) <| sm 2 rfl <| nL <| tRt <| rOk rfl ?_ nPo
   (simp only [mTwo, *, if_true, Bool.false_eq_true, if_false, Bool.or_true, Bool.true_or, Bool.or_false] <;> rfl)
  refine tQ <| tG <| sm 2 rfl <| nL ?_
  refine tC rfl (fun hc37 => ?_) fun hc37 => ?_
  ·refine tQ <| tG <| sm 5 rfl <| nL <| tRt <| rOk rfl ?_ nPo
   (simp only [mTwo, *, if_true, Bool.false_eq_true, if_false, Bool.or_true, Bool.true_or, Bool.or_false] <;> rfl)
  refine tQ <| tG <| sm 2 rfl <| nL ?_
  refine tC rfl (fun hc42 => ?_) fun hc42 => ?_
  ·refine tQ <| tG <| sm 5 rfl <| nL <| tRt <| rOk rfl ?_ nPo
   (simp only [mTwo, *, if_true, Bool.false_eq_true, if_false, Bool.or_true, Bool.true_or, Bool.or_false] <;> rfl)
  refine tQ <| tG <| sm 2 rfl <| nL ?_
  refine tC rfl (fun hc47 => ?_) fun hc47 => ?_
  ·refine tQ <| tG <| sm 5 rfl <| nL <| tRt <| rOk rfl ?_ nPo
   (simp only [mTwo, *, if_true, Bool.false_eq_true, if_false, Bool.or_true, Bool.true_or, Bool.or_false] <;> rfl)
  refine tQ <| tG <| sm 2 rfl <| nL ?_
  refine tC rfl (fun hc52 => ?_) fun hc52 => ?_
  ·refine tQ <| tG <| sm 3 rfl <| cV rfl (ok_shl rfl rfl rfl (y1l b)) <| sm 2 rfl <| nL <| tRt <| rOk rfl ?_ nPo
   (simp only [mTwo, *, if_true, Bool.false_eq_true, if_false, Bool.or_true, Bool.true_or, Bool.or_false] <;> rfl)
  refine tQ <| tG <| sm 2 rfl <| nL ?_
  refine tC rfl (fun hc58 => ?_) fun hc58 => ?_
  ·refine tQ <| tG <| sm 3 rfl <| cV rfl (y16 rfl rfl rfl (y1l b)) <| sm 2 rfl <| nL <| tRt <| rOk rfl ?_ nPo
   (simp only [mTwo, *, if_true, Bool.false_eq_true, if_false, Bool.or_true, Bool.true_or, Bool.or_false] <;> rfl)
  refine tQ <| tG <| sm 2 rfl <| nL ?_
  refine tC rfl (fun hc64 => ?_) fun hc64 => ?_
  ·refine tQ <| tG <| sm 1 rfl <| cV rfl (z4k rfl rfl ⟨_, uT3⟩ Tryz.underlying134) <| sm 2 rfl <| cV rfl (y16 rfl rfl rfl (y1l b)) <| cV rfl (z4k rfl rfl ⟨_, Tryz.underlying134⟩ uT3) <| sm 2 rfl <| nL <| tRt <| rOk rfl ?_ nPo
   (simp only [mTwo, *, if_true, Bool.false_eq_true, if_false, Bool.or_true, Bool.true_or, Bool.or_false] <;> rfl)
  refine tQ <| tG <| sm 2 rfl <| nL ?_
  refine tC rfl (fun hc72 => ?_) fun hc72 => ?_
  ·refine tQ <| tG <| sm 3 rfl <| cE rfl (ocq (z3k _) z6b rfl rfl) <| sm 2 rfl <| nL <| tRt <| rOk rfl ?_ nPo
   (simp only [mTwo, *, if_true, Bool.false_eq_true, if_false, Bool.or_true, Bool.true_or, Bool.or_false] <;> rfl)
  refine tQ <| tG <| sm 2 rfl <| nL ?_
  refine tC rfl (fun hc78 => ?_) fun hc78 => ?_
  ·refine tQ <| tG <| sm 3 rfl <| cE rfl (ocq (z3k _) z6b rfl rfl) <| sm 2 rfl <| nL <| tRt <| rOk rfl ?_ nPo
   (simp only [mTwo, *, if_true, Bool.false_eq_true, if_false, Bool.or_true, Bool.true_or, Bool.or_false] <;> rfl)
  refine tQ <| tG <| sm 2 rfl <| nL ?_
  refine tC rfl (fun hc84 => ?_) fun hc84 => ?_
  ·refine tQ <| tG <| sm 3 rfl <| cE rfl (ocq (z3k _) z6b rfl rfl) <| sm 2 rfl <| nL <| tRt <| rOk rfl ?_ nPo
   (simp only [mTwo, *, if_true, Bool.false_eq_true, if_false, Bool.or_true, Bool.true_or, Bool.or_false] <;> rfl)
  refine tQ <| tG <| sm 2 rfl <| nL ?_
  refine tC rfl (fun hc90 => ?_) fun hc90 => ?_
  ·refine tQ <| tG <| sm 3 rfl <| cE rfl (ocq (z3k _) z6b rfl rfl) <| sm 2 rfl <| nL <| tRt <| rOk rfl ?_ nPo
   (simp only [mTwo, *, if_true, Bool.false_eq_true, if_false, Bool.or_true, Bool.true_or, Bool.or_false] <;> rfl)
  refine tQ <| tG <| sm 2 rfl <| nL ?_
  refine tC rfl (fun hc96 => ?_) fun hc96 => ?_
  ·refine tQ <| tG <| sm 3 rfl <| cE rfl (ocq (z3k _) z6b rfl rfl) <| sm 2 rfl <| nL <| tRt <| rOk rfl ?_ nPo
   (simp only [mTwo, *, if_true, Bool.false_eq_true, if_false, Bool.or_true, Bool.true_or, Bool.or_false] <;> rfl)
  refine tQ <| tG <| sm 2 rfl <| nL ?_
  refine tC rfl (fun hc102 => ?_) fun hc102 => ?_
  ·refine tQ <| tG <| sm 3 rfl <| cE rfl (ocq (z3k _) z6b rfl rfl) <| sm 2 rfl <| nL <| tRt <| rOk rfl ?_ nPo
   (simp only [mTwo, *, if_true, Bool.false_eq_true, if_false, Bool.or_true, Bool.true_or, Bool.or_false] <;> rfl)
  refine tSk <| tQ <| tG <| sm 2 rfl <| nL <| tRt <| rOk rfl ?_ nPo
  (simp only [mTwo, *, if_true, Bool.false_eq_true, if_false, Bool.or_true, Bool.true_or, Bool.or_false] <;> rfl)
theorem z7q (u : Un) (s : Rs) : SC Tryz.prog 31 [.ptr 1001 0] (runH u s) (fun _ => True) (iBool (z4i s)) (runH u s) := by
  refine SC.of Tryz.func31 rfl (lb rfl) fun F ρ w => ?_
  refine tQ <| tG <| sm 1 rfl <| nL <| tQ <| tG <| sm 1 rfl <| cV rfl (nCk rfl rfl rfl) <| sm 3 rfl ?_
  refine wS 7 rfl (fun hb7 => ?_) fun hb7 => ?_
  ·refine sm 8 rfl <| nL <| tRt <| rOk rfl ?_ (fun _ _ h => h)
   cases hsp : s.spent <;> simp_all [z4i, iBool]
  refine sm 1 rfl <| yV rfl rfl (nCk rfl rfl rfl) <| sm 6 rfl <| nL <| tRt <| rOk rfl ?_ (fun _ _ h => h)
  cases hsp : s.spent <;> simp_all [z4i, iBool]
theorem sc_step (u : Un) (s : Rs) : SC Tryz.prog 66 [.ptr 1001 0] (runH u s) (fun _ => False) (iBool (z9v s).1) (runH u (z9v s).2) := by
  refine SC.of Tryz.func66 rfl (lb rfl) fun F ρ w => ?_
  refine tQ <| tG <| sm 1 rfl <| nL <| tQ <| tQ <| tG <| sm 1 rfl <| cE rfl (ocr (z7q u s) zs3 rfl (fun _ _ h => h) rfl (fun k (h : _) => .inr trivial) rfl rfl) <| nL ?_
  refine tC rfl (fun hc4 => ?_) fun hc4 => ?_
  ·refine tQ <| tG <| sm 1 rfl <| nL <| tRt ?_
   have e : z9v s = (false, s) := by simp [z9v, hc4]
   rw [e]
   refine rOk rfl rfl (po2 rfl rfl)
  refine tSk <| tQ <| tQ <| tG <| sm 1 rfl <| cV rfl (nCk rfl rfl rfl) <| sm 4 rfl <| nL ?_
  refine tC rfl (fun hc10 => ?_) fun hc10 => ?_
  ·refine tQ <| tG <| sm 1 rfl <| cV rfl (nCk rfl rfl rfl) <| sm 1 rfl <| c0 (sBx rfl rfl rfl rfl ((fun h => h)) tS4 (rfl) (lb rfl)) <| nL <| tQ <| tG <| sm 1 rfl <| nL <| tRt ?_
   have e : z9v s = (false, { s with spent := true }) := by
     have h1 : s.fuel < 1 := by simpa using hc10
     simp [z9v, hc4, h1]
   rw [e]
   refine rOk rfl rfl (po2 rfl rfl)
  refine tSk <| tQ <| tG <| sm 2 rfl <| cV rfl (nCk rfl rfl rfl) <| sm 4 rfl <| cV rfl (nCk rfl rfl rfl) <| sm 2 rfl <| c0 (sBx rfl rfl rfl rfl ((fun h => h)) tS3 (rfl) (lb rfl)) <| nL <| tQ <| tG ?_
  refine sm 1 rfl <| nL <| tRt ?_
  have e : z9v s = (true, { s with fuel := w64 (s.fuel - 1) }) := by
    have h1 : ¬ s.fuel < 1 := by simpa using hc10
    simp [z9v, hc4, h1]
  rw [e]
  refine rOk rfl rfl (po2 rfl rfl)
theorem sc_of (v l o : List Int) (h : mOf v l = some o) (hb : l.length <= 1073741824) : SC Tryz.prog 67 [.sl 510 (v.map eInt).length, .pv (ints l)] [(510, rowI v)] (fun k => k = 510) (.pv (ints o)) [(510, rowI v)] := by
  refine SC.of Tryz.func67 rfl (lb rfl) fun F ρ w => ?_
  refine Tr.lenOf (t := 1) rfl (fun hl => ?_)
  simp only [List.length_map] at hl
  refine tQ <| tG <| sm 1 rfl <| nL <| tQ <| tG <| sm 1 rfl <| nL <| tQ <| tQ <| Tr.grow (t := 5) (k := 105) ⟨3, 1⟩ rfl rfl rfl rfl rfl <| tG ?_
  refine sm 1 rfl <| nL <| tBk <| Tr.sub (Sub.of (fr' := [(6, iInt 0), (5, .sl 105 (([] : List Int).map eInt).length), (0, .sl 510 (v.map eInt).length), (1, .pv (ints l))]) ⟨rfl, rfl, rfl, rfl, trivial⟩) ?_
  refine Tr.heap (σ' := look [(105, some (rowI ([] : List Int))), (510, some (rowI v))]) (by
  intro j
  simp only [look]
  by_cases h1 : 105 = j
  · subst h1; rfl
  · simp [look, up, z00 h1]) ?_
  refine Tr.loop (fun fr σ m => ∃ (k : Nat) (acc : List Int), (k <= l.length) /\ ((mOf v (l.drop k)).map (acc ++ ·) = some o) /\ (acc.length = k) /\ fr = [(6, iInt k), (5, .sl 105 (acc.map eInt).length), (0, .sl 510 (v.map eInt).length), (1, .pv (ints l))] /\ σ = look [(105, some (rowI acc)), (510, some (rowI v))] /\ m = l.length - k) (n := l.length - 0) ?_ ?_
  ·exact ⟨0, ([] : List Int), Nat.zero_le _, (by rw [List.drop_zero, h]; rfl), rfl, rfl, rfl, rfl⟩
  rintro fr σ m ⟨k, acc, hI0, hI1, hI2, rfl, rfl, rfl⟩
  refine tQ <| tQ <| tG <| sm 2 rfl <| cV rfl (oSm uT35 rfl) <| sm 1 rfl <| nL ?_
  refine tC rfl (fun hc10 => ?_) fun hc10 => ?_
  ·have hlt : k < l.length := by simpa using hc10
   have hd := List.drop_eq_getElem_cons hlt
   have hm := List.getElem_mem hlt
   have hi := z0i (f := eInt) (List.getElem?_eq_getElem hlt)
   generalize l[k] = x at hd hm hi
   rw [hd] at hI1
   obtain ⟨y, hy, hO⟩ := mOf_step hI1
   obtain ⟨hx0, hxl, hxg⟩ := y41 hy
   have hal : (acc.map eInt).length = acc.length := by simp
   refine tSk <| tQ <| tBk <| tG <| sm 4 rfl <| cV rfl (iSq rfl rfl rfl uT35 hi tS3 rfl (by rfl)) <| sm 1 rfl <| cV rfl (iRw rfl rfl rfl rfl rfl uT35 tS3 hxl oM0) <| cV rfl (lRw rfl rfl rfl rfl (Nat.add_zero _).symm hxg rfl uT3 rfl trivial) <| cE rfl (bSl rfl rfl uT35 tZ3 tS3 rfl rfl rfl rfl (fbk rfl) rfl) ?_
   refine cE rfl (aPp rfl rfl rfl rfl (by rfl) sI0 uT35 tB3 dC0 (by (simp [z03]; done)) (by (simp [z03, PV.one]; rfl)) (by simp [maxLen, z03]; omega) (by simp [z03]; omega)) ?_
   refine sm 1 rfl <| nL <| tG <| sm 1 rfl <| cV rfl (oB rfl rfl (z0b rfl oM0)) <| sm 1 rfl <| nL ?_
   refine ⟨_, _, ?_, Sub.of (fr' := [(6, iInt (k + 1)), (5, .sl 105 ((acc ++ [y]).map eInt).length), (0, .sl 510 (v.map eInt).length), (1, .pv (ints l))]) ⟨rfl, congrArg (fun z => some (IV.sl _ z)) (by simp [z03, eInt]), rfl, rfl, trivial⟩, (k + 1), (acc ++ [y]), ?_, ?_, ?_, rfl, (funext (by
  intro j
  simp only [look]
  by_cases h1 : 105 = j
  · subst h1; exact congrArg (fun z => some (HO.row _ z)) (by simp [z03, eInt])
  · simp [look, z00 h1])), rfl⟩
   ·omega
   ·omega
   ·exact hO
   simp [hI2]
  refine tEx <| tQ <| Tr.freeze (t := 5) (k := 105) rfl rfl sI0 <| tG <| sm 2 rfl <| nL <| tRt <| rOk rfl ?_ (po1 rfl)
  have hge : l.length <= k := by simpa using hc10
  rw [List.drop_eq_nil_of_le hge] at hI1
  have : acc = o := by simpa [mOf] using hI1
  rw [this]
  rfl
theorem y1g (v l n v' : List Int) (h : mSet v l n = some v') : SC Tryz.prog 68 [.sl 510 (v.map eInt).length, .pv (ints l), .pv (ints n)] [(510, rowI v)] (fun _ => False) (.tup []) [(510, rowI v')] := by
  refine SC.of Tryz.func68 rfl (lb rfl) fun F ρ w => ?_
  refine Tr.lenOf (t := 1) rfl (fun hl => ?_)
  simp only [List.length_map] at hl
  refine Tr.lenOf (t := 2) rfl (fun hl2 => ?_)
  simp only [List.length_map] at hl2
  refine tQ <| tG <| sm 1 rfl <| nL <| tBk <| Tr.sub (Sub.of (fr' := [(6, iInt 0), (0, .sl 510 (v.map eInt).length), (1, .pv (ints l)), (2, .pv (ints n))]) ⟨rfl, rfl, rfl, rfl, trivial⟩) ?_
  refine Tr.loop (fun fr σ m => ∃ (k : Nat) (w1 : List Int) (m1 : List Int), (k <= l.length) /\ (mSet w1 (l.drop k) m1 = some v') /\ (w1.length = v.length) /\ (m1 = n.drop k) /\ fr = [(6, iInt k), (0, .sl 510 (v.map eInt).length), (1, .pv (ints l)), (2, .pv (ints n))] /\ σ = look [(510, some (rowI w1))] /\ m = l.length - k) (n := l.length - 0) ?_ ?_
  ·exact ⟨0, v, n, Nat.zero_le _, h, rfl, rfl, rfl, rfl, rfl⟩
  rintro fr σ m ⟨k, w1, m1, hI0, hI1, hI2, hI3, rfl, rfl, rfl⟩
  refine tQ <| tQ <| tG <| sm 2 rfl <| cV rfl (oSm uT35 rfl) <| sm 1 rfl <| nL ?_
  refine tC rfl (fun hc10 => ?_) fun hc10 => ?_
  ·have hlt : k < l.length := by simpa using hc10
   have hd := List.drop_eq_getElem_cons hlt
   have hm := List.getElem_mem hlt
   have hi := z0i (f := eInt) (List.getElem?_eq_getElem hlt)
   generalize l[k] = x at hd hm hi
   rw [hd] at hI1
   obtain ⟨y, m2, w2, hm1, hs, hO⟩ := zu4 hI1
   obtain ⟨hx0, hxl, hw2⟩ := z7u hs
   obtain ⟨z0, hxg⟩ := zv5 hxl
   have hwn : (w1.map eInt).length = (v.map eInt).length := by simp [hI2]
   have hxl2 : x.toNat < (v.map eInt).length := by rw [<- hwn]; exact hxl
   have hnk : n[k]? = some y := by
     have h0 := List.getElem?_drop (xs := n) (i := k) (j := 0)
     rw [<- hI3, hm1] at h0
     simpa using h0.symm
   have hi2 := z0i (f := eInt) hnk
   refine tSk <| tQ <| tBk <| tDr z1a (fun k => k ∈ ([] : List Nat)) <| wR 1 [0, 1, 2, 3, 4, 5, 6, 7, 8, 9] kR0 h30 <| smR 3 rfl <| rV rfl rfl (iSq rfl rfl rfl uT35 hi tS3 rfl (by rfl)) <| smR 3 rfl <| rV rfl rfl (iSq rfl rfl rfl uT35 hi2 tS3 rfl (by rfl)) <| smR 1 rfl <| rV rfl rfl (iRw rfl rfl rfl rfl hwn uT35 tS3 hxl2 oM0) <| nR ?_
   refine wO 10 kR0 <| wI rfl rfl nf (nOl rfl) (fun _ _ => z1y rfl rfl rfl rfl hwn (Nat.add_zero _).symm hxg sI0 tS3 rfl sI0) <| wDn kR0 <| tG <| sm 1 rfl <| cV rfl (oB rfl rfl (z0b rfl oM0)) <| sm 1 rfl <| nL ?_
   refine ⟨_, _, ?_, Sub.of (fr' := [(6, iInt (k + 1)), (0, .sl 510 (v.map eInt).length), (1, .pv (ints l)), (2, .pv (ints n))]) ⟨rfl, rfl, rfl, rfl, trivial⟩, (k + 1), w2, m2, ?_, ?_, ?_, ?_, rfl, (funext (by
  intro j
  simp only [look]
  by_cases h1 : 510 = j
  · subst h1; exact congrArg (fun z => some (HO.row _ z)) (by rw [hw2]; exact z4f _ _ _ _ hxg)
  · simp [look, z00 h1])), rfl⟩
   ·omega
   ·omega
   ·exact hO
   ·rw [hw2, List.length_set]; exact hI2
   rw [<- List.drop_drop, <- hI3, hm1]; rfl
  refine tEx ?_
  have hge : l.length <= k := by simpa using hc10
  rw [List.drop_eq_nil_of_le hge] at hI1
  have hw : w1 = v' := by simpa [mSet] using hI1
  subst hw
  refine end_ok rfl rfl (po1 rfl)
section
def z4r (s : Rs) : Rs := { s with cost := w64 (s.cost + 1) }
theorem zq2 {v v' : List Int} {x y : Int} (h : setV v x y = some v') : v'.length = v.length := by
  rw [(z7u h).2.2, List.length_set]
theorem z95 : ∀ {l n v v' : List Int}, mSet v l n = some v' -> v'.length = v.length
  | [], _, _, _, h => by cases h; rfl
  | _ :: _, _, _, _, h => by
    obtain ⟨y, n', v1, rfl, h1, h2⟩ := zu4 h
    rw [z95 h2, zq2 h1]
theorem zu2 {rec : List Nd -> List Int -> Rs -> Option Rres} {recLoop : Nd -> List Int -> List Int -> Rs -> Option Rres} {recSum : Nd -> List Int -> Rs -> Option (Int × Rs)} {x : Nd} {a v : List Int} {s : Rs} {r : Rres}
    (hr : ∀ q v s r, rec q v s = some r -> r.2.1.length = v.length) (hl : ∀ x v a s r, recLoop x v a s = some r -> r.2.1.length = v.length) (h : z93 rec recLoop recSum x a v s = some r) : r.2.1.length = v.length := by
  unfold z93 at h
  split at h
  ·simp only [Option.bind_eq_some_iff, Option.map_eq_some_iff] at h
   obtain ⟨o, _, v', h1, rfl⟩ := h
   exact zq2 h1
  split at h
  ·cases h; rfl
  split at h
  ·simp only [Option.bind_eq_some_iff] at h
   obtain ⟨a0, _, q, _, r1, h1, h2⟩ := h
   have h3 := hr _ _ _ _ h1
   split at h2
   ·simp only [Option.map_eq_some_iff] at h2
    obtain ⟨v', h4, rfl⟩ := h2
    exact (z95 h4).trans h3
   cases h2; exact h3
  split at h
  ·exact hl _ _ _ _ _ h
  simp only [Option.bind_eq_some_iff] at h
  obtain ⟨r1, h1, h2⟩ := h
  split at h2
  ·simp only [Option.bind_eq_some_iff, Option.map_eq_some_iff] at h2
   obtain ⟨o, _, v', h4, rfl⟩ := h2
   exact zq2 h4
  cases h2; rfl
theorem zo7 (u : Un) : ∀ d, (∀ l v s r, z5u u d l v s = some r -> r.2.1.length = v.length) /\ ∀ x v a s r, zc5 u d x v a s = some r -> r.2.1.length = v.length
  | 0 => ⟨fun _ _ _ _ h => by simp [z5u] at h, fun _ _ _ _ _ h => by simp [zc5] at h⟩
  | d + 1 => by
    obtain ⟨i1, i2⟩ := zo7 u d
    refine ⟨fun l v s r h => ?_, fun x v a s r h => ?_⟩
    ·cases l with
     | nil => simp only [z5u] at h; cases h; rfl
     | cons x l =>
       rw [z5u] at h
       split at h
       ·cases h; rfl
       simp only [Option.bind_eq_some_iff] at h
       obtain ⟨a, _, r1, h1, h2⟩ := h
       have h3 := zu2 i1 i2 h1
       split at h2
       ·cases h2; exact h3
       exact (i1 _ _ _ _ h2).trans h3
    rw [zc5] at h
    simp only [Option.bind_eq_some_iff] at h
    obtain ⟨v1, hv1, q, _, r1, h1, h2⟩ := h
    have h3 := (i1 _ _ _ _ h1).trans (z95 hv1)
    split at h2
    ·cases h2; exact h3
    split at h2
    ·simp only [Option.map_eq_some_iff] at h2
     obtain ⟨v', h4, rfl⟩ := h2
     exact (z95 h4).trans h3
    exact (i2 _ _ _ _ _ h2).trans h3
theorem zu1 {u : Un} {d : Nat} {l : List Nd} {v : List Int} {s : Rs} {r : Rres} (h : z5u u d l v s = some r) : r.2.1.length = v.length := (zo7 u d).1 _ _ _ _ h
theorem y1y {u : Un} {d : Nat} {x : Nd} {v a : List Int} {s : Rs} {r : Rres} (h : zc5 u d x v a s = some r) : ∃ d1 v2 q r1, d = d1 + 1 /\ mSet v x.params a = some v2 /\ x.kids[0]? = some q /\ z5u u d1 q v2 s = some r1 /\
    (if z4i r1.2.2 || r1.1.1 == 15 then some r1 else if r1.1.1 == 14 then (mSet r1.2.1 x.outs r1.1.2).map fun v => ((0, []), v, r1.2.2) else zc5 u d1 x r1.2.1 r1.1.2 r1.2.2) = some r := by
  cases d with
  | zero => simp [zc5] at h
  | succ d =>
    rw [zc5] at h
    simp only [Option.bind_eq_some_iff] at h
    obtain ⟨v2, h1, q, h2, r1, h3, h4⟩ := h
    exact ⟨d, v2, q, r1, rfl, h1, h2, h3, h4⟩
theorem y1x {u : Un} {d : Nat} {x : Nd} {l : List Nd} {v : List Int} {s s2 : Rs} {r : Rres} (hs2 : (z9v s).2 = s2) (h : z5u u d (x :: l) v s = some r) : ∃ d1, d = d1 + 1 /\ (((z9v s).1 = false /\ r = ((0, []), v, s2)) ∨
    ((z9v s).1 = true /\ ∃ a r1, mOf v x.args = some a /\ z93 (z5u u d1) (zc5 u d1) (mSum u d1) x a v s2 = some r1 /\ (if z4i r1.2.2 || r1.1.1 != 0 then some r1 else z5u u d1 l r1.2.1 r1.2.2) = some r)) := by
  cases d with
  | zero => simp [z5u] at h
  | succ d =>
    refine ⟨d, rfl, ?_⟩
    subst hs2
    rw [z5u] at h
    split at h
    ·rename_i s' e; cases h; exact .inl ⟨by rw [e], by rw [e]⟩
    rename_i s' e
    simp only [Option.bind_eq_some_iff] at h
    obtain ⟨a, h1, r1, h2, h3⟩ := h
    exact .inr ⟨by rw [e], a, r1, h1, by rw [e]; exact h2, h3⟩
section
variable {rec : List Nd -> List Int -> Rs -> Option Rres} {recLoop : Nd -> List Int -> List Int -> Rs -> Option Rres} {recSum : Nd -> List Int -> Rs -> Option (Int × Rs)} {x : Nd} {a v : List Int} {s : Rs} {r : Rres}
theorem zu3 (h : z93 rec recLoop recSum x a v s = some r) (hk : (x.kind == 1 || x.kind == 2) = true) : ∃ o v2, x.outs[0]? = some o /\ setV v o x.n = some v2 /\ r = ((0, []), v2, s) := by
  unfold z93 at h
  rw [if_pos hk] at h
  simp only [Option.bind_eq_some_iff, Option.map_eq_some_iff] at h
  obtain ⟨o, h1, v2, h2, rfl⟩ := h
  exact ⟨o, v2, h1, h2, rfl⟩
theorem z94 (h : z93 rec recLoop recSum x a v s = some r) (hk : (x.kind == 12 || x.kind == 13 || x.kind == 14 || x.kind == 15) = true) : r = ((x.kind, a), v, s) := by
  unfold z93 at h
  rw [if_neg (by simp only [Bool.or_eq_true, beq_iff_eq] at hk ⊢; omega), if_pos hk] at h
  cases h; rfl
theorem mNode_if (h : z93 rec recLoop recSum x a v s = some r) (hk : (x.kind == 10) = true) : ∃ a0 q r1, a[0]? = some a0 /\ x.kids[if a0 != 0 then 0 else 1]? = some q /\ rec q v s = some r1 /\
    (if !z4i r1.2.2 && r1.1.1 == 12 then (mSet r1.2.1 x.outs r1.1.2).map fun v' => ((0, []), v', r1.2.2) else some r1) = some r := by
  unfold z93 at h
  rw [if_neg (by simp only [Bool.or_eq_true, beq_iff_eq] at hk ⊢; omega), if_neg (by simp only [Bool.or_eq_true, beq_iff_eq] at hk ⊢; omega), if_pos hk] at h
  simp only [Option.bind_eq_some_iff] at h
  obtain ⟨a0, h1, q, h2, r1, h3, h4⟩ := h
  exact ⟨a0, q, r1, h1, h2, h3, h4⟩
theorem y1z (h : z93 rec recLoop recSum x a v s = some r) (hk : (x.kind == 11) = true) : recLoop x v a s = some r := by
  unfold z93 at h
  rw [if_neg (by simp only [Bool.or_eq_true, beq_iff_eq] at hk ⊢; omega), if_neg (by simp only [Bool.or_eq_true, beq_iff_eq] at hk ⊢; omega), if_neg (by simp only [beq_iff_eq] at hk ⊢; omega), if_pos hk] at h
  exact h
theorem y4f (h : z93 rec recLoop recSum x a v s = some r) (h1 : (x.kind == 1 || x.kind == 2) = false) (h2 : (x.kind == 12 || x.kind == 13 || x.kind == 14 || x.kind == 15) = false) (h3 : (x.kind == 10) = false) (h4 : (x.kind == 11) = false) : ∃ r1, recSum x a s = some r1 /\
    (if !z4i r1.2 && decide (0 < x.outs.length) then (x.outs[0]?).bind fun o => (setV v o r1.1).map fun v' => ((0, []), v', r1.2) else some ((0, []), v, r1.2)) = some r := by
  unfold z93 at h
  rw [h1, h2, h3, h4] at h
  simp only [Bool.false_eq_true, if_false, Option.bind_eq_some_iff] at h
  exact h
end
theorem y1w {u : Un} {d : Nat} {k : Int} {a : List Int} {s : Rs} {r : Int × Rs} (h : zf8 u d k a s = some r) : ∃ d1 f r1, d = d1 + 1 /\ 0 <= k /\ u.flows[k.toNat]? = some f /\ a.length <= f.types.length /\ f.types.length <= 1073741824 /\
    z5u u d1 f.body (a ++ List.replicate (f.types.length - a.length) 0) s = some r1 /\ r = (if z4i r1.2.2 then 0 else r1.1.2.headD 0, r1.2.2) := by
  cases d with
  | zero => simp [zf8] at h
  | succ d =>
    rw [zf8] at h
    split at h
    ·rename_i hk
     simp only [Option.bind_eq_some_iff] at h
     obtain ⟨f, hf, h⟩ := h
     split at h
     ·rename_i hl
      simp only [Option.bind_eq_some_iff] at h
      obtain ⟨r1, h1, h2⟩ := h
      refine ⟨d, f, r1, rfl, hk, hf, hl.1, hl.2, h1, ?_⟩
      split at h2 <;> cases h2 <;> simp_all
     cases h
    cases h
variable {u : Un} {d : Nat} {x : Nd} {a : List Int} {s : Rs} {r : Int × Rs}
theorem mSum_pos (h : mSum u d x a s = some r) : ∃ d', d = d' + 1 := by
  cases d with
  | zero => simp [mSum] at h
  | succ d => exact ⟨d, rfl⟩
theorem mSum_one (h : mSum u (d + 1) x a s = some r) (hk : (x.kind == 3) = true) : ∃ a0, a[0]? = some a0 /\ r = (mOne x.op a0, z4r s) := by
  simp only [mSum, hk, if_true, Option.map_eq_some_iff] at h
  obtain ⟨a0, h1, rfl⟩ := h
  exact ⟨a0, h1, rfl⟩
theorem mSum_two (h : mSum u (d + 1) x a s = some r) (hk : (x.kind == 4) = true) : ∃ a0 a1, a[0]? = some a0 /\ a[1]? = some a1 /\ r = ((mTwo x.op a0 a1).1, if (mTwo x.op a0 a1).2 then z4r s else { z4r s with st := 2 }) := by
  have h3 : (x.kind == 3) = false := by have := eq_of_beq hk; rw [this]; rfl
  simp only [mSum, h3, hk, if_true, Bool.false_eq_true, if_false, Option.map_eq_some_iff, Option.bind_eq_some_iff] at h
  obtain ⟨a0, h1, a1, h2, rfl⟩ := h
  exact ⟨a0, a1, h1, h2, rfl⟩
theorem zt9 {k n : Int} {q : Bool × Rs} (hk : k < 0) (h : mCell s k n = some q) : n < 0 /\ q = (false, { s with st := 3 }) := by
  unfold mCell at h
  split at h
  ·rename_i h1; cases h; exact ⟨h1, rfl⟩
  rw [if_neg oM0] at h; cases h
theorem y4i (hu : u.arrays = []) (h : mSum u (d + 1) x a s = some r) (hk : (x.kind == 5) = true) : ∃ a0, a[0]? = some a0 /\ a0 < 0 /\ r = (0, { z4r s with st := 3 }) := by
  have h3 : (x.kind == 3) = false := by have := eq_of_beq hk; rw [this]; rfl
  have h4 : (x.kind == 4) = false := by have := eq_of_beq hk; rw [this]; rfl
  simp only [mSum, h3, h4, hk, if_true, Bool.false_eq_true, if_false, Option.bind_eq_some_iff] at h
  obtain ⟨a0, h1, q, h2, h5⟩ := h
  rw [hu] at h2
  obtain ⟨h6, rfl⟩ := zt9 (by show (-1 : Int) < 0; decide) h2
  simp only [Bool.false_eq_true, if_false] at h5
  cases h5
  exact ⟨a0, h1, h6, rfl⟩
theorem y21 (hu : u.arrays = []) (h : mSum u (d + 1) x a s = some r) (hk : (x.kind == 6) = true) : ∃ a0, a[0]? = some a0 /\ a0 < 0 /\ r = (0, { z4r s with st := 3 }) := by
  have h3 : (x.kind == 3) = false := by have := eq_of_beq hk; rw [this]; rfl
  have h4 : (x.kind == 4) = false := by have := eq_of_beq hk; rw [this]; rfl
  have h5 : (x.kind == 5) = false := by have := eq_of_beq hk; rw [this]; rfl
  simp only [mSum, h3, h4, h5, hk, if_true, Bool.false_eq_true, if_false, Option.bind_eq_some_iff] at h
  obtain ⟨a0, h1, q, h2, h5⟩ := h
  rw [hu] at h2
  obtain ⟨h6, rfl⟩ := zt9 (by show (-1 : Int) < 0; decide) h2
  simp only [Bool.false_eq_true, if_false] at h5
  cases h5
  exact ⟨a0, h1, h6, rfl⟩
theorem y4g (h : mSum u (d + 1) x a s = some r) (hk : (x.kind == 7) = true) : zf8 u d (z0a x.name u.flows 0) a (z4r s) = some r := by
  have e := eq_of_beq hk
  simp only [mSum, e] at h
  exact h
theorem y20 (h : mSum u (d + 1) x a s = some r) (hk : (x.kind == 9) = true) : ∃ a0, a[0]? = some a0 /\ s.out.length < 1073741824 /\ r = (0, { z4r s with out := s.out ++ [a0] }) := by
  have e := eq_of_beq hk
  simp only [mSum, e] at h
  simp only [show ((9 : Int) == 3) = false from rfl, show ((9 : Int) == 4) = false from rfl, show ((9 : Int) == 5) = false from rfl, show ((9 : Int) == 6) = false from rfl, show ((9 : Int) == 7) = false from rfl, show ((9 : Int) == 9) = true from rfl, if_true, Bool.false_eq_true, if_false, Option.bind_eq_some_iff] at h
  obtain ⟨a0, h1, h2⟩ := h
  split at h2
  ·rename_i h3; cases h2; exact ⟨a0, h1, h3, rfl⟩
  cases h2
theorem y4j (h : mSum u (d + 1) x a s = some r) (hk : (x.kind == 8) = true) : (s.ins = [] /\ r = (0, { z4r s with st := 4 })) ∨ ∃ y q, s.ins = y :: q /\ r = (y, { z4r s with ins := q }) := by
  have e := eq_of_beq hk
  simp only [mSum, e] at h
  simp only [show ((8 : Int) == 3) = false from rfl, show ((8 : Int) == 4) = false from rfl, show ((8 : Int) == 5) = false from rfl, show ((8 : Int) == 6) = false from rfl, show ((8 : Int) == 7) = false from rfl, show ((8 : Int) == 9) = false from rfl, show ((8 : Int) == 8) = true from rfl, if_true, Bool.false_eq_true, if_false] at h
  split at h
  ·rename_i h1; cases h; exact .inl ⟨h1, rfl⟩
  rename_i y q h1; cases h; exact .inr ⟨y, q, h1, rfl⟩
theorem y4h (h : mSum u (d + 1) x a s = some r) (h3 : (x.kind == 3) = false) (h4 : (x.kind == 4) = false) (h5 : (x.kind == 5) = false) (h6 : (x.kind == 6) = false) (h7 : (x.kind == 7) = false) (h9 : (x.kind == 9) = false) (h8 : (x.kind == 8) = false) : r = (0, z4r s) := by
  simp only [mSum, h3, h4, h5, h6, h7, h8, h9, Bool.false_eq_true, if_false] at h
  cases h; rfl
end
theorem y1d (u : Un) (s : Rs) (k n : Int) (hn : n < 0) : SC Tryz.prog 93 [.ptr 1001 0, iInt k, iInt n] (runH u s) (fun _ => False) (iBool false) (runH u { s with st := 3 }) := by
  refine SC.of Tryz.func93 rfl (lb rfl) fun F ρ w => ?_
  refine tQ <| tG <| sm 1 rfl <| nL <| tQ <| tQ <| tG <| sm 3 rfl ?_
  refine wS 9 rfl (fun hb9 => ?_) fun hb9 => ?_
  ·refine sm 11 rfl <| nL <| Tr.condT rfl <| tQ <| tG <| sm 1 rfl <| cV rfl (nCk rfl rfl rfl) <| sm 2 rfl <| c0 (sBx rfl rfl rfl rfl ((fun h => h)) tS3 (rfl) (lb rfl)) <| nL <| tQ <| tG ?_
   refine sm 1 rfl <| nL <| tRt <| rOk rfl rfl (po2 rfl rfl)
  exact absurd hn (by simpa using hb9)
def SCC (u : Un) (D : Nat) : Prop := ∀ d, d < D -> ∀ k a s r, zf8 u d k a s = some r -> SC Tryz.prog 29 [.ptr 1001 0, iInt k, .pv (ints a)] (runH u s) (fun _ => False) (iInt r.1) (runH u r.2)
def SCL (u : Un) (D : Nat) : Prop := ∀ d, d < D -> ∀ l v s r, z5u u d l v s = some r -> lsW l <= 1073741824 -> SC Tryz.prog 46 [.ptr 1001 0, .pv (z0g l), .sl 510 (v.map eInt).length] (runV u s v) (fun _ => False) (.pv (endv r.1)) (runV u r.2.2 r.2.1)
theorem sc_sum (u : Un) (hu : u.arrays = []) (D : Nat) (ihC : SCC u D) (d : Nat) (hd : d <= D) (x : Nd) (a : List Int) (s : Rs) (r : Int × Rs) (h : mSum u d x a s = some r) : SC Tryz.prog 70 [.ptr 1001 0, .pv (ndv x), .pv (ints a)] (runH u s) (fun _ => False) (iInt r.1) (runH u r.2) := by
  refine SC.of Tryz.func70 rfl (lb rfl) fun F ρ w => ?_
  obtain ⟨d, rfl⟩ := mSum_pos h
  refine Tr.lenOf (t := 2) rfl (fun hl => ?_)
  simp only [List.length_map] at hl
  refine tQ <| tG <| cE rfl (z1d rfl rfl) <| sm 1 rfl <| nL <| tQ <| tG <| sm 2 rfl <| cV rfl (nCk rfl rfl rfl) <| sm 4 rfl <| cV rfl (nCk rfl rfl rfl) <| sm 2 rfl ?_
  refine c0 (sBx rfl rfl rfl rfl ((fun h => h)) tS3 (rfl) (lb rfl)) <| nL <| tQ <| Tr.heap (σ' := look (up (runH u (z4r s)))) (lkq [1001, 1002] rfl rfl ⟨rfl, rfl, trivial⟩) <| tDr z1a (fun k => k ∈ ([1001] : List Nat)) <| wR 2 [0, 1, 2, 3, 4, 5] kR0 h30 <| smR 1 rfl <| rV rfl rfl (nCk rfl rfl rfl) <| smR 1 rfl <| rV rfl rfl (lBP rfl rfl rfl uT25 rfl tS25 (lb rfl) rfl dC0) <| smR 2 rfl <| nR ?_
  refine wO 6 kR0 <| wI rfl rfl nf nw (fun _ _ => ocq (z85 _ _) ent48 rfl rfl) <| wR 0 [7] kR0 h30 <| smR 1 rfl <| nR <| wDn kR0 <| tQ <| tQ <| tG <| sm 2 rfl <| nL <| tBk ?_
  refine tQ <| tG <| sm 2 rfl <| nL ?_
  refine tC rfl (fun hc30 => ?_) fun hc30 => ?_
  ·obtain ⟨a0, h0, rfl⟩ := mSum_one h hc30
   have hi0 := z0i (f := eInt) h0
   refine tQ <| tDr z1a (fun k => k ∈ ([] : List Nat)) <| wR 2 [0, 1, 2, 3, 4] kR0 h30 <| smR 3 rfl <| rV rfl rfl (iSq rfl rfl rfl uT35 hi0 tS3 rfl (by rfl)) <| smR 1 rfl <| nR <| wO 5 kR0 <| wI rfl rfl nf nw (fun _ _ => ocq (sc_mOne _ _) ent91 rfl rfl) <| wR 0 [6] kR0 h30 <| smR 1 rfl <| nR ?_
   refine wDn kR0 <| tRt <| rOk rfl ?_ (po2 rfl rfl)
   rfl
  refine tQ <| tG <| sm 2 rfl <| nL ?_
  refine tC rfl (fun hc38 => ?_) fun hc38 => ?_
  ·obtain ⟨a0, a1, h0, h1, rfl⟩ := mSum_two h hc38
   have hi0 := z0i (f := eInt) h0
   have hi1 := z0i (f := eInt) h1
   refine tQ <| tDr z1a (fun k => k ∈ ([] : List Nat)) <| wR 6 [0, 1, 2, 3, 4, 5, 6, 7] kR0 h30 <| smR 3 rfl <| rV rfl rfl (iSq rfl rfl rfl uT35 hi0 tS3 rfl (by rfl)) <| smR 2 rfl <| rV rfl rfl (iSq rfl rfl rfl uT35 hi1 tS3 rfl (by rfl)) <| smR 1 rfl <| nR <| wO 8 kR0 <| wI rfl rfl nf nw (fun _ _ => ocq (sc_mTwo _ _ _) ent92 rfl rfl) <| wR 0 [9, 10, 11, 12, 13] kR0 h30 ?_
   refine smR 1 rfl <| rV rfl rfl (z0h rfl rfl rfl) <| rV rfl rfl (z0h rfl rfl rfl) <| smR 2 rfl <| nR <| wDn kR0 <| tQ <| tQ <| tG <| sm 2 rfl <| nL ?_
   refine tC rfl (fun hc53 => ?_) fun hc53 => ?_
   ·have hok : (mTwo x.op a0 a1).2 = false := by simpa using hc53
    refine tG <| sm 1 rfl <| cV rfl (nCk rfl rfl rfl) <| sm 2 rfl <| c0 (sBx rfl rfl rfl rfl ((fun h => h)) tS3 (rfl) (lb rfl)) <| nL <| tQ <| tG <| sm 2 rfl <| nL <| tRt ?_
    rw [hok]
    refine rOk rfl rfl (po2 rfl rfl)
   have hok : (mTwo x.op a0 a1).2 = true := by simpa using hc53
   refine tSk <| tQ <| tG <| sm 2 rfl <| nL <| tRt ?_
   rw [hok]
   refine rOk rfl rfl (po2 rfl rfl)
  refine tQ <| tG <| sm 2 rfl <| nL ?_
  refine tC rfl (fun hc59 => ?_) fun hc59 => ?_
  ·obtain ⟨a0, h0, ha0, rfl⟩ := y4i hu h hc59
   have hi0 := z0i (f := eInt) h0
   refine tQ <| tG <| sm 3 rfl <| cV rfl (iSq rfl rfl rfl uT35 hi0 tS3 rfl (by rfl)) <| sm 1 rfl <| cE rfl (ocr (y1d u (z4r s) _ a0 ha0) ent93 rfl (fun _ _ h => h) rfl (fun k (h : _) => .inr h) rfl rfl) <| nL ?_
   refine tC rfl (fun hc66 => ?_) fun hc66 => ?_
   ·cases hc66
   refine tSk <| tQ <| tG <| sm 1 rfl <| nL <| tRt <| rOk rfl rfl (po2 rfl rfl)
  refine tQ <| tG <| sm 2 rfl <| nL ?_
  refine tC rfl (fun hc79 => ?_) fun hc79 => ?_
  ·obtain ⟨a0, h0, ha0, rfl⟩ := y21 hu h hc79
   have hi0 := z0i (f := eInt) h0
   refine tQ <| tG <| sm 3 rfl <| cV rfl (iSq rfl rfl rfl uT35 hi0 tS3 rfl (by rfl)) <| sm 1 rfl <| cE rfl (ocr (y1d u (z4r s) _ a0 ha0) ent93 rfl (fun _ _ h => h) rfl (fun k (h : _) => .inr h) rfl rfl) <| nL ?_
   refine tC rfl (fun hc86 => ?_) fun hc86 => ?_
   ·cases hc86
   refine tSk <| tQ <| tG <| sm 1 rfl <| nL <| tRt <| rOk rfl rfl (po2 rfl rfl)
  refine tQ <| tG <| sm 2 rfl <| nL ?_
  refine tC rfl (fun hc101 => ?_) fun hc101 => ?_
  ·have hcall := y4g h hc101
   refine tQ <| tDr z1a (fun k => k ∈ ([] : List Nat)) <| wR 4 [0, 1, 2, 3, 5, 6, 8] kR0 h30 <| smR 2 rfl <| rV rfl rfl (nCk rfl rfl rfl) <| smR 4 rfl <| nR <| wO 4 kR0 <| wI rfl rfl nf nw (fun _ _ => OkV.ok (R1 := fun _ => True) ((lBP rfl rfl rfl uT25 rfl tS25 (lb rfl) rfl trivial))) <| wO 7 kR0 <| wI rfl rfl nf nw (fun _ _ => ocq (z5b _ _) y1q rfl rfl) <| wO 9 kR0 ?_
   refine wI rfl rfl nf (nAp rfl) (fun _ _ => ocr (ihC d oM0 _ a (z4r s) r hcall) ent29 rfl (fun _ _ h => h) rfl nl rfl rfl) <| wR 0 [10] kR0 h30 <| smR 1 rfl <| nR <| wDn kR0 <| tRt <| rOk rfl ?_ (po2 rfl rfl)
   rfl
  refine tQ <| tG <| sm 2 rfl <| nL ?_
  refine tC rfl (fun hc113 => ?_) fun hc113 => ?_
  ·obtain ⟨a0, h0, hol, rfl⟩ := y20 h hc113
   have hi0 := z0i (f := eInt) h0
   have hol2 : (z4r s).out.length < 1073741824 := hol
   refine tDr z1a (fun k => k ∈ ([] : List Nat)) <| wR 7 [0, 1, 2, 3, 4, 6, 7, 8] kR0 h30 <| smR 2 rfl <| rV rfl rfl (nCk rfl rfl rfl) <| smR 3 rfl <| rV rfl rfl (iSq rfl rfl rfl uT35 hi0 tS3 rfl (by rfl)) <| smR 1 rfl <| nR <| WA.all (rs := [5, 9]) kR0 sI0 ?_
   refine fmc ⟨?_, fmc ⟨?_, by simp⟩⟩
   ·refine wI rfl rfl nf nw (fun _ _ => OkV.ok (R1 := fun _ => True) ((z18 rfl rfl rfl uT35 rfl rfl trivial))) <| wO 9 kR0 <| wI rfl rfl nf nw (fun _ _ => bSl rfl rfl uT35 tZ3 tS3 rfl rfl rfl rfl (fbk rfl) rfl) <| wO 10 kR0 ?_
    refine wI rfl rfl nf (nOl rfl) (fun _ _ => aPp rfl rfl rfl rfl (by rfl) sI0 uT35 tB3 dC0 (by (simp [z03]; done)) (by (simp [z03, PV.one]; rfl)) (by simp [maxLen, z03]; omega) (by simp [z03]; omega)) ?_
    refine wR 1 [11, 12, 13] kR0 h30 <| rV rfl rfl (nCk rfl rfl rfl) <| smR 2 rfl <| nR <| wO 14 kR0 <| wI rfl rfl nf (nOl rfl) (fun _ _ => sBx rfl rfl rfl rfl sI0 tS35 (⟨_, _, rfl, by simp⟩) (lb rfl)) <| wDn kR0 <| tQ <| tG <| sm 1 rfl <| nL <| tRt <| rOk rfl rfl (z28 (And.intro (congrArg (fun z => some (HO.box z)) (by simp [z03, eInt, z4r])) (And.intro (congrArg (fun z => some (HO.row _ z)) (by simp [z03, eInt, z4r])) trivial)))
   refine wI rfl rfl nf nw (fun _ _ => bSl rfl rfl uT35 tZ3 tS3 rfl rfl rfl rfl (fbk rfl) rfl) <| wO 5 kR0 <| wI rfl rfl nf nw (fun _ _ => OkV.ok (R1 := fun _ => True) ((z18 rfl rfl rfl uT35 rfl rfl trivial))) <| wO 10 kR0 ?_
   refine wI rfl rfl nf (nOl rfl) (fun _ _ => aPp rfl rfl rfl rfl (by rfl) sI0 uT35 tB3 dC0 (by (simp [z03]; done)) (by (simp [z03, PV.one]; rfl)) (by simp [maxLen, z03]; omega) (by simp [z03]; omega)) ?_
   refine wR 1 [11, 12, 13] kR0 h30 <| rV rfl rfl (nCk rfl rfl rfl) <| smR 2 rfl <| nR <| wO 14 kR0 <| wI rfl rfl nf (nOl rfl) (fun _ _ => sBx rfl rfl rfl rfl sI0 tS35 (⟨_, _, rfl, by simp⟩) (lb rfl)) <| wDn kR0 <| tQ <| tG <| sm 1 rfl <| nL <| tRt <| rOk rfl rfl (z28 (And.intro (congrArg (fun z => some (HO.box z)) (by simp [z03, eInt, z4r])) (And.intro (congrArg (fun z => some (HO.row _ z)) (by simp [z03, eInt, z4r])) trivial)))
  refine tQ <| tG <| sm 2 rfl <| nL ?_
  refine tC rfl (fun hc129 => ?_) fun hc129 => ?_
  ·have hrd := y4j h hc129
   refine tQ <| tQ <| tG <| sm 1 rfl <| cV rfl (nCk rfl rfl rfl) <| sm 2 rfl <| cV rfl (oSm uT35 rfl) <| sm 1 rfl <| nL ?_
   refine tC rfl (fun hc136 => ?_) fun hc136 => ?_
   ·obtain ⟨hin, rfl⟩ : s.ins = [] /\ r = (0, { z4r s with st := 4 }) := by
      rcases hrd with h1 | ⟨y, q, h1, _⟩
      ·exact h1
      simp [z4r, h1] at hc136
      omega
    refine tQ <| tG <| sm 1 rfl <| cV rfl (nCk rfl rfl rfl) <| sm 2 rfl <| c0 (sBx rfl rfl rfl rfl ((fun h => h)) tS3 (rfl) (lb rfl)) <| nL <| tQ <| tG <| sm 1 rfl <| nL <| tRt <| rOk rfl ?_ (po2 rfl rfl)
    rfl
   obtain ⟨y, q, hin, rfl⟩ : ∃ y q, s.ins = y :: q /\ r = (y, { z4r s with ins := q }) := by
     rcases hrd with ⟨h1, _⟩ | h1
     ·simp [z4r, h1] at hc136
     exact h1
   have hil : (z4r s).ins = y :: q := hin
   have hi0 : ((z4r s).ins.map eInt)[0]? = some (eInt y) := by show (s.ins.map eInt)[0]? = _; rw [hin]; rfl
   refine tSk <| tQ <| tG <| sm 1 rfl <| cV rfl (nCk rfl rfl rfl) <| sm 2 rfl <| cV rfl (iSq rfl rfl rfl uT35 hi0 tS3 rfl (by rfl)) <| sm 2 rfl <| nL <| tQ <| tG <| sm 2 rfl ?_
   refine cV rfl (nCk rfl rfl rfl) <| sm 2 rfl ?_
   refine cV rfl (z5z (i := 1) (j := (y :: q).length) rfl (show _ = some (IV.pv (ints (z4r s).ins)) from rfl) uT35 tS3 (.inr ⟨_, _, rfl, rfl⟩) (.inl ⟨rfl, by simp [hil]⟩) sI0 (by simp [hil]) z5i) ?_
   refine cV rfl (nCk rfl rfl rfl) <| sm 1 rfl <| c0 (sBx rfl rfl rfl rfl ((fun h => h)) tS35 (rfl) (lb rfl)) <| nL <| tQ <| tG <| sm 2 rfl <| nL <| tRt <| rOk rfl rfl (z28 (And.intro (congrArg (fun z => some (HO.box z)) (by (simp [hil, ints, List.take_of_length_le]; done))) (And.intro rfl trivial)))
  obtain rfl := y4h h hc30 hc38 hc59 hc79 hc101 hc113 hc129
  refine tSk <| tQ <| tG <| sm 1 rfl <| nL <| tRt <| rOk rfl rfl (po2 rfl rfl)
theorem zf0 : PSub (.agg [vInt 0, .val (.slice none 0 0)]) (endv (0, [])) := PSub.agg (ps := [vInt 0, .val (.slice none 0 0)]) (qs := [vInt 0, .seq []]) (And.intro (PSub.refl _) (And.intro PSub.nil trivial))
theorem sc_loop (u : Un) (D : Nat) (ihL : SCL u D) (d : Nat) (hd : d <= D) (x : Nd) (hx : ndW x <= 1073741824) (v a : List Int) (s : Rs) (r : Rres) (h : zc5 u d x v a s = some r) : SC Tryz.prog 69 [.ptr 1001 0, .pv (ndv x), .sl 510 (v.map eInt).length, .pv (ints a)] (runV u s v) (fun _ => False) (.pv (endv r.1)) (runV u r.2.2 r.2.1) := by
  refine SC.ofC Tryz.func69 rfl (lb rfl) rfl fun F ρ w => ?_
  refine tQ <| tG <| cE rfl (z1d rfl rfl) <| cE rfl (aLc (k := 108) rfl tZ83 rfl rfl rfl rfl) <| nL <| tBk <| Tr.sub (Sub.of (fr' := [(8, .ptr 108 0), (5, .pv (.ept [vInt x.kind, vInt x.op, vInt x.n, vStr x.name, ints x.args, ints x.outs, ints x.params, kids x.kids] 0)), (0, .ptr 1001 0), (2, .sl 510 (v.map eInt).length), (3, .pv (ints a))]) ⟨rfl, rfl, rfl, rfl, rfl, trivial⟩) <| Tr.heap (σ' := look [(108, some (.box [iInt 0, .pv (.val (.slice none 0 0))])), (1001, some (z51 u s)), (1002, some (rowI (s).out)), (510, some (rowI v))]) (lkq [108, 1001, 1002, 510] rfl rfl ⟨rfl, rfl, rfl, rfl, trivial⟩) ?_
  refine Tr.loop (fun fr σ m => ∃ (d0 : Nat) (v1 : List Int) (a1 : List Int) (s1 : Rs), (d0 <= d) /\ (zc5 u d0 x v1 a1 s1 = some r) /\ ((v1.map eInt).length = (v.map eInt).length) /\ fr = [(8, .ptr 108 0), (5, .pv (.ept [vInt x.kind, vInt x.op, vInt x.n, vStr x.name, ints x.args, ints x.outs, ints x.params, kids x.kids] 0)), (0, .ptr 1001 0), (2, .sl 510 (v.map eInt).length), (3, .pv (ints a1))] /\ σ = look [(108, some (.box [iInt 0, .pv (.val (.slice none 0 0))])), (1001, some (z51 u s1)), (1002, some (rowI (s1).out)), (510, some (rowI v1))] /\ m = d0) (n := d) ?_ ?_
  ·exact ⟨d, v, a, s, Nat.le_refl _, h, rfl, rfl, rfl, rfl⟩
  rintro fr σ m ⟨d0, v1, a1, s1, hI0, hI1, hI2, rfl, rfl, rfl⟩
  obtain ⟨d1, v2, q, r1, rfl, hset, hq, hlist, hrest⟩ := y1y hI1
  have hi0 := z0i (f := eKid) hq
  have hqb : lsW q <= 1073741824 := by have := z9u (List.mem_of_getElem? hq); have := z96 x; omega
  have hl2 : (v2.map eInt).length = (v.map eInt).length := by rw [<- hI2]; simp [z95 hset]
  have hl3 : (r1.2.1.map eInt).length = (v.map eInt).length := by rw [<- hl2]; simp [zu1 hlist]
  refine tBk <| tQ <| tG <| sm 4 rfl <| cE rfl (cRr (y1g v1 x.params a1 v2 hset) ent68 rfl rfl (sSm (congrArg (fun n => IV.sl 510 n) hI2.symm) (sRf _ _)) (po1 rfl) (by rfl) (fun k (h : _) => .inr h) rfl (by rfl)) <| nL <| tQ <| Tr.heap (σ' := look [(108, some (.box [iInt 0, .pv (.val (.slice none 0 0))])), (1001, some (z51 u s1)), (1002, some (rowI (s1).out)), (510, some (rowI v2))]) (lkq [108, 1001, 1002, 510] rfl rfl ⟨rfl, rfl, rfl, rfl, trivial⟩) <| tG <| sm 3 rfl <| cV rfl (iSq rfl rfl rfl uT41 hi0 tS44 rfl (by rfl)) <| sm 2 rfl ?_
  refine cE rfl (cRr (ihL d1 oM0 q v2 s1 r1 hlist hqb) ent46 rfl rfl (sSm rfl (sSm rfl (sSm (congrArg (fun n => IV.sl 510 n) hl2.symm) Subs.nil))) (po3 rfl rfl rfl) (by rfl) (fun k (h : _) => .inr h) rfl (by rfl)) <| cE rfl (aLc (k := 109) rfl tZ83 rfl rfl rfl rfl) <| c0 (sBA rfl rfl rfl rfl rfl ((fun h => h)) tS83 (flk rfl) (lb rfl)) <| nL <| tQ <| tBk <| tQ <| Tr.freezeBox (t := 9) (k := 109) rfl rfl rfl <| Tr.heap (σ' := look [(108, some (.box [iInt 0, .pv (.val (.slice none 0 0))])), (1001, some (z51 u r1.2.2)), (1002, some (rowI (r1.2.2).out)), (510, some (rowI r1.2.1))]) (lkq [109, 108, 1001, 1002, 510] rfl rfl ⟨rfl, rfl, rfl, rfl, rfl, trivial⟩) <| tG <| sm 1 rfl <| cE rfl (ocr (z7q u r1.2.2) zs3 rfl (po2 rfl rfl) rfl (fun k (h : _) => .inr trivial) rfl rfl) ?_
  refine sm 1 rfl ?_
  refine wS 25 rfl (fun hb25 => ?_) fun hb25 => ?_
  ·refine sm 5 rfl <| nL <| Tr.condT rfl <| tQ <| tG <| cV rfl (lEA rfl rfl Tryz.underlying83 rfl tS83 (lb rfl)) <| c0 (sBA rfl rfl rfl rfl rfl ((fun h => h)) tS83 (flk rfl) (lb rfl)) <| nL <| tRt ?_
   have hov : (z4i r1.2.2 || r1.1.1 == 15) = true := by first | (rw [hb25]; rfl) | (rw [hc22, Bool.or_true])
   rw [if_pos hov] at hrest
   obtain rfl : r1 = r := by injection hrest
   refine rCk (.inl rfl) (fun _ _ ho => lBP ho rfl rfl Tryz.underlying83 rfl tS83 (lb rfl) rfl trivial) rfl (po3 rfl rfl rfl)
  refine sm 5 rfl <| nL ?_
  refine tC rfl (fun hc22 => ?_) fun hc22 => ?_
  ·refine tQ <| tG <| cV rfl (lEA rfl rfl Tryz.underlying83 rfl tS83 (lb rfl)) <| c0 (sBA rfl rfl rfl rfl rfl ((fun h => h)) tS83 (flk rfl) (lb rfl)) <| nL <| tRt ?_
   have hov : (z4i r1.2.2 || r1.1.1 == 15) = true := by first | (rw [hb25]; rfl) | (rw [hc22, Bool.or_true])
   rw [if_pos hov] at hrest
   obtain rfl : r1 = r := by injection hrest
   refine rCk (.inl rfl) (fun _ _ ho => lBP ho rfl rfl Tryz.underlying83 rfl tS83 (lb rfl) rfl trivial) rfl (po3 rfl rfl rfl)
  rw [if_neg (by rw [hb25, hc22]; decide)] at hrest
  refine tQ <| tG <| sm 4 rfl <| nL ?_
  refine tC rfl (fun hc31 => ?_) fun hc31 => ?_
  ·rw [if_pos hc31, Option.map_eq_some_iff] at hrest
   obtain ⟨v3, hset2, rfl⟩ := hrest
   refine tQ <| tG <| sm 5 rfl <| cE rfl (cRr (y1g r1.2.1 x.outs r1.1.2 v3 hset2) ent68 rfl rfl (sSm (congrArg (fun n => IV.sl 510 n) hl3.symm) (sRf _ _)) (po1 rfl) (by rfl) (fun k (h : _) => .inr h) rfl (by rfl)) <| nL <| tQ <| tG <| cV rfl (bPu rfl rfl tZ83 tP83 rfl (fbk rfl) rfl) <| WL.sub (Sub.cons2 (fun _ _ _ _ h => z3i zf0 h) Sub.rfl') <| c0 (sBA rfl rfl rfl rfl rfl ((fun h => h)) tS83 (flk rfl) (lb rfl)) <| nL <| tRt <| rCk (.inl rfl) (fun _ _ ho => lBP ho rfl rfl Tryz.underlying83 rfl tS83 (lb rfl) rfl trivial) rfl (po3 rfl rfl rfl)
  rw [if_neg (by rw [hc31]; decide)] at hrest
  have hrest3 := hrest
  refine tSk <| tG <| sm 3 rfl <| nL ?_
  refine ⟨_, _, ?_, Sub.of (fr' := [(8, .ptr 108 0), (5, .pv (.ept [vInt x.kind, vInt x.op, vInt x.n, vStr x.name, ints x.args, ints x.outs, ints x.params, kids x.kids] 0)), (0, .ptr 1001 0), (2, .sl 510 (v.map eInt).length), (3, .pv (ints r1.1.2))]) ⟨rfl, rfl, rfl, rfl, rfl, trivial⟩, d1, r1.2.1, r1.1.2, r1.2.2, ?_, ?_, ?_, rfl, (funext (lkq [108, 1001, 1002, 510] rfl rfl ⟨rfl, rfl, rfl, rfl, trivial⟩)), rfl⟩
  ·omega
  ·omega
  ·exact hrest3
  exact hl3
theorem y4e {u : Un} {d : Nat} {v : List Int} {s : Rs} {r : Rres} (h : z5u u d [] v s = some r) : r = ((0, []), v, s) := by
  cases d with
  | zero => simp [z5u] at h
  | succ d => simp only [z5u] at h; cases h; rfl
theorem sc_list0 (u : Un) (hu : u.arrays = []) (D : Nat) (ihC : SCC u D) (ihL : SCL u D) (d : Nat) (hd : d <= D) (l : List Nd) (v : List Int) (s : Rs) (r : Rres) (h : z5u u d l v s = some r) (hb : lsW l <= 1073741824) : SC Tryz.prog 46 [.ptr 1001 0, .pv (z0g l), .sl 510 (v.map eInt).length] (runV u s v) (fun _ => False) (.pv (endv r.1)) (runV u r.2.2 r.2.1) := by
  refine SC.ofC Tryz.func46 rfl (lb rfl) rfl fun F ρ w => ?_
  refine Tr.lenOf (t := 1) rfl (fun hl => ?_)
  simp only [List.length_map] at hl
  refine tQ <| tG <| cE rfl (aLc (k := 106) rfl tZ83 rfl rfl rfl rfl) <| nL <| tQ <| tQ <| Tr.subBox (k := 106) [.pv (vInt 0), .pv (ints [])] rfl ⟨ISub.refl _, ISub.pv PSub.nil, trivial⟩ (fun h => h) <| tG <| sm 1 rfl <| nL <| tBk <| Tr.sub (Sub.of (fr' := [(7, iInt 0), (6, .ptr 106 0), (0, .ptr 1001 0), (1, .pv (z0g l)), (2, .sl 510 (v.map eInt).length)]) ⟨rfl, rfl, rfl, rfl, rfl, trivial⟩) ?_
  refine Tr.heap (σ' := look [(106, some (.box [.pv (vInt 0), .pv (ints [])])), (1001, some (z51 u s)), (1002, some (rowI (s).out)), (510, some (rowI v))]) (lkq [106, 1001, 1002, 510] rfl rfl ⟨rfl, rfl, rfl, rfl, trivial⟩) ?_
  refine Tr.loop (fun fr σ m => ∃ (k : Nat) (d0 : Nat) (v1 : List Int) (s1 : Rs), (k <= l.length) /\ (d0 <= d) /\ (z5u u d0 (l.drop k) v1 s1 = some r) /\ ((v1.map eInt).length = (v.map eInt).length) /\ fr = [(7, iInt k), (6, .ptr 106 0), (0, .ptr 1001 0), (1, .pv (z0g l)), (2, .sl 510 (v.map eInt).length)] /\ σ = look [(106, some (.box [.pv (vInt 0), .pv (ints [])])), (1001, some (z51 u s1)), (1002, some (rowI (s1).out)), (510, some (rowI v1))] /\ m = l.length - k) (n := l.length - 0) ?_ ?_
  ·exact ⟨0, d, v, s, Nat.zero_le _, Nat.le_refl _, h, rfl, rfl, rfl, rfl⟩
  rintro fr σ m ⟨k, d0, v1, s1, hIk, hI1, hI2, hI3, rfl, rfl, rfl⟩
  refine tQ <| tQ <| tG <| sm 2 rfl <| cV rfl (oSm uT44 rfl) <| sm 1 rfl <| nL ?_
  refine tC rfl (fun hc16 => ?_) fun hc16 => ?_
  ·have hlt : k < l.length := by simpa using hc16
   have hd2 := List.drop_eq_getElem_cons hlt
   have hm := List.getElem_mem hlt
   have hi := z2r (List.getElem?_eq_getElem hlt)
   generalize l[k] = x at hd2 hm hi
   rw [hd2] at hI2
   obtain ⟨s2, hs2⟩ : ∃ s2, (z9v s1).2 = s2 := ⟨_, rfl⟩
   obtain ⟨d1, rfl, hst⟩ := y1x hs2 hI2
   have hxb : ndW x <= 1073741824 := by have := zo9 hm; omega
   refine tSk <| tQ <| tBk <| tQ <| tG <| sm 2 rfl <| cV rfl (iSq rfl rfl rfl uT44 hi tS43 rfl (by rfl)) <| cV rfl (lEA rfl rfl uT43 rfl tS43 (lb rfl)) <| cE rfl (aLc (k := 108) rfl tZ43 rfl rfl rfl rfl) <| c0 (sBA rfl rfl rfl rfl rfl ((fun h => h)) tS43 (flk rfl) (lb rfl)) <| nL <| tQ ?_
   refine tQ <| Tr.freezeBox (t := 8) (k := 108) rfl rfl rfl <| Tr.heap (σ' := look [(106, some (.box [.pv (vInt 0), .pv (ints [])])), (1001, some (z51 u s1)), (1002, some (rowI (s1).out)), (510, some (rowI v1))]) (lkq [108, 106, 1001, 1002, 510] rfl rfl ⟨rfl, rfl, rfl, rfl, rfl, trivial⟩) <| tG <| sm 1 rfl <| cE rfl (ocr (sc_step u s1) ent66 rfl (po2 rfl rfl) rfl (fun k (h : _) => .inr h) rfl rfl) ?_
   rw [hs2]
   refine sm 1 rfl <| nL ?_
   refine tC rfl (fun hc25 => ?_) fun hc25 => ?_
   ·refine tQ <| tG <| cV rfl (bPu rfl rfl tZ83 tP83 rfl (fbk rfl) rfl) <| WL.sub (Sub.cons2 (fun _ _ _ _ h => z3i zf0 h) Sub.rfl') <| c0 (sBA rfl rfl rfl rfl rfl ((fun h => h)) tS83 (flk rfl) (lb rfl)) <| nL <| tRt ?_
    obtain rfl : r = ((0, []), v1, s2) := by
      rcases hst with ⟨_, e⟩ | ⟨e, _⟩
      ·exact e
      rw [e] at hc25; exact absurd hc25 dC0
    refine rCk (.inl rfl) (fun _ _ ho => lBP ho rfl rfl Tryz.underlying83 rfl tS83 (lb rfl) rfl trivial) rfl (po3 rfl rfl rfl)
   obtain ⟨hst1, a, r1, hof, hnode, hrest⟩ := hst.resolve_left (fun hh => by rw [hh.1] at hc25; exact absurd hc25 dC0)
   have hl1 : (r1.2.1.map eInt).length = (v.map eInt).length := by
     have := zu2 (fun _ _ _ _ h => (zo7 u d1).1 _ _ _ _ h) (fun _ _ _ _ _ h => (zo7 u d1).2 _ _ _ _ _ h) hnode
     rw [<- hI3, List.length_map, List.length_map, this]
   refine Tr.heap (σ' := look [(106, some (.box [.pv (vInt 0), .pv (ints [])])), (1001, some (z51 u s2)), (1002, some (rowI (s2).out)), (510, some (rowI v1))]) (lkq [106, 1001, 1002, 510] rfl rfl ⟨rfl, rfl, rfl, rfl, trivial⟩) <| tSk <| tQ <| tG <| sm 3 rfl <| cE rfl (cRr (sc_of v1 x.args a hof (by have := z96 x; omega)) ent67 rfl rfl (sSm (congrArg (fun n => IV.sl 510 n) hI3.symm) (sRf _ _)) (po1 rfl) (by rfl) (fun k (h : _) => (show False from h).elim) rfl (by rfl)) <| sm 1 rfl <| nL <| tQ <| tG <| cE rfl (aLc (k := 110) rfl tZ83 rfl rfl rfl rfl) <| nL ?_
   refine tQ <| tQ <| Tr.subBox (k := 110) [.pv (vInt 0), .pv (ints [])] rfl ⟨ISub.refl _, ISub.pv PSub.nil, trivial⟩ (fun h => h) <| Tr.heap (σ' := look [(110, some (.box [.pv (vInt (((0, []) : Rend)).1), .pv (ints (((0, []) : Rend)).2)])), (106, some (.box [.pv (vInt 0), .pv (ints [])])), (1001, some (z51 u s2)), (1002, some (rowI (s2).out)), (510, some (rowI v1))]) (lkq [110, 106, 1001, 1002, 510] rfl rfl ⟨rfl, rfl, rfl, rfl, rfl, trivial⟩) <| tG <| sm 2 rfl <| nL ?_
   refine Tr.cutR (fr' := [(10, .ptr 110 0), (7, iInt k), (6, .ptr 106 0), (0, .ptr 1001 0), (1, .pv (z0g l)), (2, .sl 510 (v.map eInt).length)]) (σ' := look [(110, some (.box [.pv (vInt (r1.1).1), .pv (ints (r1.1).2)])), (106, some (.box [.pv (vInt 0), .pv (ints [])])), (1001, some (z51 u r1.2.2)), (1002, some (rowI (r1.2.2).out)), (510, some (rowI r1.2.1))]) ?_ ?_
   ·refine tBk <| tQ <| tQ <| tG <| sm 2 rfl <| nL ?_
    refine tC rfl (fun hc53 => ?_) fun hc53 => ?_
    ·refine tSk ?_
     refine tC rfl (fun hd53 => ?_) fun hd53 => ?_
     ·have hk : (x.kind == 1 || x.kind == 2) = true := by first | (rw [hc53]; rfl) | (rw [hc53, Bool.or_true])
      obtain ⟨o, v2, ho, hv0, rfl⟩ := zu3 hnode hk
      obtain ⟨hx0, hxl, hv2⟩ := z7u hv0
      obtain ⟨z0, hxg⟩ := zv5 hxl
      have hi2 := z0i (f := eInt) ho
      have hxl2 : o.toNat < (v.map eInt).length := by rw [<- hI3]; exact hxl
      refine tDr z1a (fun k => k ∈ ([] : List Nat)) <| wR 1 [0, 1, 2, 3, 4, 5, 6, 7] kR0 (fun _ _ _ h => h.elim (fun g => pn g.1) (fun g => g.2)) <| smR 3 rfl <| rV rfl rfl (iSq rfl rfl rfl uT35 hi2 tS3 rfl (by rfl)) <| smR 3 rfl <| rV rfl rfl (iRw rfl rfl rfl rfl hI3 uT35 tS3 hxl2 oM0) <| nR <| wO 8 kR0 <| wI rfl rfl nf (nOl rfl) (fun _ _ => z1y rfl rfl rfl rfl hI3 (Nat.add_zero _).symm hxg sI0 tS3 rfl sI0) <| wDn kR0 <| Or.inl ?_
      refine ⟨rfl, Sub.of ⟨rfl, rfl, rfl, rfl, rfl, rfl, trivial⟩, funext (lkq [110, 106, 1001, 1002, 510] rfl rfl ⟨rfl, rfl, rfl, rfl, (by first | rfl | exact congrArg (fun z => some (HO.row _ z)) (by rw [hv2]; exact z4f _ _ _ _ hxg)), trivial⟩)⟩
     exact absurd (hc53.symm.trans hd53) dC0
    have hk1 := hc53
    refine tG <| sm 2 rfl <| nL ?_
    refine tC rfl (fun hc53 => ?_) fun hc53 => ?_
    ·have hk : (x.kind == 1 || x.kind == 2) = true := by first | (rw [hc53]; rfl) | (rw [hc53, Bool.or_true])
     obtain ⟨o, v2, ho, hv0, rfl⟩ := zu3 hnode hk
     obtain ⟨hx0, hxl, hv2⟩ := z7u hv0
     obtain ⟨z0, hxg⟩ := zv5 hxl
     have hi2 := z0i (f := eInt) ho
     have hxl2 : o.toNat < (v.map eInt).length := by rw [<- hI3]; exact hxl
     refine tDr z1a (fun k => k ∈ ([] : List Nat)) <| wR 1 [0, 1, 2, 3, 4, 5, 6, 7] kR0 (fun _ _ _ h => h.elim (fun g => pn g.1) (fun g => g.2)) <| smR 3 rfl <| rV rfl rfl (iSq rfl rfl rfl uT35 hi2 tS3 rfl (by rfl)) <| smR 3 rfl <| rV rfl rfl (iRw rfl rfl rfl rfl hI3 uT35 tS3 hxl2 oM0) <| nR <| wO 8 kR0 <| wI rfl rfl nf (nOl rfl) (fun _ _ => z1y rfl rfl rfl rfl hI3 (Nat.add_zero _).symm hxg sI0 tS3 rfl sI0) <| wDn kR0 <| Or.inl ?_
     refine ⟨rfl, Sub.of ⟨rfl, rfl, rfl, rfl, rfl, rfl, trivial⟩, funext (lkq [110, 106, 1001, 1002, 510] rfl rfl ⟨rfl, rfl, rfl, rfl, (by first | rfl | exact congrArg (fun z => some (HO.row _ z)) (by rw [hv2]; exact z4f _ _ _ _ hxg)), trivial⟩)⟩
    refine tQ <| tQ ?_
    have hk12 : (x.kind == 1 || x.kind == 2) = false := by rw [hk1, hc53]; rfl
    refine tG <| sm 2 rfl <| nL ?_
    refine tC rfl (fun hc64 => ?_) fun hc64 => ?_
    ·refine tSk ?_
     refine tC rfl (fun hd64 => ?_) fun hd64 => ?_
     ·refine tQ ?_
      have hke : (x.kind == 12 || x.kind == 13 || x.kind == 14 || x.kind == 15) = true := by simp only [hc64, Bool.or_true, Bool.true_or]
      obtain rfl := z94 hnode hke
      have hne : (x.kind != 0) = true := by rw [eq_of_beq hc64]; rfl
      simp only [hne, Bool.or_true, if_true] at hrest
      cases hrest
      refine tG <| sm 3 rfl <| cV rfl (bPu rfl rfl tZ83 tP83 rfl (fbk rfl) rfl) <| c0 (sBA rfl rfl rfl rfl rfl ((fun h => h)) tS83 (flk rfl) (lb rfl)) <| nL <| tRt ?_
      refine Or.inr ⟨Exit.noConfusion, ?_⟩
      refine rCk (.inl rfl) (fun _ _ ho => lBP ho rfl rfl Tryz.underlying83 rfl tS83 (lb rfl) rfl trivial) rfl (po3 rfl rfl rfl)
     exact absurd (hc64.symm.trans hd64) dC0
    refine tQ ?_
    have hk3 := hc64
    refine tG <| sm 2 rfl <| nL ?_
    refine tC rfl (fun hc64 => ?_) fun hc64 => ?_
    ·refine tSk ?_
     refine tC rfl (fun hd64 => ?_) fun hd64 => ?_
     ·refine tQ ?_
      have hke : (x.kind == 12 || x.kind == 13 || x.kind == 14 || x.kind == 15) = true := by simp only [hc64, Bool.or_true, Bool.true_or]
      obtain rfl := z94 hnode hke
      have hne : (x.kind != 0) = true := by rw [eq_of_beq hc64]; rfl
      simp only [hne, Bool.or_true, if_true] at hrest
      cases hrest
      refine tG <| sm 3 rfl <| cV rfl (bPu rfl rfl tZ83 tP83 rfl (fbk rfl) rfl) <| c0 (sBA rfl rfl rfl rfl rfl ((fun h => h)) tS83 (flk rfl) (lb rfl)) <| nL <| tRt ?_
      refine Or.inr ⟨Exit.noConfusion, ?_⟩
      refine rCk (.inl rfl) (fun _ _ ho => lBP ho rfl rfl Tryz.underlying83 rfl tS83 (lb rfl) rfl trivial) rfl (po3 rfl rfl rfl)
     exact absurd (hc64.symm.trans hd64) dC0
    refine tQ ?_
    have hk4 := hc64
    refine tG <| sm 2 rfl <| nL ?_
    refine tC rfl (fun hc64 => ?_) fun hc64 => ?_
    ·refine tSk ?_
     refine tC rfl (fun hd64 => ?_) fun hd64 => ?_
     ·refine tQ ?_
      have hke : (x.kind == 12 || x.kind == 13 || x.kind == 14 || x.kind == 15) = true := by simp only [hc64, Bool.or_true, Bool.true_or]
      obtain rfl := z94 hnode hke
      have hne : (x.kind != 0) = true := by rw [eq_of_beq hc64]; rfl
      simp only [hne, Bool.or_true, if_true] at hrest
      cases hrest
      refine tG <| sm 3 rfl <| cV rfl (bPu rfl rfl tZ83 tP83 rfl (fbk rfl) rfl) <| c0 (sBA rfl rfl rfl rfl rfl ((fun h => h)) tS83 (flk rfl) (lb rfl)) <| nL <| tRt ?_
      refine Or.inr ⟨Exit.noConfusion, ?_⟩
      refine rCk (.inl rfl) (fun _ _ ho => lBP ho rfl rfl Tryz.underlying83 rfl tS83 (lb rfl) rfl trivial) rfl (po3 rfl rfl rfl)
     exact absurd (hc64.symm.trans hd64) dC0
    have hk5 := hc64
    refine tG <| sm 2 rfl <| nL ?_
    refine tC rfl (fun hc64 => ?_) fun hc64 => ?_
    ·refine tQ ?_
     have hke : (x.kind == 12 || x.kind == 13 || x.kind == 14 || x.kind == 15) = true := by simp only [hc64, Bool.or_true, Bool.true_or]
     obtain rfl := z94 hnode hke
     have hne : (x.kind != 0) = true := by rw [eq_of_beq hc64]; rfl
     simp only [hne, Bool.or_true, if_true] at hrest
     cases hrest
     refine tG <| sm 3 rfl <| cV rfl (bPu rfl rfl tZ83 tP83 rfl (fbk rfl) rfl) <| c0 (sBA rfl rfl rfl rfl rfl ((fun h => h)) tS83 (flk rfl) (lb rfl)) <| nL <| tRt ?_
     refine Or.inr ⟨Exit.noConfusion, ?_⟩
     refine rCk (.inl rfl) (fun _ _ ho => lBP ho rfl rfl Tryz.underlying83 rfl tS83 (lb rfl) rfl trivial) rfl (po3 rfl rfl rfl)
    refine tQ ?_
    have hke : (x.kind == 12 || x.kind == 13 || x.kind == 14 || x.kind == 15) = false := by rw [hk3, hk4, hk5, hc64]; rfl
    refine tG <| sm 2 rfl <| nL ?_
    refine tC rfl (fun hc73 => ?_) fun hc73 => ?_
    ·refine tQ ?_
     obtain ⟨a0, q, r2, ha0, hq, hlist, hcont⟩ := mNode_if hnode hc73
     have hi0 := z0i (f := eInt) ha0
     have hl2 : (r2.2.1.map eInt).length = (v.map eInt).length := by rw [<- hI3]; simp [zu1 hlist]
     refine tG <| sm 1 rfl <| nL <| tQ <| tQ <| tG <| sm 1 rfl <| cV rfl (iSq rfl rfl rfl uT35 hi0 tS3 rfl (by rfl)) <| sm 2 rfl <| nL ?_
     refine tC rfl (fun hc78 => ?_) fun hc78 => ?_
     ·rw [if_pos hc78] at hq
      have hi1 := z0i (f := eKid) hq
      have hqb : lsW q <= 1073741824 := by have := z9u (List.mem_of_getElem? hq); have := z96 x; omega
      refine tG <| sm 1 rfl <| nL <| tQ <| tG <| sm 4 rfl <| cV rfl (iSq rfl rfl rfl uT41 hi1 tS44 rfl (by rfl)) <| sm 2 rfl <| cE rfl (cRr (ihL d1 oM0 q v1 s2 r2 hlist hqb) ent46 rfl rfl (sSm rfl (sSm rfl (sSm (congrArg (fun n => IV.sl 510 n) hI3.symm) Subs.nil))) (po3 rfl rfl rfl) (by rfl) (fun k (h : _) => .inr h) rfl (by rfl)) <| c0 (sBA rfl rfl rfl rfl rfl ((fun h => h)) tS83 (flk rfl) (lb rfl)) <| nL <| tQ ?_
      refine tG <| sm 1 rfl <| cE rfl (ocr (z7q u r2.2.2) zs3 rfl (po2 rfl rfl) rfl (fun k (h : _) => .inr trivial) rfl rfl) <| sm 2 rfl ?_
      refine wS 90 rfl (fun hb90 => ?_) fun hb90 => ?_
      ·refine sm 4 rfl <| nL ?_
       refine tC rfl (fun hc94 => ?_) fun hc94 => ?_
       ·have hcd : (!z4i r2.2.2 && r2.1.1 == 12) = true := by rw [hb90, hc94]; rfl
        rw [if_pos hcd, Option.map_eq_some_iff] at hcont
        obtain ⟨v3, hset, rfl⟩ := hcont
        refine tQ <| tG <| sm 5 rfl <| cE rfl (cRr (y1g r2.2.1 x.outs r2.1.2 v3 hset) ent68 rfl rfl (sSm (congrArg (fun n => IV.sl 510 n) hl2.symm) (sRf _ _)) (po1 rfl) (by rfl) (fun k (h : _) => .inr h) rfl (by rfl)) <| nL <| tG <| cV rfl (bPu rfl rfl tZ83 tP83 rfl (fbk rfl) rfl) <| WL.sub (Sub.cons2 (fun _ _ _ _ h => z3i zf0 h) Sub.rfl') <| c0 (sBA rfl rfl rfl rfl rfl ((fun h => h)) tS83 (flk rfl) (lb rfl)) <| nL <| Or.inl ?_
        refine ⟨rfl, Sub.of ⟨rfl, rfl, rfl, rfl, rfl, rfl, trivial⟩, funext (lkq [110, 106, 1001, 1002, 510] rfl rfl ⟨rfl, rfl, rfl, rfl, (by first | rfl | exact congrArg (fun z => some (HO.row _ z)) (by rw [hv2]; exact z4f _ _ _ _ hxg)), trivial⟩)⟩
       have hcd : (!z4i r2.2.2 && r2.1.1 == 12) = false := by first | (rw [hb90, hc94]; rfl) | (rw [hb90]; rfl)
       rw [if_neg (by rw [hcd]; decide)] at hcont
       cases hcont
       refine tSk <| Or.inl ?_
       refine ⟨rfl, Sub.of ⟨rfl, rfl, rfl, rfl, rfl, rfl, trivial⟩, funext (lkq [110, 106, 1001, 1002, 510] rfl rfl ⟨rfl, rfl, rfl, rfl, (by first | rfl | exact congrArg (fun z => some (HO.row _ z)) (by rw [hv2]; exact z4f _ _ _ _ hxg)), trivial⟩)⟩
      refine sm 4 rfl <| nL <| Tr.condF rfl ?_
      have hcd : (!z4i r2.2.2 && r2.1.1 == 12) = false := by first | (rw [hb90, hc94]; rfl) | (rw [hb90]; rfl)
      rw [if_neg (by rw [hcd]; decide)] at hcont
      cases hcont
      refine tSk <| Or.inl ?_
      refine ⟨rfl, Sub.of ⟨rfl, rfl, rfl, rfl, rfl, rfl, trivial⟩, funext (lkq [110, 106, 1001, 1002, 510] rfl rfl ⟨rfl, rfl, rfl, rfl, (by first | rfl | exact congrArg (fun z => some (HO.row _ z)) (by rw [hv2]; exact z4f _ _ _ _ hxg)), trivial⟩)⟩
     rw [if_neg (by rw [hc78]; decide)] at hq
     have hi1 := z0i (f := eKid) hq
     have hqb : lsW q <= 1073741824 := by have := z9u (List.mem_of_getElem? hq); have := z96 x; omega
     refine tSk <| tQ <| tG <| sm 4 rfl <| cV rfl (iSq rfl rfl rfl uT41 hi1 tS44 rfl (by rfl)) <| sm 2 rfl <| cE rfl (cRr (ihL d1 oM0 q v1 s2 r2 hlist hqb) ent46 rfl rfl (sSm rfl (sSm rfl (sSm (congrArg (fun n => IV.sl 510 n) hI3.symm) Subs.nil))) (po3 rfl rfl rfl) (by rfl) (fun k (h : _) => .inr h) rfl (by rfl)) <| c0 (sBA rfl rfl rfl rfl rfl ((fun h => h)) tS83 (flk rfl) (lb rfl)) <| nL <| tQ <| tG <| sm 1 rfl ?_
     refine cE rfl (ocr (z7q u r2.2.2) zs3 rfl (po2 rfl rfl) rfl (fun k (h : _) => .inr trivial) rfl rfl) <| sm 2 rfl ?_
     refine wS 90 rfl (fun hb90 => ?_) fun hb90 => ?_
     ·refine sm 4 rfl <| nL ?_
      refine tC rfl (fun hc94 => ?_) fun hc94 => ?_
      ·have hcd : (!z4i r2.2.2 && r2.1.1 == 12) = true := by rw [hb90, hc94]; rfl
       rw [if_pos hcd, Option.map_eq_some_iff] at hcont
       obtain ⟨v3, hset, rfl⟩ := hcont
       refine tQ <| tG <| sm 5 rfl <| cE rfl (cRr (y1g r2.2.1 x.outs r2.1.2 v3 hset) ent68 rfl rfl (sSm (congrArg (fun n => IV.sl 510 n) hl2.symm) (sRf _ _)) (po1 rfl) (by rfl) (fun k (h : _) => .inr h) rfl (by rfl)) <| nL <| tG <| cV rfl (bPu rfl rfl tZ83 tP83 rfl (fbk rfl) rfl) <| WL.sub (Sub.cons2 (fun _ _ _ _ h => z3i zf0 h) Sub.rfl') <| c0 (sBA rfl rfl rfl rfl rfl ((fun h => h)) tS83 (flk rfl) (lb rfl)) <| nL <| Or.inl ?_
       refine ⟨rfl, Sub.of ⟨rfl, rfl, rfl, rfl, rfl, rfl, trivial⟩, funext (lkq [110, 106, 1001, 1002, 510] rfl rfl ⟨rfl, rfl, rfl, rfl, (by first | rfl | exact congrArg (fun z => some (HO.row _ z)) (by rw [hv2]; exact z4f _ _ _ _ hxg)), trivial⟩)⟩
      have hcd : (!z4i r2.2.2 && r2.1.1 == 12) = false := by first | (rw [hb90, hc94]; rfl) | (rw [hb90]; rfl)
      rw [if_neg (by rw [hcd]; decide)] at hcont
      cases hcont
      refine tSk <| Or.inl ?_
      refine ⟨rfl, Sub.of ⟨rfl, rfl, rfl, rfl, rfl, rfl, trivial⟩, funext (lkq [110, 106, 1001, 1002, 510] rfl rfl ⟨rfl, rfl, rfl, rfl, (by first | rfl | exact congrArg (fun z => some (HO.row _ z)) (by rw [hv2]; exact z4f _ _ _ _ hxg)), trivial⟩)⟩
     refine sm 4 rfl <| nL <| Tr.condF rfl ?_
     have hcd : (!z4i r2.2.2 && r2.1.1 == 12) = false := by first | (rw [hb90, hc94]; rfl) | (rw [hb90]; rfl)
     rw [if_neg (by rw [hcd]; decide)] at hcont
     cases hcont
     refine tSk <| Or.inl ?_
     refine ⟨rfl, Sub.of ⟨rfl, rfl, rfl, rfl, rfl, rfl, trivial⟩, funext (lkq [110, 106, 1001, 1002, 510] rfl rfl ⟨rfl, rfl, rfl, rfl, (by first | rfl | exact congrArg (fun z => some (HO.row _ z)) (by rw [hv2]; exact z4f _ _ _ _ hxg)), trivial⟩)⟩
    refine tQ ?_
    have hk10 := hc73
    refine tG <| sm 2 rfl <| nL ?_
    refine tC rfl (fun hc102 => ?_) fun hc102 => ?_
    ·have hlp := y1z hnode hc102
     refine tG <| sm 1 rfl <| cV rfl (lEA rfl rfl uT43 rfl tS43 (lb rfl)) <| sm 2 rfl <| cE rfl (cRr (sc_loop u D ihL d1 oM0 x hxb v1 a s2 r1 hlp) ent69 rfl rfl (sSm rfl (sSm rfl (sSm (congrArg (fun n => IV.sl 510 n) hI3.symm) (sRf _ _)))) (po3 rfl rfl rfl) (by rfl) (fun k (h : _) => .inr h) rfl (by rfl)) <| c0 (sBA rfl rfl rfl rfl rfl ((fun h => h)) tS83 (flk rfl) (lb rfl)) <| nL <| Or.inl ?_
     refine ⟨rfl, Sub.of ⟨rfl, rfl, rfl, rfl, rfl, rfl, trivial⟩, funext (lkq [110, 106, 1001, 1002, 510] rfl rfl ⟨rfl, rfl, rfl, rfl, (by first | rfl | exact congrArg (fun z => some (HO.row _ z)) (by rw [hv2]; exact z4f _ _ _ _ hxg)), trivial⟩)⟩
    refine tQ ?_
    obtain ⟨q1, hsum, hcont⟩ := y4f hnode hk12 hke hk10 hc102
    refine tG <| sm 1 rfl <| cV rfl (lEA rfl rfl uT43 rfl tS43 (lb rfl)) <| sm 1 rfl <| cE rfl (ocr (sc_sum u hu D ihC d1 oM0 x a s2 q1 hsum) ent70 rfl (po2 rfl rfl) rfl (fun k (h : _) => .inr h) rfl rfl) <| sm 1 rfl <| nL <| tQ <| tG <| sm 1 rfl <| cE rfl (ocr (z7q u q1.2) zs3 rfl (po2 rfl rfl) rfl (fun k (h : _) => .inr trivial) rfl rfl) <| sm 2 rfl ?_
    refine wS 40 rfl (fun hb40 => ?_) fun hb40 => ?_
    ·refine sm 2 rfl <| yV rfl rfl (oSm uT35 rfl) <| sm 2 rfl <| nL ?_
     refine tC rfl (fun hc45 => ?_) fun hc45 => ?_
     ·have h0 : 0 < x.outs.length := by simpa using hc45
      rw [if_pos (by rw [hb40, decide_eq_true h0]; rfl)] at hcont
      simp only [Option.bind_eq_some_iff, Option.map_eq_some_iff] at hcont
      obtain ⟨o, ho, v2, hv0, rfl⟩ := hcont
      obtain ⟨hx0, hxl, hv2⟩ := z7u hv0
      obtain ⟨z0, hxg⟩ := zv5 hxl
      have hi2 := z0i (f := eInt) ho
      have hxl2 : o.toNat < (v.map eInt).length := by rw [<- hI3]; exact hxl
      refine tG <| sm 3 rfl <| cV rfl (iSq rfl rfl rfl uT35 hi2 tS3 rfl (by rfl)) <| sm 2 rfl <| cV rfl (iRw rfl rfl rfl rfl hI3 uT35 tS3 hxl2 oM0) <| c0 (z1y rfl rfl rfl rfl hI3 (Nat.add_zero _).symm hxg sI0 tS3 rfl sI0) <| nL <| Or.inl ?_
      refine ⟨rfl, Sub.of ⟨rfl, rfl, rfl, rfl, rfl, rfl, trivial⟩, funext (lkq [110, 106, 1001, 1002, 510] rfl rfl ⟨rfl, rfl, rfl, rfl, (by first | rfl | exact congrArg (fun z => some (HO.row _ z)) (by rw [hv2]; exact z4f _ _ _ _ hxg)), trivial⟩)⟩
     have hcd : (!z4i q1.2 && decide (0 < x.outs.length)) = false := by first | (rw [hb40]; rfl) | (rw [hb40]; simpa using hc45)
     rw [if_neg (by rw [hcd]; decide)] at hcont
     cases hcont
     refine tSk <| Or.inl ?_
     refine ⟨rfl, Sub.of ⟨rfl, rfl, rfl, rfl, rfl, rfl, trivial⟩, funext (lkq [110, 106, 1001, 1002, 510] rfl rfl ⟨rfl, rfl, rfl, rfl, (by first | rfl | exact congrArg (fun z => some (HO.row _ z)) (by rw [hv2]; exact z4f _ _ _ _ hxg)), trivial⟩)⟩
    refine sm 5 rfl <| nL <| Tr.condF rfl ?_
    have hcd : (!z4i q1.2 && decide (0 < x.outs.length)) = false := by first | (rw [hb40]; rfl) | (rw [hb40]; simpa using hc45)
    rw [if_neg (by rw [hcd]; decide)] at hcont
    cases hcont
    refine tSk <| Or.inl ?_
    refine ⟨rfl, Sub.of ⟨rfl, rfl, rfl, rfl, rfl, rfl, trivial⟩, funext (lkq [110, 106, 1001, 1002, 510] rfl rfl ⟨rfl, rfl, rfl, rfl, (by first | rfl | exact congrArg (fun z => some (HO.row _ z)) (by rw [hv2]; exact z4f _ _ _ _ hxg)), trivial⟩)⟩
   refine tQ <| tG <| sm 1 rfl <| cE rfl (ocr (z7q u r1.2.2) zs3 rfl (po2 rfl rfl) rfl (fun k (h : _) => .inr trivial) rfl rfl) <| sm 1 rfl ?_
   refine wS 111 rfl (fun hb111 => ?_) fun hb111 => ?_
   ·refine sm 4 rfl <| nL <| Tr.condT rfl ?_
    have hov : (z4i r1.2.2 || r1.1.1 != 0) = true := by first | (rw [hb111]; rfl) | (rw [hc115, Bool.or_true])
    rw [if_pos hov] at hrest
    obtain rfl : r1 = r := by injection hrest
    refine tQ <| tG <| cV rfl (lBP rfl rfl rfl Tryz.underlying83 rfl tS83 (lb rfl) rfl trivial) <| c0 (sBA rfl rfl rfl rfl rfl ((fun h => h)) tS83 (flk rfl) (lb rfl)) <| nL <| tRt <| rCk (.inl rfl) (fun _ _ ho => lBP ho rfl rfl Tryz.underlying83 rfl tS83 (lb rfl) rfl trivial) rfl (po3 rfl rfl rfl)
   refine sm 4 rfl <| nL ?_
   refine tC rfl (fun hc115 => ?_) fun hc115 => ?_
   ·have hov : (z4i r1.2.2 || r1.1.1 != 0) = true := by first | (rw [hb111]; rfl) | (rw [hc115, Bool.or_true])
    rw [if_pos hov] at hrest
    obtain rfl : r1 = r := by injection hrest
    refine tQ <| tG <| cV rfl (lBP rfl rfl rfl Tryz.underlying83 rfl tS83 (lb rfl) rfl trivial) <| c0 (sBA rfl rfl rfl rfl rfl ((fun h => h)) tS83 (flk rfl) (lb rfl)) <| nL <| tRt <| rCk (.inl rfl) (fun _ _ ho => lBP ho rfl rfl Tryz.underlying83 rfl tS83 (lb rfl) rfl trivial) rfl (po3 rfl rfl rfl)
   rw [if_neg (by rw [hb111, hc115]; decide)] at hrest
   refine tSk <| Tr.drop (k := 110) <| tG <| sm 1 rfl <| cV rfl (oB rfl rfl (z0b rfl oM0)) <| sm 1 rfl <| nL ?_
   refine ⟨_, _, ?_, Sub.of (fr' := [(7, iInt (k + 1)), (6, .ptr 106 0), (0, .ptr 1001 0), (1, .pv (z0g l)), (2, .sl 510 (v.map eInt).length)]) ⟨rfl, rfl, rfl, rfl, rfl, trivial⟩, (k + 1), d1, r1.2.1, r1.2.2, ?_, ?_, ?_, ?_, rfl, (funext (lkq [110, 106, 1001, 1002, 510] rfl rfl ⟨rfl, rfl, rfl, rfl, rfl, trivial⟩)), rfl⟩
   ·omega
   ·omega
   ·omega
   ·exact hrest
   exact hl1
  refine tEx <| tQ ?_
  have hge : l.length <= k := by simpa using hc16
  rw [List.drop_eq_nil_of_le hge] at hI2
  obtain rfl := y4e hI2
  refine tG <| cV rfl (bPu rfl rfl tZ83 tP83 rfl (fbk rfl) rfl) <| WL.sub (Sub.cons2 (fun _ _ _ _ h => z3i zf0 h) Sub.rfl') <| c0 (sBA rfl rfl rfl rfl rfl ((fun h => h)) tS83 (flk rfl) (lb rfl)) <| nL <| tRt <| rCk (.inl rfl) (fun _ _ ho => lBP ho rfl rfl Tryz.underlying83 rfl tS83 (lb rfl) rfl trivial) rfl (po3 rfl rfl rfl)
theorem y3i {a : List Int} {i n : Nat} {x : Int} (hx : a[i]? = some x) (hn : a.length <= n) : (a.take i ++ List.replicate (n - i) 0).set i x = a.take (i + 1) ++ List.replicate (n - (i + 1)) 0 := by
  have hi : i < a.length := (List.getElem?_eq_some_iff.1 hx).1
  have hl : (a.take i).length = i := by rw [List.length_take]; omega
  rw [List.set_append_right _ _ oM0, hl, Nat.sub_self, show n - i = (n - (i + 1)) + 1 by omega, List.replicate_succ, List.set_cons_zero, List.take_add_one, hx]
  simp
theorem sc_call0 (u : Un) (hub : ∀ f ∈ u.flows, lsW f.body <= 1073741824) (D : Nat) (ihL : SCL u D) (d : Nat) (hd : d <= D) (k : Int) (a : List Int) (s : Rs) (r : Int × Rs) (h : zf8 u d k a s = some r) : SC Tryz.prog 29 [.ptr 1001 0, iInt k, .pv (ints a)] (runH u s) (fun _ => False) (iInt r.1) (runH u r.2) := by
  refine SC.of Tryz.func29 rfl (lb rfl) fun F ρ w => ?_
  refine Tr.lenOf (t := 2) rfl (fun hl => ?_)
  simp only [List.length_map] at hl
  obtain ⟨d1, f, r1, rfl, hk0, hf, hal, hfl, hlist, rfl⟩ := y1w h
  have hif := z0i (f := Fl.enc) hf
  have hfb := hub f (List.mem_of_getElem? hf)
  refine tQ <| tG <| sm 1 rfl <| nL <| tQ <| tG <| sm 1 rfl <| cV rfl (nCk rfl rfl rfl) <| sm 4 rfl <| cV rfl (iSq rfl rfl rfl uT23 hif tS51 rfl oM0) <| cV rfl (lEA rfl rfl Tryz.underlying51 rfl tS51 (lb rfl)) <| cE rfl (aLc (k := 107) rfl tZ51 rfl rfl rfl rfl) ?_
  refine c0 (sBA rfl rfl rfl rfl rfl ((fun h => h)) tS51 (flk rfl) (lb rfl)) <| nL <| tQ <| Tr.freezeBox (t := 7) (k := 107) rfl rfl rfl <| tG <| sm 2 rfl <| cV rfl (oSm uT35 rfl) <| cE rfl (z15 (k := 510) (s := ⟨3, 1⟩) rfl rfl rfl uT35 tZ3 tC3 rfl dC0 oM0 oM0 rfl rfl rfl rfl) <| sm 1 rfl <| nL <| tQ <| tQ ?_
  refine tG <| sm 1 rfl <| nL <| tBk <| Tr.sub (Sub.of (fr' := [(9, iInt 0), (8, .sl 510 f.types.length), (7, .pv (.ept [vStr f.name, vInt f.ty, vInt f.params, ints f.types, z0g f.body] 0)), (0, .ptr 1001 0), (2, .pv (ints a))]) ⟨rfl, rfl, rfl, rfl, rfl, trivial⟩) <| Tr.heap (σ' := look [(1001, some (z51 u s)), (1002, some (rowI (s).out)), (510, some (rowI (a.take 0 ++ List.replicate (f.types.length - 0) 0)))]) (lkq [107, 1001, 1002, 510] rfl rfl ⟨rfl, rfl, rfl, (by exact congrArg (fun z => some (HO.row _ z)) (by rw [List.take_zero, List.nil_append, Nat.sub_zero, List.map_replicate]; rfl)), trivial⟩) ?_
  refine Tr.loop (fun fr σ m => ∃ (i : Nat), (i <= a.length) /\ fr = [(9, iInt i), (8, .sl 510 f.types.length), (7, .pv (.ept [vStr f.name, vInt f.ty, vInt f.params, ints f.types, z0g f.body] 0)), (0, .ptr 1001 0), (2, .pv (ints a))] /\ σ = look [(1001, some (z51 u s)), (1002, some (rowI (s).out)), (510, some (rowI (a.take i ++ List.replicate (f.types.length - i) 0)))] /\ m = a.length - i) (n := a.length - 0) ?_ ?_
  ·exact ⟨0, Nat.zero_le _, rfl, rfl, rfl⟩
  rintro fr σ m ⟨i, hI0, rfl, rfl, rfl⟩
  refine tQ <| tQ <| tG <| sm 2 rfl <| cV rfl (oSm uT35 rfl) <| sm 1 rfl <| nL ?_
  refine tC rfl (fun hc26 => ?_) fun hc26 => ?_
  ·have hlt : i < a.length := by simpa using hc26
   have hil : i < f.types.length := by omega
   obtain ⟨x, hx⟩ : ∃ x, a[i]? = some x := ⟨_, List.getElem?_eq_getElem hlt⟩
   have hi := z0i (f := eInt) hx
   have hvl : ((a.take i ++ List.replicate (f.types.length - i) 0).map eInt).length = f.types.length := by simp; omega
   obtain ⟨z0, hxg⟩ := zv5 (v := (a.take i ++ List.replicate (f.types.length - i) 0)) (i := i) (by rw [hvl]; omega)
   refine tSk <| tQ <| tBk <| tG <| sm 4 rfl <| cV rfl (iSq rfl rfl rfl uT35 hi tS3 rfl (by rfl)) <| sm 1 rfl <| cV rfl (iRw rfl rfl rfl rfl hvl uT35 tS3 hil rfl) <| c0 (z1y rfl rfl rfl rfl hvl (Nat.add_zero _).symm hxg sI0 tS3 rfl sI0) <| nL <| tG <| sm 1 rfl ?_
   refine cV rfl (oB rfl rfl (z0b rfl oM0)) <| sm 1 rfl <| nL ?_
   refine ⟨_, _, ?_, Sub.of (fr' := [(9, iInt (i + 1)), (8, .sl 510 f.types.length), (7, .pv (.ept [vStr f.name, vInt f.ty, vInt f.params, ints f.types, z0g f.body] 0)), (0, .ptr 1001 0), (2, .pv (ints a))]) ⟨rfl, rfl, rfl, rfl, rfl, trivial⟩, (i + 1), ?_, rfl, (funext (lkq [1001, 1002, 510] rfl rfl ⟨rfl, rfl, (congrArg (fun z => some (HO.row _ z)) ((z4f _ _ _ _ hxg).trans (congrArg (List.map eInt) (y3i hx hal)))), trivial⟩)), rfl⟩
   ·omega
   omega
  refine tEx <| tQ ?_
  have he : (a.take i ++ List.replicate (f.types.length - i) 0) = a ++ List.replicate (f.types.length - a.length) 0 := by
    have hge : a.length <= i := by simpa using hc26
    obtain rfl : i = a.length := by omega
    rw [List.take_length]
  rw [he]
  have hvl2 : ((a ++ List.replicate (f.types.length - a.length) 0).map eInt).length = f.types.length := by simp; omega
  refine tG <| sm 4 rfl <| cE rfl (cRr (ihL d1 oM0 f.body (a ++ List.replicate (f.types.length - a.length) 0) s r1 hlist hfb) ent46 rfl rfl (sSm rfl (sSm rfl (sSm (congrArg (fun n => IV.sl 510 n) hvl2.symm) Subs.nil))) (po3 rfl rfl rfl) (by rfl) (fun k (h : _) => .inr h) rfl (by rfl)) <| cE rfl (aLc (k := 110) rfl tZ83 rfl rfl rfl rfl) <| c0 (sBA rfl rfl rfl rfl rfl ((fun h => h)) tS83 (flk rfl) (lb rfl)) <| nL <| tQ <| tQ <| tG <| sm 1 rfl <| cE rfl (ocr (z7q u r1.2.2) zs3 rfl (po2 rfl rfl) rfl (fun k (h : _) => .inr trivial) rfl rfl) <| sm 1 rfl ?_
  refine wS 43 rfl (fun hb43 => ?_) fun hb43 => ?_
  ·refine sm 5 rfl <| nL <| Tr.condT rfl <| tQ <| tG <| sm 1 rfl <| nL <| tRt <| rOk rfl ?_ (po2 rfl rfl)
   (rw [if_pos hb43]; done)
  refine sm 2 rfl <| yV rfl rfl (oSm uT35 rfl) <| sm 2 rfl <| nL ?_
  refine tC rfl (fun hc48 => ?_) fun hc48 => ?_
  ·refine tQ <| tG <| sm 1 rfl <| nL <| tRt <| rOk rfl ?_ (po2 rfl rfl)
   (have hz : r1.1.2 = [] := by simpa using hc48
    rw [hz]
    split <;> rfl)
  obtain ⟨x, q, hxq⟩ : ∃ x q, r1.1.2 = x :: q := by
    cases hz : r1.1.2 with
    | nil => rw [hz] at hc48; simp at hc48
    | cons x q => exact ⟨x, q, rfl⟩
  have hi0 : (r1.1.2.map eInt)[0]? = some (eInt x) := by rw [hxq]; rfl
  refine tSk <| tQ <| tG <| sm 2 rfl <| cV rfl (iSq rfl rfl rfl uT35 hi0 tS3 rfl (by rfl)) <| sm 2 rfl <| nL <| tRt <| rOk rfl ?_ (po2 rfl rfl)
  rw [if_neg (by rw [hb43]; decide), hxq]
  rfl
theorem z86 (u : Un) (hu : u.arrays = []) (hub : ∀ f ∈ u.flows, lsW f.body <= 1073741824) : ∀ D, SCC u D /\ SCL u D
  | 0 => ⟨fun _ h => absurd h (Nat.not_lt_zero _), fun _ h => absurd h (Nat.not_lt_zero _)⟩
  | D + 1 => ⟨fun d hd k a s r h => sc_call0 u hub D (z86 u hu hub D).2 d (Nat.le_of_lt_succ hd) k a s r h,
      fun d hd l v s r h hb => sc_list0 u hu D (z86 u hu hub D).1 (z86 u hu hub D).2 d (Nat.le_of_lt_succ hd) l v s r h hb⟩
def run0 (ins : List Int) (fuel : Int) : Rs := { ins := ins, ar := [], st := 0, code := 0, out := [], cost := 0, fuel := if fuel < 0 then 0 else fuel, spent := false }
def mEnd (r : Int × Rs) : Rs := if z4i r.2 then r.2 else { r.2 with st := 1, code := r.1 }
def runv (s : Rs) : PV := .agg [vInt s.st, vInt s.code, ints s.out, vInt s.cost, vInt s.fuel]
theorem sc_run0 (u : Un) (hu : u.arrays = []) (hW : z20 u <= 536870912) (hz : (z2i u).1 = 0) (ins : List Int) (fuel : Int) (d : Nat) (r : Int × Rs) (h : zf8 u d (z0a z0f u.flows 0) [] (run0 ins fuel) = some r) : SC Tryz.prog 17 [.pv u.enc, .pv (ints ins), iInt fuel] [] (fun _ => False) (.pv (runv (mEnd r))) [] := by
  refine SC.ofC Tryz.func17 rfl (lb rfl) rfl fun F ρ w => ?_
  have hub : ∀ f ∈ u.flows, lsW f.body <= 1073741824 := fun f hf => Nat.le_trans (zo3 hW hf) oM0
  have hcall := (z86 u hu hub (d + 1)).1 d (Nat.lt_succ_self d) _ _ _ _ h
  refine tQ <| tG <| cE rfl (z1d rfl rfl) <| cE rfl (aLc (k := 106) rfl tZ46 rfl rfl rfl rfl) <| nL <| tQ <| tQ <| tG <| cV rfl (lEA rfl rfl uT25 rfl tS25 (lb rfl)) <| cE rfl (ocq (y2o u hW) ent19 rfl rfl) <| sm 1 rfl <| cV rfl (z0h rfl rfl rfl) ?_
  refine cV rfl (z0h rfl rfl rfl) <| sm 2 rfl <| nL <| tQ <| tG <| sm 2 rfl <| nL ?_
  refine tC rfl (fun hc18 => ?_) fun hc18 => ?_
  ·exact absurd hc18 (by rw [hz]; decide)
  refine tSk <| tQ <| tG <| cV rfl (lEA rfl rfl uT25 rfl tS25 (lb rfl)) <| sm 2 rfl <| cV rfl (ok_max rfl rfl rfl) <| cV rfl (bPu rfl rfl tZ46 tP46 rfl (fbk rfl) rfl) <| cV rfl (bPu rfl rfl tZ71 tP71 rfl (fbk rfl) rfl) <| cE rfl (z80 (k := 1001) rfl rfl rfl rfl rfl rfl) <| sm 1 rfl <| nL <| tQ ?_
  refine tQ <| Tr.growCell (k := 1002) (k2 := 1001) (j := 6) ⟨3, 1⟩ rfl rfl rfl rfl rfl rfl <| tG <| sm 1 rfl <| nL <| tBk <| Tr.sub (Sub.of (fr' := [(10, iInt 0), (9, .ptr 1001 0), (6, .ptr 106 0), (3, .pv (.ept [arrs u.arrays, flws u.flows] 0))]) ⟨rfl, rfl, rfl, rfl, trivial⟩) <| Tr.heap (σ' := look [(106, some (.box [iInt 0, iInt 0, .pv (.val (.slice none 0 0)), iInt 0, iInt 0])), (1001, some (z51 u (run0 ins fuel))), (1002, some (rowI []))]) (lkq [106, 1001, 1002] rfl rfl ⟨rfl, rfl, rfl, trivial⟩) ?_
  refine Tr.loop (fun fr σ m => fr = [(10, iInt 0), (9, .ptr 1001 0), (6, .ptr 106 0), (3, .pv (.ept [arrs u.arrays, flws u.flows] 0))] /\ σ = look [(106, some (.box [iInt 0, iInt 0, .pv (.val (.slice none 0 0)), iInt 0, iInt 0])), (1001, some (z51 u (run0 ins fuel))), (1002, some (rowI []))] /\ m = 0) (n := 0) ?_ ?_
  ·exact ⟨rfl, rfl, rfl⟩
  rintro fr σ m ⟨rfl, rfl, rfl⟩
  refine tQ <| tQ <| tG <| sm 3 rfl <| cV rfl (oSm uT22 rfl) <| sm 1 rfl <| nL ?_
  refine tC rfl (fun hc31 => ?_) fun hc31 => ?_
  ·exact absurd hc31 (by rw [hu]; simp)
  refine tEx <| tQ <| tG <| sm 1 rfl <| cV rfl (lEA rfl rfl uT25 rfl tS25 (lb rfl)) <| cE rfl (ocq (z5b _ _) y1q rfl rfl) <| cE rfl (cRr (hcall) ent29 rfl rfl (sSm rfl (sSm rfl (Subs.cons (fun _ _ _ _ h => z3i PSub.nil h) Subs.nil))) (po2 rfl rfl) (by rfl) (fun k (h : _) => .inr h) rfl (by rfl)) <| sm 1 rfl <| nL <| tQ <| tQ <| tG ?_
  refine sm 1 rfl <| cE rfl (ocr (z7q u r.2) zs3 rfl (po2 rfl rfl) rfl (fun k (h : _) => .inr trivial) rfl rfl) <| sm 1 rfl <| nL ?_
  refine tC rfl (fun hc56 => ?_) fun hc56 => ?_
  ·have hend : mEnd r = { r.2 with st := 1, code := r.1 } := if_neg (by intro hh; rw [hh] at hc56; exact absurd hc56 dC0)
   refine tG <| sm 3 rfl <| cV rfl (nCk rfl rfl rfl) <| sm 2 rfl <| c0 (sBx rfl rfl rfl rfl ((fun h => h)) tS3 (rfl) (lb rfl)) <| cV rfl (nCk rfl rfl rfl) <| sm 2 rfl <| c0 (sBx rfl rfl rfl rfl ((fun h => h)) tS3 (rfl) (lb rfl)) <| nL <| tQ <| Tr.freezeCell (k := 1002) (k2 := 1001) (j := 6) (n := (r.2.out.map eInt).length) rfl rfl rfl rfl dC0 <| tG ?_
   refine sm 1 rfl <| cV rfl (nCk rfl rfl rfl) <| sm 1 rfl <| cV rfl (lBP rfl rfl rfl Tryz.underlying46 rfl tS46 (lb rfl) rfl trivial) <| c0 (sBA rfl rfl rfl rfl rfl ((fun h => h)) tS46 (flk rfl) (lb rfl)) <| nL <| tRt ?_
   rw [hend]
   refine rCk (.inl rfl) (fun _ _ ho => lBP ho rfl rfl Tryz.underlying46 rfl tS46 (lb rfl) rfl trivial) rfl nPo
  have hend : mEnd r = r.2 := if_pos (by simpa using hc56)
  refine tSk <| tQ <| Tr.freezeCell (k := 1002) (k2 := 1001) (j := 6) (n := (r.2.out.map eInt).length) rfl rfl rfl rfl dC0 <| tG <| sm 1 rfl <| cV rfl (nCk rfl rfl rfl) <| sm 1 rfl <| cV rfl (lBP rfl rfl rfl Tryz.underlying46 rfl tS46 (lb rfl) rfl trivial) <| c0 (sBA rfl rfl rfl rfl rfl ((fun h => h)) tS46 (flk rfl) (lb rfl)) <| nL <| tRt ?_
  rw [hend]
  refine rCk (.inl rfl) (fun _ _ ho => lBP ho rfl rfl Tryz.underlying46 rfl tS46 (lb rfl) rfl trivial) rfl nPo
def wakeL : List Nd := [(.mk 8 0 0 ⟨#[]⟩ [] [0] [] []), (.mk 4 3 0 ⟨#[]⟩ [0, 0] [1] [] []), (.mk 4 3 0 ⟨#[]⟩ [0, 0] [2] [] []), (.mk 15 0 0 ⟨#[]⟩ [2] [] [] [])]
def zr2 : Un := ⟨[], [⟨z0f, 1, 0, [1, 1, 1], wakeL⟩]⟩
theorem z8a : (z2i zr2).1 = 0 := by decide +kernel
theorem zk2 : z20 zr2 <= 536870912 := by decide +kernel
theorem y68 : ((zf8 (z3q stB zr2) 20 (z0a z0f (z3q stB zr2).flows 0) [] (run0 [3] 4)).map fun r => (z4i r.2, r.1)) = some (false, 9) := by decide +kernel
theorem wake_run : ∃ r, zf8 (z3q stB zr2) 20 (z0a z0f (z3q stB zr2).flows 0) [] (run0 [3] 4) = some r /\ (mEnd r).st = 1 /\ (mEnd r).code = 9 := by
  have h := y68
  rw [Option.map_eq_some_iff] at h
  obtain ⟨r, h1, h2⟩ := h
  simp only [Prod.mk.injEq] at h2
  refine ⟨r, h1, ?_, ?_⟩
  ·simp only [mEnd, h2.1, Bool.false_eq_true, if_false]
  simp only [mEnd, h2.1, Bool.false_eq_true, if_false, h2.2]
def y67 : PV := .seq [[vInt 8, vInt 0, vInt 0, vStr ⟨#[]⟩, .val (.slice none 0 0), .seq [[vInt 0]], .val (.slice none 0 0), .val (.slice none 0 0)], [vInt 4, vInt 3, vInt 0, vStr ⟨#[]⟩, .seq [[vInt 0], [vInt 0]], .seq [[vInt 1]], .val (.slice none 0 0), .val (.slice none 0 0)], [vInt 4, vInt 3, vInt 0, vStr ⟨#[]⟩, .seq [[vInt 0], [vInt 0]], .seq [[vInt 2]], .val (.slice none 0 0), .val (.slice none 0 0)], [vInt 15, vInt 0, vInt 0, vStr ⟨#[]⟩, .seq [[vInt 2]], .val (.slice none 0 0), .val (.slice none 0 0), .val (.slice none 0 0)]]
theorem wake_sub : PSub y67 (z0g wakeL) := by
  show PSub _ (.seq [_, _, _, _])
  repeat' (first | exact PSub.nil | exact PSub.refl _ | exact trivial | refine And.intro ?_ ?_ | refine PSub.seq (ps := [_, _, _, _]) (qs := [_, _, _, _]) ?_ | refine PSub.seq (ps := [_]) (qs := [_]) ?_)
theorem y1p : z3r stB ⟨[], []⟩ = (⟨[], []⟩, 1) := zn0 stB (by decide +kernel)
theorem y55 (L : List Nd) (hL : PSub y67 (z0g L)) (V : Un) (hH : z3r stB (⟨[], [⟨z0f, 1, 0, [1, 1, 1], L⟩]⟩ : Un) = (V, 0)) (hW : z20 (⟨[], [⟨z0f, 1, 0, [1, 1, 1], L⟩]⟩ : Un) <= 536870912) (hVa : V.arrays = []) (hVl : V.flows.length = 1) (hVr : zv8 V = true) (hVW : z20 V <= 536870912) (hVz : (z2i V).1 = 0) (r : Int × Rs) (hr : zf8 V 20 (z0a z0f V.flows 0) [] (run0 [3] 4) = some r) (h1 : (mEnd r).st = 1) (h2 : (mEnd r).code = 9) : SC Tryz.prog 7 [] [] (fun _ => False) (iBool true) [] := by
  refine SC.of Tryz.func7 rfl (lb rfl) fun F ρ w => ?_
  have hsc := zi4 (⟨[], [⟨z0f, 1, 0, [1, 1, 1], L⟩]⟩ : Un) hW z6i
  rw [hH] at hsc
  have hse := zi4 ⟨[], []⟩ dC0 z6i
  rw [y1p] at hse
  refine tQ <| tG <| sm 1 rfl <| nL <| tQ <| tG <| sm 1 rfl <| nL <| tQ <| tG <| sm 3 rfl <| cE rfl (bSl rfl rfl uT35 tZ3 tS3 rfl rfl rfl rfl (fbk rfl) rfl) ?_
  refine cE rfl (bSl rfl rfl uT35 tZ3 tS3 rfl rfl rfl rfl (fbk rfl) rfl) <| cV rfl (bPu rfl rfl tZ43 tP43 rfl (fbk rfl) rfl) <| cE rfl (bSl rfl rfl uT35 tZ3 tS3 rfl rfl rfl rfl (fbk rfl) rfl) <| cE rfl (bSl rfl rfl uT35 tZ3 tS3 rfl rfl rfl rfl (fbk rfl) rfl) <| cV rfl (bPu rfl rfl tZ43 tP43 rfl (fbk rfl) rfl) <| cE rfl (bSl rfl rfl uT35 tZ3 tS3 rfl rfl rfl rfl (fbk rfl) rfl) <| cE rfl (bSl rfl rfl uT35 tZ3 tS3 rfl rfl rfl rfl (fbk rfl) rfl) <| cV rfl (bPu rfl rfl tZ43 tP43 rfl (fbk rfl) rfl) <| cE rfl (bSl rfl rfl uT35 tZ3 tS3 rfl rfl rfl rfl (fbk rfl) rfl) <| cV rfl (bPu rfl rfl tZ43 tP43 rfl (fbk rfl) rfl) <| cE rfl (bSl rfl rfl uT44 tZ43 tS43 rfl rfl rfl rfl (fbk rfl) rfl) <| cE rfl (z10 (y5r [1, 1, 1] L) ent16 rfl rfl (sSm rfl (Subs.cons (fun _ _ _ _ h => z3i hL h) Subs.nil)) rfl) ?_
  refine cE rfl (z10 (hsc) y3o rfl rfl (Subs.cons (fun _ _ _ _ h => z3i (PSub.agg (ps := [.val (.slice none 0 0), flws [⟨z0f, 1, 0, [1, 1, 1], L⟩]]) (qs := [.seq [], flws [⟨z0f, 1, 0, [1, 1, 1], L⟩]]) (And.intro PSub.nil (And.intro (PSub.refl _) trivial))) h) Subs.nil) rfl) <| sm 1 rfl <| cV rfl (z0h rfl rfl rfl) <| cV rfl (z0h rfl rfl rfl) <| cE rfl (aLc (k := 102) rfl tZ25 rfl rfl rfl rfl) <| c0 (sBA rfl rfl rfl rfl rfl ((fun h => h)) tS25 (flk rfl) (lb rfl)) <| sm 1 rfl <| nL <| tQ <| tG <| cV rfl (lBP rfl rfl rfl uT25 rfl tS25 (lb rfl) rfl trivial) <| cE rfl (bSl rfl rfl uT35 tZ3 tS3 rfl rfl rfl rfl (fbk rfl) rfl) ?_
  refine cE rfl (ocq (sc_run0 V hVa hVW hVz [3] 4 20 r hr) ent17 rfl rfl) <| cE rfl (aLc (k := 104) rfl tZ46 rfl rfl rfl rfl) <| c0 (sBA rfl rfl rfl rfl rfl ((fun h => h)) tS46 (flk rfl) (lb rfl)) <| nL <| tQ <| tG <| sm 3 rfl ?_
  refine wS 33 rfl (fun hb33 => ?_) fun hb33 => ?_
  ·refine sm 2 rfl <| yV rfl rfl (oSm uT23 rfl) <| sm 3 rfl ?_
   refine wS 39 rfl (fun hb39 => ?_) fun hb39 => ?_
   ·refine yV rfl rfl (lBP rfl rfl rfl uT25 rfl tS25 (lb rfl) rfl trivial) <| WL.yes rfl rfl rfl rfl rfl rfl (z10 (sc_right V) ent12 rfl rfl (sRf _ _) rfl) <| sm 2 rfl ?_
    refine wS 43 rfl (fun hb43 => ?_) fun hb43 => ?_
    ·refine sm 5 rfl ?_
     refine wS 48 rfl (fun hb48 => ?_) fun hb48 => ?_
     ·refine sm 5 rfl <| nL <| tQ <| tG <| cV rfl (bPu rfl rfl tZ25 tP25 rfl (fbk rfl) rfl) <| cE rfl (z10 (hse) y3o rfl rfl (Subs.cons (fun _ _ _ _ h => zl5 h) Subs.nil) rfl) <| sm 1 rfl <| cV rfl (z0h rfl rfl rfl) <| cV rfl (z0h rfl rfl rfl) <| cE rfl (aLc (k := 106) rfl tZ25 rfl rfl rfl rfl) <| c0 (sBA rfl rfl rfl rfl rfl ((fun h => h)) tS25 (flk rfl) (lb rfl)) <| sm 1 rfl ?_
      refine nL <| tQ <| tG <| sm 3 rfl ?_
      refine wS 60 rfl (fun hb60 => ?_) fun hb60 => ?_
      ·refine sm 3 rfl <| nL <| tRt <| rOk rfl ?_ nPo
       rw [h2]
       rfl
      exact Bool.noConfusion (show true = false from hb60)
     rw [h1] at hb48
     cases hb48
    rw [hVr] at hb43
    cases hb43
   simp [hVl] at hb39
  exact Bool.noConfusion (show true = false from hb33)
theorem sc_awake : SC Tryz.prog 7 [] [] (fun _ => False) (iBool true) [] := by
  obtain ⟨r, hr, h1, h2⟩ := wake_run
  have hc := zl2 z8a
  exact y55 wakeL wake_sub (z3q stB zr2) (z4l stB z8a) zk2 rfl rfl (by have := y27 zr2; rw [z4l stB z8a] at this; exact this) (by have := z9b stB zm5 zr2; rw [z4l stB z8a] at this; exact Nat.le_trans this zk2) (by rw [hc]) r hr h1 h2
section
def Px (g g' : Gn) : Prop := ∃ q, g'.types = g.types ++ q
theorem Px.refl (g : Gn) : Px g g := ⟨[], by simp⟩
theorem Px.trans {a b c : Gn} (h : Px a b) (h' : Px b c) : Px a c := by
  obtain ⟨q, e⟩ := h
  obtain ⟨r, e'⟩ := h'
  exact ⟨q ++ r, by rw [e', e, List.append_assoc]⟩
theorem Px.len {a b : Gn} (h : Px a b) : a.types.length <= b.types.length := by obtain ⟨q, e⟩ := h; rw [e]; simp
section
variable (l : List UInt8)
theorem za2 (n : Nat) (g : Gn) : Px g (z01 l n g).2 := ⟨[], by simp [z01]⟩
theorem zg9 (seen ts : List Int) (g : Gn) : Px g (z1p l seen ts g).2 := ⟨[], by rw [(z1n l seen ts g).1]; simp⟩
theorem z6s (ts : List Int) (g : Gn) : Px g (z0q ts g).2 := ⟨ts, by rw [(z25 ts g).1]⟩
theorem zp6 (g : Gn) : Px g (z0x l g).2 := ⟨[], by rw [(z48 l g).1]; simp⟩
theorem y02 (kind op n : Int) (name : ByteArray) (seen ins outs : List Int) (g : Gn) : Px g (z1v l kind op n name seen ins outs g).2 := (zg9 l seen ins g).trans (z6s outs _)
theorem zh0 (seen : List Int) (g : Gn) : Px g (z0w l seen g).2 := by
  unfold z0w
  have h0 := za2 l 12 g
  simp only
  repeat' split
  all_goals first
  | exact h0.trans ((za2 l _ _).trans (y02 l _ _ _ _ _ _ _ _))
  | exact h0.trans (y02 l _ _ _ _ _ _ _ _)
theorem px_end (seen : List Int) (p : Plc) (g : Gn) : Px g (gEnd l seen p g).2 := by
  unfold gEnd
  have h0 := za2 l 6 g
  simp only
  repeat' split
  all_goals exact h0.trans (y02 l _ _ _ _ _ _ _ _)
def z9o (rec : GRec) : Prop := ∀ seen p g, Px g (rec seen p g).2
theorem zp5 (x : List Int -> Nd) (t : List Int) (g : Gn) : Px g (z6o x t g).2 := by
  unfold z6o
  split
  ·exact .refl _
  exact z6s t g
theorem px_if {rec : GRec} (hr : z9o rec) (all : List Int) (p : Plc) (g : Gn) : Px g (gIf l rec all p g).2 := by
  unfold gIf
  exact (zp6 l g).trans ((zg9 l _ _ _).trans ((hr _ _ _).trans ((hr _ _ _).trans (zp5 _ _ _))))
theorem px_loop {rec : GRec} (hr : z9o rec) (all : List Int) (g : Gn) : Px g (z8b l rec all g).2 := by
  unfold z8b
  exact (zp6 l g).trans ((zp6 l _).trans ((zg9 l _ _ _).trans ((z6s _ _).trans ((hr _ _ _).trans (zp5 _ _ _)))))
theorem y19 {rec : Option GRec} (hr : ∀ r, rec = some r -> z9o r) (all : List Int) (p : Plc) (g : Gn) : Px g (gAny l rec all p g).2 := by
  have h0 : Px g { g with left := g.left - 1 } := ⟨[], by simp⟩
  have hs := h0.trans ((zh0 l all { g with left := g.left - 1 }).trans (za2 l 6 _))
  unfold gAny
  simp only
  cases rec with
  | none => exact hs
  | some r =>
    simp only
    split
    ·exact hs.trans (px_if l (hr r rfl) all p _)
    split
    ·exact hs.trans (px_loop l (hr r rfl) all _)
    exact hs
def z4y (rec : Option GRec) (p : Plc) : Nat -> List Int -> Gn -> List Nd × Gn
  | 0, all, g => ([(gEnd l all p g).1], (gEnd l all p g).2)
  | i + 1, all, g =>
    if g.left = 0 then ([(gEnd l all p g).1], (gEnd l all p g).2)
    else if z09 (gAny l rec all p g).1 then ([(gAny l rec all p g).1], (gAny l rec all p g).2)
      else ((gAny l rec all p g).1 :: (z4y rec p i (all ++ (gAny l rec all p g).1.outs) (gAny l rec all p g).2).1, (z4y rec p i (all ++ (gAny l rec all p g).1.outs) (gAny l rec all p g).2).2)
theorem z6n (rec : Option GRec) (p : Plc) : ∀ (i : Nat) (out : List Nd) (all : List Int) (g : Gn), z3a l rec p i out all g = (out ++ (z4y l rec p i all g).1, (z4y l rec p i all g).2)
  | 0, out, all, g => rfl
  | i + 1, out, all, g => by
    unfold z3a z4y
    split
    ·rfl
    simp only
    split
    ·rfl
    rw [z6n rec p i]; simp
theorem zo5 (rec : Option GRec) (p : Plc) : ∀ (i : Nat) (all : List Int) (g : Gn), (z4y l rec p i all g).1 ≠ []
  | 0, all, g => by simp [z4y]
  | i + 1, all, g => by
    unfold z4y
    repeat' split
    all_goals simp
theorem zh1 {rec : Option GRec} (hr : ∀ r, rec = some r -> z9o r) (p : Plc) : ∀ (i : Nat) (all : List Int) (g : Gn), Px g (z4y l rec p i all g).2
  | 0, all, g => px_end l all p g
  | i + 1, all, g => by
    unfold z4y
    split
    ·exact px_end l all p g
    split
    ·exact y19 l hr all p g
    exact (y19 l hr all p g).trans (zh1 hr p i _ _)
theorem zp4 (d : Nat) : z9o (z2y l d) := by
  induction d with
  | zero =>
    intro seen p g
    rw [z6m, z6n]
    exact (za2 l 6 g).trans (zh1 l (fun r h => by cases h) p _ _ _)
  | succ d ih =>
    intro seen p g
    rw [z6m, z6n]
    exact (za2 l 6 g).trans (zh1 l (fun r h => by cases h; exact ih) p _ _ _)
theorem z58 (d : Nat) (seen : List Int) (p : Plc) (g : Gn) : z2y l d seen p g = z4y l (gRec l d) p (z01 l 6 g).1 seen (z01 l 6 g).2 := by
  rw [z6m, z6n]; simp
def Fresh (a b : Nat) (ds : List Int) : Prop := ds.Nodup /\ ∀ v ∈ ds, (a : Int) <= v /\ v < (b : Int)
theorem Fresh.nil (a b : Nat) : Fresh a b [] := ⟨List.nodup_nil, fun _ h => by simp at h⟩
theorem Fresh.app {a b b' c : Nat} {x y : List Int} (h : Fresh a b x) (h' : Fresh b' c y) (hb : b <= b') (ha : a <= b') (hc : b <= c) : Fresh a c (x ++ y) := by
  refine ⟨List.nodup_append.2 ⟨h.1, h'.1, fun u hu v hv e => ?_⟩, fun v hv => ?_⟩
  ·have h1 := h.2 u hu
   have h2 := h'.2 v hv
   omega
  rcases List.mem_append.1 hv with hv | hv
  ·have := h.2 v hv; omega
  have := h'.2 v hv; omega
theorem Fresh.mono {a b a' b' : Nat} {x : List Int} (h : Fresh a b x) (ha : a' <= a) (hb : b <= b') : Fresh a' b' x := ⟨h.1, fun v hv => by have := h.2 v hv; omega⟩
theorem z7x : ∀ (ts : List Int) (g : Gn), Fresh g.types.length (z0q ts g).2.types.length (z0q ts g).1
  | [], g => .nil _ _
  | t :: r, g => by
    have ih := z7x r (z0c t g).2
    have h1 : Fresh g.types.length (g.types.length + 1) [(z0c t g).1] := ⟨by simp, fun v hv => by
      rw [List.mem_singleton.1 hv]; simp only [z0c]; omega⟩
    have e : (z0c t g).2.types.length = g.types.length + 1 := by simp [z0c]
    have hl := (z6s r (z0c t g).2).len
    rw [e] at ih hl
    exact h1.app ih (Nat.le_refl _) oM0 hl
theorem zl8 (kind op n : Int) (name : ByteArray) (seen ins outs : List Int) (g : Gn) : Fresh g.types.length (z1v l kind op n name seen ins outs g).2.types.length (dN (z1v l kind op n name seen ins outs g).1) := by
  have h := z7x outs (z1p l seen ins g).2
  have e : (z1p l seen ins g).2.types = g.types := by rw [(z1n l seen ins g).1]
  rw [e] at h
  simpa [z1v, y1m, Nd.params, Nd.kids, Nd.outs, dK] using h
theorem zt1 (seen : List Int) (g : Gn) : Fresh g.types.length (z0w l seen g).2.types.length (dN (z0w l seen g).1) := by
  have N := fun kind op n name ins outs g' => zl8 l kind op n name seen ins outs g'
  unfold z0w
  simp only
  repeat' split
  all_goals exact N _ _ _ _ _ _ _
theorem zt0 (seen : List Int) (p : Plc) (g : Gn) : Fresh g.types.length (gEnd l seen p g).2.types.length (dN (gEnd l seen p g).1) := by
  have N := fun kind op n name ins outs g' => zl8 l kind op n name seen ins outs g'
  unfold gEnd
  simp only
  repeat' split
  all_goals exact N _ _ _ _ _ _ _
def y34 (rec : GRec) : Prop := ∀ seen p g, Fresh g.types.length (rec seen p g).2.types.length (dL (rec seen p g).1)
theorem zl9 (x : List Int -> Nd) (D : List Int) (a : Nat) (hx : ∀ o, dN (x o) = D ++ o) (t : List Int) (g : Gn) (hD : Fresh a g.types.length D) (ha : a <= g.types.length) : Fresh a (z6o x t g).2.types.length (dN (z6o x t g).1) := by
  unfold z6o
  split
  ·rw [hx, List.append_nil]; exact hD
  rw [hx]; exact hD.app (z7x t g) (Nat.le_refl _) ha (z6s t g).len
theorem fresh_if {rec : GRec} (hr : y34 rec) (hp : z9o rec) (all : List Int) (p : Plc) (g : Gn) : Fresh g.types.length (gIf l rec all p g).2.types.length (dN (gIf l rec all p g).1) := by
  unfold gIf
  simp only
  generalize hT : z0x l g = T
  generalize hC : z1p l all [2] T.2 = C
  have eT : T.2.types = g.types := by rw [<- hT, (z48 l g).1]
  have eC : C.2.types = g.types := by rw [<- hC, (z1n l all [2] T.2).1]; exact eT
  have hA := hr all ⟨true, p.Loop, T.1, p.Next, p.Left⟩ C.2
  have pA := (hp all ⟨true, p.Loop, T.1, p.Next, p.Left⟩ C.2).len
  generalize rec all ⟨true, p.Loop, T.1, p.Next, p.Left⟩ C.2 = A at *
  have hB := hr all ⟨true, p.Loop, T.1, p.Next, p.Left⟩ A.2
  have pB := (hp all ⟨true, p.Loop, T.1, p.Next, p.Left⟩ A.2).len
  generalize rec all ⟨true, p.Loop, T.1, p.Next, p.Left⟩ A.2 = B at *
  rw [eC] at hA pA
  refine zl9 _ (dL A.1 ++ dL B.1) g.types.length (fun o => by simp [dN, dK]) T.1 B.2 (hA.app hB (Nat.le_refl _) pA pB) oM0
theorem y1t {rec : GRec} (hr : y34 rec) (hp : z9o rec) (all : List Int) (g : Gn) : Fresh g.types.length (z8b l rec all g).2.types.length (dN (z8b l rec all g).1) := by
  unfold z8b
  simp only
  generalize hT : z0x l g = T
  generalize hO : z0x l T.2 = O
  generalize hA : z1p l all T.1 O.2 = A
  have eT : T.2.types = g.types := by rw [<- hT, (z48 l g).1]
  have eO : O.2.types = g.types := by rw [<- hO, (z48 l T.2).1]; exact eT
  have eA : A.2.types = g.types := by rw [<- hA, (z1n l all T.1 O.2).1]; exact eO
  have hQ := z7x T.1 A.2
  have pQ := (z6s T.1 A.2).len
  generalize z0q T.1 A.2 = Q at *
  have hB := hr (all ++ Q.1) ⟨false, true, [], T.1, O.1⟩ Q.2
  have pB := (hp (all ++ Q.1) ⟨false, true, [], T.1, O.1⟩ Q.2).len
  generalize rec (all ++ Q.1) ⟨false, true, [], T.1, O.1⟩ Q.2 = B at *
  rw [eA] at hQ pQ
  refine zl9 _ (Q.1 ++ dL B.1) g.types.length (fun o => by simp [dN, dK]) O.1 B.2 (hQ.app hB (Nat.le_refl _) pQ pB) oM0
theorem y3v {rec : Option GRec} (hr : ∀ r, rec = some r -> y34 r /\ z9o r) (all : List Int) (p : Plc) (g : Gn) : Fresh g.types.length (gAny l rec all p g).2.types.length (dN (gAny l rec all p g).1) := by
  have hs := zt1 l all { g with left := g.left - 1 }
  have ps := (zh0 l all { g with left := g.left - 1 }).len
  unfold gAny
  simp only
  cases rec with
  | none => exact hs
  | some r =>
    simp only
    split
    ·exact (fresh_if l (hr r rfl).1 (hr r rfl).2 all p _).mono ps (Nat.le_refl _)
    split
    ·exact (y1t l (hr r rfl).1 (hr r rfl).2 all _).mono ps (Nat.le_refl _)
    exact hs
theorem z9s {rec : Option GRec} (hr : ∀ r, rec = some r -> y34 r /\ z9o r) (p : Plc) : ∀ (i : Nat) (all : List Int) (g : Gn), Fresh g.types.length (z4y l rec p i all g).2.types.length (dL (z4y l rec p i all g).1)
  | 0, all, g => by
    have := zt0 l all p g
    simpa [z4y, dL] using this
  | i + 1, all, g => by
    have he := zt0 l all p g
    have hx := y3v l hr all p g
    have px := (y19 l (fun r h => (hr r h).2) all p g).len
    unfold z4y
    split
    ·simpa [dL] using he
    split
    ·simpa [dL] using hx
    have ih := z9s hr p i (all ++ (gAny l rec all p g).1.outs) (gAny l rec all p g).2
    have pt := (zh1 l (fun r h => (hr r h).2) p i (all ++ (gAny l rec all p g).1.outs) (gAny l rec all p g).2).len
    simp only [dL]
    exact hx.app ih (Nat.le_refl _) px pt
theorem y1s (d : Nat) : y34 (z2y l d) := by
  induction d with
  | zero =>
    intro seen p g
    rw [z58]
    exact z9s l (fun r h => by cases h) p (z01 l 6 g).1 seen (z01 l 6 g).2
  | succ d ih =>
    intro seen p g
    rw [z58]
    exact z9s l (fun r h => by cases h; exact ⟨ih, zp4 l d⟩) p (z01 l 6 g).1 seen (z01 l 6 g).2
end
end
section
def PxT (g : Gn) (T : List Int) : Prop := ∃ q, T = g.types ++ q
theorem PxT.of {a b : Gn} {T : List Int} (h : Px a b) (h' : PxT b T) : PxT a T := by
  obtain ⟨q, e⟩ := h
  obtain ⟨r, e'⟩ := h'
  exact ⟨q ++ r, by rw [e', e, List.append_assoc]⟩
theorem PxT.len {a : Gn} {T : List Int} (h : PxT a T) : a.types.length <= T.length := by obtain ⟨q, e⟩ := h; rw [e]; simp
theorem PxT.getD {a : Gn} {T : List Int} (h : PxT a T) {n : Nat} (hn : n < a.types.length) : a.types.getD n 0 = T.getD n 0 := by
  obtain ⟨q, rfl⟩ := h
  simp [List.getD, List.getElem?_append_left hn]
structure Sn (T : List Int) (n : Nat) (seen : List Int) : Prop where
  zero : (0 : Int) ∈ seen
  one : ∃ s ∈ seen, T.getD s.toNat 0 = 1
  two : ∃ s ∈ seen, T.getD s.toNat 0 = 2
  inr : ∀ s ∈ seen, 0 <= s /\ s.toNat < n
theorem Sn.mono {T : List Int} {n m : Nat} {seen : List Int} (h : Sn T n seen) (hm : n <= m) : Sn T m seen := ⟨h.zero, h.one, h.two, fun s hs => ⟨(h.inr s hs).1, Nat.lt_of_lt_of_le (h.inr s hs).2 hm⟩⟩
theorem Sn.app {T : List Int} {n m : Nat} {seen new : List Int} (h : Sn T n seen) (hm : n <= m) (hn : ∀ s ∈ new, 0 <= s /\ s.toNat < m) : Sn T m (seen ++ new) := by
  obtain ⟨s, h1, h2⟩ := h.one
  obtain ⟨s', h3, h4⟩ := h.two
  exact ⟨List.mem_append_left _ h.zero, ⟨s, List.mem_append_left _ h1, h2⟩, ⟨s', List.mem_append_left _ h3, h4⟩, fun v hv => (List.mem_append.1 hv).elim ((h.mono hm).inr v) (hn v)⟩
theorem zz0 {tys seen : List Int} {t : Int} : ∀ (r : List Int) (b : Bool) (k v : Int), (∀ s ∈ r, s ∈ seen) -> v ∈ seen -> gS1 tys t b k v r ∈ seen
  | [], _, _, _, _, hv => hv
  | s :: r, b, k, v, h, hv => by
    unfold gS1
    have hr : ∀ x ∈ r, x ∈ seen := fun x hx => h x (.tail _ hx)
    split
    ·exact zz0 r _ _ _ hr (h s (.head _))
    exact zz0 r _ _ _ hr hv
theorem zz1 {tys seen : List Int} {t : Int} : ∀ (r : List Int) (v : Int), (∀ s ∈ r, s ∈ seen) -> v ∈ seen -> gS2 tys t v r ∈ seen
  | [], _, _, hv => hv
  | s :: r, v, h, hv => by
    unfold gS2
    have hr : ∀ x ∈ r, x ∈ seen := fun x hx => h x (.tail _ hx)
    split
    ·split
     ·exact zz1 r _ hr (h s (.head _))
     exact zz1 r _ hr hv
    exact hv
theorem y10 {tys : List Int} {t : Int} {r : List Int} {v : Int} (h : tys.getD v.toNat 0 = t) : gS2 tys t v r = v := by
  cases r with
  | nil => rfl
  | cons s r => unfold gS2; rw [if_neg (by rw [h]; simp)]
theorem gS2_ty {tys : List Int} {t : Int} : ∀ (r : List Int) (v : Int), (∃ s ∈ r, tys.getD s.toNat 0 = t) -> tys.getD (gS2 tys t v r).toNat 0 = t
  | [], v, h => by obtain ⟨s, hs, _⟩ := h; simp at hs
  | s :: r, v, h => by
    by_cases hv : tys.getD v.toNat 0 = t
    ·rw [y10 hv]; exact hv
    unfold gS2
    rw [if_pos (by simpa using hv)]
    by_cases hs : tys.getD s.toNat 0 = t
    ·rw [if_pos (by simpa using hs), y10 hs]; exact hs
    rw [if_neg (by simpa using hs)]
    refine gS2_ty r v ?_
    obtain ⟨x, hx, hxt⟩ := h
    rcases List.mem_cons.1 hx with rfl | hx
    ·exact absurd hxt hs
    exact ⟨x, hx, hxt⟩
def Ty12 (ts : List Int) : Prop := ∀ t ∈ ts, t = 1 ∨ t = 2
theorem Ty12.ne {ts : List Int} (h : Ty12 ts) : ∀ t ∈ ts, t ≠ 0 := fun t ht => by rcases h t ht with rfl | rfl <;> decide
section
variable (l : List UInt8)
theorem some_ok {g : Gn} {T seen : List Int} {t : Int} (h : PxT g T) (hs : Sn T g.types.length seen) (ht : t = 1 ∨ t = 2) : (z8y l seen t g).1 ∈ seen /\ T.getD (z8y l seen t g).1.toNat 0 = t := by
  have hm : (z8y l seen t g).1 ∈ seen := zz1 seen _ (fun _ h => h) (zz0 seen _ _ _ (fun _ h => h) hs.zero)
  refine ⟨hm, ?_⟩
  rw [<- h.getD (hs.inr _ hm).2]
  refine gS2_ty seen _ ?_
  obtain ⟨s, h1, h2⟩ : ∃ s ∈ seen, T.getD s.toNat 0 = t := by
    rcases ht with rfl | rfl
    ·exact hs.one
    exact hs.two
  exact ⟨s, h1, by rw [h.getD (hs.inr s h1).2]; exact h2⟩
theorem use_ok {T seen : List Int} {n : Nat} {v w : Int} (hs : Sn T n seen) (hn : n <= T.length) (hv : v ∈ seen) (hw : w = 0 ∨ T.getD v.toNat 0 = w) : z54 T seen v w = true := by
  obtain ⟨h1, h2⟩ := hs.inr v hv
  unfold z54
  have e1 : decide (v < 0) = false := by simp; omega
  have e2 : decide (v ≥ T.length) = false := by simp; omega
  have e3 : seen.contains v = true := by simpa using hv
  have e4 : (w != 0 && (T.getD v.toNat 0 != w)) = false := by
    rcases hw with rfl | h
    ·rfl
    rw [h]; simp
  rw [e1, e2, e3, e4]; rfl
theorem ze9 {T seen : List Int} : ∀ (ts : List Int) {g : Gn}, PxT g T -> Sn T g.types.length seen -> Ty12 ts -> z07 T seen (z1p l seen ts g).1 ts = true /\ (∀ v ∈ (z1p l seen ts g).1, v ∈ seen) /\ (z1p l seen ts g).1.map (fun v => T.getD v.toNat 0) = ts
  | [], g, _, _, _ => ⟨rfl, fun v hv => by simp [z1p] at hv, rfl⟩
  | t :: r, g, h, hs, ht => by
    obtain ⟨h1, h2⟩ := some_ok l h hs (ht t (.head _))
    obtain ⟨i1, i2, i3⟩ := ze9 (seen := seen) r (g := (z8y l seen t g).2) h hs (fun x hx => ht x (.tail _ hx))
    simp only [z07, Bool.and_eq_true] at i1
    refine ⟨?_, fun v hv => ?_, ?_⟩
    ·simp only [z1p, z07, z17, Bool.and_eq_true, List.length_cons]
     refine ⟨?_, use_ok hs h.len h1 (.inr h2), i1.2⟩
     have := i1.1
     simp only [beq_iff_eq] at this ⊢
     omega
    ·simp only [z1p, List.mem_cons] at hv
     rcases hv with rfl | hv
     ·exact h1
     exact i2 v hv
    simp only [z1p, List.map_cons, h2, i3]
theorem za1 {T : List Int} : ∀ (ts : List Int) (g : Gn), PxT (z0q ts g).2 T -> z1x T (z0q ts g).1 ts = true
  | [], _, _ => rfl
  | t :: r, g, h => by
    have ih := za1 r (z0c t g).2 h
    have hg : PxT (z0c t g).2 T := PxT.of (z6s r (z0c t g).2) h
    obtain ⟨q, e⟩ := hg
    have e2 : T = (g.types ++ [t]) ++ q := e
    simp only [z0q, z1x, Bool.and_eq_true]
    refine ⟨?_, ih⟩
    simp only [z46, Bool.and_eq_true, Bool.or_eq_true, beq_iff_eq, z0c]
    refine ⟨⟨decide_eq_true oM0, decide_eq_true ?_⟩, .inr ?_⟩
    ·rw [e2]; simp only [List.length_append, List.length_cons, List.length_nil]; omega
    rw [e2]
    simp [List.getD]
theorem z9n {T : List Int} : ∀ {l ts : List Int}, z1x T l ts = true -> z1x T l (zer l) = true
  | [], [], _ => rfl
  | [], _ :: _, h => by simp [z1x] at h
  | _ :: _, [], h => by simp [z1x] at h
  | v :: r, t :: ts, h => by
    simp only [z1x, Bool.and_eq_true] at h
    have ih := z9n h.2
    have h1 := h.1
    simp only [z46, Bool.and_eq_true] at h1
    show (z46 T v 0 && z1x T r (zer r)) = true
    rw [ih]
    simp [z46, h1.1.1, h1.1.2]
theorem y1j {T : List Int} : ∀ {l ts : List Int}, z1x T l ts = true -> (∀ t ∈ ts, t ≠ 0) -> l.all (z6t T) = true /\ l.map (fun v => T.getD v.toNat 0) = ts
  | [], [], _, _ => ⟨rfl, rfl⟩
  | [], _ :: _, h, _ => by simp [z1x] at h
  | _ :: _, [], h, _ => by simp [z1x] at h
  | v :: r, t :: ts, h, hn => by
    simp only [z1x, Bool.and_eq_true] at h
    obtain ⟨i1, i2⟩ := y1j h.2 (fun x hx => hn x (.tail _ hx))
    have h1 := h.1
    simp only [z46, Bool.and_eq_true, Bool.or_eq_true, beq_iff_eq] at h1
    have ht : T.getD v.toNat 0 = t := h1.2.resolve_left (hn t (.head _))
    refine ⟨?_, ?_⟩
    ·simp only [List.all_cons, Bool.and_eq_true]
     exact ⟨by simp only [z6t, Bool.and_eq_true]; exact h1.1, i1⟩
    simp only [List.map_cons, ht, i2]
theorem zz6 {T : List Int} {ts : List Int} {g : Gn} (h : PxT (z0q ts g).2 T) (ht : Ty12 ts) : r8of T (z0q ts g).1 = ts := by
  obtain ⟨h1, h2⟩ := y1j (za1 ts g h) ht.ne
  unfold r8of
  rw [if_pos h1, h2]
theorem tyN_12 : ∀ (n : Nat) (g : Gn), Ty12 (gTyN l n g).1
  | 0, _ => fun t ht => by simp [gTyN] at ht
  | n + 1, g => fun t ht => by
    have h2 : (z01 l 2 g).1 < 2 := z26 oM0
    simp only [gTyN, List.mem_cons] at ht
    rcases ht with rfl | ht
    ·omega
    exact tyN_12 n _ t ht
theorem z89 (g : Gn) : Ty12 (z0x l g).1 := tyN_12 l _ _
structure Env (u : Un) (f : Fl) : Prop where
  ty : f.ty = 1
  ar : z1j z63 u.arrays 0 ≥ 0
  fl : z0a z2t u.flows 0 ≥ 0
  flw : ∃ g, u.flows[(z0a z2t u.flows 0).toNat]? = some g /\ g.types.take g.params.toNat = [1, 2] /\ g.ty = 1
end
end
section
theorem z3n {kind op n : Int} {name : ByteArray} {args outs : List Int} (ho : (kind = 3 ∨ kind = 4) ∨ op = 0) (hn : (kind = 1 ∨ kind = 2) ∨ n = 0) (hm : (kind = 5 ∨ kind = 6 ∨ kind = 7) ∨ name = z0n) (h10 : kind ≠ 10) (h11 : kind ≠ 11) :
    z0k (.mk kind op n name args outs [] []) = true := by
  have e0 : z0n.toList = [] := z6a z0n
  have hm2 : (kind = 5 ∨ kind = 6 ∨ kind = 7) ∨ name.toList = [] := hm.imp id fun h => by rw [h, e0]
  simp only [z0k, r8op, z1t, z12, r8kn, Nd.kind, Nd.op, Nd.n, Nd.name, Nd.kids, Nd.params, Bool.and_eq_true, Bool.or_eq_true, beq_iff_eq, List.length_nil]
  refine ⟨⟨⟨⟨ho, hn⟩, ?_⟩, ?_⟩, .inr rfl⟩
  ·rcases hm2 with (h | h | h) | h
   ·exact .inl (.inl (.inl h))
   ·exact .inl (.inl (.inr h))
   ·exact .inl (.inr h)
   exact .inr h
  rw [if_neg h11, if_neg h10]; rfl
section
variable (l : List UInt8) {u : Un} {f : Fl} {seen : List Int} {w : Wh} {deep : Int}
def Leaf (u : Un) (f : Fl) (seen : List Int) (w : Wh) (x : Nd) : Prop := z0k x = true /\ (x.kind == 10) = false /\ (x.kind == 11) = false /\ (z3u u f x seen w).ok f.types x.outs = true
theorem Leaf.ok {x : Nd} (h : Leaf u f seen w x) : z4n u f deep w seen x = true := by
  rw [z2l u f deep w seen h.1 h.2.1 h.2.2.1]; exact h.2.2.2
theorem zy8 {x : Nd} (h1 : (x.kind == 10) = false) (h2 : (x.kind == 11) = false) : z09 x = z1b x.kind := by
  unfold z09
  rw [h1, h2]; rfl
section
variable {A O : List Int} {op n : Int} {name : ByteArray}
theorem sF1 : z3u u f (.mk 1 op n name A O [] []) seen w = ⟨z07 f.types seen A [], some [1]⟩ := rfl
theorem sF2 : z3u u f (.mk 2 op n name A O [] []) seen w = ⟨(n == 0 || n == 1) && z07 f.types seen A [], some [2]⟩ := rfl
theorem sF3 : z3u u f (.mk 3 op n name A O [] []) seen w = ⟨z2h op && z07 f.types seen A [(z08 op).1], some [(z08 op).2]⟩ := rfl
theorem sF4 : z3u u f (.mk 4 op n name A O [] []) seen w = ⟨z2m op && z07 f.types seen A [(z08 op).1, (z08 op).1] && f.types.getD (A.getD 0 0).toNat 0 == f.types.getD (A.getD 1 0).toNat 0, some [(z08 op).2]⟩ := rfl
theorem sF5 : z3u u f (.mk 5 op n name A O [] []) seen w = ⟨decide (z1j name u.arrays 0 ≥ 0) && z07 f.types seen A [1], some [1]⟩ := rfl
theorem sF6 : z3u u f (.mk 6 op n name A O [] []) seen w = ⟨decide (z1j name u.arrays 0 ≥ 0) && z07 f.types seen A [1, 1], none⟩ := rfl
theorem sF7 {g : Fl} (h : z0a name u.flows 0 ≥ 0) (hg : u.flows[(z0a name u.flows 0).toNat]? = some g) : z3u u f (.mk 7 op n name A O [] []) seen w = ⟨z07 f.types seen A (g.types.take g.params.toNat), some [g.ty]⟩ := by
  have e : z3u u f (.mk 7 op n name A O [] []) seen w = (if decide (z0a name u.flows 0 ≥ 0) = true then match u.flows[(z0a name u.flows 0).toNat]? with
      | some g => ⟨z07 f.types seen A (g.types.take g.params.toNat), some [g.ty]⟩
      | none => ⟨false, none⟩
    else ⟨false, none⟩) := rfl
  rw [e, if_pos (decide_eq_true h), hg]
theorem sF8 : z3u u f (.mk 8 op n name A O [] []) seen w = ⟨(A.length : Int) == 0, some [1]⟩ := rfl
theorem sF9 : z3u u f (.mk 9 op n name A O [] []) seen w = ⟨z07 f.types seen A [1], none⟩ := rfl
theorem sF12 : z3u u f (.mk 12 op n name A O [] []) seen w = ⟨w.If && z07 f.types seen A w.Yield, none⟩ := rfl
theorem sF13 : z3u u f (.mk 13 op n name A O [] []) seen w = ⟨w.Loop && z07 f.types seen A w.Next, none⟩ := rfl
theorem sF14 : z3u u f (.mk 14 op n name A O [] []) seen w = ⟨w.Loop && z07 f.types seen A w.Left, none⟩ := rfl
theorem sF15 : z3u u f (.mk 15 op n name A O [] []) seen w = ⟨z07 f.types seen A [f.ty], none⟩ := rfl
theorem leaf1 (hO : z1x f.types O [1] = true) : Leaf u f seen w (.mk 1 0 n z0n [] O [] []) :=
  ⟨z3n (.inr rfl) (.inl (.inl rfl)) (.inr rfl) dC0 dC0, rfl, rfl, by
    rw [sF1]; simpa [SForm.ok, z07, z17, Nd.outs] using hO⟩
theorem leaf2 (hn : n = 0 ∨ n = 1) (hO : z1x f.types O [2] = true) : Leaf u f seen w (.mk 2 0 n z0n [] O [] []) :=
  ⟨z3n (.inr rfl) (.inl (.inr rfl)) (.inr rfl) dC0 dC0, rfl, rfl, by
    have h1 : (n == 0 || n == 1) = true := by rcases hn with rfl | rfl <;> rfl
    rw [sF2]; simp only [SForm.ok, h1, Nd.outs, hO]; rfl⟩
theorem leaf3 {a b : Int} (h1 : z2h op = true) (h2 : z08 op = (a, b)) (hA : z07 f.types seen A [a] = true) (hO : z1x f.types O [b] = true) : Leaf u f seen w (.mk 3 op 0 z0n A O [] []) :=
  ⟨z3n (.inl (.inl rfl)) (.inr rfl) (.inr rfl) dC0 dC0, rfl, rfl, by
    rw [sF3]; simp only [SForm.ok, h1, h2, Nd.outs, hA, hO]; rfl⟩
theorem leaf4 {a b : Int} (h1 : z2m op = true) (h2 : z08 op = (a, b)) (hA : z07 f.types seen A [a, a] = true) (ht : f.types.getD (A.getD 0 0).toNat 0 = f.types.getD (A.getD 1 0).toNat 0) (hO : z1x f.types O [b] = true) : Leaf u f seen w (.mk 4 op 0 z0n A O [] []) :=
  ⟨z3n (.inl (.inr rfl)) (.inr rfl) (.inr rfl) dC0 dC0, rfl, rfl, by
    rw [sF4]; simp only [SForm.ok, h1, h2, Nd.outs, hA, hO, ht, Bool.true_and, Bool.and_true, beq_self_eq_true]⟩
theorem leaf5 (E : Env u f) (hA : z07 f.types seen A [1] = true) (hO : z1x f.types O [1] = true) : Leaf u f seen w (.mk 5 0 0 z63 A O [] []) :=
  ⟨z3n (.inr rfl) (.inr rfl) (.inl (.inl rfl)) dC0 dC0, rfl, rfl, by
    rw [sF5]; simp only [SForm.ok, decide_eq_true E.ar, Nd.outs, hA, hO]; rfl⟩
theorem leaf6 (E : Env u f) (hA : z07 f.types seen A [1, 1] = true) : Leaf u f seen w (.mk 6 0 0 z63 A [] [] []) :=
  ⟨z3n (.inr rfl) (.inr rfl) (.inl (.inr (.inl rfl))) dC0 dC0, rfl, rfl, by
    rw [sF6]; simp only [SForm.ok, decide_eq_true E.ar, hA]; rfl⟩
theorem leaf7 (E : Env u f) (hA : z07 f.types seen A [1, 2] = true) (hO : z1x f.types O [1] = true) : Leaf u f seen w (.mk 7 0 0 z2t A O [] []) :=
  ⟨z3n (.inr rfl) (.inr rfl) (.inl (.inr (.inr rfl))) dC0 dC0, rfl, rfl, by
    obtain ⟨g, h1, h2, h3⟩ := E.flw
    rw [sF7 E.fl h1]; simp only [SForm.ok, h2, h3, Nd.outs, hA, hO]; rfl⟩
theorem leaf8 (hO : z1x f.types O [1] = true) : Leaf u f seen w (.mk 8 0 0 z0n [] O [] []) :=
  ⟨z3n (.inr rfl) (.inr rfl) (.inr rfl) dC0 dC0, rfl, rfl, by
    rw [sF8]; simp only [SForm.ok, Nd.outs, hO]; rfl⟩
theorem leaf9 (hA : z07 f.types seen A [1] = true) : Leaf u f seen w (.mk 9 0 0 z0n A [] [] []) :=
  ⟨z3n (.inr rfl) (.inr rfl) (.inr rfl) dC0 dC0, rfl, rfl, by
    rw [sF9]; simp only [SForm.ok, hA]; rfl⟩
theorem leafE {k : Int} {want : List Int} (hk : (k = 12 /\ w.If = true /\ want = w.Yield) ∨ (k = 13 /\ w.Loop = true /\ want = w.Next) ∨ (k = 14 /\ w.Loop = true /\ want = w.Left) ∨ (k = 15 /\ want = [f.ty])) (hA : z07 f.types seen A want = true) : Leaf u f seen w (.mk k 0 0 z0n A [] [] []) := by
  have hb : z0k (.mk k 0 0 z0n A [] [] []) = true := z3n (.inr rfl) (.inr rfl) (.inr rfl) oM0 oM0
  rcases hk with ⟨rfl, h1, rfl⟩ | ⟨rfl, h1, rfl⟩ | ⟨rfl, h1, rfl⟩ | ⟨rfl, rfl⟩
  ·exact ⟨hb, rfl, rfl, by rw [sF12]; simp only [SForm.ok, h1, hA]; rfl⟩
  ·exact ⟨hb, rfl, rfl, by rw [sF13]; simp only [SForm.ok, h1, hA]; rfl⟩
  ·exact ⟨hb, rfl, rfl, by rw [sF14]; simp only [SForm.ok, h1, hA]; rfl⟩
  exact ⟨hb, rfl, rfl, by rw [sF15]; simp only [SForm.ok, hA]; rfl⟩
end
theorem zx5 (E : Env u f) {g : Gn} (h : PxT (z0w l seen g).2 f.types) (hs : Sn f.types g.types.length seen) : Leaf u f seen w (z0w l seen g).1 /\ z1b (z0w l seen g).1.kind = false := by
  have key : ∀ (kind op n : Int) (name : ByteArray) (ins outs : List Int) (g' : Gn), g'.types = g.types -> PxT (z1v l kind op n name seen ins outs g').2 f.types -> Ty12 ins ->
      (∀ A O, z07 f.types seen A ins = true -> A.map (fun v => f.types.getD v.toNat 0) = ins -> z1x f.types O outs = true -> Leaf u f seen w (.mk kind op n name A O [] [])) -> z1b kind = false ->
      Leaf u f seen w (z1v l kind op n name seen ins outs g').1 /\ z1b (z1v l kind op n name seen ins outs g').1.kind = false := by
    intro kind op n name ins outs g' hg hp hi hL hk
    have hp1 : PxT (z1p l seen ins g').2 f.types := PxT.of (z6s outs _) hp
    have hp0 : PxT g' f.types := PxT.of (zg9 l seen ins g') hp1
    obtain ⟨a1, _, a3⟩ := ze9 l (seen := seen) ins hp0 (by rw [hg]; exact hs) hi
    exact ⟨hL _ _ a1 a3 (za1 outs _ hp), hk⟩
  have i1 : Ty12 [1] := by intro t ht; simp at ht; omega
  have i2 : Ty12 [2] := by intro t ht; simp at ht; omega
  have i11 : Ty12 [1, 1] := by intro t ht; simp at ht; omega
  have i12 : Ty12 [1, 2] := by intro t ht; simp at ht; omega
  have i0 : Ty12 [] := by intro t ht; simp at ht
  have nilA : ∀ {A : List Int}, A.map (fun v => f.types.getD v.toNat 0) = [] -> A = [] := fun h => by simpa using h
  have twoA : ∀ {A : List Int} {t : Int}, A.map (fun v => f.types.getD v.toNat 0) = [t, t] -> f.types.getD (A.getD 0 0).toNat 0 = f.types.getD (A.getD 1 0).toNat 0 := by
    intro A t hA
    rcases A with _ | ⟨a, _ | ⟨b, _ | ⟨c, A⟩⟩⟩
    ·simp at hA
    ·simp at hA
    ·simp only [List.map_cons, List.map_nil, List.cons.injEq, and_true] at hA
     show f.types.getD a.toNat 0 = f.types.getD b.toNat 0
     rw [hA.1, hA.2]
    simp at hA
  have two00 : ∀ {A : List Int}, z07 f.types seen A [1, 1] = true -> z07 f.types seen A [0, 0] = true := by
    intro A hA
    rcases A with _ | ⟨a, _ | ⟨b, _ | ⟨c, A⟩⟩⟩
    ·simp [z07] at hA
    ·simp [z07] at hA
    ·simp only [z07, z17, z54, Bool.and_eq_true, Bool.not_eq_true', Bool.or_eq_false_iff] at hA ⊢
     simp_all
    simp [z07] at hA
    omega
  unfold z0w at h ⊢
  simp only at h ⊢
  split
  ·rename_i hk; simp only [hk, if_true] at h
   exact key 1 0 _ z0n [] [1] _ rfl h i0 (fun A O _ h2 h3 => by rw [nilA h2]; exact leaf1 h3) rfl
  rename_i n0; rw [if_neg n0] at h
  split
  ·rename_i hk; rw [if_pos hk] at h
   have h2 : (z01 l 2 (z01 l 12 g).2).1 < 2 := z26 oM0
   exact key 2 0 _ z0n [] [2] _ rfl h i0 (fun A O _ h2 h3 => by rw [nilA h2]; exact leaf2 oM0 h3) rfl
  rename_i n1; rw [if_neg n1] at h
  split
  ·rename_i hk; rw [if_pos hk] at h
   have h4 : (z01 l 4 (z01 l 12 g).2).1 < 4 := z26 oM0
   generalize (z01 l 4 (z01 l 12 g).2).1 = z at *
   have hz : zt2.getD z 0 = 20 ∨ zt2.getD z 0 = 21 ∨ zt2.getD z 0 = 23 ∨ zt2.getD z 0 = 27 := by
     have h5 : z = 0 ∨ z = 1 ∨ z = 2 ∨ z = 3 := by omega
     rcases h5 with rfl | rfl | rfl | rfl
     ·exact .inl rfl
     ·exact .inr (.inl rfl)
     ·exact .inr (.inr (.inl rfl))
     exact .inr (.inr (.inr rfl))
   exact key 3 _ 0 z0n [1] [1] _ rfl h i1 (fun A O h1 _ h3 => leaf3 (by rcases hz with e | e | e | e <;> rw [e] <;> rfl) (by rcases hz with e | e | e | e <;> rw [e] <;> rfl) h1 h3) rfl
  rename_i n2; rw [if_neg n2] at h
  split
  ·rename_i hk; rw [if_pos hk] at h
   exact key 3 22 0 z0n [2] [2] _ rfl h i2 (fun A O h1 _ h3 => leaf3 rfl rfl h1 h3) rfl
  rename_i n3; rw [if_neg n3] at h
  split
  ·rename_i hk; rw [if_pos hk] at h
   have h11 : (z01 l 11 (z01 l 12 g).2).1 < 11 := z26 oM0
   exact key 4 _ 0 z0n [1, 1] [1] _ rfl h i11 (fun A O h1 h2 h3 => leaf4 (a := 1) (b := 1) (by simp [z2m]; omega) (by
     unfold z08
     rw [if_neg (by simp; omega), if_neg (by simp; omega), if_neg (by simp; omega)]) h1 (twoA h2) h3) rfl
  rename_i n4; rw [if_neg n4] at h
  split
  ·rename_i hk; rw [if_pos hk] at h
   have h6 : (z01 l 6 (z01 l 12 g).2).1 < 6 := z26 oM0
   refine key 4 _ 0 z0n [1, 1] [2] _ rfl h i11 (fun A O h1 h2 h3 => ?_) rfl
   by_cases hz : (z01 l 6 (z01 l 12 g).2).1 < 4
   ·exact leaf4 (a := 1) (b := 2) (by simp [z2m]; omega) (by
      unfold z08
      rw [if_neg (by simp; omega), if_neg (by simp; omega), if_pos (by simp; omega)]) h1 (twoA h2) h3
   exact leaf4 (a := 0) (b := 2) (by simp [z2m]; omega) (by
     unfold z08
     rw [if_neg (by simp; omega), if_pos (by simp; omega)]) (two00 h1) (twoA h2) h3
  rename_i n5; rw [if_neg n5] at h
  split
  ·rename_i hk; rw [if_pos hk] at h
   exact key 5 0 0 z63 [1] [1] _ rfl h i1 (fun A O h1 _ h3 => leaf5 E h1 h3) rfl
  rename_i n6; rw [if_neg n6] at h
  split
  ·rename_i hk; rw [if_pos hk] at h
   exact key 6 0 0 z63 [1, 1] [] _ rfl h i11 (fun A O h1 _ h3 => by
     cases O with
     | nil => exact leaf6 E h1
     | cons _ _ => simp [z1x] at h3) rfl
  rename_i n7; rw [if_neg n7] at h
  split
  ·rename_i hk; rw [if_pos hk] at h
   exact key 7 0 0 z2t [1, 2] [1] _ rfl h i12 (fun A O h1 _ h3 => leaf7 E h1 h3) rfl
  rename_i n8; rw [if_neg n8] at h
  split
  ·rename_i hk; rw [if_pos hk] at h
   exact key 8 0 0 z0n [] [1] _ rfl h i0 (fun A O _ h2 h3 => by rw [nilA h2]; exact leaf8 h3) rfl
  rename_i hk; rw [if_neg hk] at h
  exact key 9 0 0 z0n [1] [] _ rfl h i1 (fun A O h1 _ h3 => by
    cases O with
    | nil => exact leaf9 h1
    | cons _ _ => simp [z1x] at h3) rfl
end
end
section
structure Plc.T12 (p : Plc) : Prop where
  y : Ty12 p.Yield
  n : Ty12 p.Next
  v : Ty12 p.Left
structure Wr (p : Plc) (w : Wh) (L : List Nd) : Prop where
  i : p.If = true -> w.If = true
  lp : p.Loop = true -> w.Loop = true /\ w.Next = p.Next
  y : z4b L = 12 -> w.Yield = p.Yield
  lv : z0y L = true -> w.Left = p.Left
section
variable (l : List UInt8) {u : Un} {f : Fl}
theorem gEnd_ok (E : Env u f) {seen : List Int} {p : Plc} {g : Gn} {w : Wh} (h : PxT (gEnd l seen p g).2 f.types) (hs : Sn f.types g.types.length seen) (hp : p.T12) (W : Wr p w [(gEnd l seen p g).1]) :
    Leaf u f seen w (gEnd l seen p g).1 /\ z1b (gEnd l seen p g).1.kind = true := by
  have key : ∀ (k : Int) (ins : List Int) (g' : Gn), g'.types = g.types -> PxT (z1v l k 0 0 z0n seen ins [] g').2 f.types -> Ty12 ins ->
      ((k = 12 /\ w.If = true /\ ins = w.Yield) ∨ (k = 13 /\ w.Loop = true /\ ins = w.Next) ∨ (k = 14 /\ w.Loop = true /\ ins = w.Left) ∨ (k = 15 /\ ins = [f.ty])) ->
      Leaf u f seen w (z1v l k 0 0 z0n seen ins [] g').1 /\ z1b (z1v l k 0 0 z0n seen ins [] g').1.kind = true := by
    intro k ins g' hg hp' hi hk
    have hp0 : PxT g' f.types := PxT.of (zg9 l seen ins g') hp'
    obtain ⟨a1, _, _⟩ := ze9 l (seen := seen) ins hp0 (by rw [hg]; exact hs) hi
    refine ⟨leafE hk a1, ?_⟩
    show (decide (k ≥ 12) && decide (k <= 15)) = true
    rw [decide_eq_true oM0, decide_eq_true oM0]; rfl
  unfold gEnd at h W ⊢
  simp only at h W ⊢
  split
  ·rename_i hk; rw [if_pos hk] at h W
   exact key 12 p.Yield _ rfl h hp.y (.inl ⟨rfl, W.i hk.1, (W.y rfl).symm⟩)
  rename_i n1; rw [if_neg n1] at h W
  split
  ·rename_i hk; rw [if_pos hk] at h W
   exact key 13 p.Next _ rfl h hp.n (.inr (.inl ⟨rfl, (W.lp hk.1).1, (W.lp hk.1).2.symm⟩))
  rename_i n2; rw [if_neg n2] at h W
  split
  ·rename_i hk; rw [if_pos hk] at h W
   exact key 14 p.Left _ rfl h hp.v (.inr (.inr (.inl ⟨rfl, (W.lp hk).1, (W.lv rfl).symm⟩)))
  rename_i hk; rw [if_neg hk] at h W
  exact key 15 [1] _ rfl h (by intro t ht; simp at ht; omega) (.inr (.inr (.inr ⟨rfl, by rw [E.ty]⟩)))
def y35 (u : Un) (f : Fl) (d : Nat) (rec : GRec) : Prop := ∀ (seen : List Int) (p : Plc) (g : Gn) (w : Wh) (deep : Int), PxT (rec seen p g).2 f.types -> Sn f.types g.types.length seen -> p.T12 -> Wr p w (rec seen p g).1 -> deep + d <= 100 -> z43 u f deep w seen (rec seen p g).1 = true
theorem if_ok {d : Nat} {rec : GRec} (hr : y35 u f d rec) (hpx : z9o rec) {all : List Int} {p : Plc} {g : Gn} {w : Wh} {deep : Int} (h : PxT (gIf l rec all p g).2 f.types) (hs : Sn f.types g.types.length all) (hp : p.T12)
    (hlp : p.Loop = true -> w.Loop = true /\ w.Next = p.Next) (hlv : z2s (gIf l rec all p g).1 = true -> w.Left = p.Left) (hd : deep + 1 + d <= 100) : z4n u f deep w all (gIf l rec all p g).1 = true := by
  unfold gIf at h hlv ⊢
  simp only at h hlv ⊢
  have t12 := z89 l g
  generalize hT : z0x l g = T at *
  generalize hC : z1p l all [2] T.2 = C at *
  have eT : T.2.types = g.types := by rw [<- hT, (z48 l g).1]
  have eC : C.2.types = g.types := by rw [<- hC, (z1n l all [2] T.2).1]; exact eT
  have hA := fun w' deep' => hr all ⟨true, p.Loop, T.1, p.Next, p.Left⟩ C.2 w' deep'
  have pA := hpx all ⟨true, p.Loop, T.1, p.Next, p.Left⟩ C.2
  generalize rec all ⟨true, p.Loop, T.1, p.Next, p.Left⟩ C.2 = A at *
  have hB := fun w' deep' => hr all ⟨true, p.Loop, T.1, p.Next, p.Left⟩ A.2 w' deep'
  have pB := hpx all ⟨true, p.Loop, T.1, p.Next, p.Left⟩ A.2
  generalize rec all ⟨true, p.Loop, T.1, p.Next, p.Left⟩ A.2 = B at *
  have xB : PxT B.2 f.types := PxT.of (zp5 _ _ _) h
  have xA : PxT A.2 f.types := PxT.of pB xB
  have xC : PxT C.2 f.types := PxT.of pA xA
  have sC : Sn f.types C.2.types.length all := by rw [eC]; exact hs
  have sA : Sn f.types A.2.types.length all := sC.mono pA.len
  have xT : PxT T.2 f.types := by obtain ⟨q, e⟩ := xC; exact ⟨q, by rw [e, eC, eT]⟩
  have hCt : z07 f.types all C.1 [2] = true := by
    have := (ze9 l (seen := all) [2] xT (by rw [eT]; exact hs) (by intro t ht; simp at ht; omega)).1
    rw [hC] at this; exact this
  have p12 : Plc.T12 ⟨true, p.Loop, T.1, p.Next, p.Left⟩ := ⟨t12, hp.n, hp.v⟩
  -- a node with such outs
  have key : ∀ o : List Int, z1x f.types o (zer o) = true -> (z09 (.mk 10 0 0 z0n C.1 o [] [A.1, B.1]) = true -> o = []) -> (z4b A.1 = 12 -> r8of f.types o = T.1) -> (z4b B.1 = 12 -> r8of f.types o = T.1) ->
      (z2s (.mk 10 0 0 z0n C.1 o [] [A.1, B.1]) = true -> w.Left = p.Left) -> z4n u f deep w all (.mk 10 0 0 z0n C.1 o [] [A.1, B.1]) = true := by
    intro o ho hc hyA hyB hl
    have e0 : z0n.toList = [] := z6a z0n
    have hb : z0k (.mk 10 0 0 z0n C.1 o [] [A.1, B.1]) = true := by
      simp [z0k, r8op, z1t, z12, r8kn, Nd.kind, Nd.op, Nd.n, Nd.name, Nd.kids, Nd.params, e0]
    rw [z62 u f deep w all hb rfl rfl]
    have hl2 : ∀ q, q ∈ [A.1, B.1] -> z0y q = true -> w.Left = p.Left := by
      intro q hq hq2
      refine hl ?_
      simp only [z2s, z2d, Bool.or_false]
      simp only [List.mem_cons, List.not_mem_nil, or_false] at hq
      rcases hq with rfl | rfl
      ·rw [hq2]; rfl
      rw [hq2]; simp
    have vA := hA (w1 w f (.mk 10 0 0 z0n C.1 o [] [A.1, B.1])) (deep + 1) xA sC p12 ⟨fun _ => rfl, hlp, hyA, hl2 _ (.head _)⟩ hd
    have vB := hB (w1 w f (.mk 10 0 0 z0n C.1 o [] [A.1, B.1])) (deep + 1) xB sA p12 ⟨fun _ => rfl, hlp, hyB, hl2 _ (.tail _ (.head _))⟩ hd
    have ho2 : za0 (.mk 10 0 0 z0n C.1 o [] [A.1, B.1]) = true := by
      unfold za0
      cases hcl : z09 (.mk 10 0 0 z0n C.1 o [] [A.1, B.1]) with
      | false => simp
      | true => rw [hc hcl]; rfl
    simp only [Bool.and_eq_true]
    exact ⟨⟨⟨⟨hCt, vA⟩, vB⟩, ho2⟩, ho⟩
  unfold z6o at h hlv ⊢
  split
  ·rename_i hcl
   rw [if_pos hcl] at hlv
   have hcl2 : (z4b A.1 != 12 && z4b B.1 != 12) = true := hcl
   simp only [Bool.and_eq_true, bne_iff_ne] at hcl2
   exact key [] rfl (fun _ => rfl) (fun e => absurd e hcl2.1) (fun e => absurd e hcl2.2) hlv
  rename_i hcl
  rw [if_neg hcl] at h hlv
  have ho := zz6 (T := f.types) h t12
  exact key _ (z9n (za1 _ _ h)) (fun hc => absurd hc hcl) (fun _ => ho) (fun _ => ho) hlv
theorem loop_ok {d : Nat} {rec : GRec} (hr : y35 u f d rec) (hpx : z9o rec) {all : List Int} {g : Gn} {w : Wh} {deep : Int} (h : PxT (z8b l rec all g).2 f.types) (hs : Sn f.types g.types.length all) (hd : deep + 1 + d <= 100) : z4n u f deep w all (z8b l rec all g).1 = true := by
  unfold z8b at h ⊢
  simp only at h ⊢
  have t12 := z89 l g
  generalize hT : z0x l g = T at *
  have o12 := z89 l T.2
  generalize hO : z0x l T.2 = O at *
  generalize hA : z1p l all T.1 O.2 = A at *
  have eT : T.2.types = g.types := by rw [<- hT, (z48 l g).1]
  have eO : O.2.types = g.types := by rw [<- hO, (z48 l T.2).1]; exact eT
  have eA : A.2.types = g.types := by rw [<- hA, (z1n l all T.1 O.2).1]; exact eO
  generalize hQ : z0q T.1 A.2 = Q at *
  have hB := fun w' deep' => hr (all ++ Q.1) ⟨false, true, [], T.1, O.1⟩ Q.2 w' deep'
  have pB := hpx (all ++ Q.1) ⟨false, true, [], T.1, O.1⟩ Q.2
  generalize rec (all ++ Q.1) ⟨false, true, [], T.1, O.1⟩ Q.2 = B at *
  have xB : PxT B.2 f.types := PxT.of (zp5 _ _ _) h
  have xQ : PxT Q.2 f.types := PxT.of pB xB
  have pQ : Px A.2 Q.2 := by rw [<- hQ]; exact z6s T.1 A.2
  have xA : PxT A.2 f.types := PxT.of pQ xQ
  have xO : PxT O.2 f.types := by obtain ⟨q, e⟩ := xA; exact ⟨q, by rw [e, eA, eO]⟩
  have hAt : z07 f.types all A.1 T.1 = true := by
    have := (ze9 l (seen := all) T.1 xO (by rw [eO]; exact hs) t12).1
    rw [hA] at this; exact this
  have hQo : z1x f.types Q.1 T.1 = true := by have := za1 (T := f.types) T.1 A.2 (by rw [hQ]; exact xQ); rw [hQ] at this; exact this
  have hQt : r8of f.types Q.1 = T.1 := by have := zz6 (T := f.types) (g := A.2) (ts := T.1) (by rw [hQ]; exact xQ) t12; rw [hQ] at this; exact this
  have sQ : Sn f.types Q.2.types.length (all ++ Q.1) := by
    have hin := InR.outs T.1 A.2
    rw [hQ] at hin
    exact hs.app (by have := pQ.len; rw [eA] at this; exact this) hin
  have key : ∀ o : List Int, z1x f.types o (zer o) = true -> (z09 (.mk 11 0 0 z0n A.1 o Q.1 [B.1]) = true -> o = []) -> (z0y B.1 = true -> r8of f.types o = O.1) -> z4n u f deep w all (.mk 11 0 0 z0n A.1 o Q.1 [B.1]) = true := by
    intro o ho hc hl
    have e0 : z0n.toList = [] := z6a z0n
    have hb : z0k (.mk 11 0 0 z0n A.1 o Q.1 [B.1]) = true := by
      simp [z0k, r8op, z1t, z12, r8kn, Nd.kind, Nd.op, Nd.n, Nd.name, Nd.kids, Nd.params, e0]
    rw [z4o u f deep w all hb rfl rfl]
    have vB := hB (w2 f (.mk 11 0 0 z0n A.1 o Q.1 [B.1])) (deep + 1) xB sQ ⟨fun t ht => (by simp at ht), t12, o12⟩ ⟨fun e => (by cases e), fun _ => ⟨rfl, hQt⟩, fun _ => rfl, hl⟩ hd
    have ho2 : za0 (.mk 11 0 0 z0n A.1 o Q.1 [B.1]) = true := by
      unfold za0
      cases hcl : z09 (.mk 11 0 0 z0n A.1 o Q.1 [B.1]) with
      | false => simp
      | true => rw [hc hcl]; rfl
    simp only [Bool.and_eq_true]
    refine ⟨⟨⟨⟨?_, z9n hQo⟩, vB⟩, ho2⟩, ho⟩
    show z07 f.types all A.1 (r8of f.types Q.1) = true
    rw [hQt]; exact hAt
  unfold z6o at h ⊢
  split
  ·rename_i hcl
   have hcl2 : (!z0y B.1) = true := hcl
   exact key [] rfl (fun _ => rfl) (fun e => by rw [e] at hcl2; cases hcl2)
  rename_i hcl
  rw [if_neg hcl] at h
  have ho := zz6 (T := f.types) h o12
  exact key _ (z9n (za1 _ _ h)) (fun hc => absurd hc hcl) (fun _ => ho)
theorem any_ok (E : Env u f) {d : Nat} {rec : Option GRec} (hr : ∀ r, rec = some r -> y35 u f d r /\ z9o r) {all : List Int} {p : Plc} {g : Gn} {w : Wh} {deep : Int} (h : PxT (gAny l rec all p g).2 f.types) (hs : Sn f.types g.types.length all) (hp : p.T12)
    (hlp : p.Loop = true -> w.Loop = true /\ w.Next = p.Next) (hlv : z2s (gAny l rec all p g).1 = true -> w.Left = p.Left) (hd : deep + 1 + d <= 100) : z4n u f deep w all (gAny l rec all p g).1 = true := by
  have hs' : Sn f.types ({ g with left := g.left - 1 } : Gn).types.length all := hs
  have ps := zh0 l all { g with left := g.left - 1 }
  have sS := hs'.mono ps.len
  unfold gAny at h hlv ⊢
  simp only at h hlv ⊢
  cases rec with
  | none => exact (zx5 l E (w := w) h hs').1.ok
  | some r =>
    simp only at h hlv ⊢
    split
    ·rename_i hk; rw [if_pos hk] at h hlv
     exact if_ok l (hr r rfl).1 (hr r rfl).2 h sS hp hlp hlv hd
    rename_i n0; rw [if_neg n0] at h hlv
    split
    ·rename_i hk; rw [if_pos hk] at h hlv
     exact loop_ok l (hr r rfl).1 (hr r rfl).2 h sS hd
    rename_i n1; rw [if_neg n1] at h
    exact (zx5 l E (w := w) h hs').1.ok
theorem y4a {x : Nd} {q : List Nd} (h : q ≠ []) : z4b (x :: q) = z4b q := by
  cases q with
  | nil => exact absurd rfl h
  | cons y r => unfold z4b; rw [List.getLast?_cons_cons]
theorem y60 (E : Env u f) {d : Nat} {rec : Option GRec} (hr : ∀ r, rec = some r -> y35 u f d r /\ z9o r) {p : Plc} (hp : p.T12) {w : Wh} {deep : Int} (hd : deep + 1 + d <= 100) (hd0 : deep <= 100) : ∀ (i : Nat) (all : List Int) (g : Gn), PxT (z4y l rec p i all g).2 f.types -> Sn f.types g.types.length all -> Wr p w (z4y l rec p i all g).1 ->
    vGo u f deep w all (z4y l rec p i all g).1 = true := by
  have e100 : (!decide (deep > 100)) = true := by rw [decide_eq_false oM0]; rfl
  have fin : ∀ (all : List Int) (g : Gn), PxT (gEnd l all p g).2 f.types -> Sn f.types g.types.length all -> Wr p w [(gEnd l all p g).1] -> vGo u f deep w all [(gEnd l all p g).1] = true := by
    intro all g h hs W
    obtain ⟨h1, h2⟩ := gEnd_ok l E h hs hp W
    have hc : z09 (gEnd l all p g).1 = true := by rw [zy8 h1.2.1 h1.2.2.1]; exact h2
    simp only [vGo, e100, h1.ok (deep := deep), hc, List.isEmpty_nil, Bool.and_true]
    rfl
  intro i
  induction i with
  | zero => intro all g h hs W; exact fin all g h hs W
  | succ i ih =>
    intro all g h hs W
    unfold z4y at h W ⊢
    split
    ·rename_i hk; rw [if_pos hk] at h W
     exact fin all g h hs W
    rename_i n0; rw [if_neg n0] at h W
    split
    ·rename_i hc; rw [if_pos hc] at h W
     have hv := any_ok l E hr (deep := deep) h hs hp W.lp (fun e => W.lv (by simp only [z0y, e, Bool.true_or])) hd
     simp only [vGo, e100, hv, hc, List.isEmpty_nil, Bool.and_true]
     rfl
    rename_i hc; rw [if_neg hc] at h W
    have hne := zo5 l rec p i (all ++ (gAny l rec all p g).1.outs) (gAny l rec all p g).2
    have px1 : PxT (gAny l rec all p g).2 f.types := PxT.of (zh1 l (fun r e => (hr r e).2) p i _ _) h
    have hv := any_ok l E hr (deep := deep) px1 hs hp W.lp (fun e => W.lv (by simp only [z0y, e, Bool.true_or])) hd
    have hcf : z09 (gAny l rec all p g).1 = false := by simpa using hc
    have hem : (z4y l rec p i (all ++ (gAny l rec all p g).1.outs) (gAny l rec all p g).2).1.isEmpty = false := by
      cases hq : (z4y l rec p i (all ++ (gAny l rec all p g).1.outs) (gAny l rec all p g).2).1 with
      | nil => exact absurd hq hne
      | cons _ _ => rfl
    have pg := (y19 l (fun r e => (hr r e).2) all p g).len
    have ho := (y0t l (rec := rec) all p g).1
    have hgo := ih _ _ h (hs.app pg ho) ⟨W.i, W.lp, fun e => W.y (by rw [y4a hne]; exact e), fun e => W.lv (by simp only [z0y, e, Bool.or_true])⟩
    simp only [vGo, e100, hv, hcf, hem, hgo, Bool.and_true]
    rfl
theorem list_ok (E : Env u f) (d : Nat) : y35 u f (d + 1) (z2y l d) := by
  induction d with
  | zero =>
    intro seen p g w deep h hs hp W hd
    rw [z58] at h W ⊢
    have := y60 l E (d := 0) (rec := gRec l 0) (fun r h => by cases h) hp (w := w) (deep := deep) (by simpa using hd) oM0 _ _ _ h hs W
    have hne := zo5 l (gRec l 0) p (z01 l 6 g).1 seen (z01 l 6 g).2
    simp only [z43, this, Bool.and_true]
    cases hq : (z4y l (gRec l 0) p (z01 l 6 g).1 seen (z01 l 6 g).2).1 with
    | nil => exact absurd hq hne
    | cons _ _ => rfl
  | succ d ih =>
    intro seen p g w deep h hs hp W hd
    rw [z58] at h W ⊢
    have := y60 l E (d := d + 1) (rec := gRec l (d + 1)) (fun r h => by cases h; exact ⟨ih, zp4 l d⟩) hp (w := w) (deep := deep) oM0 oM0 _ _ _ h hs W
    have hne := zo5 l (gRec l (d + 1)) p (z01 l 6 g).1 seen (z01 l 6 g).2
    simp only [z43, this, Bool.and_true]
    cases hq : (z4y l (gRec l (d + 1)) p (z01 l 6 g).1 seen (z01 l 6 g).2).1 with
    | nil => exact absurd hq hne
    | cons _ _ => rfl
end
end
section
section
variable (l : List UInt8)
theorem y1k (kind op n : Int) (name : ByteArray) (seen ins outs : List Int) (g : Gn) : wtN (z1v l kind op n name seen ins outs g).1 = ins.length + outs.length + name.size := by
  rw [wtN_eq]
  show (z1p l seen ins g).1.length + (z0q outs _).1.length + 0 + name.size + 0 = _
  rw [(z1n l seen ins g).2, (z25 outs _).2]
  omega
theorem y6b (seen : List Int) (g : Gn) : wtN (z0w l seen g).1 <= 4 := by
  unfold z0w
  simp only
  have hn : z0n.size = 0 := rfl
  have ha : z63.size = 1 := rfl
  have hf : z2t.size = 1 := rfl
  repeat' split
  all_goals (rw [y1k]; simp only [List.length_cons, List.length_nil, hn, ha, hf]; omega)
theorem wt_end (seen : List Int) (p : Plc) (hp : p.small) (g : Gn) : wtN (gEnd l seen p g).1 <= 2 := by
  obtain ⟨h1, h2, h3⟩ := hp
  unfold gEnd
  simp only
  have hn : z0n.size = 0 := rfl
  repeat' split
  all_goals (rw [y1k]; simp only [List.length_cons, List.length_nil, hn]; omega)
def y37 (N : Nat) (rec : GRec) : Prop := ∀ seen p g, p.small -> wtL (rec seen p g).1 <= N /\ (rec seen p g).1.length <= 6
theorem y6a (x : List Int -> Nd) (t : List Int) (ht : t.length <= 2) (g : Gn) (N : Nat) (hx : ∀ o, wtN (x o) = o.length + N) : wtN (z6o x t g).1 <= N + 2 := by
  unfold z6o
  split
  ·rw [hx]; simp
  rw [hx, (z25 t g).2]; omega
theorem wt_if {N : Nat} {rec : GRec} (hr : y37 N rec) (all : List Int) (p : Plc) (hp : p.small) (g : Gn) : wtN (gIf l rec all p g).1 <= 2 * N + 20 := by
  unfold gIf
  simp only
  obtain ⟨_, h2⟩ := z3j l g
  have hsm : Plc.small ⟨true, p.Loop, (z0x l g).1, p.Next, p.Left⟩ := ⟨h2, hp.2.1, hp.2.2⟩
  refine Nat.le_trans (y6a _ _ h2 _ (1 + (1 + ((rec all ⟨true, p.Loop, (z0x l g).1, p.Next, p.Left⟩ (z1p l all [2] (z0x l g).2).2).1.length + wtL (rec all ⟨true, p.Loop, (z0x l g).1, p.Next, p.Left⟩ (z1p l all [2] (z0x l g).2).2).1) + (1 + ((rec all ⟨true, p.Loop, (z0x l g).1, p.Next, p.Left⟩ (rec all ⟨true, p.Loop, (z0x l g).1, p.Next, p.Left⟩ (z1p l all [2] (z0x l g).2).2).2).1.length + wtL (rec all ⟨true, p.Loop, (z0x l g).1, p.Next, p.Left⟩ (rec all ⟨true, p.Loop, (z0x l g).1, p.Next, p.Left⟩ (z1p l all [2] (z0x l g).2).2).2).1)))) fun o => ?_) ?_
  ·simp only [wtN, wtK, (z1n l all [2] (z0x l g).2).2, show z0n.size = 0 from rfl, List.length_cons, List.length_nil]
   omega
  have h3 := hr all _ (z1p l all [2] (z0x l g).2).2 hsm
  have h4 := hr all _ (rec all ⟨true, p.Loop, (z0x l g).1, p.Next, p.Left⟩ (z1p l all [2] (z0x l g).2).2).2 hsm
  omega
theorem wt_loop {N : Nat} {rec : GRec} (hr : y37 N rec) (all : List Int) (g : Gn) : wtN (z8b l rec all g).1 <= 2 * N + 20 := by
  unfold z8b
  simp only
  obtain ⟨_, h2⟩ := z3j l g
  obtain ⟨_, h4⟩ := z3j l (z0x l g).2
  generalize hA : z1p l all (z0x l g).1 (z0x l (z0x l g).2).2 = A
  have hAl : A.1.length <= 2 := by rw [<- hA, (z1n l all _ _).2]; exact h2
  generalize hQ : z0q (z0x l g).1 A.2 = Q
  have hQl : Q.1.length <= 2 := by rw [<- hQ, (z25 _ _).2]; exact h2
  have h5 := hr (all ++ Q.1) ⟨false, true, [], (z0x l g).1, (z0x l (z0x l g).2).1⟩ Q.2 ⟨by simp, h2, h4⟩
  generalize hB : rec (all ++ Q.1) ⟨false, true, [], (z0x l g).1, (z0x l (z0x l g).2).1⟩ Q.2 = B at h5
  refine Nat.le_trans (y6a _ _ h4 _ (A.1.length + Q.1.length + (1 + (B.1.length + wtL B.1))) fun o => ?_) ?_
  ·simp only [wtN, wtK, show z0n.size = 0 from rfl]
   omega
  omega
theorem wt_any {N : Nat} {rec : Option GRec} (hr : ∀ r, rec = some r -> y37 N r) (all : List Int) (p : Plc) (hp : p.small) (g : Gn) : wtN (gAny l rec all p g).1 <= 2 * N + 20 := by
  have hs := y6b l all { g with left := g.left - 1 }
  unfold gAny
  simp only
  cases rec with
  | none => exact Nat.le_trans hs oM0
  | some r =>
    simp only
    split
    ·exact wt_if l (hr r rfl) all p hp _
    split
    ·exact wt_loop l (hr r rfl) all _
    exact Nat.le_trans hs oM0
theorem zr3 {N : Nat} {rec : Option GRec} (hr : ∀ r, rec = some r -> y37 N r) (p : Plc) (hp : p.small) : ∀ (i : Nat) (out : List Nd) (all : List Int) (g : Gn), wtL (z3a l rec p i out all g).1 <= wtL out + (i + 1) * (2 * N + 20)
  | 0, out, all, g => by
    have := wt_end l all p hp g
    simp only [z3a, z8v, wtL]
    omega
  | i + 1, out, all, g => by
    have he := wt_end l all p hp g
    have hx := wt_any l hr all p hp g
    have e : (i + 1 + 1) * (2 * N + 20) = (i + 1) * (2 * N + 20) + (2 * N + 20) := Nat.succ_mul _ _
    unfold z3a
    split
    ·simp only [z8v, wtL]; omega
    simp only
    split
    ·simp only [z8v, wtL]; omega
    have := zr3 hr p hp i (out ++ [(gAny l rec all p g).1]) (all ++ (gAny l rec all p g).1.outs) (gAny l rec all p g).2
    simp only [z8v, wtL] at this ⊢
    omega
def zl1 : Nat -> Nat
  | 0 => 120
  | d + 1 => 6 * (2 * zl1 d + 20)
theorem y33 (d : Nat) : zl1 (d + 1) = 6 * (2 * zl1 d + 20) := rfl
theorem wt_gList (d : Nat) : y37 (zl1 d) (z2y l d) := by
  induction d with
  | zero =>
    intro seen p g hp
    refine ⟨?_, zf5 l 0 seen p g⟩
    have h6 : (z01 l 6 g).1 < 6 := z26 oM0
    have := zr3 l (N := 0) (rec := none) (fun r h => by cases h) p hp (z01 l 6 g).1 [] seen (z01 l 6 g).2
    rw [z6m]
    show wtL (z3a l none p (z01 l 6 g).1 [] seen (z01 l 6 g).2).1 <= zl1 0
    generalize wtL (z3a l none p (z01 l 6 g).1 [] seen (z01 l 6 g).2).1 = z at this
    generalize (z01 l 6 g).1 = k at *
    have e : zl1 0 = 120 := rfl
    simp only [wtL, Nat.zero_add, Nat.mul_zero] at this
    rw [e]
    omega
  | succ d ih =>
    intro seen p g hp
    refine ⟨?_, zf5 l (d + 1) seen p g⟩
    have h6 : (z01 l 6 g).1 < 6 := z26 oM0
    have := zr3 l (N := zl1 d) (rec := some (z2y l d)) (fun r h => by cases h; exact ih) p hp (z01 l 6 g).1 [] seen (z01 l 6 g).2
    rw [z6m]
    rw [show gRec l (d + 1) = some (z2y l d) from rfl, y33]
    generalize wtL (z3a l (some (z2y l d)) p (z01 l 6 g).1 [] seen (z01 l 6 g).2).1 = z at this
    generalize (z01 l 6 g).1 = k at *
    generalize zl1 d = m at *
    have h7 : (k + 1) * (2 * m + 20) <= 6 * (2 * m + 20) := Nat.mul_le_mul_right _ oM0
    simp only [wtL, Nat.zero_add] at this
    exact Nat.le_trans this h7
theorem y0o (name : ByteArray) (params : List Int) (hp : params.length <= 10) (g : Gn) : (z22 l name params g).1.types.length <= 1000 /\ z4c (z22 l name params g).1.body <= 1000000 := by
  have hs : plc0.small := ⟨by simp [plc0], by simp [plc0], by simp [plc0]⟩
  have hS := (z25 params { g with types := [], left := 30 }).1
  generalize hB : (z0c 2 (z0c 1 (z0q params { g with types := [], left := 30 }).2).2).2 = B
  generalize hE : (z0q params { g with types := [], left := 30 }).1 ++ [(z0c 1 (z0q params { g with types := [], left := 30 }).2).1, (z0c 2 (z0c 1 (z0q params { g with types := [], left := 30 }).2).2).1] = E
  have h1 : B.types.length = params.length + 2 := by rw [<- hB, hS]; simp [z0c]
  have h2 : B.left = 30 := by rw [<- hB, hS]; rfl
  have hb := (z6l l 3 E plc0 B hs).t2
  have hw := wt_gList l 3 E plc0 B hs
  have e : z22 l name params g = (⟨name, 1, params.length, (z2y l 3 E plc0 B).2.types, zf4 (z0c 1 (z0q params { g with types := [], left := 30 }).2).1 (z0c 2 (z0c 1 (z0q params { g with types := [], left := 30 }).2).2).1 ++ (z2y l 3 E plc0 B).1⟩, (z2y l 3 E plc0 B).2) := by
    unfold z22
    simp only [hB, hE]
  rw [e]
  refine ⟨by simp only; omega, ?_⟩
  simp only [z4c, List.length_append, z8v]
  have h3 : wtL (zf4 (z0c 1 (z0q params { g with types := [], left := 30 }).2).1 (z0c 2 (z0c 1 (z0q params { g with types := [], left := 30 }).2).2).1) = 2 := rfl
  have h4 : (zf4 (z0c 1 (z0q params { g with types := [], left := 30 }).2).1 (z0c 2 (z0c 1 (z0q params { g with types := [], left := 30 }).2).2).1).length = 2 := rfl
  have h5 : zl1 3 <= 500000 := by simp only [zl1]; omega
  omega
theorem wt_made : z20 (made l) <= 536870912 := by
  have h1 := y0o l z0f [] sI0 ⟨0, [], 0⟩
  have h2 := y0o l z2t [1, 2] sI0 (z22 l z0f [] ⟨0, [], 0⟩).2
  have e1 : (z22 l z0f [] ⟨0, [], 0⟩).1.name.size = 4 := rfl
  have e2 : (z22 l z2t [1, 2] (z22 l z0f [] ⟨0, [], 0⟩).2).1.name.size = 1 := rfl
  have e3 : z63.size = 1 := rfl
  simp only [z20, made, wtA, wtF, List.length_cons, List.length_nil, e1, e2, e3]
  omega
end
end
section
def Tx (g g' : Gn) : Prop := Ty12 g.types -> Ty12 g'.types
section
variable (l : List UInt8)
theorem y0k (seen ts : List Int) (g : Gn) : Tx g (z1p l seen ts g).2 := fun h => by rw [(z1n l seen ts g).1]; exact h
theorem zr1 (g : Gn) : Tx g (z0x l g).2 := fun h => by rw [(z48 l g).1]; exact h
theorem y0l {ts : List Int} (ht : Ty12 ts) (g : Gn) : Tx g (z0q ts g).2 := fun h => by
  rw [(z25 ts g).1]
  intro t hx
  rcases List.mem_append.1 hx with hx | hx
  ·exact h t hx
  exact ht t hx
theorem zr0 (kind op n : Int) (name : ByteArray) (seen ins : List Int) {outs : List Int} (ho : Ty12 outs) (g : Gn) : Tx g (z1v l kind op n name seen ins outs g).2 := fun h => y0l ho _ (y0k l seen ins g h)
theorem t12_1 : Ty12 [1] := by intro t ht; simp at ht; omega
theorem t12_2 : Ty12 [2] := by intro t ht; simp at ht; omega
theorem y30 : Ty12 [] := by intro t ht; simp at ht
theorem y66 (seen : List Int) (g : Gn) : Tx g (z0w l seen g).2 := by
  intro h
  unfold z0w
  simp only
  repeat' split
  all_goals first
  | exact zr0 l _ _ _ _ _ _ t12_1 _ h
  | exact zr0 l _ _ _ _ _ _ t12_2 _ h
  | exact zr0 l _ _ _ _ _ _ y30 _ h
theorem tx_end (seen : List Int) (p : Plc) (g : Gn) : Tx g (gEnd l seen p g).2 := by
  intro h
  unfold gEnd
  simp only
  repeat' split
  all_goals exact zr0 l _ _ _ _ _ _ y30 _ h
def y36 (rec : GRec) : Prop := ∀ seen p g, Tx g (rec seen p g).2
theorem y65 (x : List Int -> Nd) {t : List Int} (ht : Ty12 t) (g : Gn) : Tx g (z6o x t g).2 := by
  intro h
  unfold z6o
  split
  ·exact h
  exact y0l ht g h
theorem tx_if {rec : GRec} (hr : y36 rec) (all : List Int) (p : Plc) (g : Gn) : Tx g (gIf l rec all p g).2 := fun h => by
  unfold gIf
  exact y65 _ (z89 l g) _ (hr _ _ _ (hr _ _ _ (y0k l _ _ _ (zr1 l g h))))
theorem tx_loop {rec : GRec} (hr : y36 rec) (all : List Int) (g : Gn) : Tx g (z8b l rec all g).2 := fun h => by
  unfold z8b
  exact y65 _ (z89 l _) _ (hr _ _ _ (y0l (z89 l g) _ (y0k l _ _ _ (zr1 l _ (zr1 l g h)))))
theorem tx_any {rec : Option GRec} (hr : ∀ r, rec = some r -> y36 r) (all : List Int) (p : Plc) (g : Gn) : Tx g (gAny l rec all p g).2 := fun h => by
  have hs : Ty12 (z01 l 6 (z0w l all { g with left := g.left - 1 }).2).2.types := y66 l all { g with left := g.left - 1 } h
  unfold gAny
  simp only
  cases rec with
  | none => exact hs
  | some r =>
    simp only
    split
    ·exact tx_if l (hr r rfl) all p _ hs
    split
    ·exact tx_loop l (hr r rfl) all _ hs
    exact hs
theorem y0m {rec : Option GRec} (hr : ∀ r, rec = some r -> y36 r) (p : Plc) : ∀ (i : Nat) (all : List Int) (g : Gn), Tx g (z4y l rec p i all g).2
  | 0, all, g => tx_end l all p g
  | i + 1, all, g => fun h => by
    unfold z4y
    split
    ·exact tx_end l all p g h
    split
    ·exact tx_any l hr all p g h
    exact y0m hr p i _ _ (tx_any l hr all p g h)
theorem tx_list (d : Nat) : y36 (z2y l d) := by
  induction d with
  | zero =>
    intro seen p g h
    rw [z58]
    exact y0m l (rec := gRec l 0) (fun r h => by cases h) p _ _ _ h
  | succ d ih =>
    intro seen p g h
    rw [z58]
    exact y0m l (rec := gRec l (d + 1)) (fun r h => by cases h; exact ih) p _ _ _ h
theorem zs6 {k n : Nat} {v : Int} (h : (k : Int) <= v) : (z2u k n).getD v.toNat false = false := by
  unfold z2u
  rw [List.getD]
  rw [List.getElem?_append_right (by simp; omega)]
  cases hq : (List.replicate (n - k) false)[v.toNat - (List.replicate k true).length]? with
  | none => rfl
  | some b => rw [List.eq_of_mem_replicate (List.mem_of_getElem? hq)]; rfl
theorem z9r (name : ByteArray) (params : List Int) (hS : (z0q params ⟨0, [], 0⟩).1 = iota params.length) (g : Gn) : ∃ (B : Gn) (L : List Nd) (R : Gn), (z22 l name params g).1 = ⟨name, 1, params.length, R.types, zf4 params.length (params.length + 1) ++ L⟩ /\ (L, R) = z2y l 3 (iota params.length ++ [(params.length : Int), ((params.length + 1 : Nat) : Int)]) plc0 B /\ B.types = params ++ [1, 2] := by
  have hG : ∀ (ts : List Int) (a b : Gn), a.types = b.types -> (z0q ts a).1 = (z0q ts b).1 := by
    intro ts
    induction ts with
    | nil => intro a b _; rfl
    | cons t r ih =>
      intro a b e
      simp only [z0q, z0c, e]
      rw [ih { a with types := b.types ++ [t] } { b with types := b.types ++ [t] } rfl]
  have h1 : (z0q params { g with types := [], left := 30 }).1 = iota params.length := (hG params { g with types := [], left := 30 } ⟨0, [], 0⟩ rfl).trans hS
  have h2 : (z0q params { g with types := [], left := 30 }).2.types = params := by rw [(z25 params _).1]; simp
  refine ⟨(z0c 2 (z0c 1 (z0q params { g with types := [], left := 30 }).2).2).2, _, _, ?_, rfl, ?_⟩
  ·unfold z22
   simp only [h1]
   simp only [z0c, h2, List.length_append, List.length_cons, List.length_nil]
   rfl
  simp only [z0c, h2]; simp
end
section
variable (l : List UInt8) {u : Un}
theorem y3u (name : ByteArray) (params : List Int) (hS : (z0q params ⟨0, [], 0⟩).1 = iota params.length) (hp : Ty12 params) (hpl : params.length <= 8) (g : Gn) (E : Env u (z22 l name params g).1) : z2v u (z22 l name params g).1 = true := by
  have hw := (y0o l name params oM0 g).1
  obtain ⟨B, L, R, e, eL, eB⟩ := z9r l name params hS g
  generalize (z22 l name params g).1 = F at *
  have hFt : F.types = R.types := by rw [e]
  have hFb : F.body = [.mk 1 0 3 z0n [] [(params.length : Int)] [] [], .mk 2 0 1 z0n [] [((params.length + 1 : Nat) : Int)] [] []] ++ L := by rw [e]; rfl
  have hFp : F.params = params.length := by rw [e]
  clear e
  have pR : Px B R := by have := zp4 l 3 (iota params.length ++ [(params.length : Int), ((params.length + 1 : Nat) : Int)]) plc0 B; rw [<- eL] at this; exact this
  have hB2 : Ty12 B.types := by
    rw [eB]
    intro t ht
    rcases List.mem_append.1 ht with ht | ht
    ·exact hp t ht
    simp at ht; omega
  have tR : Ty12 F.types := by have := tx_list l 3 (iota params.length ++ [(params.length : Int), ((params.length + 1 : Nat) : Int)]) plc0 B hB2; rw [<- eL] at this; rw [hFt]; exact this
  obtain ⟨q, eR⟩ := pR
  rw [<- hFt] at eR
  have hBl : B.types.length = params.length + 2 := by rw [eB]; simp
  have hRl : params.length + 2 <= F.types.length := by rw [eR, List.length_append, hBl]; omega
  have hxT : PxT B F.types := ⟨q, eR⟩
  have hi : F.types.getD params.length 0 = 1 := by
    rw [<- hxT.getD oM0, eB]; simp [List.getD]
  have hb : F.types.getD (params.length + 1) 0 = 2 := by
    rw [<- hxT.getD oM0, eB]; simp [List.getD]
  -- the list behind the first two z0g
  have hSn : Sn F.types B.types.length (iota params.length ++ [(params.length : Int), ((params.length + 1 : Nat) : Int)]) := by
    refine ⟨?_, ⟨(params.length : Int), by simp, by simpa using hi⟩, ⟨((params.length + 1 : Nat) : Int), by simp, by rw [Int.toNat_natCast]; exact hb⟩, fun s hs => ?_⟩
    ·by_cases h0 : params.length = 0
     ·simp [h0]
     refine List.mem_append_left _ ?_
     simp only [iota, List.mem_map, List.mem_range]
     exact ⟨0, by omega, rfl⟩
    rw [hBl]
    rcases List.mem_append.1 hs with hs | hs
    ·simp only [iota, List.mem_map, List.mem_range] at hs
     obtain ⟨j, hj, rfl⟩ := hs
     omega
    simp only [List.mem_cons, List.not_mem_nil, or_false] at hs
    omega
  have hL := list_ok l E 3 (iota params.length ++ [(params.length : Int), ((params.length + 1 : Nat) : Int)]) plc0 B z21 1 (by rw [<- eL]; exact ⟨[], by simp [hFt]⟩) hSn ⟨y30, y30, y30⟩ ⟨fun h => (by cases h), fun h => (by cases h), fun _ => rfl, fun _ => rfl⟩ oM0
  have hF := y1s l 3 (iota params.length ++ [(params.length : Int), ((params.length + 1 : Nat) : Int)]) plc0 B
  rw [<- eL] at hL hF
  simp only [z43, Bool.and_eq_true] at hL
  rw [hBl, <- hFt] at hF
  have hn : (z2u params.length F.types.length).length = F.types.length := z2x oM0
  unfold z2v
  rw [hFp, hFb]
  simp only [Bool.and_eq_true, Bool.not_eq_true', decide_eq_false_iff_not, List.all_eq_true, Int.toNat_natCast]
  refine ⟨⟨⟨⟨⟨by omega, by omega⟩, by omega⟩, by omega⟩, fun t ht => ?_⟩, ?_⟩
  ·rcases tR t ht with rfl | rfl <;> rfl
  rw [z83 u _ _ 1 z21 _ _ hn]
  have l1 : Leaf u F (iota params.length) z21 (.mk 1 0 3 z0n [] [(params.length : Int)] [] []) := leaf1 (by
    simp only [z1x, z46, Int.toNat_natCast, hi]
    rw [decide_eq_true oM0, decide_eq_true oM0]; rfl)
  have l2 : Leaf u F (iota params.length ++ [(params.length : Int)]) z21 (.mk 2 0 1 z0n [] [((params.length + 1 : Nat) : Int)] [] []) := leaf2 (.inr rfl) (by
    simp only [z1x, z46, Int.toNat_natCast, hb]
    rw [decide_eq_true oM0, decide_eq_true oM0]; rfl)
  have c1 : z09 (.mk 1 0 3 z0n [] [(params.length : Int)] [] []) = false := rfl
  have c2 : z09 (.mk 2 0 1 z0n [] [((params.length + 1 : Nat) : Int)] [] []) = false := rfl
  have hD : Fresh params.length F.types.length (dL ([.mk 1 0 3 z0n [] [(params.length : Int)] [] [], .mk 2 0 1 z0n [] [((params.length + 1 : Nat) : Int)] [] []] ++ L)) := by
    have e1 : dL ([.mk 1 0 3 z0n [] [(params.length : Int)] [] [], .mk 2 0 1 z0n [] [((params.length + 1 : Nat) : Int)] [] []] ++ L) = [(params.length : Int)] ++ ([((params.length + 1 : Nat) : Int)] ++ dL L) := by simp [dL, dN, dK]
    rw [e1]
    have f1 : Fresh params.length (params.length + 1) [(params.length : Int)] := ⟨by simp, fun v hv => by rw [List.mem_singleton.1 hv]; omega⟩
    have f2 : Fresh (params.length + 1) (params.length + 2) [((params.length + 1 : Nat) : Int)] := ⟨by simp, fun v hv => by rw [List.mem_singleton.1 hv]; omega⟩
    exact f1.app (f2.app hF (Nat.le_refl _) oM0 hRl) (Nat.le_refl _) oM0 oM0
  refine ⟨?_, hD.1, fun v hv => zs6 (hD.2 v hv).1⟩
  have hemp : L.isEmpty = false := by simpa using hL.1
  have hgo : vGo u F 1 z21 (iota params.length ++ [(params.length : Int)] ++ [((params.length + 1 : Nat) : Int)]) L = true := by
    rw [List.append_assoc]
    exact hL.2
  have d1 : (!decide ((1 : Int) > 100)) = true := rfl
  show (true && (!decide ((1 : Int) > 100) && z4n u F 1 z21 (iota params.length) (.mk 1 0 3 z0n [] [(params.length : Int)] [] []) && (z09 (.mk 1 0 3 z0n [] [(params.length : Int)] [] []) == false) &&
    (!decide ((1 : Int) > 100) && z4n u F 1 z21 (iota params.length ++ [(params.length : Int)]) (.mk 2 0 1 z0n [] [((params.length + 1 : Nat) : Int)] [] []) && (z09 (.mk 2 0 1 z0n [] [((params.length + 1 : Nat) : Int)] [] []) == L.isEmpty) && vGo u F 1 z21 (iota params.length ++ [(params.length : Int)] ++ [((params.length + 1 : Nat) : Int)]) L))) = true
  rw [l1.ok, l2.ok, c1, c2, hemp, hgo]
  rfl
end
theorem made_ok (l : List UInt8) : (z2i (made l)).1 = 0 := by
  have S0 : (z0q [] ⟨0, [], 0⟩).1 = iota ([] : List Int).length := rfl
  have S2 : (z0q [1, 2] ⟨0, [], 0⟩).1 = iota ([1, 2] : List Int).length := rfl
  generalize hm : z22 l z0f [] ⟨0, [], 0⟩ = m
  have eM : made l = ⟨[⟨z63, 4⟩], [m.1, (z22 l z2t [1, 2] m.2).1]⟩ := by unfold made; simp only [hm]
  obtain ⟨B1, L1, R1, e1, eL1, eB1⟩ := z9r l z0f [] S0 ⟨0, [], 0⟩
  obtain ⟨B2, L2, R2, e2, eL2, eB2⟩ := z9r l z2t [1, 2] S2 m.2
  rw [hm] at e1
  have n1 : m.1.name = z0f := by rw [e1]
  have n2 : (z22 l z2t [1, 2] m.2).1.name = z2t := by rw [e2]
  have q11 : eqS z0f z0f = true := by decide +kernel
  have q12 : eqS z0f z2t = false := by decide +kernel
  have q22 : eqS z2t z2t = true := by decide +kernel
  have q21 : eqS z2t z0f = false := by decide +kernel
  have qa1 : eqS z0f z63 = false := by decide +kernel
  have qa2 : eqS z2t z63 = false := by decide +kernel
  have pF : z0a z2t (made l).flows 0 = 1 := by rw [eM]; simp [z0a, n1, n2, q12, q22]
  have pM : z0a z0f (made l).flows 0 = 0 := by rw [eM]; simp [z0a, n1, q11]
  have pA : z0a z63 (made l).flows 0 = -1 := by rw [eM]; simp [z0a, n1, n2, qa1, qa2]
  have aA : z1j z63 (made l).arrays 0 = 0 := by
    rw [eM]
    show z1j z63 [⟨z63, 4⟩] 0 = 0
    decide +kernel
  have take2 : (z22 l z2t [1, 2] m.2).1.types.take 2 = [1, 2] := by
    rw [e2]
    have pR : Px B2 R2 := by have := zp4 l 3 (iota ([1, 2] : List Int).length ++ [(([1, 2] : List Int).length : Int), ((([1, 2] : List Int).length + 1 : Nat) : Int)]) plc0 B2; rw [<- eL2] at this; exact this
    obtain ⟨q, eR⟩ := pR
    show R2.types.take 2 = [1, 2]
    rw [eR, eB2]; rfl
  have env : ∀ f : Fl, f.ty = 1 -> Env (made l) f := fun f hf => ⟨hf, by rw [aA]; decide, by rw [pF]; decide, ⟨(z22 l z2t [1, 2] m.2).1, by rw [pF, eM]; rfl, by rw [show (z22 l z2t [1, 2] m.2).1.params = 2 by rw [e2]; rfl]; exact take2, by rw [e2]⟩⟩
  rw [z7e]
  refine ⟨?_, fun f hf => ?_⟩
  ·have z1 : z45 z0f = true := by decide +kernel
   have z2 : z45 z2t = true := by decide +kernel
   have z3 : z45 z63 = true := by decide +kernel
   have hl2 : 2 <= (z22 l z2t [1, 2] m.2).1.types.length := by
     have := congrArg List.length take2
     simp at this; omega
   have ga : r8gA (made l) (made l).arrays 0 = true := by
     have : r8gA (made l) [⟨z63, 4⟩] 0 = true := by
       simp only [r8gA, gArr, z3, aA, pA]; decide
     rw [eM] at this ⊢; exact this
   have gf : r8gF (made l) (made l).flows 0 = true := by
     have : r8gF (made l) [m.1, (z22 l z2t [1, 2] m.2).1] 0 = true := by
       have t1 : m.1.ty = 1 := by rw [e1]
       have t2 : (z22 l z2t [1, 2] m.2).1.ty = 1 := by rw [e2]
       have p1 : m.1.params = 0 := by rw [e1]; rfl
       have p2 : (z22 l z2t [1, 2] m.2).1.params = 2 := by rw [e2]; rfl
       simp only [r8gF, gFlw, n1, n2, z1, z2, pF, pM, t1, t2, p1, p2]
       rw [decide_eq_false (show ¬ (0 : Int) > m.1.types.length by omega), decide_eq_false (show ¬ (2 : Int) > (z22 l z2t [1, 2] m.2).1.types.length by omega)]
       decide
     rw [eM] at this ⊢; exact this
   have gm : z76 (made l) = true := by
     unfold z76
     rw [pM, eM]
     show (decide ((0 : Int) ≥ 0) && m.1.ty == 1 && m.1.params == 0) = true
     rw [e1]; rfl
   unfold z0z
   rw [ga, gf, gm]; rfl
  have hf2 : f = m.1 ∨ f = (z22 l z2t [1, 2] m.2).1 := by rw [eM] at hf; simpa using hf
  rcases hf2 with rfl | rfl
  ·rw [<- hm]; exact y3u l z0f [] S0 y30 dC0 ⟨0, [], 0⟩ (env _ (by rw [hm, e1]))
  exact y3u l z2t [1, 2] S2 (by intro t ht; simp at ht; omega) dC0 m.2 (env _ (by rw [e2]))
end
mutual
theorem y2d : ∀ x : Nd, y53 x x = true
  | .mk k o n s a u p ks => by simp only [y53, beq_self_eq_true, zn3 ks, Bool.and_self]
theorem za3 : ∀ l : List Nd, z4d l l = true
  | [] => by simp [z4d]
  | x :: r => by simp only [z4d, y2d x, za3 r, Bool.and_self]
theorem zn3 : ∀ ks : List (List Nd), zi2 ks ks = true
  | [] => by simp [zi2]
  | l :: r => by simp only [zi2, za3 l, zn3 r, Bool.and_self]
end
theorem zi1 : ∀ l : List Fl, z4j l l = true
  | [] => rfl
  | f :: r => by simp only [z4j, z9c, beq_self_eq_true, za3, zi1 r, Bool.and_self]
theorem zi0 : ∀ l : List Ar, z8f l l = true
  | [] => rfl
  | f :: r => by simp only [z8f, y2c, beq_self_eq_true, zi0 r, Bool.and_self]
theorem y54 (u : Un) : z74 u u = true := by simp only [z74, beq_self_eq_true, zi0, zi1, Bool.and_self]
theorem y06 (l : List UInt8) : SC Tryz.prog 6 [.pv (bts l)] [] (fun _ => False) (iBool true) [] := by
  refine SC.of Tryz.func6 rfl (lb rfl) fun F ρ w => ?_
  have hW := wt_made l
  have hz := made_ok l
  have hH := z4l stB hz
  have hg : (z3r stB (z3r stB (made l)).1).2 = 0 := by rw [hH]; show (z3r stB (z3q stB (made l))).2 = 0; rw [z4l stB (by rw [zl2 hz])]
  refine tQ <| tG <| sm 1 rfl <| nL <| tQ <| tG <| sm 1 rfl <| cE rfl (ocq (sc_made l) ent10 rfl rfl) <| cE rfl (aLc (k := 103) rfl tZ25 rfl rfl rfl rfl) <| c0 (sBA rfl rfl rfl rfl rfl ((fun h => h)) tS25 (flk rfl) (lb rfl)) <| nL <| tQ ?_
  refine tG <| cV rfl (lBP rfl rfl rfl uT25 rfl tS25 (lb rfl) rfl trivial) <| cE rfl (ocq (zi4 (made l) hW z6i) y3o rfl rfl) <| sm 1 rfl <| cV rfl (z0h rfl rfl rfl) <| cV rfl (z0h rfl rfl rfl) <| cE rfl (aLc (k := 104) rfl tZ25 rfl rfl rfl rfl) <| c0 (sBA rfl rfl rfl rfl rfl ((fun h => h)) tS25 (flk rfl) (lb rfl)) <| sm 1 rfl <| nL <| tQ <| tG ?_
  refine cV rfl (lBP rfl rfl rfl uT25 rfl tS25 (lb rfl) rfl trivial) <| cE rfl (ocq (zi4 (made l) hW z6i) y3o rfl rfl) <| sm 1 rfl <| cV rfl (z0h rfl rfl rfl) <| cV rfl (z0h rfl rfl rfl) <| cE rfl (aLc (k := 106) rfl tZ25 rfl rfl rfl rfl) <| c0 (sBA rfl rfl rfl rfl rfl ((fun h => h)) tS25 (flk rfl) (lb rfl)) <| sm 1 rfl <| nL <| tQ <| tG <| cV rfl (lBP rfl rfl rfl uT25 rfl tS25 (lb rfl) rfl trivial) ?_
  refine cE rfl (ocq (zi4 (z3r stB (made l)).1 (Nat.le_trans (z9b stB zm5 _) hW) z6i) y3o rfl rfl) <| sm 1 rfl <| cV rfl (z0h rfl rfl rfl) <| cV rfl (z0h rfl rfl rfl) <| cE rfl (aLc (k := 108) rfl tZ25 rfl rfl rfl rfl) <| c0 (sBA rfl rfl rfl rfl rfl ((fun h => h)) tS25 (flk rfl) (lb rfl)) <| sm 1 rfl <| nL <| tQ <| tG <| cE rfl (ocq (sc_awake) ent7 rfl rfl) <| sm 1 rfl ?_
  refine wS 28 rfl (fun hb28 => ?_) fun hb28 => ?_
  ·refine sm 5 rfl ?_
   refine wS 33 rfl (fun hb33 => ?_) fun hb33 => ?_
   ·refine yV rfl rfl (lBP rfl rfl rfl uT25 rfl tS25 (lb rfl) rfl trivial) <| yV rfl rfl (lBP rfl rfl rfl uT25 rfl tS25 (lb rfl) rfl trivial) <| WL.yes rfl rfl rfl rfl rfl rfl (z10 (y5b (z3r stB (made l)).1 (z3r stB (made l)).1) ent15 rfl rfl (sRf _ _) rfl) <| sm 2 rfl ?_
    refine wS 38 rfl (fun hb38 => ?_) fun hb38 => ?_
    ·refine sm 4 rfl <| nL <| tRt <| rOk rfl ?_ nPo
     rw [hg]
     rfl
    rw [y54] at hb38
    cases hb38
   simp at hb33
  exact Bool.noConfusion (show true = false from hb28)
section
open Go Go.ChangeShapes Go.WideShapes Go.ChangeAt Go.RowKit
section
variable {H : Type} {enc : TypeId × Value -> H} {P : Program} {w : World} {base : Nat} {spare : Nat -> Bool} {held : Bool}
def RepEl (own : Nat -> Prop) (w : World) (ps : List PV) (cs : List Value) : Prop := ps.length = cs.length /\ ∀ (j : Nat) p v, ps[j]? = some p -> cs[j]? = some v -> RepP own w p v
theorem RepEl.nil {own : Nat -> Prop} : RepEl own w [] [] := ⟨rfl, fun j p v h => by simp at h⟩
theorem RepEl.cons {own : Nat -> Prop} {p : PV} {v : Value} {ps : List PV} {cs : List Value} (h : RepP own w p v) (hr : RepEl own w ps cs) : RepEl own w (p :: ps) (v :: cs) := by
  refine ⟨by simp [hr.1], fun j q x hq hx => ?_⟩
  cases j with
  | zero => simp at hq hx; subst hq; subst hx; exact h
  | succ j => exact hr.2 j q x (by simpa using hq) (by simpa using hx)
theorem zl3 {α : Type} (f : α -> List PV) (wt : α -> Nat) {own : Nat -> Prop} (R : Nat -> DataW H × List MemPlace -> List Value -> Prop)
    (hR : ∀ i y cs, R i y cs -> ∃ z : α, RepEl own w (f z) cs /\ wt z + 1 <= Rows.uptoBulk y.1) :
    ∀ (ys : List (DataW H × List MemPlace)) (s : Nat), (∀ i y, ys[i]? = some y -> ∃ cs, R (s + i) y cs) ->
      ∃ l : List α, l.length = ys.length /\ (∀ i z, l[i]? = some z -> ∃ y cs, ys[i]? = some y /\ R (s + i) y cs /\ RepEl own w (f z) cs) /\ (l.map wt).sum + l.length <= Rows.uptoBulkAll (ys.map (·.1))
  | [], _, _ => ⟨[], rfl, fun i z h => by simp at h, by simp [Rows.uptoBulkAll]⟩
  | y :: ys, s, h => by
    obtain ⟨cs, hcs⟩ := h 0 y rfl
    obtain ⟨z, hz, hw⟩ := hR _ _ _ hcs
    obtain ⟨l, hl, hg, hb⟩ := zl3 f wt R hR ys (s + 1) (fun i y' hy => by
      have := h (i + 1) y' (by simpa using hy)
      rwa [show s + 1 + i = s + (i + 1) by omega])
    refine ⟨z :: l, by simp [hl], fun i z' hz' => ?_, ?_⟩
    ·cases i with
     | zero => simp at hz'; subst hz'; exact ⟨y, cs, rfl, hcs, hz⟩
     | succ i =>
       obtain ⟨y', cs', h1, h2, h3⟩ := hg i z' (by simpa using hz')
       exact ⟨y', cs', by simpa using h1, by rwa [show s + (i + 1) = s + 1 + i by omega], h3⟩
    simp only [List.map_cons, List.sum_cons, List.length_cons, Rows.uptoBulkAll]; omega
theorem y63 {α : Type} (f : α -> List PV) (wt : α -> Nat) {own : Nat -> Prop} (hown : ∀ b, b < w.heap.size -> ¬ own b) {t e : TypeId} {fuel : Nat} {cs : List Value} {x : DataW H × List MemPlace} {N : Nat} (ht : P.underlying t = some (.slice e)) (hC : P.cellsOf e = N) (hN : 0 < N)
    (h : DataW.trod enc P w base spare held fuel t cs = some x)
    (hel : ∀ n cs' y, n < fuel -> cs'.length = N -> DataW.trod enc P w base spare held n e cs' = some y -> ∃ z : α, RepEl own w (f z) cs' /\ wt z + 1 <= Rows.uptoBulk y.1) :
    ∃ (l : List α) (v : Value), cs = [v] /\ RepP own w (.seq (l.map f)) v /\ (l.map wt).sum + l.length + 1 <= Rows.uptoBulk x.1 := by
  rcases DataW.trod_slice ht h with ⟨rfl, rfl⟩ | ⟨a, len, cap, elems, rest, n, rfl, rfl, rfl, hb, hl, hm, hlen, hg, _, _⟩
  ·refine ⟨[], _, rfl, ?_, by simp [Rows.uptoBulk]⟩
   have := RepP.seq (own := own) (w := w) [] none 0 0 0 (fun _ _ => default) (fun h => absurd rfl h) (fun h => absurd rfl h) (Nat.le_refl _) (Nat.zero_le _) (fun i el h => by simp at h) (fun i el h => by simp at h)
   simpa using this
  obtain ⟨l, hll, hat, hsum⟩ := zl3 (w := w) f wt (own := own) (fun i y cs => w.cells? base (a.add (i * P.cellsOf e)) (P.cellsOf e) = some cs /\ DataW.trod enc P w base spare held n e cs = some y)
    (fun i y cs' hr => hel n cs' y (Nat.lt_succ_self _) (by rw [(World.cells?_some hr.1).2.1, hC]) hr.2) elems 0 (fun i y hy => by
      have hlt : i < len := by rw [<- hlen]; exact (List.getElem?_eq_some_iff.1 hy).1
      have h1 := hg i hlt
      rw [hy, Option.bind_eq_some_iff] at h1
      obtain ⟨cs', h2, h3⟩ := h1
      exact ⟨cs', by rw [Nat.zero_add]; exact h2, h3⟩)
  obtain ⟨ab, ao, asp⟩ := a
  have hlen2 : l.length = len := by rw [hll, hlen]
  -- a cell that can be read
  have hsp : l ≠ [] -> asp = none /\ ab < w.heap.size := by
    intro hne
    obtain ⟨z, r, rfl⟩ := List.exists_cons_of_ne_nil hne
    obtain ⟨y, cs', _, hr, hrep⟩ := hat 0 z rfl
    obtain ⟨_, hcl, hcell⟩ := World.cells?_some hr.1
    have h0 := hcell 0 (by rw [hC]; exact hN)
    have hlt : 0 < cs'.length := by rw [hcl, hC]; exact hN
    rw [List.getElem?_eq_getElem hlt] at h0
    unfold World.cell? at h0
    have e0 : (Addr.add (Addr.add ⟨ab, ao, asp⟩ ((0 + 0) * P.cellsOf e)) 0) = ⟨ab, ao, asp⟩ := by simp [Addr.add]
    rw [e0] at h0
    split at h0
    ·rename_i hh
     refine ⟨?_, (Array.getElem?_eq_some_iff.1 hh).1⟩
     cases asp with
     | none => rfl
     | some _ => simp at h0
    cases h0
  refine ⟨l, _, rfl, ?_, ?_⟩
  ·-- the cells of an element
   have key : ∀ i z, l[i]? = some z -> ∃ cs', RepEl own w (f z) cs' /\ cs'.length = N /\ ∀ j, j < N -> w.cell? ⟨ab, ao + i * N + j, none⟩ = cs'[j]? := by
     intro i z hz
     obtain ⟨y, cs', _, hr, hrep⟩ := hat i z hz
     obtain ⟨_, hcl, hcell⟩ := World.cells?_some hr.1
     refine ⟨cs', hrep, hcl.trans hC, fun j hj => ?_⟩
     have h1 := hcell j (by rw [hC]; exact hj)
     have hne : l ≠ [] := by intro e; subst e; simp at hz
     have hs := (hsp hne).1
     subst hs
     rw [<- h1, Addr.add_mid, Addr.add_mid, hC, Nat.zero_add]
   have hrep := RepP.seq (own := own) (w := w) (l.map f) (some ⟨ab, ao, asp⟩) cap ab ao (fun i j => (w.cell? ⟨ab, ao + i * N + j, none⟩).getD default)
     (fun hne => by rw [(hsp (by intro e; subst e; exact hne rfl)).1]) (fun hne => by
       have := (hsp (by intro e; subst e; exact hne rfl)).2
       exact ⟨hown _ this, this⟩) (by simp; omega) hm ?_ ?_
   ·rw [List.length_map, hlen2] at hrep; exact hrep
   ·intro i el hi j c hj
    rw [List.getElem?_map, Option.map_eq_some_iff] at hi
    obtain ⟨z, hz, rfl⟩ := hi
    obtain ⟨cs', hrep, hcl, hcell⟩ := key i z hz
    have hjN : j < N := by have := (List.getElem?_eq_some_iff.1 hj).1; rw [hrep.1, hcl] at this; exact this
    have h1 := hcell j hjN
    have hfl : (f z).length = N := by rw [hrep.1, hcl]
    rw [hfl, h1, List.getElem?_eq_getElem oM0]
    rfl
   intro i el hi j c hj
   rw [List.getElem?_map, Option.map_eq_some_iff] at hi
   obtain ⟨z, hz, rfl⟩ := hi
   obtain ⟨cs', hrep, hcl, hcell⟩ := key i z hz
   have hjN : j < N := by have := (List.getElem?_eq_some_iff.1 hj).1; rw [hrep.1, hcl] at this; exact this
   have h1 := hcell j hjN
   rw [List.getElem?_eq_getElem oM0] at h1
   rw [h1]
   exact hrep.2 j c _ hj (List.getElem?_eq_getElem oM0)
  simp only [Rows.uptoBulk]; omega
end
end
section
open Go Go.ChangeShapes Go.WideShapes Go.ChangeAt Go.RowKit Go.Deep
theorem Tryz.own : ownKnob Tryz.prog.godebug = none := by kernel_rfl
theorem Tryz.laidOut : laidOutB Tryz.prog = true := by kernel_rfl
section
variable {H : Type} {enc : TypeId × Value -> H} {P : Program}
theorem y52 {W W' : World} {p : MemPlace} (h : W'.heap[p.block]? = W.heap[p.block]?) : W.sameAt W' p := by
  cases p <;> simp_all [World.sameAt, MemPlace.block, World.cell?]
theorem z9m (hl : laidOutB P = true) {W W' : World} (hb : ∀ b, b < W.heap.size -> W'.heap[b]? = W.heap[b]?) : ∀ (ts : List TypeId) (vs : List Value) (ds : List (DataW H)) (ps : List MemPlace),
    (∀ t ∈ ts, P.readableRec t = true /\ t < P.types.size) -> DataW.TrodAll enc P W 0 (fun _ => true) true ts vs ds ps -> (∀ x ∈ ps, x.block < W.heap.size) ->
    DataW.TrodAll enc P W' 0 (fun b => decide (b < W.heap.size)) true ts vs ds ps
  | [], vs, ds, ps, _, h, _ => by
    obtain ⟨rfl, rfl, rfl⟩ := trodAll_nil h
    exact trodAll_mk0
  | t :: ts, vs, ds, ps, hr, h, hp => by
    obtain ⟨v, vs', d, ds', p, q, rfl, rfl, rfl, h1, h2⟩ := trodAll_cons h
    have ht := hr t (.head _)
    refine ⟨p, q, ?_, z9m hl hb ts vs' ds' q (fun t' h' => hr t' (.tail _ h')) h2 (fun x hx => hp x (List.mem_append_right _ hx)), rfl⟩
    refine WideElems.Trod_stays hl ht.1 ht.2 h1 (fun x hx => ?_) (fun x hx => by simpa using hp x (List.mem_append_left _ hx))
    exact y52 (hb _ (hp x (List.mem_append_left _ hx)))
theorem y1v {W W' : World} (may : MemPlace -> Prop) (hos : W'.os = W.os) (hout : W'.output = W.output) (hb : ∀ b, b < W.heap.size -> W'.heap[b]? = W.heap[b]?) : W.keptBut W' may := by
  refine ⟨hos, hout, fun i hi => ?_⟩
  rw [hb i hi]
  rcases h : W.heap[i]? with _ | o
  ·trivial
  cases o with
  | cells c t fr => exact ⟨rfl, rfl, rfl, fun _ _ => rfl⟩
  | map es clock => exact .inr ⟨rfl, rfl⟩
  | _ => rfl
theorem y4s {f : Func} {s : ChangeSpec} {apart fresh handsOn : Bool} {W W' : World} {args : Array Value} {ds gs : List (DataW H)} {before : List MemPlace} {tb : TypeId} (hl : laidOutB P = true) (hv0 : s.vars = [])
    (hW : DataW.Whole enc P f.params.toList s.vars apart W args.toList ds gs before) (hrd : ∀ t ∈ f.params.toList, P.readableRec t = true /\ t < P.types.size) (hres : f.resultTypes = #[tb]) (htb : P.underlying tb = some .bool)
    (hs : s.fn H (ds ++ gs) = { results := [.lit (.bool true)], args := ds }) (hos : W'.os = W.os) (hout : W'.output = W.output) (hb : ∀ b, b < W.heap.size -> W'.heap[b]? = W.heap[b]?) :
    s.post enc P f apart fresh handsOn false W args (.bool true) W' := by
  have hlt := hW.lt
  have hW' := hW
  obtain ⟨p, q, hA, hV, rfl, _, _⟩ := hW
  refine ⟨ds, gs, p ++ q, [], p, [], hW', ?_, ?_, ?_, y1v _ hos hout hb, fun h => by cases h⟩
  ·rw [hs, hres]
   exact trodAll_mk1 ⟨1, by simp [DataW.trod, htb, Value.cells]⟩
  ·rw [hs]
   exact z9m hl hb _ _ _ _ hrd hA (fun x hx => hlt x (List.mem_append_left _ hx))
  rw [hs, hv0]
  exact rfl
end
theorem y4y {W : World} : RelH (fun _ => False) (fun _ => none) (look (up [])) W where
  inj _ _ _ _ _ h := by cases h
  apart _ _ _ h := by cases h
  old _ h := h.elim
  obj _ _ _ h := by cases h
  real _ _ h := by cases h
theorem y3g {P : Program} {f : FuncId} {args : List IV} {R : Nat -> Prop} (hsc : SC P f args [] R (iBool true) []) {W : World} {vs : List Value} (hr : RepL (fun _ => False) (fun _ => none) (look (up [])) W args vs) :
    Calls P f vs.toArray W fun e W' => e = .returned (.bool true) /\ W'.os = W.os /\ W'.output = W.output /\ ∀ b, b < W.heap.size -> W'.heap[b]? = W.heap[b]? := by
  refine (hsc (fun _ => False) (fun _ => none) W vs y4y hr).mono ?_
  rintro e W' ⟨ρ', v, rfl, hv, _, t⟩
  refine ⟨?_, t.os, t.output, fun b hb => t.blk b hb fun k c h => by cases h⟩
  cases hv with
  | pv _ _ hp => cases hp; rfl
theorem own_none {b : Nat} : ¬ owned (fun _ => False) (fun _ => none) b := by
  rintro (h | ⟨_, _, h⟩)
  ·exact h
  cases h
end
section
open Go Go.ChangeShapes Go.WideShapes Go.ChangeAt Go.RowKit Go.Deep
theorem repL_one {x : IV} {v : Value} {F : Nat -> Prop} {ρ : Loc} {σ : Heap'} {w : World} (h : RepI F ρ σ w x v) : RepL F ρ σ w [x] [v] := by
  refine ⟨rfl, fun j y hj => ?_⟩
  cases j with
  | zero => simp at hj; subst hj; exact ⟨v, rfl, h⟩
  | succ j => simp at hj
end
section
open Go Go.ChangeShapes Go.WideShapes Go.ChangeAt Go.RowKit Go.Deep
section
variable {H : Type} {enc : TypeId × Value -> H} {P : Program} {w : World} {base : Nat} {spare : Nat -> Bool} {held : Bool}
theorem y31 {own : Nat -> Prop} (hown : ∀ b, b < w.heap.size -> ¬ own b) {t e : TypeId} {fuel : Nat} {cs : List Value} {x : DataW H × List MemPlace} (ht : P.underlying t = some (.slice e)) (he : P.underlying e = some (.int .u8)) (hC : P.cellsOf e = 1)
    (h : DataW.trod enc P w base spare held fuel t cs = some x) : ∃ (l : List UInt8) (v : Value), cs = [v] /\ RepP own w (bts l) v := by
  obtain ⟨l, v, h1, h2, _⟩ := y63 eB (fun _ => 0) hown ht hC dC0 h (fun n cs' y _ _ hy => by
    obtain ⟨k, rfl, rfl, hk⟩ := DataW.trod_int he hy
    have hr : 0 <= k /\ k <= 255 := by
      simp [Lit.wf, IntKind.min, IntKind.max, IntKind.bits, IntKind.signed] at hk
      omega
    refine ⟨UInt8.ofNat k.toNat, ?_, by simp [Rows.uptoBulk]⟩
    have e : ((UInt8.ofNat k.toNat).toNat : Int) = k := by
      rw [UInt8.toNat_ofNat_of_lt' (by simp [UInt8.size]; omega)]
      omega
    unfold eB
    rw [e]
    exact RepEl.cons (.val _) .nil)
  exact ⟨l, v, h1, h2⟩
end
set_option maxRecDepth 100000 in
theorem y25 {H : Type} {enc : TypeId × Value -> H} {W : World} {base b0 : Nat} {spare : Nat -> Bool} {held : Bool} {r : Reach} {v : Value} {d : DataW H} {p : List MemPlace} (hv : Value.okWide Tryz.prog W r b0 29 v)
    (h : DataW.Trod enc Tryz.prog W base spare held 29 v d p) : ∃ l : List UInt8, RepI (fun _ => False) (fun _ => none) (look (up [])) W (.pv (bts l)) v := by
  obtain ⟨a, len, cap, rfl⟩ := okWide_slice Tryz.underlying29 hv
  obtain ⟨fuel, hf⟩ := h
  obtain ⟨l, v', h1, h2⟩ := y31 (own := owned (fun _ => False) (fun _ => none)) (fun _ _ => own_none) Tryz.underlying29 Tryz.underlying5 kR0 hf
  have e : (Value.slice a len cap).cells.toList = [Value.slice a len cap] := rfl
  rw [e] at h1
  cases h1
  exact ⟨l, .pv _ _ h2⟩
set_option maxRecDepth 100000 in
theorem zi3 (hsc : ∀ l : List UInt8, SC Tryz.prog 6 [.pv (bts l)] [] (fun _ => False) (iBool true) []) (os : Os) (started : os.Started) (H : Type) (enc : TypeId × Value -> H) :
    ReturnsInHanded {} Tryz.checked os 6 .any (Rows.sameSameSpec.pre6 enc Tryz.prog Tryz.f6 Rows.sameSameRow.domain false) (Rows.sameSameSpec.post enc Tryz.prog Tryz.f6 false true false false) := by
  refine returnsInHanded_of_change (C := Tryz.checked) Tryz.own started kR0 Tryz.func6
    (ChangeSpec.witness6 (enc := enc) (C := Tryz.checked) false ⟨#[], #[.slice none 0 0], []⟩ 8 kR0 kR0 kR0 kR0) ?_
  intro W base args ds gs before hval hW _ _
  have hW' := hW
  obtain ⟨p, q, hA0, hV, rfl, hfz, hnd⟩ := hW
  have hA : DataW.TrodAll enc Tryz.prog W 0 (fun _ => true) true Tryz.f6.params.toList args.toList ds p := hA0
  rw [Tryz.params6] at hA hval
  obtain ⟨v0, vs0, d0, ds0, p0, q0, hargs, rfl, rfl, h0, r0⟩ := trodAll_cons hA
  obtain ⟨rfl, rfl, rfl⟩ := trodAll_nil r0
  obtain rfl : args = #[v0] := by cases args; simp_all
  obtain ⟨rfl, rfl⟩ := trodVars_none hV
  obtain ⟨l, hu⟩ := y25 (hval 0 29 v0 rfl rfl) h0
  refine (y3g (hsc l) (repL_one hu)).mono ?_
  rintro e W' ⟨rfl, hos, hout, hbl⟩
  exact ⟨_, rfl, y4s Tryz.laidOut rfl hW' (fun t ht => by
    rw [Tryz.params6] at ht
    obtain rfl : t = 29 := by simpa using ht
    exact ⟨by kernel_rfl, of_decide_eq_true kR0⟩) kR0 Tryz.underlying4 rfl hos hout hbl⟩
set_option maxRecDepth 100000 in
theorem y05 (hsc : ∀ l : List UInt8, SC Tryz.prog 6 [.pv (bts l)] [] (fun _ => False) (iBool true) []) : Rows.SameSameSaid :=
  OpenClaim.holds_of_wide 6 Tryz.f6 rfl rfl rfl rfl rfl rfl rfl ⟨rfl, rfl, rfl, rfl, rfl⟩ rfl rfl rfl rfl rfl kR0 Tryz.func6 kR0
    (of_decide_eq_true kR0) (by unfold Func.isWrapper; first | (rw [if_pos (by decide +kernel)]; kernel_rfl) | (rw [if_neg (by decide +kernel)]; exact ⟨rfl, rfl⟩))
    (fun os started H enc _ => zi3 hsc os started H enc)
end
theorem sameSame_holds : Rows.SameSameSaid := y05 fun l => y06 l
end Go.Proofs.YthbcibeddfacbaaGreat
