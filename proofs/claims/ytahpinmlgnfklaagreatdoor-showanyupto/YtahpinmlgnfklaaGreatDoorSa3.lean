/- PART 3 of 5 of a proof: see the last part. -/
import Derived.Test.YtahpinmlgnfklaaGreatDoorSa2
set_option maxRecDepth 8000
set_option maxHeartbeats 2000000
set_option linter.unusedSimpArgs false
set_option linter.unusedVariables false
set_option linter.unusedSectionVars false
namespace Go.Proofs.YtahpinmlgnfklaaGreatDoor
open Go
section
variable {P : Program} {T : TB P} {o : Oper} {fr : Fr} {hp : Hp} {Rl : List Nat} {K : Stp → Prop}
def vMove (fr : Fr) (y : Operand) (K : Stp → Prop) : Prop := vev fr y fun x => K ⟨x, [], [], []⟩
theorem vMove_ok {y : Operand} (ho : o.op = .move y) (h : vMove fr y K) : Does P Rl o fr hp K := by
  obtain ⟨x, hx, hk⟩ := vev_ok h
  exact ⟨_, hk, .pure fun c R1 fr2 hp2 ha _ _ => ok_move ho (ha.ev hx (by rw [ho]; simp [Op.operands]))⟩
theorem vAssign_ok {y : Operand} (ho : o.op = .assign y) (h : vMove fr y K) : Does P Rl o fr hp K := by
  obtain ⟨x, hx, hk⟩ := vev_ok h
  exact ⟨_, hk, .pure fun c R1 fr2 hp2 ha _ _ => ok_assign ho (ha.ev hx (by rw [ho]; simp [Op.operands]))⟩
def vPick (fr : Fr) (q y w : Operand) (K : Stp → Prop) : Prop := vev fr q fun b => match b with
  | .pv (.val (.bool t)) => bsel t (vMove fr y K) (vMove fr w K)
  | _ => False
theorem vPick_ok {q y w : Operand} (ho : o.op = .pick q y w) (h : vPick fr q y w K) : Does P Rl o fr hp K := by
  obtain ⟨b, hb, hk⟩ := vev_ok h
  split at hk
  · rename_i t
    cases t with
    | true =>
      obtain ⟨x, hx, hk⟩ := vev_ok (show vMove fr y K from hk)
      exact ⟨_, hk, .pure fun c R1 fr2 hp2 ha _ _ => ok_pick_true ho (ha.ev hb (by rw [ho]; simp [Op.operands])) (ha.ev hx (by rw [ho]; simp [Op.operands]))⟩
    | false =>
      obtain ⟨x, hx, hk⟩ := vev_ok (show vMove fr w K from hk)
      exact ⟨_, hk, .pure fun c R1 fr2 hp2 ha _ _ => ok_pick_false ho (ha.ev hb (by rw [ho]; simp [Op.operands])) (ha.ev hx (by rw [ho]; simp [Op.operands]))⟩
  · exact hk.elim
def cmpInt : BinOp → Int → Int → Option Bool
  | .eql, m, n => some (m == n)
  | .neq, m, n => some (m != n)
  | .lss, m, n => some (decide (m < n))
  | .leq, m, n => some (decide (m ≤ n))
  | .gtr, m, n => some (decide (m > n))
  | .geq, m, n => some (decide (m ≥ n))
  | _, _, _ => none
theorem cmpInt_ok {p : BinOp} {k : IntKind} {m n : Int} {b : Bool} (h : cmpInt p m n = some b) : intBin p k m n = some (.bool b) := by
  cases p <;> simp only [cmpInt] at h <;> first | (cases h; done) | (cases h; rfl)
def cmpStr : BinOp → ByteArray → ByteArray → Option Bool
  | .eql, x, y => some (x.toList == y.toList)
  | .neq, x, y => some (!(x.toList == y.toList))
  | .lss, x, y => some (Op.bytesLess x.toList y.toList)
  | .leq, x, y => some (Op.bytesLess x.toList y.toList || x.toList == y.toList)
  | .gtr, x, y => some (!(Op.bytesLess x.toList y.toList || x.toList == y.toList))
  | .geq, x, y => some (!Op.bytesLess x.toList y.toList)
  | _, _, _ => none
theorem cmpStr_ok {p : BinOp} {x y : ByteArray} {b : Bool} (h : cmpStr p x y = some b) : strBin p x y = some (.bool b) := by
  cases p <;> simp only [cmpStr] at h <;> first | (cases h; done) | (cases h; rfl)
inductive VBin (p : BinOp) (k : IntKind) (m n : Int) (K : Value → Prop) : Prop
  | mk {v : Value} (h : intBin p k m n = some v) (k : K v)
inductive VStr (p : BinOp) (m n : ByteArray) (K : Value → Prop) : Prop
  | mk {v : Value} (h : strBin p m n = some v) (k : K v)
def vBin (T : TB P) (p : BinOp) (t : Nat) (fr : Fr) (y w : Operand) (K : Stp → Prop) : Prop := vev fr y fun a => vev fr w fun b => match a with
  | .pv (.val (.int k m)) => match b with
    | .pv (.val (.int k' n)) => match p with
      | .shl => 0 ≤ n ∧ K ⟨.pv (.val (.int k (k.wrap (m * 2 ^ (min n.toNat k.bits))))), [], [], []⟩
      | .shr => 0 ≤ n ∧ K ⟨.pv (.val (.int k (m.fdiv (2 ^ (min n.toNat k.bits))))), [], [], []⟩
      | p => vtest (k' == k) (match cmpInt p m n with
        | some v => K ⟨.pv (.val (.bool v)), [], [], []⟩
        | none => VBin p k m n fun v => K ⟨.pv (.val v), [], [], []⟩)
    | _ => False
  | .pv (.val (.string m)) => match b with
    | .pv (.val (.string n)) => match cmpStr p m n with
      | some v => K ⟨.pv (.val (.bool v)), [], [], []⟩
      | none => VStr p m n fun v => K ⟨.pv (.val v), [], [], []⟩
    | _ => False
  | .pv (.val (.bool q)) => match b with
    | .pv (.val (.bool r)) => vti T t fun e => match e.i with
      | .bool => match p with
        | .eql => K ⟨.pv (.val (.bool (q == r))), [], [], []⟩
        | .neq => K ⟨.pv (.val (.bool (!(q == r)))), [], [], []⟩
        | _ => False
      | _ => False
    | _ => False
  | _ => False
theorem vBin_ok {p : BinOp} {t u : Nat} {y w : Operand} (ho : o.op = .binOp p t y w u) (h : vBin T p t fr y w K) : Does P Rl o fr hp K := by
  obtain ⟨a, ha, h⟩ := vev_ok h
  obtain ⟨b, hb, h⟩ := vev_ok h
  have ea : ∀ {fr2 : Fr}, agr fr2 fr (opSlots o.op) → fr2.ev y = some a := fun hg => hg.ev ha (by rw [ho]; simp [Op.operands])
  have eb : ∀ {fr2 : Fr}, agr fr2 fr (opSlots o.op) → fr2.ev w = some b := fun hg => hg.ev hb (by rw [ho]; simp [Op.operands])
  split at h
  · rename_i k m
    split at h
    · rename_i k' n
      split at h
      · exact ⟨_, h.2, .pure fun c R1 fr2 hp2 hg _ _ => ok_shl ho (ea hg) (eb hg) h.1⟩
      · exact ⟨_, h.2, .pure fun c R1 fr2 hp2 hg _ _ => ok_shr ho (ea hg) (eb hg) h.1⟩
      · obtain ⟨hk, h⟩ := vtest_ok h
        obtain rfl := eq_of_beq hk
        split at h
        · rename_i v hv
          exact ⟨_, h, .pure fun c R1 fr2 hp2 hg _ _ => ok_bin_int ho (ea hg) (eb hg) (cmpInt_ok hv)⟩
        · obtain ⟨h1, h2⟩ := h
          exact ⟨_, h2, .pure fun c R1 fr2 hp2 hg _ _ => ok_bin_int ho (ea hg) (eb hg) h1⟩
    · exact h.elim
  · split at h
    · split at h
      · rename_i v hv
        exact ⟨_, h, .pure fun c R1 fr2 hp2 hg _ _ => ok_bin_str ho (ea hg) (eb hg) (cmpStr_ok hv)⟩
      · obtain ⟨h1, h2⟩ := h
        exact ⟨_, h2, .pure fun c R1 fr2 hp2 hg _ _ => ok_bin_str ho (ea hg) (eb hg) h1⟩
    · exact h.elim
  · split at h
    · obtain ⟨e, he, h⟩ := vti_ok h
      obtain ⟨d, hd, hi⟩ := te_und he
      split at h
      · rename_i hb
        rw [hb] at hi
        cases hi
        split at h
        · exact ⟨_, h, .pure fun c R1 fr2 hp2 hg _ _ => ok_eql_bool ho (ea hg) (eb hg) hd⟩
        · exact ⟨_, h, .pure fun c R1 fr2 hp2 hg _ _ => ok_neq_bool ho (ea hg) (eb hg) hd⟩
        · exact h.elim
      · exact h.elim
    · exact h.elim
  · exact h.elim
def vUn (p : UnOp) (fr : Fr) (y : Operand) (K : Stp → Prop) : Prop := vev fr y fun a => match p with
  | .not => match a with
    | .pv (.val (.bool b)) => K ⟨.pv (.val (.bool (!b))), [], [], []⟩
    | _ => False
  | .neg => match a with
    | .pv (.val (.int k n)) => K ⟨.pv (.val (.int k (k.wrap (0 - n)))), [], [], []⟩
    | _ => False
  | _ => False
theorem vUn_ok {p : UnOp} {t : Nat} {y : Operand} (ho : o.op = .unOp p t y) (h : vUn p fr y K) : Does P Rl o fr hp K := by
  obtain ⟨a, ha, h⟩ := vev_ok h
  have ea : ∀ {fr2 : Fr}, agr fr2 fr (opSlots o.op) → fr2.ev y = some a := fun hg => hg.ev ha (by rw [ho]; simp [Op.operands])
  split at h
  · split at h
    · exact ⟨_, h, .pure fun c R1 fr2 hp2 hg _ _ => ok_not ho (ea hg)⟩
    · exact h.elim
  · split at h
    · exact ⟨_, h, .pure fun c R1 fr2 hp2 hg _ _ => ok_neg ho (ea hg)⟩
    · exact h.elim
  · exact h.elim
def vConv (T : TB P) (s t : Nat) (fr : Fr) (y : Operand) (K : Stp → Prop) : Prop := vev fr y fun a => match a with
  | .pv (.val (.int _ n)) => vti T s fun _ => vti T t fun e => match e.i with
    | .int k' => K ⟨.pv (.val (.int k' (k'.wrap n))), [], [], []⟩
    | _ => False
  | .pv (.seq els) => vti T s fun d => vti T t fun e => match d.i with
    | .slice q => vti T q fun z => match z.i with
      | .int .u8 => match e.i with
        | .str => match asBytes els with
          | some ns => K ⟨.pv (.val (.string (bytesStr ns))), [], [], []⟩
          | none => False
        | _ => False
      | _ => False
    | _ => False
  | _ => False
theorem vConv_ok {s t : Nat} {y : Operand} (ho : o.op = .convert s t y) (h : vConv T s t fr y K) : Does P Rl o fr hp K := by
  obtain ⟨a, ha, h⟩ := vev_ok h
  have ea : ∀ {fr2 : Fr}, agr fr2 fr (opSlots o.op) → fr2.ev y = some a := fun hg => hg.ev ha (by rw [ho]; simp [Op.operands])
  split at h
  · obtain ⟨e1, he1, h⟩ := vti_ok h
    obtain ⟨e, he, h⟩ := vti_ok h
    obtain ⟨d1, hd1, _⟩ := te_und he1
    obtain ⟨d, hd, hi⟩ := te_und he
    split at h
    · rename_i hb
      rw [hb] at hi
      cases hi
      exact ⟨_, h, .pure fun c R1 fr2 hp2 hg _ _ => ok_conv_int ho (ea hg) ⟨d1, hd1⟩ hd⟩
    · exact h.elim
  · obtain ⟨e1, he1, h⟩ := vti_ok h
    obtain ⟨e, he, h⟩ := vti_ok h
    obtain ⟨d1, hd1, hi1⟩ := te_und he1
    obtain ⟨d, hd, hi⟩ := te_und he
    split at h
    · rename_i q hb1
      rw [hb1] at hi1
      cases hi1
      obtain ⟨z, hz, h⟩ := vti_ok h
      obtain ⟨d2, hd2, hi2⟩ := te_und hz
      split at h
      · rename_i hb2
        rw [hb2] at hi2
        cases hi2
        split at h
        · rename_i hb
          rw [hb] at hi
          cases hi
          split at h
          · rename_i ns hns
            exact ⟨_, h, .pure fun c R1 fr2 hp2 hg _ _ => ok_conv_seq ho (ea hg) hns hd1 hd2 hd⟩
          · exact h.elim
        · exact h.elim
      · exact h.elim
    · exact h.elim
  · exact h.elim
inductive VIdx (els : List (List PV)) (m : Int) (K : List PV → Prop) : Prop
  | mk {i : Nat} {el : List PV} (hi : els[i]? = some el) (hm : m = i) (k : K el)
inductive VIdR (n : Nat) (m : Int) (K : Nat → Prop) : Prop
  | mk {i : Nat} (hi : i < n) (hm : m = i) (k : K i)
inductive VIdS (s : ByteArray) (m : Int) (K : UInt8 → Prop) : Prop
  | mk {i : Nat} {b : UInt8} (hi : s[i]? = some b) (hm : m = i) (k : K b)
def vIdxA (T : TB P) (t : Nat) (fr : Fr) (hp : Hp) (y w : Operand) (K : Stp → Prop) : Prop := vev fr y fun a => vev fr w fun b => match b with
  | .pv (.val (.int _ m)) => vti T t fun e => match e.i with
    | .slice q => vti T q fun eq => match a with
      | .pv (.seq els) => VIdx els m fun el => vtest (Nat.beq el.length eq.n) (K ⟨.pv (.ept el 0), [], [], []⟩)
      | .sl k n => vrow hp k fun s els => vtest (Nat.beq s.e q && Nat.beq s.n eq.n) (els.length = n ∧ VIdR n m fun i => K ⟨.rpt k n (i * s.n), [], [k], []⟩)
      | .bs k n => vbox hp k fun _ => vtest (Nat.beq eq.n 1) (VIdR n m fun i => K ⟨.ptr k i, [], [k], []⟩)
      | _ => False
    | .arr n q => vti T q fun eq => match a with
      | .ptr k off => vbox hp k fun _ => VIdR n m fun i => K ⟨.ptr k (off + i * eq.n), [], [k], []⟩
      | _ => False
    | _ => False
  | _ => False
theorem vIdxA_ok {t : Nat} {y w : Operand} (ho : o.op = .indexAddr t y w) (h : vIdxA T t fr hp y w K) : Does P Rl o fr hp K := by
  obtain ⟨a, ha, h⟩ := vev_ok h
  obtain ⟨b, hb, h⟩ := vev_ok h
  have ea : ∀ {fr2 : Fr}, agr fr2 fr (opSlots o.op) → fr2.ev y = some a := fun hg => hg.ev ha (by rw [ho]; simp [Op.operands])
  have eb : ∀ {fr2 : Fr}, agr fr2 fr (opSlots o.op) → fr2.ev w = some b := fun hg => hg.ev hb (by rw [ho]; simp [Op.operands])
  split at h
  · obtain ⟨e, he, h⟩ := vti_ok h
    obtain ⟨d, hd, hi⟩ := te_und he
    split at h
    · rename_i q hq
      rw [hq] at hi
      cases hi
      obtain ⟨eq, heq, h⟩ := vti_ok h
      split at h
      · obtain ⟨h1, h2, h⟩ := h
        obtain ⟨h3, h⟩ := vtest_ok h
        exact ⟨_, h, .pure fun c R1 fr2 hp2 hg _ _ => ok_index_seq ho (ea hg) (eb hg) hd h1 (te_size heq) (Nat.eq_of_beq_eq_true h3) h2⟩
      · rename_i k n
        obtain ⟨s, els, hk, h⟩ := vrow_ok h
        obtain ⟨h3, h⟩ := vtest_ok h
        obtain ⟨hn, h1, h2, h9⟩ := h
        simp only [Bool.and_eq_true] at h3
        obtain rfl := Nat.eq_of_beq_eq_true h3.1
        exact ⟨_, h9, .pure fun c R1 fr2 hp2 hg hh _ => ok_index_row ho (ea hg) (eb hg) (hh.at hk (.head _)) hn hd (by rw [te_size heq, Nat.eq_of_beq_eq_true h3.2]) h1 h2⟩
      · rename_i k n
        obtain ⟨cs, hk, h⟩ := vbox_ok h
        obtain ⟨h3, h⟩ := vtest_ok h
        obtain ⟨h1, h2, h⟩ := h
        exact ⟨_, h, .pure fun c R1 fr2 hp2 hg hh _ => ok_index_bs ho (ea hg) (eb hg) (hh.at hk (.head _)) hd (by rw [te_size heq, Nat.eq_of_beq_eq_true h3]) h1 h2⟩
      · exact h.elim
    · rename_i n q hq
      rw [hq] at hi
      cases hi
      obtain ⟨eq, heq, h⟩ := vti_ok h
      split at h
      · rename_i k off
        obtain ⟨cs, hk, h⟩ := vbox_ok h
        obtain ⟨h1, h2, h⟩ := h
        exact ⟨_, h, .pure fun c R1 fr2 hp2 hg hh _ => ok_index_box ho (ea hg) (eb hg) (hh.at hk (.head _)) hd (te_size heq) h2 h1⟩
      · exact h.elim
    · exact h.elim
  · exact h.elim
def vIdxV (T : TB P) (t : Nat) (fr : Fr) (y w : Operand) (K : Stp → Prop) : Prop := vev fr y fun a => vev fr w fun b => match b with
  | .pv (.val (.int _ m)) => match a with
    | .pv (.val (.string s)) => vti T t fun e => match e.i with
      | .str => VIdS s m fun b => K ⟨.pv (.val (.int .u8 b.toNat)), [], [], []⟩
      | _ => False
    | _ => False
  | _ => False
theorem vIdxV_ok {t : Nat} {y w : Operand} (ho : o.op = .index t y w) (h : vIdxV T t fr y w K) : Does P Rl o fr hp K := by
  obtain ⟨a, ha, h⟩ := vev_ok h
  obtain ⟨b, hb, h⟩ := vev_ok h
  have ea : ∀ {fr2 : Fr}, agr fr2 fr (opSlots o.op) → fr2.ev y = some a := fun hg => hg.ev ha (by rw [ho]; simp [Op.operands])
  have eb : ∀ {fr2 : Fr}, agr fr2 fr (opSlots o.op) → fr2.ev w = some b := fun hg => hg.ev hb (by rw [ho]; simp [Op.operands])
  split at h
  · split at h
    · obtain ⟨e, he, h⟩ := vti_ok h
      obtain ⟨d, hd, hi⟩ := te_und he
      split at h
      · rename_i hq
        rw [hq] at hi
        cases hi
        obtain ⟨h1, h2, h⟩ := h
        exact ⟨_, h, .pure fun c R1 fr2 hp2 hg _ _ => ok_index_str ho (ea hg) (eb hg) hd h1 h2⟩
      · exact h.elim
    · exact h.elim
  · exact h.elim
def vFieldA (T : TB P) (t : Nat) (fr : Fr) (hp : Hp) (y : Operand) (f : Nat) (K : Stp → Prop) : Prop := vev fr y fun a => vti T t fun e => match e.i with
  | .struct fs => vopt fs[f]? fun p => vti T p.2 fun ef => vtest (Nat.blt 0 ef.n) (match a with
    | .pv (.ept cs off) => K ⟨.pv (.ept cs (off + p.1)), [], [], []⟩
    | .ptr k off => vbox hp k fun _ => K ⟨.ptr k (off + p.1), [], [k], []⟩
    | _ => False)
  | _ => False
theorem field_ok {t f : Nat} {e ef : TE} {fs : List (Nat × Nat)} {p : Nat × Nat} (he : teB P t e = true) (hi : e.i = .struct fs) (hp : fs[f]? = some p) (hf : teB P p.2 ef = true) (hn : Nat.blt 0 ef.n = true) : FieldOk P t f p.1 := by
  obtain ⟨d, hd, h1⟩ := te_und he
  rw [hi] at h1
  obtain ⟨a, rfl, h2⟩ := h1
  rw [← h2, List.getElem?_map, Option.map_eq_some_iff] at hp
  obtain ⟨fd, h3, rfl⟩ := hp
  have h4 : 1 ≤ ef.n := by simpa [Nat.blt] using hn
  exact ⟨a, fd, ef.n - 1, hd, by simpa using h3, rfl, by rw [te_size hf]; congr 1; omega⟩
theorem vFieldA_ok {t f : Nat} {y : Operand} (ho : o.op = .fieldAddr t y f) (h : vFieldA T t fr hp y f K) : Does P Rl o fr hp K := by
  obtain ⟨a, ha, h⟩ := vev_ok h
  have ea : ∀ {fr2 : Fr}, agr fr2 fr (opSlots o.op) → fr2.ev y = some a := fun hg => hg.ev ha (by rw [ho]; simp [Op.operands])
  obtain ⟨e, he, h⟩ := vti_ok h
  split at h
  · rename_i fs hfs
    obtain ⟨p, hp', h⟩ := vopt_ok h
    obtain ⟨ef, hef, h⟩ := vti_ok h
    obtain ⟨hn, h⟩ := vtest_ok h
    have hF := field_ok he hfs hp' hef hn
    split at h
    · exact ⟨_, h, .pure fun c R1 fr2 hp2 hg _ _ => ok_field_ept ho (ea hg) hF⟩
    · obtain ⟨cs, hk, h⟩ := vbox_ok h
      exact ⟨_, h, .pure fun c R1 fr2 hp2 hg hh _ => ok_field_ptr ho (ea hg) (hh.at hk (.head _)) hF⟩
    · exact h.elim
  · exact h.elim
theorem ok_load_row_agg {c : Cx} {R1 : Nat → Prop} {t : Nat} {x : Operand} {d : TypeDesc} {k n i off : Nat} {s : RT} {els : List (List PV)} {el : List PV} (ho : o.op = .load t x) (hx : fr.ev x = some (.rpt k n off)) (hk : look hp k = some (.row s els)) (hn : els.length = n)
    (hoff : off = i * s.n) (hi : els[i]? = some el) (hu : P.underlying t = some d) (hd : d.isRow = true) (hs : (P.info? t).map (·.size) = some s.n) (hR1 : R1 k) : OkV P c R1 o fr (look hp) (.pv (.agg el)) := by
  intro ρ w a h
  obtain ⟨b, cc, r, u, hv, hρ, h3, h4, hc, hcm, hwe, hcells, hu'⟩ := h.rpt hx hk hn
  have hel : el.length = s.n := hwe el (List.mem_of_getElem? hi)
  have hin : i < els.length := (List.getElem?_eq_some_iff.1 hi).1
  have hle : i * s.n + s.n ≤ r.size := by
    have : (i + 1) * s.n ≤ cc * s.n := Nat.mul_le_mul_right _ (by omega)
    rw [Nat.add_mul] at this; omega
  have hlen : ((r.toList.drop off).take s.n).length = s.n := by simp; omega
  refine ⟨_, fun w2 h2 => by simp only [execOp, ho, hv, Sem.run_bind, run_loadAt_mid (P := P) w2 b off t _ d (range_rel ((h2 b (h.rel.lt hρ) (.inr ⟨k, cc, hR1, hρ⟩)).trans h3) off s.n) hu hd (by rw [hlen]; exact hs)]; rfl, .pv _ _ (.agg _ _ (u i) ?_ ?_ ?_)⟩
  · simp; omega
  · intro j z hj
    have hjn : j < s.n := by have := (List.getElem?_eq_some_iff.1 hj).1; omega
    have := hcells i el hi j z hj
    subst hoff
    simp [hjn]
    simpa using this
  · exact fun j z hj => hu' i el hi j z hj
inductive VRow (s : RT) (els : List (List PV)) (n off : Nat) (K : PV → Prop) : Prop
  | mk {i j : Nat} {el : List PV} {z : PV} (hn : els.length = n) (ho : off = i * s.n + j) (hi : els[i]? = some el) (hj : el[j]? = some z) (k : K z)
inductive VRowS (s : RT) (els : List (List PV)) (n off : Nat) (K : List PV → Prop) : Prop
  | mk {i : Nat} {el : List PV} (hn : els.length = n) (ho : off = i * s.n) (hi : els[i]? = some el) (k : K el)
def vLoad (T : TB P) (t : Nat) (fr : Fr) (hp : Hp) (y : Operand) (K : Stp → Prop) : Prop := vev fr y fun a => vti T t fun e => match a with
  | .pv (.ept cs off) => match e.i.row with
    | false => vopt cs[off]? fun z => K ⟨.pv z, [], [], []⟩
    | true => vtest (Nat.ble (off + e.n) cs.length) (frcP ((cs.drop off).take e.n) fun l => K ⟨.pv (.agg l), [], [], []⟩)
  | .ptr k off => vbox hp k fun cs => match e.i.row with
    | false => vopt cs[off]? fun z => K ⟨z, [], [k], []⟩
    | true => vtest (Nat.ble (off + e.n) cs.length) (match purify ((cs.drop off).take e.n) with
      | some ps => frcP ps fun l => K ⟨.pv (.agg l), [], [k], []⟩
      | none => frcI ((cs.drop off).take e.n) fun l => K ⟨.agg l, [], [k], []⟩)
  | .rpt k n off => vrow hp k fun s els => match e.i.row with
    | false => VRow s els n off fun z => K ⟨.pv z, [], [k], []⟩
    | true => vtest (Nat.beq e.n s.n) (VRowS s els n off fun el => K ⟨.pv (.agg el), [], [k], []⟩)
  | _ => False
theorem vLoad_ok {t : Nat} {y : Operand} (ho : o.op = .load t y) (h : vLoad T t fr hp y K) : Does P Rl o fr hp K := by
  obtain ⟨a, ha, h⟩ := vev_ok h
  have ea : ∀ {fr2 : Fr}, agr fr2 fr (opSlots o.op) → fr2.ev y = some a := fun hg => hg.ev ha (by rw [ho]; simp [Op.operands])
  obtain ⟨e, he, h⟩ := vti_ok h
  obtain ⟨d, hd, hi⟩ := te_und he
  have hrow := TI.is_row hi
  split at h
  · split at h
    · rename_i hr
      obtain ⟨z, hz, h⟩ := vopt_ok h
      exact ⟨_, h, .pure fun c R1 fr2 hp2 hg _ _ => ok_load_ept ho (ea hg) hd (hrow.trans hr) hz⟩
    · rename_i hr
      obtain ⟨hn, h⟩ := vtest_ok h
      exact ⟨_, frcP_ok h, .pure fun c R1 fr2 hp2 hg _ _ => ok_load_ept_agg ho (ea hg) hd (hrow.trans hr) (te_size he) (Nat.le_of_ble_eq_true hn)⟩
  · obtain ⟨cs, hk, h⟩ := vbox_ok h
    split at h
    · rename_i hr
      obtain ⟨z, hz, h⟩ := vopt_ok h
      exact ⟨_, h, .pure fun c R1 fr2 hp2 hg hh hR => ok_load_box ho (ea hg) (hh.at hk (.head _)) hd (hrow.trans hr) hz (hR _ (.head _))⟩
    · rename_i hr
      obtain ⟨hn, h⟩ := vtest_ok h
      split at h
      · rename_i ps hps
        exact ⟨_, frcP_ok h, .pure fun c R1 fr2 hp2 hg hh hR => ok_load_box_pure ho (ea hg) (hh.at hk (.head _)) hd (hrow.trans hr) (te_size he) (Nat.le_of_ble_eq_true hn) hps (hR _ (.head _))⟩
      · exact ⟨_, frcI_ok h, .pure fun c R1 fr2 hp2 hg hh hR => ok_load_box_agg ho (ea hg) (hh.at hk (.head _)) hd (hrow.trans hr) (te_size he) (Nat.le_of_ble_eq_true hn) (hR _ (.head _))⟩
  · obtain ⟨s, els, hk, h⟩ := vrow_ok h
    split at h
    · rename_i hr
      obtain ⟨hn, hoff, h1, h2, h⟩ := h
      exact ⟨_, h, .pure fun c R1 fr2 hp2 hg hh hR => ok_load_row ho (ea hg) (hh.at hk (.head _)) hn hoff h1 h2 hd (hrow.trans hr) (hR _ (.head _))⟩
    · rename_i hr
      obtain ⟨hq, h⟩ := vtest_ok h
      obtain ⟨hn, hoff, h1, h⟩ := h
      exact ⟨_, h, .pure fun c R1 fr2 hp2 hg hh hR => ok_load_row_agg ho (ea hg) (hh.at hk (.head _)) hn hoff h1 hd (hrow.trans hr) (by rw [te_size he, Nat.eq_of_beq_eq_true hq]) (hR _ (.head _))⟩
  · exact h.elim
def vFieldV (T : TB P) (t : Nat) (fr : Fr) (y : Operand) (f : Nat) (K : Stp → Prop) : Prop := vev fr y fun a => match a with
  | .pv (.agg ps) => vti T t fun e => match e.i with
    | .struct fs => vopt fs[f]? fun p => vti T p.2 fun ef => match ef.i.row with
      | false => vopt ps[p.1]? fun z => K ⟨.pv z, [], [], []⟩
      | true => False
    | _ => False
  | _ => False
theorem vFieldV_ok {t f : Nat} {y : Operand} (ho : o.op = .field t y f) (h : vFieldV T t fr y f K) : Does P Rl o fr hp K := by
  obtain ⟨a, ha, h⟩ := vev_ok h
  have ea : ∀ {fr2 : Fr}, agr fr2 fr (opSlots o.op) → fr2.ev y = some a := fun hg => hg.ev ha (by rw [ho]; simp [Op.operands])
  split at h
  · obtain ⟨e, he, h⟩ := vti_ok h
    obtain ⟨d, hd, hi⟩ := te_und he
    split at h
    · rename_i fs hfs
      rw [hfs] at hi
      obtain ⟨q, rfl, h2⟩ := hi
      obtain ⟨p, hp', h⟩ := vopt_ok h
      obtain ⟨ef, hef, h⟩ := vti_ok h
      obtain ⟨df, hdf, hif⟩ := te_und hef
      split at h
      · rename_i hr
        obtain ⟨z, hz, h9⟩ := vopt_ok h
        rw [← h2, List.getElem?_map, Option.map_eq_some_iff] at hp'
        obtain ⟨fd, h3, rfl⟩ := hp'
        exact ⟨_, h9, .pure fun c R1 fr2 hp2 hg _ _ => ok_field_pure ho (ea hg) hd (by simpa using h3) hdf ((TI.is_row hif).trans hr) hz⟩
      · exact h.elim
    · exact h.elim
  · exact h.elim
def vExtract (fr : Fr) (y : Operand) (i : Nat) (K : Stp → Prop) : Prop := vev fr y fun a => match a with
  | .tup vs => vopt vs[i]? fun z => K ⟨z, [], [], []⟩
  | _ => False
theorem vExtract_ok {i : Nat} {y : Operand} (ho : o.op = .extract y i) (h : vExtract fr y i K) : Does P Rl o fr hp K := by
  obtain ⟨a, ha, h⟩ := vev_ok h
  split at h
  · obtain ⟨z, hz, h⟩ := vopt_ok h
    exact ⟨_, h, .pure fun c R1 fr2 hp2 hg _ _ => ok_extract ho (hg.ev ha (by rw [ho]; simp [Op.operands])) hz⟩
  · exact h.elim
def vNil (fr : Fr) (hp : Hp) (y : Operand) (K : Stp → Prop) : Prop := vev fr y fun a => match a with
  | .ptr k off => vbox hp k fun _ => K ⟨.ptr k off, [], [k], []⟩
  | .pv (.ept cs off) => K ⟨.pv (.ept cs off), [], [], []⟩
  | _ => False
theorem vNil_ok {y : Operand} (ho : o.op = .nilCheck y) (h : vNil fr hp y K) : Does P Rl o fr hp K := by
  obtain ⟨a, ha, h⟩ := vev_ok h
  have ea : ∀ {fr2 : Fr}, agr fr2 fr (opSlots o.op) → fr2.ev y = some a := fun hg => hg.ev ha (by rw [ho]; simp [Op.operands])
  split at h
  · obtain ⟨cs, hk, h⟩ := vbox_ok h
    exact ⟨_, h, .pure fun c R1 fr2 hp2 hg hh _ => ok_nilCheck ho (ea hg) (hh.at hk (.head _))⟩
  · exact ⟨_, h, .pure fun c R1 fr2 hp2 hg _ _ => ok_nilCheck_ept ho (ea hg)⟩
  · exact h.elim
def vEnd (fr : Fr) (y : Option Operand) (n : Nat) (K : Nat → Prop) : Prop := match y with
  | none => K n
  | some y => vev fr y fun a => match a with
    | .pv (.val (.int _ m)) => ∃ i : Nat, m = i ∧ K i
    | _ => False
theorem vEnd_ok {y : Option Operand} {n : Nat} {K : Nat → Prop} (h : vEnd fr y n K) : ∃ i, K i ∧ ((y = none ∧ i = n) ∨ ∃ z k, y = some z ∧ fr.ev z = some (.pv (.val (.int k i)))) := by
  unfold vEnd at h
  split at h
  · exact ⟨n, h, .inl ⟨rfl, rfl⟩⟩
  · rename_i y
    obtain ⟨a, ha, h⟩ := vev_ok h
    split at h
    · rename_i k m
      obtain ⟨i, rfl, h⟩ := h
      exact ⟨i, h, .inr ⟨y, k, rfl, ha⟩⟩
    · exact h.elim
def vSlice (T : TB P) (t : Nat) (fr : Fr) (y : Operand) (lo hi : Option Operand) (K : Stp → Prop) : Prop := vev fr y fun a => vti T t fun e => match a with
  | .pv (.seq els) => match e.i with
    | .slice q => vti T q fun eq => vEnd fr lo 0 fun i => vEnd fr hi els.length fun j => i ≤ j ∧ j ≤ els.length ∧ (∀ el ∈ els, el.length = eq.n) ∧ K ⟨.pv (.seq ((els.take j).drop i)), [], [], []⟩
    | _ => False
  | .pv (.val (.string s)) => match e.i with
    | .str => vEnd fr lo 0 fun i => vEnd fr hi s.size fun j => i ≤ j ∧ j ≤ s.size ∧ K ⟨.pv (.val (.string (s.extract i j))), [], [], []⟩
    | _ => False
  | _ => False
theorem agr_end {lo : Option Operand} {n i : Nat} {fr2 : Fr} (hg : agr fr2 fr (opSlots o.op)) (hm : ∀ z, lo = some z → z ∈ o.op.operands.toList) (h : (lo = none ∧ i = n) ∨ ∃ z k, lo = some z ∧ fr.ev z = some (.pv (.val (.int k i)))) : (lo = none ∧ i = n) ∨ ∃ z k, lo = some z ∧ fr2.ev z = some (.pv (.val (.int k i))) := by
  rcases h with h | ⟨z, k, h1, h2⟩
  · exact .inl h
  · exact .inr ⟨z, k, h1, hg.ev h2 (hm z h1)⟩
theorem vSlice_ok {t : Nat} {y : Operand} {lo hi : Option Operand} (ho : o.op = .slice t y lo hi none) (h : vSlice T t fr y lo hi K) : Does P Rl o fr hp K := by
  obtain ⟨a, ha, h⟩ := vev_ok h
  have ea : ∀ {fr2 : Fr}, agr fr2 fr (opSlots o.op) → fr2.ev y = some a := fun hg => hg.ev ha (by rw [ho]; simp [Op.operands])
  have ml : ∀ z, lo = some z → z ∈ o.op.operands.toList := fun z hz => by rw [ho, hz]; simp [Op.operands]
  have mh : ∀ z, hi = some z → z ∈ o.op.operands.toList := fun z hz => by rw [ho, hz]; simp [Op.operands]
  obtain ⟨e, he, h⟩ := vti_ok h
  obtain ⟨d, hd, hi'⟩ := te_und he
  split at h
  · split at h
    · rename_i q hq
      rw [hq] at hi'
      cases hi'
      obtain ⟨eq, heq, h⟩ := vti_ok h
      obtain ⟨i, h, h1⟩ := vEnd_ok h
      obtain ⟨j, h, h2⟩ := vEnd_ok h
      exact ⟨_, h.2.2.2, .pure fun c R1 fr2 hp2 hg _ _ => ok_slice_seq ho (ea hg) hd (te_size heq) (agr_end hg ml h1) (agr_end hg mh h2) h.1 h.2.1 h.2.2.1⟩
    · exact h.elim
  · split at h
    · rename_i hq
      rw [hq] at hi'
      cases hi'
      obtain ⟨i, h, h1⟩ := vEnd_ok h
      obtain ⟨j, h, h2⟩ := vEnd_ok h
      exact ⟨_, h.2.2, .pure fun c R1 fr2 hp2 hg _ _ => ok_slice_str ho (ea hg) hd (agr_end hg ml h1) (agr_end hg mh h2) h.1 h.2.1⟩
    · exact h.elim
  · exact h.elim
def vFunc (fr : Fr) (f : Fn) (xs ys : Array Operand) (K : Stp → Prop) : Prop := vopt (evs fr xs.toList) fun us => vopt (evs fr ys.toList) fun vs => K ⟨.fn f us vs, [], [], []⟩
theorem vFunc_ok {f : Fn} {xs ys : Array Operand} (ho : o.op = .makeFunc f xs ys) (h : vFunc fr f xs ys K) : Does P Rl o fr hp K := by
  obtain ⟨us, h1, h⟩ := vopt_ok h
  obtain ⟨vs, h2, h⟩ := vopt_ok h
  exact ⟨_, h, .pure fun c R1 fr2 hp2 hg _ _ => ok_makeFunc ho (hg.evs h1 fun y hy => by rw [ho]; simp only [Op.operands, Array.toList_append]; exact List.mem_append_left _ hy) (hg.evs h2 fun y hy => by rw [ho]; simp only [Op.operands, Array.toList_append]; exact List.mem_append_right _ hy)⟩
inductive VAsk (d : TypeDesc) (kv : Value) (es : List (Value × PV)) (z : Value) (K : PV → Bool → Prop) : Prop
  | mk {p : PV} {b : Bool} (hk : isKeyB d kv = true) (hes : ∀ e ∈ es, isKeyB d e.1 = true) (h : ((mfind kv es).getD (.val z), (mfind kv es).isSome) = (p, b)) (k : K p b)
inductive VMap (d : TypeDesc) (kv : Value) (es : List (Value × PV)) (A : Prop) : Prop
  | mk (hk : isKeyB d kv = true) (hes : ∀ e ∈ es, isKeyB d e.1 = true) (k : A)
def TI.key : TI → Option TypeDesc
  | .int k => some (.int k)
  | .str => some .string
  | _ => none
theorem key_und {t : Nat} {e : TE} {d : TypeDesc} (he : teB P t e = true) (hd : e.i.key = some d) : P.underlying t = some d := by
  obtain ⟨d', hd', hi⟩ := te_und he
  rw [hd']
  cases hq : e.i <;> rw [hq] at hd hi <;> first | (cases hd; cases hi; rfl) | cases hd
def vLookup (T : TB P) (t : Nat) (fr : Fr) (hp : Hp) (y w : Operand) (two : Bool) (K : Stp → Prop) : Prop := vev fr y fun a => vev fr w fun b => match a with
  | .mp k => match b with
    | .pv (.val kv) => vmap hp k fun es => vti T t fun e => match e.i with
      | .map kt et => vti T kt fun ek => vti T et fun ee => vopt ek.i.key fun d => vtest (!ee.z.isEmpty) (VAsk d kv es ee.zv fun p b => match two with
        | false => K ⟨.pv p, [], [k], []⟩
        | true => K ⟨.tup [.pv p, iBool b], [], [k], []⟩)
      | _ => False
    | _ => False
  | _ => False
theorem vLookup_ok {t : Nat} {y w : Operand} {two : Bool} (ho : o.op = .lookup t y w two) (h : vLookup T t fr hp y w two K) : Does P Rl o fr hp K := by
  obtain ⟨a, ha, h⟩ := vev_ok h
  obtain ⟨b, hb, h⟩ := vev_ok h
  have ea : ∀ {fr2 : Fr}, agr fr2 fr (opSlots o.op) → fr2.ev y = some a := fun hg => hg.ev ha (by rw [ho]; simp [Op.operands])
  have eb : ∀ {fr2 : Fr}, agr fr2 fr (opSlots o.op) → fr2.ev w = some b := fun hg => hg.ev hb (by rw [ho]; simp [Op.operands])
  split at h
  · split at h
    · obtain ⟨es, hk, h⟩ := vmap_ok h
      obtain ⟨e, he, h⟩ := vti_ok h
      obtain ⟨d, hd, hi⟩ := te_und he
      split at h
      · rename_i kt et hq
        rw [hq] at hi
        cases hi
        obtain ⟨ek, hek, h⟩ := vti_ok h
        obtain ⟨ee, hee, h⟩ := vti_ok h
        obtain ⟨dk, hdk, h⟩ := vopt_ok h
        obtain ⟨hz, h⟩ := vtest_ok h
        have hz' : ee.z ≠ [] := by simpa using hz
        obtain ⟨h1, h2, h3, h⟩ := h
        have e1 := (congrArg Prod.fst h3).symm
        have e2 := (congrArg Prod.snd h3).symm
        dsimp only at e1 e2
        subst e1 e2
        split at h
        · exact ⟨_, h, .pure fun c R1 fr2 hp2 hg hh hR => ok_lookup ho (ea hg) (eb hg) (hh.at hk (.head _)) hd (key_und hek hdk) h1 h2 (te_zero hee hz') (hR _ (.head _))⟩
        · exact ⟨_, h, .pure fun c R1 fr2 hp2 hg hh hR => ok_lookup2 ho (ea hg) (eb hg) (hh.at hk (.head _)) hd (key_und hek hdk) h1 h2 (te_zero hee hz') (hR _ (.head _))⟩
      · exact h.elim
    · exact h.elim
  · exact h.elim
def vLen (T : TB P) (t : Nat) (fr : Fr) (hp : Hp) (y : Operand) (K : Stp → Prop) : Prop := vev fr y fun a => vti T t fun e => match a with
  | .pv (.seq els) => match e.i with
    | .slice _ => K ⟨.pv (.val (.int .i64 els.length)), [], [], []⟩
    | _ => False
  | .pv (.val (.slice none 0 0)) => match e.i with
    | .slice _ => K ⟨.pv (.val (.int .i64 0)), [], [], []⟩
    | _ => False
  | .pv (.val (.string s)) => match e.i with
    | .str => K ⟨.pv (.val (.int .i64 s.size)), [], [], []⟩
    | _ => False
  | .sl k n => match e.i with
    | .slice _ => vrow hp k fun _ els => els.length = n ∧ K ⟨.pv (.val (.int .i64 n)), [], [k], []⟩
    | _ => False
  | .mp k => match e.i with
    | .map .. => vmap hp k fun es => K ⟨.pv (vInt es.length), [], [k], []⟩
    | _ => False
  | _ => False
theorem vLen_ok {t : Nat} {y : Operand} (ho : o.op = .call { callee := .builtin .len, args := #[y], argTypes := #[t] }) (h : vLen T t fr hp y K) : Does P Rl o fr hp K := by
  obtain ⟨a, ha, h⟩ := vev_ok h
  have ea : ∀ {fr2 : Fr}, agr fr2 fr (opSlots o.op) → fr2.ev y = some a := fun hg => hg.ev ha (by rw [ho]; simp [Op.operands, Call.operands])
  obtain ⟨e, he, h⟩ := vti_ok h
  obtain ⟨d, hd, hi⟩ := te_und he
  split at h
  · split at h
    · rename_i hq; rw [hq] at hi; cases hi
      exact ⟨_, h, .pure fun c R1 fr2 hp2 hg _ _ => ok_len_seq ho (ea hg) hd rfl⟩
    · exact h.elim
  · split at h
    · rename_i hq; rw [hq] at hi; cases hi
      exact ⟨_, h, .pure fun c R1 fr2 hp2 hg _ _ => ok_len_nil ho (ea hg) hd⟩
    · exact h.elim
  · split at h
    · rename_i hq; rw [hq] at hi; cases hi
      exact ⟨_, h, .pure fun c R1 fr2 hp2 hg _ _ => ok_len_str ho (ea hg) hd⟩
    · exact h.elim
  · split at h
    · rename_i hq; rw [hq] at hi; cases hi
      obtain ⟨s, els, hk, h⟩ := vrow_ok h
      exact ⟨_, h.2, .pure fun c R1 fr2 hp2 hg hh _ => ok_len_row ho (ea hg) (hh.at hk (.head _)) h.1 hd⟩
    · exact h.elim
  · split at h
    · rename_i hq; rw [hq] at hi; cases hi
      obtain ⟨es, hk, h⟩ := vmap_ok h
      exact ⟨_, h, .pure fun c R1 fr2 hp2 hg hh hR => ok_len_map ho (ea hg) (hh.at hk (.head _)) hd (hR _ (.head _))⟩
    · exact h.elim
  · exact h.elim
def vMax (fr : Fr) (y w : Operand) (K : Stp → Prop) : Prop := vev fr y fun a => vev fr w fun b => match a with
  | .pv (.val (.int k m)) => match b with
    | .pv (.val (.int k' n)) => vtest (k' == k) (K ⟨.pv (.val (.int k (if m < n then n else m))), [], [], []⟩)
    | _ => False
  | _ => False
theorem vMax_ok {t : Nat} {y w : Operand} (ho : o.op = .call { callee := .builtin .max, args := #[y, w], argTypes := #[t, t] }) (h : vMax fr y w K) : Does P Rl o fr hp K := by
  obtain ⟨a, ha, h⟩ := vev_ok h
  obtain ⟨b, hb, h⟩ := vev_ok h
  split at h
  · split at h
    · obtain ⟨hk, h⟩ := vtest_ok h
      obtain rfl := eq_of_beq hk
      exact ⟨_, h, .pure fun c R1 fr2 hp2 hg _ _ => ok_max ho (hg.ev ha (by rw [ho]; simp [Op.operands, Call.operands])) (hg.ev hb (by rw [ho]; simp [Op.operands, Call.operands]))⟩
    · exact h.elim
  · exact h.elim
def vCap (T : TB P) (t : Nat) (fr : Fr) (y : Operand) (K : Stp → Prop) : Prop := vev fr y fun a => vti T t fun e => match a with
  | .pv (.val (.slice none 0 0)) => match e.i with
    | .slice _ => K ⟨iInt 0, [], [], []⟩
    | _ => False
  | _ => False
theorem vCap_ok {t : Nat} {y : Operand} (ho : o.op = .call { callee := .builtin .cap, args := #[y], argTypes := #[t] }) (h : vCap T t fr y K) : Does P Rl o fr hp K := by
  obtain ⟨a, ha, h⟩ := vev_ok h
  obtain ⟨e, he, h⟩ := vti_ok h
  obtain ⟨d, hd, hi⟩ := te_und he
  split at h
  · split at h
    · rename_i hq; rw [hq] at hi; cases hi
      exact ⟨_, h, .pure fun c R1 fr2 hp2 hg _ _ => ok_cap_nil ho (hg.ev ha (by rw [ho]; simp [Op.operands, Call.operands])) hd⟩
    · exact h.elim
  · exact h.elim
end
section
variable {P : Program} {T : TB P} {o : Oper} {fr : Fr} {hp : Hp} {Rl : List Nat} {K : Stp → Prop} {c : Cx}
theorem notR {k : Nat} (hR : ∀ k, c.R k → k ∈ Rl) (h : nIn k Rl = false) : ¬ c.R k := fun h1 => nIn_false h (hR k h1)
def vStore (T : TB P) (Rl : List Nat) (t : Nat) (fr : Fr) (hp : Hp) (y w : Operand) (K : Stp → Prop) : Prop := vev fr y fun a => vev fr w fun z => vti T t fun e => match a with
  | .ptr k off => vtest (!nIn k Rl) (vbox hp k fun cs => match e.i.row with
    | false => vtest (Nat.beq e.n 1 && Nat.blt off cs.length) (vfirm hp z (frcI (cs.set off z) fun l => K ⟨.pv (.val undef), [(k, some (.box l))], k :: names z, []⟩))
    | true => vopt z.parts fun zs => vtest (Nat.beq e.n zs.length && Nat.ble (off + zs.length) cs.length) (vfirms hp zs (frcI (patch cs off zs) fun l => K ⟨.pv (.val undef), [(k, some (.box l))], k :: zs.flatMap names, []⟩)))
  | .rpt k n off => vtest (!nIn k Rl) (vrow hp k fun s els => match z with
    | .pv p => vtest (Nat.beq e.n 1 && p.one) (∃ i j el, els.length = n ∧ off = i * s.n + j ∧ els[i]? = some el ∧ j < el.length ∧ K ⟨.pv (.val undef), [(k, some (.row s (els.set i (el.set j p))))], [k], []⟩)
    | _ => False)
  | _ => False
theorem vStore_ok {t : Nat} {y w : Operand} (ho : o.op = .store t y w) (h : vStore T Rl t fr hp y w K) : Does P Rl o fr hp K := by
  replace h := vev_ok h
  obtain ⟨a, ha, h⟩ := h
  replace h := vev_ok h
  obtain ⟨z, hz, h⟩ := h
  have ea : ∀ {fr2 : Fr}, agr fr2 fr (opSlots o.op) → fr2.ev y = some a := fun hg => hg.ev ha (by rw [ho]; simp [Op.operands])
  have eb : ∀ {fr2 : Fr}, agr fr2 fr (opSlots o.op) → fr2.ev w = some z := fun hg => hg.ev hz (by rw [ho]; simp [Op.operands])
  replace h := vti_ok h
  obtain ⟨e, he, h⟩ := h
  split at h
  · rename_i k off
    replace h := vtest_ok h
    obtain ⟨hR, h⟩ := h
    have hR' : nIn k Rl = false := by simpa using hR
    replace h := vbox_ok h
    obtain ⟨cs, hk, h⟩ := h
    split at h
    · obtain ⟨h1, h⟩ := vtest_ok h
      simp only [Bool.and_eq_true] at h1
      replace h := vfirm_ok h
      obtain ⟨h, hf⟩ := h
      refine ⟨_, frcI_ok h, fun c fr2 hp2 hc _ hg hh _ => ?_⟩
      exact ok_store_box ho (ea hg) (eb hg) (hh.at hk (.head _)) (notR hc hR') (by rw [te_size he, Nat.eq_of_beq_eq_true h1.1]) (hf hp2 fun k hk => hh k (.tail _ hk)) (Nat.le_of_ble_eq_true h1.2)
    · obtain ⟨zs, hzs, h⟩ := vopt_ok h
      replace h := vtest_ok h
      obtain ⟨h1, h⟩ := h
      simp only [Bool.and_eq_true] at h1
      replace h := vfirms_ok h
      obtain ⟨h, hf⟩ := h
      refine ⟨_, frcI_ok h, fun c fr2 hp2 hc _ hg hh _ => ?_⟩
      exact ok_store_box_agg ho (ea hg) (eb hg) hzs (hh.at hk (.head _)) (notR hc hR') (by rw [te_size he, Nat.eq_of_beq_eq_true h1.1]) (hf hp2 fun k hk => hh k (.tail _ hk)) (Nat.le_of_ble_eq_true h1.2)
  · rename_i k n off
    replace h := vtest_ok h
    obtain ⟨hR, h⟩ := h
    have hR' : nIn k Rl = false := by simpa using hR
    replace h := vrow_ok h
    obtain ⟨s, els, hk, h⟩ := h
    split at h
    · obtain ⟨h1, h⟩ := vtest_ok h
      simp only [Bool.and_eq_true] at h1
      obtain ⟨i, j, el, hn, hoff, hi, hj, h⟩ := h
      exact ⟨_, h, fun c fr2 hp2 hc _ hg hh _ => ok_store_row ho (ea hg) (eb hg) (hh.at hk (.head _)) hn hoff hi hj (by rw [te_size he, Nat.eq_of_beq_eq_true h1.1]) h1.2 (notR hc hR')⟩
    · exact h.elim
  · exact h.elim
def ZV.pvs : List ZV → List IV
  | [] => []
  | z :: r => .pv (.val z.val) :: ZV.pvs r
theorem ZV.pvs_eq : ∀ l : List ZV, ZV.pvs l = (l.map ZV.val).map fun v => .pv (.val v)
  | [] => rfl
  | z :: r => by simp only [ZV.pvs, List.map_cons, ZV.pvs_eq r]
def ZV.ps : List ZV → List PV
  | [] => []
  | z :: r => .val z.val :: ZV.ps r
theorem ZV.ps_eq : ∀ l : List ZV, ZV.ps l = (l.map ZV.val).map .val
  | [] => rfl
  | z :: r => by simp only [ZV.ps, List.map_cons, ZV.ps_eq r]
def vAlloc (T : TB P) (t k : Nat) (K : Stp → Prop) : Prop := vti T t fun e => vtest (!e.z.isEmpty) (frcI (ZV.pvs e.z) fun l => K ⟨.ptr k 0, [(k, some (.box l))], [k], [k]⟩)
theorem vAlloc_ok {t k : Nat} (ho : o.op = .alloc t) (h : vAlloc T t k K) : Does P Rl o fr hp K := by
  replace h := vti_ok h
  obtain ⟨e, he, h⟩ := h
  replace h := vtest_ok h
  obtain ⟨hz, h⟩ := h
  have hz' : e.z ≠ [] := by simpa using hz
  refine ⟨_, frcI_ok h, fun c fr2 hp2 _ hc _ _ hf => ?_⟩
  obtain ⟨f1, f2, f3⟩ := frsh_ok (hf k (.head _))
  have := ok_alloc (c := c) ho (te_zero he hz') f3 (hc k (.head _)) f1 f2
  rwa [(te_cells he hz').1, ← ZV.pvs_eq] at this
def vBox (own : Bool) (fr : Fr) (hp : Hp) (y : Operand) (k : Nat) (K : Stp → Prop) : Prop := vev fr y fun a => match own with
  | true => match a with
    | .pv (.agg ps) => frcI (ps.map .pv) fun l => K ⟨.ptr k 0, [(k, some (.box l))], [k], [k]⟩
    | .agg cs => vtest (!nm.nms k cs) (K ⟨.ptr k 0, [(k, some (.box cs))], [k], [k]⟩)
    | z => vtest (!nm k z) (vfirm hp z (K ⟨.ptr k 0, [(k, some (.box [z]))], k :: names z, [k]⟩))
  | false => match a with
    | .pv (.agg ps) => K ⟨.pv (.ept ps 0), [], [], []⟩
    | .pv p => vtest p.one (K ⟨.pv (.ept [p] 0), [], [], []⟩)
    | _ => False
theorem vBox_ok {t k : Nat} {own : Bool} {y : Operand} (ho : o.op = .box t y) (h : vBox own fr hp y k K) : Does P Rl o fr hp K := by
  replace h := vev_ok h
  obtain ⟨a, ha, h⟩ := h
  have ea : ∀ {fr2 : Fr}, agr fr2 fr (opSlots o.op) → fr2.ev y = some a := fun hg => hg.ev ha (by rw [ho]; simp [Op.operands])
  split at h
  · split at h
    · refine ⟨_, frcI_ok h, fun c fr2 hp2 _ hc hg _ hf => ?_⟩
      obtain ⟨f1, f2, f3⟩ := frsh_ok (hf k (.head _))
      exact ok_boxOwnP ho (ea hg) f3 (hc k (.head _)) f1 f2
    · obtain ⟨hn, h⟩ := vtest_ok h
      refine ⟨_, h, fun c fr2 hp2 _ hc hg _ hf => ?_⟩
      obtain ⟨f1, f2, f3⟩ := frsh_ok (hf k (.head _))
      exact ok_boxOwn ho (ea hg) f3 (hc k (.head _)) f1 f2 (by simpa using hn)
    · obtain ⟨hn, h⟩ := vtest_ok h
      replace h := vfirm_ok h
      obtain ⟨h, hz⟩ := h
      refine ⟨_, h, fun c fr2 hp2 _ hc hg hh hf => ?_⟩
      obtain ⟨f1, f2, f3⟩ := frsh_ok (hf k (.head _))
      exact ok_boxOwn1 ho (ea hg) (hz hp2 fun k hk => hh k (.tail _ hk)) f3 (hc k (.head _)) f1 f2 (by simpa using hn)
  · split at h
    · exact ⟨_, h, fun c fr2 hp2 _ _ hg _ _ => ok_box ho (ea hg)⟩
    · obtain ⟨h1, h⟩ := vtest_ok h
      exact ⟨_, h, fun c fr2 hp2 _ _ hg _ _ => ok_box1 ho (ea hg) h1⟩
    · exact h.elim
def szs (T : TB P) : List (Nat × Nat) → Option (List (Nat × Nat))
  | [] => some []
  | (off, t) :: r => match T.ti t with
    | some e => match szs T r with
      | some l => some ((off, e.n) :: l)
      | none => none
    | none => none
theorem szs_run {w : World} : ∀ {fs : List Field} {l : List (Nat × Nat)}, szs T (fs.map fun f => (f.offset, f.type)) = some l → ((fs.mapM fun f => do pure (f.offset, ← sizeOf f.type)) : Sem (List (Nat × Nat))).run P w = .ok l w
  | [], l, h => by cases h; rfl
  | f :: r, l, h => by
    simp only [List.map_cons, szs] at h
    split at h
    · rename_i e he
      split at h
      · rename_i l' hl
        cases h
        have ih := szs_run (w := w) hl
        have hs := run_sizeOf (te_size (T.tok _ _ he)) w
        simp only [List.mapM_cons, Sem.run_bind, hs, Result.andThen_ok, Sem.run_pure, ih]
      · cases h
    · cases h
theorem places_ok {a : Array Field} {l : List (Nat × Nat)} (h : szs T (a.toList.map fun f => (f.offset, f.type)) = some l) : PlacesOk P a l.toArray := by
  intro w
  have h1 := szs_run (P := P) (w := w) h
  obtain ⟨fs⟩ := a
  have h2 : ((#[].append fs.toArray : Array Field).mapM fun f => (do pure (f.offset, ← sizeOf f.type) : Sem (Nat × Nat))) = (fs.mapM fun f => (do pure (f.offset, ← sizeOf f.type) : Sem (Nat × Nat))) >>= fun l => pure l.toArray := by
    simp
  have h3 : (⟨fs⟩ : Array Field) = #[].append fs.toArray := by simp
  rw [h3, h2, Sem.run_bind, h1]
  rfl
def vparts (hp : Hp) : List (Nat × IV) → Prop → Prop
  | [], A => A
  | (_, x) :: r, A => match x.parts with
    | some _ => vparts hp r A
    | none => vfirm hp x (vparts hp r A)
theorem vparts_ok : ∀ {l : List (Nat × IV)} {A : Prop}, vparts hp l A → A ∧ ∀ hp2, agh hp2 hp (l.flatMap fun p => names p.2) → firmParts (look hp2) l
  | [], A, h => ⟨h, fun _ _ p hq => by cases hq⟩
  | (i, x) :: r, A, h => by
    simp only [vparts] at h
    have split : ∀ {hp2}, agh hp2 hp (((i, x) :: r).flatMap fun p => names p.2) → agh hp2 hp (names x) ∧ agh hp2 hp (r.flatMap fun p => names p.2) := fun hh => by
      simp only [List.flatMap_cons] at hh
      exact ⟨fun k hk => hh k (List.mem_append_left _ hk), fun k hk => hh k (List.mem_append_right _ hk)⟩
    split at h
    · rename_i ps hps
      replace h := vparts_ok h
      obtain ⟨h1, h2⟩ := h
      refine ⟨h1, fun hp2 hh p hq h0 => ?_⟩
      rcases List.mem_cons.1 hq with rfl | hq
      · rw [hps] at h0; cases h0
      · exact h2 hp2 (split hh).2 p hq h0
    · obtain ⟨h, hz⟩ := vfirm_ok h
      replace h := vparts_ok h
      obtain ⟨h1, h2⟩ := h
      refine ⟨h1, fun hp2 hh p hq h0 => ?_⟩
      rcases List.mem_cons.1 hq with rfl | hq
      · exact hz hp2 (split hh).1
      · exact h2 hp2 (split hh).2 p hq h0
def vmade (ids : List Nat) (out : List IV) (K : Stp → Prop) : Prop := match purify out with
  | some ps => frcP ps fun l => K ⟨.pv (.agg l), [], ids, []⟩
  | none => frcI out fun l => K ⟨.agg l, [], ids, []⟩
theorem zvIV {e : TE} {t : Nat} (he : teB P t e = true) (hz : e.z ≠ []) : zerosIV e.zv = ZV.pvs e.z := by
  rw [zerosIV, (te_cells he hz).1, ← ZV.pvs_eq]
def vBuild (T : TB P) (t : Nat) (fr : Fr) (hp : Hp) (parts : List (Nat × Operand)) (K : Stp → Prop) : Prop := vti T t fun e => vtest (!e.z.isEmpty) (vopt (evParts fr parts) fun xs => vparts hp xs (match e.i with
  | .struct fs => vopt (szs T fs) fun pl => vopt (fillIV (pl.toArray[·]?) (ZV.pvs e.z) xs) fun out => vmade (xs.flatMap fun p => names p.2) out K
  | .arr _ q => vti T q fun eq => vopt (fillIV (fun i => some (i * eq.n, eq.n)) (ZV.pvs e.z) xs) fun out => frcI out fun l => K ⟨.agg l, [], xs.flatMap fun p => names p.2, []⟩
  | _ => False))
theorem vBuild_ok {t : Nat} {parts : Array (Nat × Operand)} (ho : o.op = .build t parts) (h : vBuild T t fr hp parts.toList K) : Does P Rl o fr hp K := by
  replace h := vti_ok h
  obtain ⟨e, he, h⟩ := h
  replace h := vtest_ok h
  obtain ⟨hz, h⟩ := h
  have hz' : e.z ≠ [] := by simpa using hz
  replace h := vopt_ok h
  obtain ⟨xs, hxs, h⟩ := h
  have ex : ∀ {fr2 : Fr}, agr fr2 fr (opSlots o.op) → evParts fr2 parts.toList = some xs := fun hg => hg.evParts hxs fun y hy => by
    rw [ho]; simp only [Op.operands]; exact List.mem_map_of_mem hy
  replace h := vparts_ok h
  obtain ⟨h, hfirm⟩ := h
  obtain ⟨d, hd, hi⟩ := te_und he
  have hzi := zvIV he hz'
  split at h
  · rename_i fs hq
    rw [hq] at hi
    obtain ⟨a, rfl, h2⟩ := hi
    replace h := vopt_ok h
    obtain ⟨pl, hpl, h⟩ := h
    replace h := vopt_ok h
    obtain ⟨out, hout, h⟩ := h
    rw [← h2] at hpl
    unfold vmade at h
    split at h
    · rename_i ps hps
      exact ⟨_, frcP_ok h, .pure fun c R1 fr2 hp2 hg hh _ => ok_build_pure ho (ex hg) (te_zero he hz') ⟨a, hd, places_ok hpl⟩ (by rw [hzi]; exact hout) (hfirm hp2 hh) hps⟩
    · exact ⟨_, frcI_ok h, .pure fun c R1 fr2 hp2 hg hh _ => ok_build ho (ex hg) (te_zero he hz') ⟨a, hd, places_ok hpl⟩ (by rw [hzi]; exact hout) (hfirm hp2 hh)⟩
  · rename_i n q hq
    rw [hq] at hi
    cases hi
    replace h := vti_ok h
    obtain ⟨eq, heq, h⟩ := h
    replace h := vopt_ok h
    obtain ⟨out, hout, h⟩ := h
    exact ⟨_, frcI_ok h, .pure fun c R1 fr2 hp2 hg hh _ => ok_build_arr ho (ex hg) (te_zero he hz') hd (te_size heq) (by rw [hzi]; exact hout) (hfirm hp2 hh)⟩
  · exact h.elim
def repZ (z : List ZV) : Nat → List IV
  | 0 => []
  | n + 1 => ZV.pvs z ++ repZ z n
theorem repZ_eq {e : TE} {t : Nat} (he : teB P t e = true) (hz : e.z ≠ []) : ∀ n, repIV e.zv n = repZ e.z n
  | 0 => rfl
  | n + 1 => by simp only [repIV, repZ, repZ_eq he hz n, zvIV he hz]
def frcE : List (List PV) → (List (List PV) → Prop) → Prop
  | [], K => K []
  | x :: r, K => frcP x fun y => frcE r fun l => K (y :: l)
theorem frcE_ok : ∀ {l : List (List PV)} {K : List (List PV) → Prop}, frcE l K → K l
  | [], _, h => h
  | x :: r, K, h => frcE_ok (l := r) (K := fun l => K (x :: l)) (frcP_ok (K := fun y => frcE r fun l => K (y :: l)) h)
def vBuildS (T : TB P) (own : Bool) (t len : Nat) (fr : Fr) (hp : Hp) (parts : List (Nat × Operand)) (k : Nat) (K : Stp → Prop) : Prop := vti T t fun e => match e.i with
  | .slice q => vti T q fun eq => vtest (!eq.z.isEmpty && Nat.ble 1 eq.n && Nat.ble (len * eq.n) (2 ^ 24)) (vopt (evParts fr parts) fun xs => vparts hp xs (vopt (fillIV (fun i => some (i * eq.n, eq.n)) (repZ eq.z len) xs) fun out => match purify out with
    | some ps => frcE (chunks eq.n len ps) fun l => match own with
      | false => K ⟨.pv (.seq l), [], xs.flatMap fun p => names p.2, []⟩
      | true => K ⟨.sl k len, [(k, some (.row ⟨q, eq.n⟩ l))], k :: xs.flatMap fun p => names p.2, [k]⟩
    | none => vtest (!nm.nms k out) (K ⟨.bs k len, [(k, some (.box out))], k :: xs.flatMap fun p => names p.2, [k]⟩)))
  | _ => False
theorem vBuildS_ok {t len k : Nat} {own : Bool} {parts : Array (Nat × Operand)} (ho : o.op = .buildSlice t len parts) (h : vBuildS T own t len fr hp parts.toList k K) : Does P Rl o fr hp K := by
  replace h := vti_ok h
  obtain ⟨e, he, h⟩ := h
  obtain ⟨d, hd, hi⟩ := te_und he
  split at h
  · rename_i q hq
    rw [hq] at hi
    cases hi
    replace h := vti_ok h
    obtain ⟨eq, heq, h⟩ := h
    replace h := vtest_ok h
    obtain ⟨h1, h⟩ := h
    simp only [Bool.and_eq_true] at h1
    have hz' : eq.z ≠ [] := by simpa using h1.1.1
    replace h := vopt_ok h
    obtain ⟨xs, hxs, h⟩ := h
    have ex : ∀ {fr2 : Fr}, agr fr2 fr (opSlots o.op) → evParts fr2 parts.toList = some xs := fun hg => hg.evParts hxs fun y hy => by
      rw [ho]; simp only [Op.operands]; exact List.mem_map_of_mem hy
    replace h := vparts_ok h
    obtain ⟨h, hfirm⟩ := h
    replace h := vopt_ok h
    obtain ⟨out, hout, h⟩ := h
    rw [← repZ_eq heq hz'] at hout
    cases hps : purify out with
    | none =>
      rw [hps] at h
      replace h := vtest_ok h
      obtain ⟨hn, h⟩ := h
      refine ⟨_, h, fun c fr2 hp2 _ hc hg hh hf => ?_⟩
      obtain ⟨f1, f2, f3⟩ := frsh_ok (hf k (.head _))
      exact ok_buildSliceBs ho (ex hg) hd (te_zero heq hz') (te_size heq) (te_cells heq hz').2 h1.1.2 h1.2 hout (hfirm hp2 fun j hj => hh j (.tail _ hj)) (by simpa using hn) f3 (hc k (.head _)) f1 f2
    | some ps =>
    rw [hps] at h
    replace h := frcE_ok h
    split at h
    · exact ⟨_, h, fun c fr2 hp2 _ _ hg hh _ => ok_buildSlice ho (ex hg) hd (te_zero heq hz') (te_size heq) (te_cells heq hz').2 h1.1.2 h1.2 hout (hfirm hp2 hh) hps⟩
    · refine ⟨_, h, fun c fr2 hp2 _ hc hg hh hf => ?_⟩
      obtain ⟨f1, f2, f3⟩ := frsh_ok (hf k (.head _))
      exact ok_buildSliceOwn ho (ex hg) hd (te_zero heq hz') (te_size heq) (te_cells heq hz').2 h1.1.2 h1.2 hout (hfirm hp2 fun j hj => hh j (.tail _ hj)) hps f3 (hc k (.head _)) f1 f2
  · exact h.elim
def vMkMap (k : Nat) (K : Stp → Prop) : Prop := K ⟨.mp k, [(k, some (.map []))], [k], [k]⟩
theorem vMkMap_ok {t k : Nat} (ho : o.op = .makeMap t none) (h : vMkMap k K) : Does P Rl o fr hp K := by
  refine ⟨_, h, fun c fr2 hp2 _ hc _ _ hf => ?_⟩
  obtain ⟨f1, f2, f3⟩ := frsh_ok (hf k (.head _))
  exact ok_makeMap ho f3 (hc k (.head _)) f1 f2
inductive VNum (m : Int) (K : Nat → Prop) : Prop
  | mk {n : Nat} (hm : m = n) (hb : n ≤ 68719476736) (k : K n)
def vMkSlice (T : TB P) (t : Nat) (fr : Fr) (y w : Operand) (k : Nat) (K : Stp → Prop) : Prop := vti T t fun e => match e.i with
  | .slice q => vti T q fun eq => vtest (!eq.z.isEmpty && Nat.ble 1 eq.n && Nat.ble eq.b 2048) (vev fr y fun a => match a with
    | .pv (.val (.int .i64 m)) => vev fr w fun b => b = a ∧ VNum m fun n => frcP (ZV.ps eq.z) fun l => K ⟨.sl k n, [(k, some (.row ⟨q, eq.n⟩ (List.replicate n l)))], [k], [k]⟩
    | _ => False)
  | _ => False
theorem vMkSlice_ok {t k : Nat} {y w : Operand} (ho : o.op = .makeSlice t y w) (h : vMkSlice T t fr y w k K) : Does P Rl o fr hp K := by
  replace h := vti_ok h
  obtain ⟨e, he, h⟩ := h
  obtain ⟨d, hd, hi⟩ := te_und he
  split at h
  · rename_i q hq
    rw [hq] at hi
    cases hi
    replace h := vti_ok h
    obtain ⟨eq, heq, h⟩ := h
    replace h := vtest_ok h
    obtain ⟨h1, h⟩ := h
    simp only [Bool.and_eq_true] at h1
    have hz' : eq.z ≠ [] := by simpa using h1.1.1
    replace h := vev_ok h
    obtain ⟨a, ha, h⟩ := h
    split at h
    · obtain ⟨b, hb, h⟩ := vev_ok h
      obtain ⟨rfl, h⟩ := h
      obtain ⟨rfl, hn, h9⟩ := h
      refine ⟨_, frcP_ok h9, fun c fr2 hp2 _ hc hg _ hf => ?_⟩
      obtain ⟨f1, f2, f3⟩ := frsh_ok (hf k (.head _))
      have h128 := Nat.le_of_ble_eq_true h1.2
      have := ok_makeSlice (c := c) (s := ⟨q, eq.n⟩) ho (hg.ev ha (by rw [ho]; simp [Op.operands])) (hg.ev hb (by rw [ho]; simp [Op.operands])) hd (te_zero heq hz') (te_by heq) (te_cells heq hz').2 (Nat.le_of_ble_eq_true h1.1.2) (by omega) (Nat.le_trans (Nat.mul_le_mul h128 hn) (by decide)) f3 (hc k (.head _)) f1 f2
      rwa [(te_cells heq hz').1, ← ZV.ps_eq] at this
    · exact h.elim
  · exact h.elim
def vMkSliceP (T : TB P) (t : Nat) (fr : Fr) (y w : Operand) (K : Stp → Prop) : Prop := vti T t fun e => match e.i with
  | .slice q => vti T q fun eq => vtest (!eq.z.isEmpty && Nat.ble 1 eq.n && Nat.ble eq.b 2048) (vev fr y fun a => match a with
    | .pv (.val (.int .i64 m)) => vev fr w fun b => b = a ∧ VNum m fun n => frcP (ZV.ps eq.z) fun l => K ⟨.pv (.seq (List.replicate n l)), [], [], []⟩
    | _ => False)
  | _ => False
theorem vMkSliceP_ok {t : Nat} {y w : Operand} (ho : o.op = .makeSlice t y w) (h : vMkSliceP T t fr y w K) : Does P Rl o fr hp K := by
  replace h := vti_ok h
  obtain ⟨e, he, h⟩ := h
  obtain ⟨d, hd, hi⟩ := te_und he
  split at h
  · rename_i q hq
    rw [hq] at hi
    cases hi
    replace h := vti_ok h
    obtain ⟨eq, heq, h⟩ := h
    replace h := vtest_ok h
    obtain ⟨h1, h⟩ := h
    simp only [Bool.and_eq_true] at h1
    have hz' : eq.z ≠ [] := by simpa using h1.1.1
    replace h := vev_ok h
    obtain ⟨a, ha, h⟩ := h
    split at h
    · obtain ⟨b, hb, h⟩ := vev_ok h
      obtain ⟨rfl, h⟩ := h
      obtain ⟨rfl, hn, h9⟩ := h
      refine ⟨_, frcP_ok h9, fun c fr2 hp2 _ hc hg _ hf => ?_⟩
      have h128 := Nat.le_of_ble_eq_true h1.2
      have := ok_makeSliceP (c := c) (s := ⟨q, eq.n⟩) (σ := look hp2) ho (hg.ev ha (by rw [ho]; simp [Op.operands])) (hg.ev hb (by rw [ho]; simp [Op.operands])) hd (te_zero heq hz') (te_by heq) (te_cells heq hz').2 (Nat.le_of_ble_eq_true h1.1.2) (by omega) (Nat.le_trans (Nat.mul_le_mul h128 hn) (by decide))
      rwa [(te_cells heq hz').1, ← ZV.ps_eq] at this
    · exact h.elim
  · exact h.elim
def vMapUp (T : TB P) (Rl : List Nat) (t : Nat) (fr : Fr) (hp : Hp) (x y w : Operand) (K : Stp → Prop) : Prop := vev fr x fun a => vev fr y fun b => vev fr w fun z => match a with
  | .mp k => vtest (!nIn k Rl) (match b with
    | .pv (.val kv) => match z with
      | .pv p => vmap hp k fun es => vti T t fun e => match e.i with
        | .map kt _ => vti T kt fun ek => vopt ek.i.key fun d => VMap d kv es (K ⟨.pv (.val undef), [(k, some (.map (mput kv p es)))], [k], []⟩)
        | _ => False
      | _ => False
    | _ => False)
  | _ => False
theorem vMapUp_ok {t : Nat} {x y w : Operand} (ho : o.op = .mapUpdate t x y w ∨ o.op = .insert t x y w) (h : vMapUp T Rl t fr hp x y w K) : Does P Rl o fr hp K := by
  replace h := vev_ok h
  obtain ⟨a, ha, h⟩ := h
  replace h := vev_ok h
  obtain ⟨b, hb, h⟩ := h
  replace h := vev_ok h
  obtain ⟨z, hz, h⟩ := h
  have hops : o.op.operands.toList = [x, y, w] := by rcases ho with ho | ho <;> rw [ho] <;> rfl
  have ea : ∀ {fr2 : Fr}, agr fr2 fr (opSlots o.op) → fr2.ev x = some a := fun hg => hg.ev ha (by rw [hops]; simp)
  have eb : ∀ {fr2 : Fr}, agr fr2 fr (opSlots o.op) → fr2.ev y = some b := fun hg => hg.ev hb (by rw [hops]; simp)
  have ez : ∀ {fr2 : Fr}, agr fr2 fr (opSlots o.op) → fr2.ev w = some z := fun hg => hg.ev hz (by rw [hops]; simp)
  split at h
  · rename_i k
    replace h := vtest_ok h
    obtain ⟨hR, h⟩ := h
    have hR' : nIn k Rl = false := by simpa using hR
    split at h
    · split at h
      · obtain ⟨es, hk, h⟩ := vmap_ok h
        replace h := vti_ok h
        obtain ⟨e, he, h⟩ := h
        obtain ⟨d, hd, hi⟩ := te_und he
        split at h
        · rename_i kt et hq
          rw [hq] at hi
          cases hi
          replace h := vti_ok h
          obtain ⟨ek, hek, h⟩ := h
          replace h := vopt_ok h
          obtain ⟨dk, hdk, h⟩ := h
          obtain ⟨h1, h2, h⟩ := h
          refine ⟨_, h, fun c fr2 hp2 hc _ hg hh _ => ?_⟩
          rcases ho with ho | ho
          · exact ok_mapUpdate ho (ea hg) (eb hg) (ez hg) (hh.at hk (.head _)) (notR hc hR') hd (key_und hek hdk) h1 h2
          · exact ok_insert ho (ea hg) (eb hg) (ez hg) (hh.at hk (.head _)) (notR hc hR') hd (key_und hek hdk) h1 h2
        · exact h.elim
      · exact h.elim
    · exact h.elim
  · exact h.elim
def VFlat (n : Nat) (news : List (List PV)) : Prop := ∀ el ∈ news, el.length = n ∧ ∀ x ∈ el, x.one = true
def flatB (n : Nat) : List (List PV) → Bool
  | [] => true
  | el :: r => Nat.beq el.length n && el.all PV.one && flatB n r
theorem flat1 {n : Nat} : ∀ {l : List (List PV)}, flatB n l = true → VFlat n l
  | [], _ => fun _ h => by cases h
  | el :: r, h => by
    simp only [flatB, Bool.and_eq_true] at h
    intro e he
    rcases List.mem_cons.1 he with rfl | he
    · exact ⟨Nat.eq_of_beq_eq_true h.1.1, fun x hx => List.all_eq_true.1 h.1.2 x hx⟩
    · exact flat1 h.2 e he
theorem flatM {α : Type} {n : Nat} {f : α → List PV} {l : List α} (h : ∀ x ∈ l, (f x).length = n ∧ ∀ y ∈ f x, y.one = true) : VFlat n (l.map f) := fun el hel => by
  obtain ⟨x, hx, rfl⟩ := List.mem_map.1 hel
  exact h x hx
inductive VApp (s : RT) (els : List (List PV)) (n : Nat) (news : List (List PV)) (A : Prop) : Prop
  | mk (hn : els.length = n) (hf : VFlat s.n news) (hb : n + news.length ≤ 68719476736) (k : A)
theorem All.back {t : Nat} {v : Value} {y : IV} {ρ : Loc} {σ : Heap'} {w : World} {a : Act} (ht : fr.get t = some (.pv (.val v))) (hv : a.tmps[t]? = some v) (h : All c ρ σ w ((t, y) :: fr) a) : All c ρ σ w fr a := by
  refine ⟨h.rel, fun t' z hz => ?_, h.tr, h.df, h.sz, h.kk⟩
  by_cases e : t = t'
  · subst e
    rw [ht] at hz
    cases hz
    exact ⟨v, hv, mkVal v⟩
  · exact h.fr t' z (by simp only [Fr.get, beq_ne e]; exact hz)
theorem All.slot {t : Nat} {v : Value} {ρ : Loc} {σ : Heap'} {w : World} {a : Act} (h : All c ρ σ w fr a) (ht : fr.get t = some (.pv (.val v))) : a.tmps[t]? = some v := by
  obtain ⟨u, hu, hr⟩ := h.fr t _ ht
  rw [hu, hr.val]
theorem Ok.reval {t : Nat} {v : Value} {y x : IV} {σ σ' : Heap'} (ht : fr.get t = some (.pv (.val v))) (hs : ∀ F ρ w, RepI F ρ σ w y v) (h : Ok P c o ((t, y) :: fr) σ x σ') : Ok P c o fr σ x σ' := by
  intro ρ w a Kc Q ha hK
  have ha2 : All c ρ σ w ((t, y) :: fr) a := ha.putFr ht fun u hu => by rw [hu.val]; exact hs _ _ _
  exact h ρ w a Kc Q ha2 fun ρ' w' u ha' hu => hK ρ' w' u (ha'.back ht (ha.slot ht)) hu
theorem Ok.ghostR {k t : Nat} {s : RT} {x : IV} {σ' : Heap'} (hσ : look hp k = none) (hc : c.σ k = none) (hfr : nmFr k fr = false) (hhp : nmHp k hp = false) (ht : fr.get t = some (.pv (.val (.slice none 0 0)))) (h : Ok P c o ((t, .sl k 0) :: fr) (look ((k, some (.row s [])) :: hp)) x σ') : Ok P c o fr (look hp) x σ' := by
  intro ρ w a Kc Q ha hK
  obtain ⟨hk, ha'⟩ := ha.ghost hσ hc hfr hhp s
  have ha2 := ha'.putFr (y := .sl k 0) ht fun v hv => by
    obtain rfl := hv.val
    exact .sl k 0 _ fun s' els' _ => ⟨Nat.zero_le _, fun _ => .inr ⟨hk, rfl, rfl⟩⟩
  exact h ρ w a Kc Q ha2 fun ρ' w' u ha3 hu => hK ρ' w' u (ha3.back ht (ha.slot ht)) hu
theorem ok_append_new {t u v k by_ : Nat} {s : RT} {news : List (List PV)} (hut : Nat.beq u v = false) (ho : o.op = .call { callee := .builtin .append, args := #[.tmp u, .tmp v], argTypes := #[t, t] }) (hx : fr.get u = some (.pv (.val (.slice none 0 0)))) (hy : fr.get v = some (.pv (.seq news)))
    (ht : P.underlying t = some (.slice s.e)) (hi : (P.info? s.e).map (fun i => (i.size, i.bytes, (i.zero.map fun z => z.cells.size))) = some (s.n, by_, some s.n)) (hs : 0 < s.n)
    (hw : ∀ el ∈ news, el.length = s.n) (hone : ∀ el ∈ news, ∀ x ∈ el, x.one = true) (hmax : 0 + news.length ≤ maxLen) (hb : (0 + news.length) * by_ ≤ 140737488355328)
    (hσ : look hp k = none) (hc : c.σ k = none) (hR : ¬ c.R k) (hfr : nmFr k fr = false) (hhp : nmHp k hp = false) :
    Ok P c o fr (look hp) (.sl k news.length) (look ((k, some (.row s news)) :: hp)) := by
  refine Ok.ghostR (s := s) hσ hc hfr hhp hx ?_
  have hu : Fr.ev ((u, .sl k 0) :: fr) (.tmp u) = some (.sl k 0) := by simp [Fr.ev, Fr.get]
  have hv : Fr.ev ((u, .sl k 0) :: fr) (.tmp v) = some (.pv (.seq news)) := by simp only [Fr.ev, Fr.get, hut]; exact hy
  have := ok_append (c := c) (hp := (k, some (.row s [])) :: hp) ho hu hv look_hd rfl hR ht hi hs hw hone hmax hb
  simp only [Nat.zero_add, List.nil_append] at this
  rwa [look_shadow] at this
theorem ok_append_none {t k n : Nat} {u : Operand} {v by_ : Nat} {s : RT} {els : List (List PV)} (hut : ∀ x, u = .tmp x → Nat.beq v x = false) (ho : o.op = .call { callee := .builtin .append, args := #[u, .tmp v], argTypes := #[t, t] }) (hx : fr.ev u = some (.sl k n)) (hy : fr.get v = some (.pv (.val (.slice none 0 0))))
    (hk : look hp k = some (.row s els)) (hn : els.length = n) (hR : ¬ c.R k) (ht : P.underlying t = some (.slice s.e)) (hi : (P.info? s.e).map (fun i => (i.size, i.bytes, (i.zero.map fun z => z.cells.size))) = some (s.n, by_, some s.n)) (hs : 0 < s.n)
    (hmax : n + 0 ≤ maxLen) (hb : (n + 0) * by_ ≤ 140737488355328) : Ok P c o fr (look hp) (.sl k n) (look ((k, some (.row s els)) :: hp)) := by
  refine Ok.reval (y := .pv (.seq [])) hy (fun F ρ w => .pv _ _ (.seq [] none 0 0 0 (fun _ _ => undef) (by simp) (by simp) (by simp) (by simp [maxLen]) (by simp) (by simp))) ?_
  have hu : Fr.ev ((v, .pv (.seq [])) :: fr) u = some (.sl k n) := by
    cases u with
    | tmp x => simp only [Fr.ev, Fr.get, hut x rfl]; exact hx
    | _ => exact hx
  have hv : Fr.ev ((v, .pv (.seq [])) :: fr) (.tmp v) = some (.pv (.seq [])) := by simp [Fr.ev, Fr.get]
  have := ok_append (c := c) ho hu hv hk hn hR ht hi hs (fun _ h => by cases h) (fun _ h => by cases h) hmax hb
  simpa using this
def tmpB : Operand → Option Nat
  | .tmp t => some t
  | _ => none
theorem tmpB_ok {y : Operand} {t : Nat} (h : tmpB y = some t) : y = .tmp t := by cases y <;> simp_all [tmpB]
def vAppend (T : TB P) (Rl : List Nat) (t : Nat) (fr : Fr) (hp : Hp) (x y : Operand) (k0 : Nat) (K : Stp → Prop) : Prop := vti T t fun e => match e.i with
  | .slice q => vti T q fun eq => vtest (!eq.z.isEmpty && Nat.ble 1 eq.n && Nat.ble eq.b 2048) (vev fr x fun a => vev fr y fun b => match a with
    | .sl k n => vtest (!nIn k Rl) (vrow hp k fun s els => vtest (Nat.beq s.e q && Nat.beq s.n eq.n) (match b with
      | .pv (.seq news) => VApp s els n news (K ⟨.sl k (n + news.length), [(k, some (.row s (els ++ news)))], [k], []⟩)
      | .sl k2 n2 => vrow hp k2 fun s2 news => vtest (Nat.beq s2.e q && Nat.beq s2.n eq.n) (news.length = n2 ∧ VApp s els n news (K ⟨.sl k (n + news.length), [(k, some (.row s (els ++ news)))], [k, k2], []⟩))
      | .pv (.val (.slice none 0 0)) => vopt (tmpB y) fun v => vtest (match tmpB x with
          | some u => !Nat.beq v u
          | none => true) (els.length = n ∧ n ≤ 68719476736 ∧ K ⟨.sl k n, [(k, some (.row s els))], [k], []⟩)
      | _ => False))
    | .pv (.val (.slice none 0 0)) => vopt (tmpB x) fun u => vopt (tmpB y) fun v => vtest (!Nat.beq u v && !nIn k0 Rl) (match b with
      | .pv (.seq news) => VApp ⟨q, eq.n⟩ [] 0 news (K ⟨.sl k0 news.length, [(k0, some (.row ⟨q, eq.n⟩ news))], [k0], [k0]⟩)
      | .bs k2 n2 => vbox hp k2 fun cs => vtest (!nm.nms k0 cs && Nat.beq eq.n 1) (cs.length = n2 ∧ 0 < n2 ∧ n2 ≤ 68719476736 ∧ K ⟨.bs k0 n2, [(k0, some (.box cs))], [k0, k2], [k0]⟩)
      | _ => False)
    | _ => False)
  | _ => False
theorem big128 {n b : Nat} (hn : n ≤ 68719476736) (hb : Nat.ble b 2048 = true) : n ≤ maxLen ∧ n * b ≤ 140737488355328 := by
  refine ⟨by simp only [maxLen]; omega, Nat.le_trans (Nat.mul_le_mul hn (Nat.le_of_ble_eq_true hb)) (by decide)⟩
theorem vAppend_ok {t k0 : Nat} {x y : Operand} (ho : o.op = .call { callee := .builtin .append, args := #[x, y], argTypes := #[t, t] }) (h : vAppend T Rl t fr hp x y k0 K) : Does P Rl o fr hp K := by
  have hops : o.op.operands.toList = [x, y] := by rw [ho]; rfl
  replace h := vti_ok h
  obtain ⟨e, he, h⟩ := h
  obtain ⟨d, hd, hi⟩ := te_und he
  split at h
  · rename_i q hq
    rw [hq] at hi
    cases hi
    replace h := vti_ok h
    obtain ⟨eq, heq, h⟩ := h
    replace h := vtest_ok h
    obtain ⟨h1, h⟩ := h
    simp only [Bool.and_eq_true] at h1
    have hz' : eq.z ≠ [] := by simpa using h1.1.1
    have hpos := Nat.le_of_ble_eq_true h1.1.2
    have hinfo := te_app heq hz'
    replace h := vev_ok h
    obtain ⟨a, ha, h⟩ := h
    replace h := vev_ok h
    obtain ⟨b, hb, h⟩ := h
    have ea : ∀ {fr2 : Fr}, agr fr2 fr (opSlots o.op) → fr2.ev x = some a := fun hg => hg.ev ha (by rw [hops]; simp)
    have eb : ∀ {fr2 : Fr}, agr fr2 fr (opSlots o.op) → fr2.ev y = some b := fun hg => hg.ev hb (by rw [hops]; simp)
    split at h
    · rename_i k n
      replace h := vtest_ok h
      obtain ⟨hR, h⟩ := h
      have hR' : nIn k Rl = false := by simpa using hR
      replace h := vrow_ok h
      obtain ⟨s, els, hk, h⟩ := h
      replace h := vtest_ok h
      obtain ⟨hs, h⟩ := h
      simp only [Bool.and_eq_true] at hs
      have hse := Nat.eq_of_beq_eq_true hs.1
      have hsn := Nat.eq_of_beq_eq_true hs.2
      split at h
      · obtain ⟨hn, hf, hbd, h⟩ := h
        obtain ⟨hm1, hm2⟩ := big128 hbd h1.2
        exact ⟨_, h, fun c fr2 hp2 hc _ hg hh _ => ok_append ho (ea hg) (eb hg) (hh.at hk (.head _)) hn (notR hc hR') (by rw [hse]; exact hd) (by rw [hse, hsn]; exact hinfo) (by omega) (fun el hel => (hf el hel).1) (fun el hel => (hf el hel).2) hm1 hm2⟩
      · rename_i k2 n2
        replace h := vrow_ok h
        obtain ⟨s2, news, hk2, h⟩ := h
        replace h := vtest_ok h
        obtain ⟨hs2, h⟩ := h
        simp only [Bool.and_eq_true] at hs2
        have hss : s2 = s := by
          cases s; cases s2
          have h3 := Nat.eq_of_beq_eq_true hs2.1
          have h4 := Nat.eq_of_beq_eq_true hs2.2
          simp_all
        subst hss
        obtain ⟨hn2, hn, hf, hbd, h9⟩ := h
        obtain ⟨hm1, hm2⟩ := big128 hbd h1.2
        exact ⟨_, h9, fun c fr2 hp2 hc _ hg hh _ => ok_append_row ho (ea hg) (eb hg) (hh.at hk (.head _)) hn (hh.at hk2 (.tail _ (.head _))) hn2 (notR hc hR') (by rw [hse]; exact hd) (by rw [hse, hsn]; exact hinfo) (by omega) (fun el hel => (hf el hel).1) (fun el hel => (hf el hel).2) hm1 hm2⟩
      · replace h := vopt_ok h
        obtain ⟨v, hv, h⟩ := h
        have hv' := tmpB_ok hv
        replace h := vtest_ok h
        obtain ⟨hut, h⟩ := h
        obtain ⟨hn, hbd, h⟩ := h
        obtain ⟨hm1, hm2⟩ := big128 hbd h1.2
        refine ⟨_, h, fun c fr2 hp2 hc _ hg hh _ => ok_append_none (v := v) (fun u hu => ?_) (by rw [ho, hv']) (ea hg) (by have := eb hg; rw [hv'] at this; exact this) (hh.at hk (.head _)) hn (notR hc hR') (by rw [hse]; exact hd) (by rw [hse, hsn]; exact hinfo) (by omega) hm1 hm2⟩
        rw [hu] at hut
        simpa [tmpB] using hut
      · exact h.elim
    · replace h := vopt_ok h
      obtain ⟨u, hu, h⟩ := h
      replace h := vopt_ok h
      obtain ⟨v, hv, h⟩ := h
      replace h := vtest_ok h
      obtain ⟨hut, h⟩ := h
      simp only [Bool.and_eq_true, Bool.not_eq_true'] at hut
      have hu' := tmpB_ok hu
      have hv' := tmpB_ok hv
      split at h
      · obtain ⟨hn, hf, hbd, h⟩ := h
        obtain ⟨hm1, hm2⟩ := big128 hbd h1.2
        refine ⟨_, h, fun c fr2 hp2 hc hc0 hg _ hfr => ?_⟩
        obtain ⟨f1, f2, f3⟩ := frsh_ok (hfr k0 (.head _))
        exact ok_append_new (s := ⟨q, eq.n⟩) hut.1 (by rw [ho, hu', hv']) (by have := ea hg; rw [hu'] at this; exact this) (by have := eb hg; rw [hv'] at this; exact this) hd hinfo hpos (fun el hel => (hf el hel).1) (fun el hel => (hf el hel).2) hm1 hm2 f3 (hc0 k0 (.head _)) (notR hc hut.2) f1 f2
      · rename_i k2 n2
        obtain ⟨cs, hk2, h⟩ := vbox_ok h
        replace h := vtest_ok h
        obtain ⟨hn1, hn2, h02, hbd, h⟩ := h
        simp only [Bool.and_eq_true, Bool.not_eq_true'] at hn1
        obtain ⟨hm1, hm2⟩ := big128 hbd h1.2
        have hn3 := Nat.eq_of_beq_eq_true hn1.2
        refine ⟨_, h, fun c fr2 hp2 hc hc0 hg hh hfr => ?_⟩
        obtain ⟨f1, f2, f3⟩ := frsh_ok (hfr k0 (.head _))
        exact ok_append_bs ho (ea hg) (eb hg) (hh.at hk2 (.tail _ (.head _))) hn2 h02 hd (by rw [hn3] at hinfo; exact hinfo) hm1 hm2 hn1.1 f3 (hc0 k0 (.head _)) f1 f2
      · exact h.elim
    · exact h.elim
  · exact h.elim
end
section
variable {P : Program} {T : TB P} {o : Oper} {fr : Fr} {hp : Hp} {Rl : List Nat} {K : Stp → Prop} {c : Cx}
def idsOf (l : List (Nat × HO)) : List Nat := l.map (·.1)
def lBeq : List Nat → List Nat → Bool
  | [], [] => true
  | a :: r, b :: s => match Nat.beq a b with
    | true => lBeq r s
    | false => false
  | _, _ => false
theorem lBeq_ok : ∀ {l m : List Nat}, lBeq l m = true → l = m
  | [], [], _ => rfl
  | a :: r, b :: s, h => by
    simp only [lBeq] at h
    split at h
    · rename_i hb; rw [Nat.eq_of_beq_eq_true hb, lBeq_ok h]
    · cases h
def SubA (xs ys : List IV) : Prop := ∀ σ, Subs σ xs ys
theorem sR {xs : List IV} : SubA xs xs := fun σ => Subs.refl σ xs
def cOk (hp : Hp) (Rl U : List Nat) (R : Nat → Prop) (post : List (Nat × HO)) : List (Nat × HO) → Prop
  | [] => True
  | (k, o) :: r => look hp k = some o ∧ (match nIn k U with
    | true => look (up post) k = some o ∧ (match nIn k Rl with
      | true => R k ∧ cOk hp Rl U R post r
      | false => cOk hp Rl U R post r)
    | false => match nIn k Rl with
      | true => R k ∧ cOk hp Rl U R post r
      | false => cOk hp Rl U R post r)
theorem cOk_mem {U : List Nat} {R : Nat → Prop} {post : List (Nat × HO)} : ∀ {pre : List (Nat × HO)}, cOk hp Rl U R post pre → ∀ p ∈ pre, look hp p.1 = some p.2 ∧ (p.1 ∈ U → look (up post) p.1 = some p.2) ∧ (p.1 ∈ Rl → R p.1)
  | (k, o) :: r, h, p, hq => by
    simp only [cOk] at h
    obtain ⟨h0, h⟩ := h
    have key : (k ∈ U → look (up post) k = some o) ∧ (k ∈ Rl → R k) ∧ cOk hp Rl U R post r := by
      split at h
      · obtain ⟨h1, h⟩ := h
        split at h
        · exact ⟨fun _ => h1, fun _ => h.1, h.2⟩
        · rename_i hn; exact ⟨fun _ => h1, fun e => absurd e (nIn_false hn), h⟩
      · rename_i hu
        split at h
        · exact ⟨fun e => absurd e (nIn_false hu), fun _ => h.1, h.2⟩
        · rename_i hn; exact ⟨fun e => absurd e (nIn_false hu), fun e => absurd e (nIn_false hn), h⟩
    rcases List.mem_cons.1 hq with rfl | hq
    · exact ⟨h0, key.1, key.2.1⟩
    · exact cOk_mem key.2.2 p hq
def newOf (pre post : List (Nat × HO)) : List Nat := (idsOf post).take (post.length - pre.length)
def lAll (f : Nat → Bool) : List Nat → Bool
  | [] => true
  | k :: r => match f k with
    | true => lAll f r
    | false => false
theorem lAll_ok {f : Nat → Bool} : ∀ {l : List Nat}, lAll f l = true → ∀ k ∈ l, f k = true
  | a :: r, h, k, hk => by
    simp only [lAll] at h
    split at h
    · rename_i ha
      rcases List.mem_cons.1 hk with rfl | hk
      · exact ha
      · exact lAll_ok h k hk
    · cases h
def callB (U : List Nat) (pre post : List (Nat × HO)) (r : IV) : Bool :=
  lBeq (idsOf post) (newOf pre post ++ idsOf pre) && lAll (fun k => !nIn k U) (newOf pre post) && only (idsOf post) r && onlyHp (idsOf post) post
def upU (U : List Nat) : List (Nat × HO) → Hp
  | [] => []
  | (k, o) :: r => match nIn k U with
    | true => upU U r
    | false => (k, some o) :: upU U r
theorem look_upU {U : List Nat} {k : Nat} : ∀ {l : List (Nat × HO)}, look (upU U l) k = if k ∈ U then none else look (up l) k
  | [] => by simp [upU, up, look]
  | (j, o) :: r => by
    simp only [upU]
    have ih := look_upU (U := U) (k := k) (l := r)
    have hl : look (up ((j, o) :: r)) k = bif Nat.beq j k then some o else look (up r) k := rfl
    split
    · rename_i hj
      have hj' := nIn_iff.1 hj
      rw [ih, hl]
      by_cases e : k ∈ U
      · simp [e]
      · have : j ≠ k := fun h => e (h ▸ hj')
        simp [e, beq_ne this]
    · rename_i hj
      have hj' := nIn_false hj
      have hl2 : look ((j, some o) :: upU U r) k = bif Nat.beq j k then some o else look (upU U r) k := rfl
      rw [hl2, ih, hl]
      by_cases e : k ∈ U
      · have : j ≠ k := fun h => hj' (h ▸ e)
        simp [e, beq_ne this]
      · simp [e]
theorem look_app2 {A B : Hp} {k : Nat} : look (A ++ B) k = if k ∈ A.map (·.1) then look A k else look B k := by
  induction A with
  | nil => simp
  | cons p r ih =>
    obtain ⟨j, q⟩ := p
    have h1 : look ((j, q) :: r ++ B) k = bif Nat.beq j k then q else look (r ++ B) k := rfl
    have h2 : look ((j, q) :: r) k = bif Nat.beq j k then q else look r k := rfl
    rw [h1, h2]
    by_cases e : j = k
    · subst e; simp
    · have e' : k ≠ j := Ne.symm e
      simp only [beq_ne e, cond_false, List.map_cons, List.mem_cons, e', false_or]
      exact ih
theorem up_ids {l : List (Nat × HO)} : (up l).map (·.1) = idsOf l := by simp [up, idsOf]
theorem upU_ids {U : List Nat} : ∀ {l : List (Nat × HO)} {k : Nat}, k ∈ (upU U l).map (·.1) ↔ k ∈ idsOf l ∧ k ∉ U
  | [], k => by simp [upU, idsOf]
  | (j, o) :: r, k => by
    have ih := upU_ids (U := U) (l := r) (k := k)
    simp only [upU, idsOf, List.map_cons, List.mem_cons]
    simp only [idsOf] at ih
    split
    · rename_i hj
      have hj' := nIn_iff.1 hj
      rw [ih]
      constructor
      · exact fun h => ⟨.inr h.1, h.2⟩
      · rintro ⟨rfl | h, h2⟩
        · exact absurd hj' h2
        · exact ⟨h, h2⟩
    · rename_i hj
      have hj' := nIn_false hj
      simp only [List.map_cons, List.mem_cons]
      rw [ih]
      constructor
      · rintro (rfl | h)
        · exact ⟨.inl rfl, hj'⟩
        · exact ⟨.inr h.1, h.2⟩
      · rintro ⟨rfl | h, h2⟩
        · exact .inl rfl
        · exact .inr ⟨h, h2⟩
inductive VCall (P : Program) (Rl : List Nat) (f : FuncId) (xs : List IV) (hp : Hp) (K : Stp → Prop) : Prop
  | mk (U : List Nat) {args : List IV} {pre post : List (Nat × HO)} {R : Nat → Prop} {r : IV} (h : SC P f args pre R r post) (hs : SubA xs args) (ho : cOk hp Rl U R post pre) (hc : callB U pre post r = true) (k : K ⟨r, upU U post, idsOf post, newOf pre post⟩)
theorem VCall.does {f : FuncId} {os : Array Operand} {tys : Array TypeId} {xs : List IV} (hf : enters P f) (ho : o.op = .call { callee := .value (.func f), args := os, argTypes := tys }) (hx : evs fr os.toList = some xs) (h : VCall P Rl f xs hp K) : Does P Rl o fr hp K := by
  obtain ⟨U, hsc, hs, hok, hc, hk⟩ := h
  rename_i args pre post R r
  simp only [callB, Bool.and_eq_true] at hc
  obtain ⟨⟨⟨h1, h2⟩, h3⟩, h4⟩ := hc
  have hdom := lBeq_ok h1
  have hU := lAll_ok h2
  have hm := cOk_mem hok
  refine ⟨_, hk, fun c fr2 hp2 hR hc0 hg hh hf0 => ?_⟩
  have hpre2 : ∀ p ∈ pre, look hp2 p.1 = some p.2 := fun p hq => hh.at (hm p hq).1 (by
    show p.1 ∈ idsOf post
    rw [hdom]; exact List.mem_append_right _ (List.mem_map_of_mem hq))
  have hpre3 : ∀ k ob, look (up pre) k = some ob → look hp2 k = some ob := fun k ob hk => hpre2 (k, ob) (look_up_mem hk)
  have h5 := ok_callns (ns := newOf pre post) (c := c) hsc hf ho (hg.evs hx fun y hy => by
      rw [ho]; simp only [Op.operands, Call.operands, Array.toList_append]; exact List.mem_append_right _ hy) (hs _) hpre3 hdom
    (fun k hk => (frsh_ok (hf0 k hk)).2.2) (fun k hk => hc0 k hk) (fun k hk => (frsh_ok (hf0 k hk)).1) (fun k hk => (frsh_ok (hf0 k hk)).2.1)
    (fun k hk => by
      cases hl : look (up pre) k with
      | none => exact .inl rfl
      | some ob => exact .inr ((hm _ (look_up_mem hl)).2.2 (hR k hk))) h3 h4
  have heq : look (up post ++ hp2) = look (upU U post ++ hp2) := by
    funext k
    rw [look_app2, look_app2, up_ids]
    by_cases e : k ∈ idsOf post
    · rw [if_pos e]
      by_cases u : k ∈ U
      · rw [if_neg (fun hx => (upU_ids.1 hx).2 u)]
        rw [hdom] at e
        rcases List.mem_append.1 e with e | e
        · have := hU k e
          rw [nIn_iff.2 u] at this
          cases this
        · obtain ⟨p, hq, rfl⟩ := List.mem_map.1 e
          rw [(hm p hq).2.1 u, hpre2 p hq]
      · rw [if_pos (upU_ids.2 ⟨e, u⟩), look_upU, if_neg u]
    · rw [if_neg e, if_neg (fun hx => e (upU_ids.1 hx).1)]
  rw [← heq]
  exact h5
inductive VCallV (P : Program) (Rl : List Nat) (f : FuncId) (xs : List IV) (hp : Hp) (K : Stp → Prop) : Prop
  | mk {args : List IV} {pre post : List (Nat × HO)} {R : Nat → Prop} {r : IV} (h : SC P f args pre R r post) (hs : SubA xs args) (ho : cOk hp Rl [] R post pre) (hR : ∀ k ∈ Rl, R k) (hc : callB [] pre post r = true) (hn : newOf pre post = []) (k : K ⟨r, up post, idsOf post, []⟩)
theorem VCallV.does {f : FuncId} {q : Operand} {os : Array Operand} {tys : Array TypeId} {us xs ws : List IV} (hf : enters P f) (ho : o.op = .call { callee := .value q, args := os, argTypes := tys }) (hq : fr.ev q = some (.fn (.func f) us ws)) (hx : evs fr os.toList = some xs) (h : VCallV P Rl f (us ++ xs ++ ws) hp K) : Does P Rl o fr hp K := by
  obtain ⟨hsc, hs, hok, hR0, hc, hn, hk⟩ := h
  rename_i args pre post R r
  simp only [callB, Bool.and_eq_true] at hc
  obtain ⟨⟨⟨h1, _⟩, h3⟩, h4⟩ := hc
  have hdom := lBeq_ok h1
  rw [hn, List.nil_append] at hdom
  have hm := cOk_mem hok
  refine ⟨_, hk, fun c fr2 hp2 hR hc0 hg hh hf0 => ?_⟩
  have hpre3 : ∀ k ob, look (up pre) k = some ob → look hp2 k = some ob := fun k ob hk => hh.at (hm _ (look_up_mem hk)).1 (by
    show k ∈ idsOf post
    rw [hdom]; exact List.mem_map_of_mem (look_up_mem hk))
  exact ok_callv (c := c) hsc hf ho (hg.ev hq (by rw [ho]; simp [Op.operands, Call.operands])) (hg.evs hx fun y hy => by
      rw [ho]; simp only [Op.operands, Call.operands, Array.toList_append]; exact List.mem_append_right _ hy) (hs _) hpre3 hdom.symm (fun k hk => hR0 k (hR k hk)) h3 h4
inductive Gh where
  | grow (t k e n : Nat)
  | growC (k2 j k e n : Nat)
  | fz (t k : Nat)
  | fzC (k2 j k : Nat)
  | fzB (t k : Nat)
  | len (t : Nat)
  | drop (k : Nat)
  | ni (t : Nat)
  | niC (k j : Nat)
structure Hn where
  gh : List (Nat × List Gh) := []
  pb : List Nat := []
  ob : List Nat := []
  an : List Nat := []
  jn : List Nat := []
  ids : List (Nat × Nat) := []
def idAt (d : Nat) : List (Nat × Nat) → Nat
  | [] => 100 + d
  | (s, k) :: r => match Nat.beq s d with
    | true => k
    | false => idAt d r
def newId (H : Hn) (o : Oper) : Nat := match o.dst with
  | some d => idAt d H.ids
  | none => 0
def vCallOp (T : TB P) (H : Hn) (Rl : List Nat) (o : Oper) (q : Call) (fr : Fr) (hp : Hp) (K : Stp → Prop) : Prop := match q.callee with
  | .builtin b => match b with
    | .len => match q.args.toList with
      | [y] => match q.argTypes.toList with
        | [t] => vLen T t fr hp y K
        | _ => False
      | _ => False
    | .cap => match q.args.toList with
      | [y] => match q.argTypes.toList with
        | [t] => vCap T t fr y K
        | _ => False
      | _ => False
    | .max => match q.args.toList with
      | [y, w] => match q.argTypes.toList with
        | [t, u] => vtest (Nat.beq u t) (vMax fr y w K)
        | _ => False
      | _ => False
    | .append => match q.args.toList with
      | [y, w] => match q.argTypes.toList with
        | [t, u] => vtest (Nat.beq u t) (vAppend T Rl t fr hp y w (newId H o) K)
        | _ => False
      | _ => False
    | _ => False
  | .value y => vopt (evs fr q.args.toList) fun xs => match y with
    | .func f => vtest (T.fn f) (VCall P Rl f xs hp K)
    | y => vev fr y fun a => match a with
      | .fn (.func f) us ws => vtest (T.fn f) (VCallV P Rl f (us ++ xs ++ ws) hp K)
      | _ => False
  | _ => False
theorem call_eta {q : Call} {a : Callee} {xs : List Operand} {ts : List TypeId} (ha : q.callee = a) (hx : q.args.toList = xs) (ht : q.argTypes.toList = ts) : q = { callee := a, args := xs.toArray, argTypes := ts.toArray } := by
  cases q; simp_all; exact ⟨by rw [← hx], by rw [← ht]⟩
theorem vCallOp_ok {H : Hn} {q : Call} (ho : o.op = .call q) (h : vCallOp T H Rl o q fr hp K) : Does P Rl o fr hp K := by
  unfold vCallOp at h
  split at h
  · rename_i b hb
    split at h
    · split at h
      · rename_i hy
        split at h
        · rename_i ht
          exact vLen_ok (by rw [ho, call_eta hb hy ht]) h
        · exact h.elim
      · exact h.elim
    · split at h
      · rename_i hy
        split at h
        · rename_i ht
          exact vCap_ok (by rw [ho, call_eta hb hy ht]) h
        · exact h.elim
      · exact h.elim
    · split at h
      · rename_i hy
        split at h
        · rename_i ht
          replace h := vtest_ok h
          obtain ⟨hu, h⟩ := h
          obtain rfl := Nat.eq_of_beq_eq_true hu
          exact vMax_ok (by rw [ho, call_eta hb hy ht]) h
        · exact h.elim
      · exact h.elim
    · split at h
      · rename_i hy
        split at h
        · rename_i ht
          replace h := vtest_ok h
          obtain ⟨hu, h⟩ := h
          obtain rfl := Nat.eq_of_beq_eq_true hu
          exact vAppend_ok (by rw [ho, call_eta hb hy ht]) h
        · exact h.elim
      · exact h.elim
    · exact h.elim
  · rename_i y hb
    replace h := vopt_ok h
    obtain ⟨xs, hx, h⟩ := h
    have hq : o.op = .call { callee := .value y, args := q.args, argTypes := q.argTypes } := by rw [ho]; cases q; simp_all
    split at h
    · replace h := vtest_ok h
      exact VCall.does (T.fok _ h.1) hq hx h.2
    · replace h := vev_ok h
      obtain ⟨a, ha, h⟩ := h
      split at h
      · replace h := vtest_ok h
        exact VCallV.does (T.fok _ h.1) hq ha hx h.2
      · exact h.elim
  · exact h.elim
def vop (T : TB P) (H : Hn) (Rl : List Nat) (key : Nat) (o : Oper) (fr : Fr) (hp : Hp) (K : Stp → Prop) : Prop := match nIn key H.an with
  | true => VAny P Rl o fr hp K
  | false => match o.op with
    | .move y => vMove fr y K
    | .assign y => vMove fr y K
    | .pick q y w => vPick fr q y w K
    | .binOp p t y w _ => vBin T p t fr y w K
    | .unOp p _ y => vUn p fr y K
    | .convert s t y => vConv T s t fr y K
    | .load t y => vLoad T t fr hp y K
    | .store t y w => vStore T Rl t fr hp y w K
    | .fieldAddr t y f => vFieldA T t fr hp y f K
    | .field t y f => vFieldV T t fr y f K
    | .indexAddr t y w => vIdxA T t fr hp y w K
    | .index t y w => vIdxV T t fr y w K
    | .extract y i => vExtract fr y i K
    | .nilCheck y => vNil fr hp y K
    | .slice t y lo hi none => vSlice T t fr y lo hi K
    | .makeFunc f xs ys => vFunc fr f xs ys K
    | .lookup t y w two => vLookup T t fr hp y w two K
    | .mapUpdate t x y w => vMapUp T Rl t fr hp x y w K
    | .insert t x y w => vMapUp T Rl t fr hp x y w K
    | .alloc t => vAlloc T t (newId H o) K
    | .box _ y => vBox (!nIn (newId H o) H.pb) fr hp y (newId H o) K
    | .build t parts => vBuild T t fr hp parts.toList K
    | .buildSlice t len parts => vBuildS T (nIn (newId H o) H.ob) t len fr hp parts.toList (newId H o) K
    | .makeMap _ none => vMkMap (newId H o) K
    | .makeSlice t y w => match nIn (newId H o) H.pb with
      | true => vMkSliceP T t fr y w K
      | false => vMkSlice T t fr y w (newId H o) K
    | .call q => vCallOp T H Rl o q fr hp K
    | _ => False
theorem vop_ok {H : Hn} {key : Nat} (h : vop T H Rl key o fr hp K) : Does P Rl o fr hp K := by
  unfold vop at h
  split at h
  · obtain ⟨h1, h2⟩ := h
    exact ⟨_, h2, h1⟩
  · split at h
    · exact vMove_ok ‹_› h
    · exact vAssign_ok ‹_› h
    · exact vPick_ok ‹_› h
    · exact vBin_ok ‹_› h
    · exact vUn_ok ‹_› h
    · exact vConv_ok ‹_› h
    · exact vLoad_ok ‹_› h
    · exact vStore_ok ‹_› h
    · exact vFieldA_ok ‹_› h
    · exact vFieldV_ok ‹_› h
    · exact vIdxA_ok ‹_› h
    · exact vIdxV_ok ‹_› h
    · exact vExtract_ok ‹_› h
    · exact vNil_ok ‹_› h
    · exact vSlice_ok ‹_› h
    · exact vFunc_ok ‹_› h
    · exact vLookup_ok ‹_› h
    · exact vMapUp_ok (.inl ‹_›) h
    · exact vMapUp_ok (.inr ‹_›) h
    · exact vAlloc_ok ‹_› h
    · exact vBox_ok ‹_› h
    · exact vBuild_ok ‹_› h
    · exact vBuildS_ok ‹_› h
    · exact vMkMap_ok ‹_› h
    · split at h
      · exact vMkSliceP_ok ‹_› h
      · exact vMkSlice_ok ‹_› h
    · exact vCallOp_ok ‹_› h
    · exact h.elim
end
section
variable {P : Program} {T : TB P} {fr fr' : Fr} {hp hp' : Hp} {Rl ks : List Nat} {c : Cx} {ops : Array Oper} {Q : Exit → Fr → Heap' → Prop} {nt : Nat}
structure Ent where
  i : Nat
  o : Oper
  s : Option Stp
def Ent.x (e : Ent) : IV := match e.s with
  | some s => s.x
  | none => .pv (.val undef)
def Ent.wr (e : Ent) : Hp := match e.s with
  | some s => s.wr
  | none => []
def Ent.rd (e : Ent) : List Nat := match e.s with
  | some s => s.rd
  | none => []
def Ent.nw (e : Ent) : List Nat := match e.s with
  | some s => s.nw
  | none => []
def putE (fr : Fr) (e : Ent) : Fr := fr.put e.o.dst e.x
def putH (hp : Hp) (e : Ent) : Hp := e.wr ++ hp
def gdSlot (ops : Array Oper) (o : Oper) : List Nat := match o.guard with
  | some (j, _) => match ops[j]? with
    | some oj => oj.dst.toList
    | none => []
  | none => []
def seen (ops : Array Oper) (o : Oper) : List Nat := gdSlot ops o ++ opSlots o.op
inductive GYes (ops : Array Oper) (o : Oper) (fr : Fr) : Prop
  | free (h : o.guard = none)
  | met {j t : Nat} {b : Bool} {oj : Oper} (h : o.guard = some (j, b)) (hj : ops[j]? = some oj) (ht : oj.dst = some t) (hb : fr.get t = some (.pv (.val (.bool b))))
inductive GNo (ops : Array Oper) (o : Oper) (fr : Fr) : Prop
  | not {j t : Nat} {b : Bool} {oj : Oper} (h : o.guard = some (j, !b)) (hj : ops[j]? = some oj) (ht : oj.dst = some t) (hb : fr.get t = some (.pv (.val (.bool b))))
  | un {j t : Nat} {b : Bool} {oj : Oper} (h : o.guard = some (j, b)) (hj : ops[j]? = some oj) (ht : oj.dst = some t) (hb : fr.get t = some (.pv (.val undef)))
theorem GYes.wanted {o : Oper} {ρ : Loc} {σ : Heap'} {w : World} {a : Act} (h : GYes ops o fr) (ha : All c ρ σ w fr a) : Region.wanted o (yielded ops a.tmps) = true := by
  cases h with
  | free h => simp [Region.wanted, h]
  | met h hj ht hb => simp [Region.wanted, h, yielded_val ha hj ht hb]
theorem GNo.wanted {o : Oper} {ρ : Loc} {σ : Heap'} {w : World} {a : Act} (h : GNo ops o fr) (ha : All c ρ σ w fr a) : Region.wanted o (yielded ops a.tmps) = false := by
  cases h with
  | not h hj ht hb => simp [Region.wanted, h, yielded_val ha hj ht hb]
  | un h hj ht hb => simp [Region.wanted, h, yielded_undef ha hj ht hb]
theorem GYes.agr {o : Oper} {fr2 : Fr} (h : GYes ops o fr) (hg : agr fr2 fr (gdSlot ops o)) : GYes ops o fr2 := by
  cases h with
  | free h => exact .free h
  | met h hj ht hb => exact .met h hj ht ((hg _ (by simp [gdSlot, h, hj, ht])).trans hb)
theorem GNo.agr {o : Oper} {fr2 : Fr} (h : GNo ops o fr) (hg : agr fr2 fr (gdSlot ops o)) : GNo ops o fr2 := by
  cases h with
  | not h hj ht hb => exact .not h hj ht ((hg _ (by simp [gdSlot, h, hj, ht])).trans hb)
  | un h hj ht hb => exact .un h hj ht ((hg _ (by simp [gdSlot, h, hj, ht])).trans hb)
def wrOk (hp : Hp) (nw : List Nat) : Hp → Bool
  | [] => true
  | (k, _) :: r => match nIn k nw with
    | true => wrOk hp nw r
    | false => match look hp k with
      | some _ => wrOk hp nw r
      | none => false
theorem wrOk_mem {nw : List Nat} {k : Nat} : ∀ {l : Hp}, wrOk hp nw l = true → k ∈ l.map (·.1) → k ∈ nw ∨ look hp k ≠ none
  | (j, q) :: r, h, hk => by
    simp only [wrOk] at h
    simp only [List.map_cons, List.mem_cons] at hk
    split at h
    · rename_i hn
      rcases hk with rfl | hk
      · exact .inl (nIn_iff.1 hn)
      · exact wrOk_mem h hk
    · split at h
      · rename_i ob hl
        rcases hk with rfl | hk
        · exact .inr (by rw [hl]; simp)
        · exact wrOk_mem h hk
      · cases h
def newB (ks : List Nat) (fr : Fr) (hp : Hp) (k : Nat) : Bool := match nIn k ks with
  | true => false
  | false => frsh k fr hp
theorem newB_ok {k : Nat} (h : newB ks fr hp k = true) : k ∉ ks ∧ frsh k fr hp = true := by
  unfold newB at h
  split at h
  · cases h
  · rename_i hn; exact ⟨nIn_false hn, h⟩
def Good (P : Program) (ops : Array Oper) (Rl ks : List Nat) (nt : Nat) (e : Ent) (fr : Fr) (hp : Hp) : Prop :=
  okDst e.o.dst nt = true ∧ match e.s with
  | some s => GYes ops e.o fr ∧ OkF P Rl e.o fr hp s ∧ (∀ k ∈ s.nw, k ∉ ks ∧ frsh k fr hp = true) ∧ wrOk hp s.nw s.wr = true
  | none => GNo ops e.o fr
def FrEq (fr fr2 : Fr) : Prop := (∀ t, fr2.get t = fr.get t) ∧ ∀ k, nmFr k fr2 = nmFr k fr
theorem FrEq.rfl' : FrEq fr fr := ⟨fun _ => rfl, fun _ => rfl⟩
theorem FrEq.lit {t : Nat} {v : Value} (h : fr.get t = some (.pv (.val v))) : FrEq ((t, .pv (.val v)) :: fr) fr := by
  refine ⟨fun u => ?_, fun k => by simp [nmFr, nm]⟩
  simp only [Fr.get]
  cases hb : Nat.beq t u with
  | true => obtain rfl := Nat.eq_of_beq_eq_true hb; exact h
  | false => rfl
theorem FrEq.put {d : Option Nat} {x : IV} {fr2 : Fr} (h : FrEq fr fr2) : FrEq (fr.put d x) (fr2.put d x) := by
  cases d with
  | none => exact h
  | some t => exact ⟨fun u => by simp only [Fr.put, Fr.get, h.1 u], fun k => by simp only [Fr.put, nmFr, h.2 k]⟩
theorem FrEq.trans {fr2 fr3 : Fr} (h : FrEq fr fr2) (h2 : FrEq fr2 fr3) : FrEq fr fr3 := ⟨fun t => (h2.1 t).trans (h.1 t), fun k => (h2.2 k).trans (h.2 k)⟩
theorem FrEq.frsh {k : Nat} {fr2 : Fr} (h : FrEq fr fr2) : frsh k fr2 hp = frsh k fr hp := by simp only [Go.Proofs.YtahpinmlgnfklaaGreatDoor.frsh, h.2 k]
theorem Good.eqv {e : Ent} {fr2 : Fr} (h : Good P ops Rl ks nt e fr hp) (hf : FrEq fr fr2) : Good P ops Rl ks nt e fr2 hp := by
  refine ⟨h.1, ?_⟩
  have h2 := h.2
  split at h2
  · obtain ⟨h3, h4, h5, h6⟩ := h2
    exact ⟨h3.agr fun t _ => hf.1 t, fun c fr3 hp3 a b ha => h4 c fr3 hp3 a b (fun t ht => (ha t ht).trans (hf.1 t)), fun k hk => ⟨(h5 k hk).1, by rw [hf.frsh]; exact (h5 k hk).2⟩, h6⟩
  · exact h2.agr fun t _ => hf.1 t
inductive Chain (P : Program) (ops : Array Oper) (Rl ks : List Nat) (nt : Nat) : Fr → Hp → List Ent → Fr → Hp → Prop
  | nil {fr : Fr} {hp : Hp} : Chain P ops Rl ks nt fr hp [] fr hp
  | lit {fr : Fr} {hp : Hp} {L : List Ent} {fr' : Fr} {hp' : Hp} {t : Nat} {v : Value} (ht : fr.get t = some (.pv (.val v))) (h : Chain P ops Rl ks nt ((t, .pv (.val v)) :: fr) hp L fr' hp') : Chain P ops Rl ks nt fr hp L fr' hp'
  | cons {fr : Fr} {hp : Hp} {L : List Ent} {fr' : Fr} {hp' : Hp} {e : Ent} (g : Good P ops Rl ks nt e fr hp) (h : Chain P ops Rl ks nt (putE fr e) (putH hp e) L fr' hp') : Chain P ops Rl ks nt fr hp (e :: L) fr' hp'
def runFr (fr : Fr) (L : List Ent) : Fr := L.foldl putE fr
def runHp (hp : Hp) (L : List Ent) : Hp := L.foldl putH hp
theorem Chain.fin {L : List Ent} (h : Chain P ops Rl ks nt fr hp L fr' hp') : ∀ {fr2 : Fr}, FrEq fr fr2 → FrEq fr' (runFr fr2 L) ∧ hp' = runHp hp L := by
  induction h with
  | nil => exact fun hf => ⟨hf, rfl⟩
  | lit ht _ ih => exact fun hf => ih ((FrEq.lit ht).trans hf)
  | cons g _ ih => exact fun hf => ih (FrEq.put hf)
theorem Chain.at {L : List Ent} (h : Chain P ops Rl ks nt fr hp L fr' hp') : ∀ {fr2 : Fr}, FrEq fr fr2 → ∀ {A B : List Ent} {e : Ent}, L = A ++ e :: B → Good P ops Rl ks nt e (runFr fr2 A) (runHp hp A) := by
  induction h with
  | nil => intro fr2 hf A B e he; cases A <;> cases he
  | lit ht _ ih => exact fun hf => ih ((FrEq.lit ht).trans hf)
  | cons g _ ih =>
    intro fr2 hf A B e he
    cases A with
    | nil => cases he; exact g.eqv hf
    | cons a A => cases he; exact ih (FrEq.put hf) rfl
theorem All.putU {ρ : Loc} {σ : Heap'} {w : World} {a : Act} {d : Option Nat} {x : IV} {v : Value} (h : All c ρ σ w fr a) (hd : okDst d c.n = true) (hx : RepI c.F ρ σ w x v) : All c ρ σ w (fr.put d x) (a.put d v) :=
  h.put hx fun t ht => by simpa using okDst_lt hd t ht
theorem Chain.text {L : List Ent} (h : Chain P ops Rl ks nt fr hp L fr' hp') (hn : c.n = nt) (hR : ∀ k, c.R k → k ∈ Rl) (hσ : ∀ k, c.σ k ≠ none → k ∈ ks) (hQ : Q .normal fr' (look hp')) : WL P c ops Q (L.map (·.o)) fr (look hp) := by
  induction h with
  | nil => exact WL.nil hQ
  | lit ht _ ih => exact fun ρ w a ha => ih hQ ρ w a (ha.putFr ht fun _ h => h)
  | cons g _ ih =>
    rename_i fr hp L fr' hp' e _
    intro ρ w a ha
    obtain ⟨hd, g⟩ := g
    subst hn
    refine wpList_step fun K hK => ?_
    split at g
    · rename_i s hs
      obtain ⟨h1, h2, h3, h4⟩ := g
      rw [if_pos (h1.wanted ha)]
      refine h2 c fr hp hR (fun k hk => ?_) (fun _ _ => rfl) (fun _ _ => rfl) (fun k hk => (h3 k hk).2) ρ w a K _ ha fun ρ' w' v ha' hv => hK _ _ ?_
      · cases h5 : c.σ k with
        | none => rfl
        | some o => exact absurd (hσ k (by rw [h5]; simp)) (h3 k hk).1
      · have hx : e.x = s.x := by simp [Ent.x, hs]
        have hw : e.wr = s.wr := by simp [Ent.wr, hs]
        refine ih hQ ρ' w' _ ?_
        simp only [putE, putH, hx, hw]
        exact ha'.putU hd hv
    · rename_i hs
      rw [if_neg (by simp [g.wanted ha])]
      refine hK _ _ (ih hQ ρ w _ ?_)
      have hx : e.x = .pv (.val undef) := by simp [Ent.x, hs]
      have hw : e.wr = [] := by simp [Ent.wr, hs]
      simp only [putE, putH, hx, hw, List.nil_append]
      exact ha.putU hd (mkVal undef)
theorem runFr_get {t : Nat} {p q : Ent → Bool} : ∀ {L : List Ent} {fr fr2 : Fr}, fr.get t = fr2.get t → (∀ e ∈ L, e.o.dst = some t → p e = q e) → (runFr fr (L.filter p)).get t = (runFr fr2 (L.filter q)).get t
  | [], _, _, h, _ => h
  | e :: L, fr, fr2, h, hh => by
    have hL : ∀ e ∈ L, e.o.dst = some t → p e = q e := fun e he => hh e (.tail _ he)
    have step : ∀ {f : Fr}, e.o.dst ≠ some t → (putE f e).get t = f.get t := fun {f} hne => by
      unfold putE
      cases hd : e.o.dst with
      | none => rfl
      | some d =>
        have : d ≠ t := fun h => hne (by rw [hd, h])
        simp [Fr.put, Fr.get, beq_ne this]
    have step2 : ∀ {f : Fr}, e.o.dst = some t → (putE f e).get t = some e.x := fun {f} hd => by simp [putE, hd, Fr.put, Fr.get]
    by_cases hd : e.o.dst = some t
    · have := hh e (.head _) hd
      cases hp : p e with
      | true =>
        have hq : q e = true := this ▸ hp
        rw [List.filter_cons_of_pos hp, List.filter_cons_of_pos hq]
        exact runFr_get (by rw [step2 hd, step2 hd]) hL
      | false =>
        have hq : q e = false := this ▸ hp
        rw [List.filter_cons_of_neg (by simp [hp]), List.filter_cons_of_neg (by simp [hq])]
        exact runFr_get h hL
    · cases hp : p e <;> cases hq : q e
      · rw [List.filter_cons_of_neg (by simp [hp]), List.filter_cons_of_neg (by simp [hq])]; exact runFr_get h hL
      · rw [List.filter_cons_of_neg (by simp [hp]), List.filter_cons_of_pos hq]; exact runFr_get (fr2 := putE fr2 e) (by rw [step hd]; exact h) hL
      · rw [List.filter_cons_of_pos hp, List.filter_cons_of_neg (by simp [hq])]; exact runFr_get (fr := putE fr e) (by rw [step hd]; exact h) hL
      · rw [List.filter_cons_of_pos hp, List.filter_cons_of_pos hq]; exact runFr_get (fr := putE fr e) (fr2 := putE fr2 e) (by rw [step hd, step hd]; exact h) hL
theorem runHp_look {k : Nat} {p q : Ent → Bool} : ∀ {L : List Ent} {hp hp2 : Hp}, look hp k = look hp2 k → (∀ e ∈ L, k ∈ e.wr.map (·.1) → p e = q e) → look (runHp hp (L.filter p)) k = look (runHp hp2 (L.filter q)) k
  | [], _, _, h, _ => h
  | e :: L, fr, fr2, h, hh => by
    have hL : ∀ e ∈ L, k ∈ e.wr.map (·.1) → p e = q e := fun e he => hh e (.tail _ he)
    have step : ∀ {f : Hp}, k ∉ e.wr.map (·.1) → look (putH f e) k = look f k := fun {f} hne => by unfold putH; rw [look_app2, if_neg hne]
    have step2 : ∀ {f : Hp}, k ∈ e.wr.map (·.1) → look (putH f e) k = look e.wr k := fun {f} hd => by unfold putH; rw [look_app2, if_pos hd]
    by_cases hd : k ∈ e.wr.map (·.1)
    · have := hh e (.head _) hd
      cases hp : p e with
      | true =>
        have hq : q e = true := this ▸ hp
        rw [List.filter_cons_of_pos hp, List.filter_cons_of_pos hq]
        exact runHp_look (by rw [step2 hd, step2 hd]) hL
      | false =>
        have hq : q e = false := this ▸ hp
        rw [List.filter_cons_of_neg (by simp [hp]), List.filter_cons_of_neg (by simp [hq])]
        exact runHp_look h hL
    · cases hp : p e <;> cases hq : q e
      · rw [List.filter_cons_of_neg (by simp [hp]), List.filter_cons_of_neg (by simp [hq])]; exact runHp_look h hL
      · rw [List.filter_cons_of_neg (by simp [hp]), List.filter_cons_of_pos hq]; exact runHp_look (hp2 := putH fr2 e) (by rw [step hd]; exact h) hL
      · rw [List.filter_cons_of_pos hp, List.filter_cons_of_neg (by simp [hq])]; exact runHp_look (hp := putH fr e) (by rw [step hd]; exact h) hL
      · rw [List.filter_cons_of_pos hp, List.filter_cons_of_pos hq]; exact runHp_look (hp := putH fr e) (hp2 := putH fr2 e) (by rw [step hd, step hd]; exact h) hL
theorem nmFr_run {k : Nat} : ∀ {L : List Ent} {fr : Fr}, nmFr k (runFr fr L) = false ↔ nmFr k fr = false ∧ ∀ e ∈ L, e.o.dst ≠ none → nm k e.x = false
  | [], fr => by simp [runFr]
  | e :: L, fr => by
    have ih := nmFr_run (k := k) (L := L) (fr := putE fr e)
    have h1 : runFr fr (e :: L) = runFr (putE fr e) L := rfl
    rw [h1, ih]
    have h2 : nmFr k (putE fr e) = false ↔ nmFr k fr = false ∧ (e.o.dst ≠ none → nm k e.x = false) := by
      unfold putE
      cases e.o.dst with
      | none => simp [Fr.put]
      | some d => simp [Fr.put, nmFr, and_comm]
    rw [h2]
    simp only [List.forall_mem_cons, and_assoc]
theorem nmHp_app {k : Nat} : ∀ {A B : Hp}, nmHp k (A ++ B) = false ↔ nmHp k A = false ∧ nmHp k B = false
  | [], B => by simp [nmHp]
  | (j, o) :: A, B => by
    have ih := nmHp_app (k := k) (A := A) (B := B)
    match o with
    | some (.box cs) => simp only [List.cons_append, nmHp, Bool.or_eq_false_iff, ih, and_assoc]
    | some (.row ..) => simpa only [List.cons_append, nmHp] using ih
    | some (.map _) => simpa only [List.cons_append, nmHp] using ih
    | none => simpa only [List.cons_append, nmHp] using ih
theorem nmHp_run {k : Nat} : ∀ {L : List Ent} {hp : Hp}, nmHp k (runHp hp L) = false ↔ nmHp k hp = false ∧ ∀ e ∈ L, nmHp k e.wr = false
  | [], hp => by simp [runHp]
  | e :: L, hp => by
    have ih := nmHp_run (k := k) (L := L) (hp := putH hp e)
    have h1 : runHp hp (e :: L) = runHp (putH hp e) L := rfl
    rw [h1, ih]
    unfold putH
    rw [nmHp_app]
    simp only [List.forall_mem_cons]
    constructor
    · rintro ⟨⟨a, b⟩, d⟩; exact ⟨b, a, d⟩
    · rintro ⟨b, a, d⟩; exact ⟨⟨a, b⟩, d⟩
def insN (k : Nat) (l : List Nat) : List Nat := match nIn k l with
  | true => l
  | false => k :: l
def insL : List Nat → List Nat → List Nat
  | [], l => l
  | k :: r, l => insL r (insN k l)
theorem mem_insN {j k : Nat} {l : List Nat} : j ∈ insN k l ↔ j = k ∨ j ∈ l := by
  unfold insN
  split
  · rename_i h
    have := nIn_iff.1 h
    constructor
    · exact .inr
    · rintro (rfl | h)
      · exact this
      · exact h
  · simp
theorem mem_insL {j : Nat} : ∀ {m l : List Nat}, j ∈ insL m l ↔ j ∈ m ∨ j ∈ l
  | [], l => by simp [insL]
  | k :: r, l => by
    simp only [insL, mem_insL, mem_insN, List.mem_cons]
    constructor
    · rintro (h | rfl | h)
      · exact .inl (.inr h)
      · exact .inl (.inl rfl)
      · exact .inr h
    · rintro ((rfl | h) | h)
      · exact .inr (.inl rfl)
      · exact .inl h
      · exact .inr (.inr h)
def nthL : List (List Nat) → Nat → List Nat
  | [], _ => []
  | x :: _, 0 => x
  | _ :: r, n + 1 => nthL r n
def upsOf (ups : List (List Nat)) (n : Nat) : List Edge → List Nat
  | [] => []
  | e :: r => match Region.binds .any e with
    | true => insN e.on (insL (nthL ups (n - 1 - e.on)) (upsOf ups n r))
    | false => upsOf ups n r
def upsAll : List Oper → List (List Nat) → Nat → List (List Nat)
  | [], ups, _ => ups
  | o :: r, ups, n => upsAll r (upsOf ups n o.after.toList :: ups) (n + 1)
def edgeOk (n : Nat) : List Edge → Bool
  | [] => true
  | e :: r => match Region.binds .any e with
    | true => match Nat.blt e.on n with
      | true => edgeOk n r
      | false => false
    | false => edgeOk n r
def edgesOk : List Oper → Nat → Bool
  | [], _ => true
  | o :: r, n => match edgeOk n o.after.toList with
    | true => edgesOk r (n + 1)
    | false => false
def disj : List Nat → List Nat → Bool
  | [], _ => true
  | k :: r, m => match nIn k m with
    | true => false
    | false => disj r m
theorem disj_ok {k : Nat} : ∀ {l m : List Nat}, disj l m = true → k ∈ l → k ∉ m
  | a :: r, m, h, hk => by
    simp only [disj] at h
    split at h
    · cases h
    · rename_i hn
      rcases List.mem_cons.1 hk with rfl | hk
      · exact nIn_false hn
      · exact disj_ok h hk
def idsH : Hp → List Nat
  | [] => []
  | (k, _) :: r => k :: idsH r
theorem idsH_eq : ∀ l : Hp, idsH l = l.map (·.1)
  | [] => rfl
  | (k, _) :: r => by simp [idsH, idsH_eq r]
def unnamed (e : Ent) (k : Nat) : Bool := match nm k e.x with
  | true => false
  | false => !nmHp k e.wr
def apartB (ops : Array Oper) (e f : Ent) : Bool :=
  disj e.o.dst.toList (seen ops f.o) && disj f.o.dst.toList (seen ops e.o) && disj e.o.dst.toList f.o.dst.toList && disj (idsH e.wr) f.rd && disj (idsH f.wr) e.rd && lAll (unnamed f) e.nw && lAll (unnamed e) f.nw
def subN : List Nat → List Nat → Bool
  | [], _ => true
  | k :: r, m => match nIn k m with
    | true => subN r m
    | false => false
theorem subN_ok {k : Nat} : ∀ {l m : List Nat}, subN l m = true → k ∈ l → k ∈ m
  | a :: r, m, h, hk => by
    simp only [subN] at h
    split at h
    · rename_i hn
      rcases List.mem_cons.1 hk with rfl | hk
      · exact nIn_iff.1 hn
      · exact subN_ok h hk
    · cases h
def apartAll (ops : Array Oper) (e : Ent) (up : List Nat) : List Ent → Bool
  | [] => true
  | f :: r => match nIn f.i up with
    | true => apartAll ops e up r
    | false => match apartB ops f e with
      | true => apartAll ops e up r
      | false => false
def chkL (ops : Array Oper) : List Ent → List (List Nat) → Bool
  | [], _ => true
  | e :: r, u :: us => match subN (idsH e.wr) e.rd with
    | true => match subN e.nw e.rd with
      | true => match apartAll ops e u r with
        | true => chkL ops r us
        | false => false
      | false => false
    | false => false
  | _ :: _, [] => false
def chk (ops : Array Oper) (acc : List Ent) : Bool := match edgesOk ops.toList 0 with
  | true => chkL ops acc (upsAll ops.toList [] 0)
  | false => false
end
section
variable {P : Program} {T : TB P} {fr fr' : Fr} {hp hp' : Hp} {Rl ks : List Nat} {c : Cx} {ops : Array Oper} {Q : Exit → Fr → Heap' → Prop} {nt : Nat}
def Idx : Nat → List Ent → Prop
  | _, [] => True
  | n, e :: r => e.i = n ∧ Idx (n + 1) r
theorem Idx.lo : ∀ {L : List Ent} {n : Nat}, Idx n L → ∀ e ∈ L, n ≤ e.i ∧ e.i < n + L.length
  | [], _, _, _, hf => by cases hf
  | e :: r, n, h, f, hf => by
    rcases List.mem_cons.1 hf with rfl | hf
    · have := h.1; simp only [List.length_cons]; omega
    · have := h.2.lo f hf; simp only [List.length_cons]; omega
theorem Idx.split : ∀ {L : List Ent} {n : Nat}, Idx n L → ∀ {e : Ent}, e ∈ L → ∃ A B, L = A ++ e :: B ∧ e.i = n + A.length ∧ L.filter (fun f => decide (f.i < e.i)) = A ∧ L.filter (fun f => decide (f.i ≤ e.i)) = A ++ [e]
  | [], _, _, _, he => by cases he
  | f :: r, n, h, e, he => by
    have hr := h.2.lo
    by_cases heq : e.i = n
    · have : e = f := by
        rcases List.mem_cons.1 he with rfl | he
        · rfl
        · have := (hr e he).1; omega
      subst this
      refine ⟨[], r, rfl, by simp [heq], ?_, ?_⟩
      · rw [List.filter_cons_of_neg (by simp)]
        exact List.filter_eq_nil_iff.2 fun g hg => by have := (hr g hg).1; simp; omega
      · rw [List.filter_cons_of_pos (by simp), List.filter_eq_nil_iff.2 fun g hg => by have := (hr g hg).1; simp; omega]
        rfl
    · have he' : e ∈ r := by
        rcases List.mem_cons.1 he with rfl | he
        · exact absurd h.1 heq
        · exact he
      obtain ⟨A, B, h1, h2, h3, h4⟩ := h.2.split he'
      have := (hr e he').1
      have hf := h.1
      refine ⟨f :: A, B, by rw [h1]; rfl, by simp only [List.length_cons]; omega, ?_, ?_⟩
      · rw [List.filter_cons_of_pos (by simp; omega), h3]
      · rw [List.filter_cons_of_pos (by simp; omega), h4]; rfl
theorem Idx.inj {L : List Ent} {n : Nat} (h : Idx n L) {e f : Ent} (he : e ∈ L) (hf : f ∈ L) (hi : e.i = f.i) : e = f := by
  obtain ⟨A, B, h1, _, h3, h4⟩ := h.split he
  obtain ⟨A', B', h1', _, h3', h4'⟩ := h.split hf
  rw [hi] at h3 h4
  rw [h3'] at h3
  rw [h4', h3] at h4
  simpa using h4.symm
theorem Idx.get : ∀ {L : List Ent} {n : Nat}, Idx n L → ∀ {i : Nat} {o : Oper}, (L.map (·.o))[i]? = some o → ∃ e ∈ L, e.i = n + i ∧ e.o = o
  | [], _, _, _, _, hi => by simp at hi
  | e :: r, n, h, 0, o, hi => ⟨e, .head _, h.1, by simpa using hi⟩
  | e :: r, n, h, i + 1, o, hi => by
    obtain ⟨f, hf, h1, h2⟩ := h.2.get (i := i) (o := o) (by simpa using hi)
    exact ⟨f, .tail _ hf, by omega, h2⟩
def Closed (l : List Oper) (S : Nat → Prop) : Prop := ∀ i o, l[i]? = some o → S i → ∀ e ∈ o.after.toList, Region.binds .any e = true → S e.on
theorem edgeOk_mem {n : Nat} : ∀ {l : List Edge}, edgeOk n l = true → ∀ e ∈ l, Region.binds .any e = true → e.on < n
  | [], _, _, he, _ => by cases he
  | a :: r, h, e, he, hb => by
    simp only [edgeOk] at h
    split at h
    · split at h
      · rename_i h1 h2
        rcases List.mem_cons.1 he with rfl | he
        · exact Nat.le_of_ble_eq_true h2
        · exact edgeOk_mem h e he hb
      · cases h
    · rename_i h1
      rcases List.mem_cons.1 he with rfl | he
      · rw [hb] at h1; cases h1
      · exact edgeOk_mem h e he hb
theorem edgesOk_at : ∀ {l : List Oper} {n : Nat}, edgesOk l n = true → ∀ {i : Nat} {o : Oper}, l[i]? = some o → ∀ e ∈ o.after.toList, Region.binds .any e = true → e.on < n + i
  | [], _, _, _, _, hi, _, _, _ => by simp at hi
  | a :: r, n, h, 0, o, hi, e, he, hb => by
    simp only [edgesOk] at h
    split at h
    · rename_i h1; simp at hi; subst hi; exact edgeOk_mem h1 e he hb
    · cases h
  | a :: r, n, h, i + 1, o, hi, e, he, hb => by
    simp only [edgesOk] at h
    split at h
    · have := edgesOk_at h (i := i) (o := o) (by simpa using hi) e he hb; omega
    · cases h
theorem upsOf_mem {ups : List (List Nat)} {n : Nat} {S : Nat → Prop} {k : Nat} (hS : ∀ j, j < n → S j → ∀ k ∈ nthL ups (n - 1 - j), S k) : ∀ {l : List Edge}, edgeOk n l = true → (∀ e ∈ l, Region.binds .any e = true → S e.on) → k ∈ upsOf ups n l → S k
  | [], _, _, h => by cases h
  | a :: r, hok, hc, h => by
    simp only [edgeOk] at hok
    simp only [upsOf] at h
    split at hok
    · rename_i hb
      split at hok
      · rename_i hlt
        have hlt' : a.on < n := Nat.le_of_ble_eq_true hlt
        rw [hb] at h
        simp only [mem_insN, mem_insL] at h
        rcases h with rfl | h | h
        · exact hc a (.head _) hb
        · exact hS a.on hlt' (hc a (.head _) hb) k h
        · exact upsOf_mem hS hok (fun e he => hc e (.tail _ he)) h
      · cases hok
    · rename_i hb
      rw [hb] at h
      exact upsOf_mem hS hok (fun e he => hc e (.tail _ he)) h
theorem upsAll_ok : ∀ {r l0 : List Oper} {ups : List (List Nat)} {S : Nat → Prop}, edgesOk r l0.length = true → ups.length = l0.length → Closed (l0 ++ r) S → (∀ j, j < l0.length → S j → ∀ k ∈ nthL ups (l0.length - 1 - j), S k) →
    ∀ j, j < (l0 ++ r).length → S j → ∀ k ∈ nthL (upsAll r ups l0.length) ((l0 ++ r).length - 1 - j), S k
  | [], l0, ups, S, _, _, _, h => by simpa [upsAll] using h
  | o :: r, l0, ups, S, hok, hl, hc, h => by
    simp only [edgesOk] at hok
    split at hok
    · rename_i h1
      have h2 := upsAll_ok (r := r) (l0 := l0 ++ [o]) (ups := upsOf ups l0.length o.after.toList :: ups) (S := S) (by simpa using hok) (by simp [hl]) (by simpa using hc) (fun j hj hSj k hk => by
        simp only [List.length_append, List.length_cons, List.length_nil] at hj hk
        by_cases e : j = l0.length
        · subst e
          rw [show l0.length + (0 + 1) - 1 - l0.length = 0 by omega] at hk
          refine upsOf_mem h h1 (fun e he hb => hc l0.length o ?_ hSj e he hb) hk
          simp
        · rw [show l0.length + (0 + 1) - 1 - j = (l0.length - 1 - j) + 1 by omega] at hk
          exact h j (by omega) hSj k hk)
      simpa [upsAll] using h2
    · cases hok
theorem apartAll_mem {e : Ent} {up : List Nat} : ∀ {l : List Ent}, apartAll ops e up l = true → ∀ f ∈ l, f.i ∈ up ∨ apartB ops f e = true
  | [], _, _, hf => by cases hf
  | a :: r, h, f, hf => by
    simp only [apartAll] at h
    split at h
    · rename_i h1
      rcases List.mem_cons.1 hf with rfl | hf
      · exact .inl (nIn_iff.1 h1)
      · exact apartAll_mem h f hf
    · split at h
      · rename_i h1
        rcases List.mem_cons.1 hf with rfl | hf
        · exact .inr h1
        · exact apartAll_mem h f hf
      · cases h
theorem chkL_at : ∀ {acc : List Ent} {ups : List (List Nat)}, chkL ops acc ups = true → ∀ {A B : List Ent} {e : Ent}, acc = B ++ e :: A → subN (idsH e.wr) e.rd = true ∧ subN e.nw e.rd = true ∧ ∀ f ∈ A, f.i ∈ nthL ups B.length ∨ apartB ops f e = true
  | [], _, _, A, B, e, he => by cases B <;> simp at he
  | a :: r, u :: us, h, A, B, e, he => by
    simp only [chkL] at h
    split at h
    · rename_i h1
      split at h
      · rename_i h2
        split at h
        · rename_i h3
          cases B with
          | nil => cases he; exact ⟨h1, h2, fun f hf => apartAll_mem h3 f hf⟩
          | cons b B => cases he; exact chkL_at h rfl
        · cases h
      · cases h
    · cases h
  | a :: r, [], h, _, _, _, _ => by simp [chkL] at h
structure Fine (ops : Array Oper) (L : List Ent) : Prop where
  idx : Idx 0 L
  map : L.map (·.o) = ops.toList
  edge : ∀ {i : Nat} {o : Oper}, ops[i]? = some o → ∀ e ∈ o.after.toList, Region.binds .any e = true → e.on < i
  wr : ∀ e ∈ L, ∀ k ∈ e.wr.map (·.1), k ∈ e.rd
  nw : ∀ e ∈ L, ∀ k ∈ e.nw, k ∈ e.rd
  pair : ∀ e ∈ L, ∀ f ∈ L, e.i < f.i → apartB ops e f = true ∨ ∀ S : Nat → Prop, Closed ops.toList S → S f.i → S e.i
theorem fine_of {L : List Ent} (hi : Idx 0 L) (hm : L.map (·.o) = ops.toList) (h : chk ops L.reverse = true) : Fine ops L := by
  unfold chk at h
  split at h
  · rename_i he
    have hlen : L.length = ops.toList.length := by rw [← hm, List.length_map]
    have hat : ∀ e ∈ L, ∃ A B, L = A ++ e :: B ∧ A.length = e.i ∧ L.reverse = B.reverse ++ e :: A.reverse := fun e hme => by
      obtain ⟨A, B, h1, h2, _⟩ := hi.split hme
      exact ⟨A, B, h1, by omega, by rw [h1]; simp⟩
    refine ⟨hi, hm, fun {i o} ho e hme hb => ?_, fun e hme k hk => ?_, fun e hme k hk => ?_, fun e hme f hmf hlt => ?_⟩
    · have := edgesOk_at he (i := i) (o := o) (by simpa using ho) e hme hb; omega
    · obtain ⟨A, B, _, _, h3⟩ := hat e hme
      exact subN_ok (chkL_at h h3).1 (by rw [idsH_eq]; exact hk)
    · obtain ⟨A, B, _, _, h3⟩ := hat e hme
      exact subN_ok (chkL_at h h3).2.1 hk
    · obtain ⟨A, B, h1, h2, h3⟩ := hat f hmf
      have hA : e ∈ A := by
        have := (hi.split hmf)
        obtain ⟨A', B', h1', h2', h3', _⟩ := this
        have hAA : A = A' := by
          have h5 : A ++ f :: B = A' ++ f :: B' := h1.symm.trans h1'
          exact (List.append_inj h5 (by omega)).1
        rw [hAA, ← h3']
        exact List.mem_filter.2 ⟨hme, by simpa using hlt⟩
      rcases (chkL_at h h3).2.2 e (List.mem_reverse.2 hA) with h4 | h4
      · refine .inr fun S hS hSf => ?_
        have h5 := upsAll_ok (r := ops.toList) (l0 := []) (ups := []) (S := S) he rfl (by simpa using hS) (fun j hj => by simp at hj) f.i (by
          have := (hi.lo f hmf).2; simp only [List.nil_append]; omega) hSf e.i
        refine h5 ?_
        have h6 : L.length = A.length + (B.length + 1) := by rw [h1]; simp
        simp only [List.nil_append, List.length_nil]
        rw [show ops.toList.length - 1 - f.i = B.reverse.length by simp only [List.length_reverse]; omega]
        exact h4
      · exact .inl h4
  · cases h
section
variable {L : List Ent} {S : Nat → Bool} {fr0 : Fr} {hp0 : Hp}
def only1 (S : Nat → Bool) (i : Nat) : Nat → Bool := fun j => S j || j == i
theorem Fine.upto (F : Fine ops L) {e f : Ent} (he : e ∈ L) (hf : f ∈ L) (hn : S e.i = false) (hS : Closed ops.toList fun j => S j = true) (hS1 : Closed ops.toList fun j => only1 S e.i j = true) (hap1 : apartB ops f e = false) (hap2 : apartB ops e f = false) : S f.i = decide (f.i < e.i) := by
  rcases Nat.lt_trichotomy f.i e.i with h | h | h
  · rcases F.pair f hf e he h with h1 | h1
    · rw [h1] at hap1; cases hap1
    · have := h1 _ hS1 (by simp [only1])
      simp only [only1, Bool.or_eq_true, beq_iff_eq] at this
      rcases this with h2 | h2
      · simp [h2, h]
      · omega
  · obtain rfl := F.idx.inj hf he h
    simp [hn]
  · rcases F.pair e he f hf h with h1 | h1
    · rw [h1] at hap2; cases hap2
    · cases h2 : S f.i with
      | false => simp; omega
      | true => rw [h1 _ hS h2] at hn; cases hn
theorem apart_all {e f : Ent} (h : apartB ops e f = true) : (∀ t, e.o.dst = some t → t ∉ seen ops f.o) ∧ (∀ t, f.o.dst = some t → t ∉ seen ops e.o) ∧ (∀ t, e.o.dst = some t → f.o.dst ≠ some t) ∧ (∀ k ∈ e.wr.map (·.1), k ∉ f.rd) ∧ (∀ k ∈ f.wr.map (·.1), k ∉ e.rd) ∧ (∀ k ∈ e.nw, unnamed f k = true) ∧ ∀ k ∈ f.nw, unnamed e k = true := by
  simp only [apartB, Bool.and_eq_true, idsH_eq] at h
  obtain ⟨⟨⟨⟨⟨⟨h1, h2⟩, h3⟩, h4⟩, h5⟩, h6⟩, h7⟩ := h
  refine ⟨fun t ht => disj_ok h1 (by simp [ht]), fun t ht => disj_ok h2 (by simp [ht]), fun t ht hf => disj_ok h3 (k := t) (by simp [ht]) (by simp [hf]), fun k hk => disj_ok h4 hk, fun k hk => disj_ok h5 hk, fun k hk => lAll_ok h6 k hk, fun k hk => lAll_ok h7 k hk⟩
theorem Fine.both (F : Fine ops L) {e f : Ent} (he : e ∈ L) (hf : f ∈ L) (hn : S e.i = false) (hS : Closed ops.toList fun j => S j = true) (hS1 : Closed ops.toList fun j => only1 S e.i j = true) (hap : f ≠ e → ¬ apartB ops f e = true ∧ ¬ apartB ops e f = true) : S f.i = decide (f.i < e.i) := by
  by_cases h : f = e
  · subst h; simp [hn]
  · obtain ⟨h1, h2⟩ := hap h
    exact F.upto he hf hn hS hS1 (by simpa using h1) (by simpa using h2)
variable (F : Fine ops L) (hG : ∀ {A B : List Ent} {e : Ent}, L = A ++ e :: B → Good P ops Rl ks nt e (runFr fr0 A) (runHp hp0 A))
include F hG
theorem Fine.now {e : Ent} (he : e ∈ L) (hn : S e.i = false) (hS : Closed ops.toList fun j => S j = true) (hS1 : Closed ops.toList fun j => only1 S e.i j = true) :
    Good P ops Rl ks nt e (runFr fr0 (L.filter fun f => S f.i)) (runHp hp0 (L.filter fun f => S f.i)) ∧
    (∀ t, (runFr fr0 (L.filter fun f => only1 S e.i f.i)).get t = (putE (runFr fr0 (L.filter fun f => S f.i)) e).get t) ∧ ∀ k, look (runHp hp0 (L.filter fun f => only1 S e.i f.i)) k = look (putH (runHp hp0 (L.filter fun f => S f.i)) e) k := by
  obtain ⟨A, B, h1, h2, h3, h4⟩ := F.idx.split he
  have hg := hG h1
  have hg' := hg
  rw [← h3] at hg'
  have c1 : agr (runFr fr0 (L.filter fun f => S f.i)) (runFr fr0 (L.filter fun f => decide (f.i < e.i))) (seen ops e.o) := fun t ht => runFr_get rfl fun f hf hd => F.both he hf hn hS hS1 fun _ => ⟨fun h => (apart_all h).1 t hd ht, fun h => (apart_all h).2.1 t hd ht⟩
  have c2 : agh (runHp hp0 (L.filter fun f => S f.i)) (runHp hp0 (L.filter fun f => decide (f.i < e.i))) e.rd := fun k hk => runHp_look rfl fun f hf hd => F.both he hf hn hS hS1 fun _ => ⟨fun h => (apart_all h).2.2.2.1 k hd hk, fun h => (apart_all h).2.2.2.2.1 k hd hk⟩
  refine ⟨⟨hg.1, ?_⟩, fun t => ?_, fun k => ?_⟩
  · have h5 := hg'.2
    split at h5
    · rename_i s hs
      have hrd : e.rd = s.rd := by simp [Ent.rd, hs]
      have hnw : e.nw = s.nw := by simp [Ent.nw, hs]
      have hwr : e.wr = s.wr := by simp [Ent.wr, hs]
      rw [hrd] at c2
      obtain ⟨g1, g2, g3, g4⟩ := h5
      refine ⟨g1.agr fun t ht => c1 t (List.mem_append_left _ ht), fun c fr2 hp2 hR hc hg hh hf => g2 c fr2 hp2 hR hc (fun t ht => (hg t ht).trans (c1 t (List.mem_append_right _ ht))) (fun k hk => (hh k hk).trans (c2 k hk)) hf, fun k hk => ⟨(g3 k hk).1, ?_⟩, ?_⟩
      · have hk' : k ∈ e.nw := hnw ▸ hk
        obtain ⟨f1, f2, f3⟩ := frsh_ok (g3 k hk).2
        rw [nmFr_run] at f1
        rw [nmHp_run] at f2
        have un : ∀ f ∈ L.filter (fun f => S f.i), (f.i < e.i) ∨ unnamed f k = true := fun f hf => by
          obtain ⟨hf, hSf⟩ := List.mem_filter.1 hf
          rcases Nat.lt_trichotomy f.i e.i with h | h | h
          · exact .inl h
          · obtain rfl := F.idx.inj hf he h; rw [hn] at hSf; cases hSf
          · rcases F.pair e he f hf h with h6 | h6
            · exact .inr ((apart_all h6).2.2.2.2.2.1 k hk')
            · rw [h6 _ hS hSf] at hn; cases hn
        have unn : ∀ f, unnamed f k = true → nm k f.x = false ∧ nmHp k f.wr = false := fun f hu => by
          unfold unnamed at hu
          split at hu
          · cases hu
          · rename_i h7; exact ⟨h7, by simpa using hu⟩
        have n1 : nmFr k (runFr fr0 (L.filter fun f => S f.i)) = false := nmFr_run.2 ⟨f1.1, fun f hf hd => by
          rcases un f hf with h | h
          · exact f1.2 f (List.mem_filter.2 ⟨(List.mem_filter.1 hf).1, by simpa using h⟩) hd
          · exact (unn f h).1⟩
        have n2 : nmHp k (runHp hp0 (L.filter fun f => S f.i)) = false := nmHp_run.2 ⟨f2.1, fun f hf => by
          rcases un f hf with h | h
          · exact f2.2 f (List.mem_filter.2 ⟨(List.mem_filter.1 hf).1, by simpa using h⟩)
          · exact (unn f h).2⟩
        have n3 := (c2 k (by rw [← hrd]; exact F.nw e he k hk')).trans f3
        simp only [frsh, n1, n2, n3]
      · have key : ∀ (l : Hp), (∀ k ∈ l.map (·.1), k ∈ s.rd) → wrOk (runHp hp0 (L.filter fun f => decide (f.i < e.i))) s.nw l = true → wrOk (runHp hp0 (L.filter fun f => S f.i)) s.nw l = true := by
          intro l
          induction l with
          | nil => exact fun _ _ => rfl
          | cons p r ih =>
            intro hl h
            obtain ⟨k, q⟩ := p
            simp only [wrOk] at h ⊢
            rw [c2 k (hl k (by simp))]
            have ih' := ih fun k hk => hl k (by simp only [List.map_cons, List.mem_cons]; exact .inr hk)
            split
            · rename_i h8; rw [h8] at h; exact ih' h
            · rename_i h8
              rw [h8] at h
              split
              · rename_i h9; rw [h9] at h; exact ih' h
              · rename_i h9; rw [h9] at h; cases h
        exact key s.wr (fun k hk => by rw [← hrd]; exact F.wr e he k (by rw [hwr]; exact hk)) g4
    · exact h5.agr fun t ht => c1 t (List.mem_append_left _ ht)
  · by_cases hd : e.o.dst = some t
    · have : (runFr fr0 (L.filter fun f => only1 S e.i f.i)).get t = (runFr fr0 (L.filter fun f => decide (f.i ≤ e.i))).get t := runFr_get rfl fun f hf hdf => by
        by_cases heq : f = e
        · subst heq; simp [only1]
        · have := F.both he hf hn hS hS1 fun _ => ⟨fun h => (apart_all h).2.2.1 t hdf hd, fun h => (apart_all h).2.2.1 t hd hdf⟩
          have hne : f.i ≠ e.i := fun h => heq (F.idx.inj hf he h)
          simp only [only1, this]
          by_cases hlt : f.i < e.i
          · simp [hlt, Nat.le_of_lt hlt]
          · have hle : ¬ f.i ≤ e.i := by omega
            simp [hlt, hne, hle]
      rw [this, h4]
      simp [runFr, List.foldl_append, putE, hd, Fr.put, Fr.get]
    · have h6 : (putE (runFr fr0 (L.filter fun f => S f.i)) e).get t = (runFr fr0 (L.filter fun f => S f.i)).get t := by
        unfold putE
        cases hq : e.o.dst with
        | none => rfl
        | some d =>
          have : d ≠ t := fun h => hd (by rw [hq, h])
          simp [Fr.put, Fr.get, beq_ne this]
      rw [h6]
      refine runFr_get rfl fun f hf hdf => ?_
      have hne : f.i ≠ e.i := fun h => hd (by rw [← F.idx.inj hf he h]; exact hdf)
      simp [only1, hne]
  · by_cases hd : k ∈ e.wr.map (·.1)
    · have hdr := F.wr e he k hd
      have : look (runHp hp0 (L.filter fun f => only1 S e.i f.i)) k = look (runHp hp0 (L.filter fun f => decide (f.i ≤ e.i))) k := runHp_look rfl fun f hf hdf => by
        by_cases heq : f = e
        · subst heq; simp [only1]
        · have := F.both he hf hn hS hS1 fun _ => ⟨fun h => (apart_all h).2.2.2.1 k hdf hdr, fun h => (apart_all h).2.2.2.2.1 k hdf hdr⟩
          have hne : f.i ≠ e.i := fun h => heq (F.idx.inj hf he h)
          simp only [only1, this]
          by_cases hlt : f.i < e.i
          · simp [hlt, Nat.le_of_lt hlt]
          · have hle : ¬ f.i ≤ e.i := by omega
            simp [hlt, hne, hle]
      rw [this, h4]
      unfold putH
      rw [look_app2, if_pos hd]
      simp [runHp, List.foldl_append, putH, look_app2, hd]
    · unfold putH
      rw [look_app2, if_neg hd]
      refine runHp_look rfl fun f hf hdf => ?_
      have hne : f.i ≠ e.i := fun h => hd (by rw [← F.idx.inj hf he h]; exact hdf)
      simp [only1, hne]
end
theorem WA.ext {R1 : Nat → Prop} {fuel : Nat} {listed : Array Bool} {fr2 : Fr} {σ σ2 : Heap'} (h1 : ∀ t, fr2.get t = fr.get t) (h2 : ∀ k, σ2 k = σ k) (h : WA P c R1 ops Q fuel listed fr σ) : WA P c R1 ops Q fuel listed fr2 σ2 := by
  obtain rfl : σ2 = σ := funext h2
  exact fun ρ w a S ha hS => h ρ w a S (ha.weaken fun t x hx => (h1 t).trans hx) hS
theorem WI.go {R1 : Nat → Prop} {fuel : Nat} {listed : Array Bool} {i : Nat} {o : Oper} {x : IV} {σ σ' : Heap'} (hi : ops[i]? = some o) (hw : ∀ ρ w a, All c ρ σ w fr a → Region.wanted o (yielded ops a.tmps) = true) (hd : okDst o.dst c.n = true) (hR : ∀ k, c.R k → R1 k) (hnew : ∀ k, σ k = none → σ' k ≠ none → c.σ k = none)
    (hok : ∀ ρ w, Ok P ⟨c.F, R1, ρ, σ, w, c.n⟩ o fr σ x σ') (h : WA P c R1 ops Q fuel (listed.setIfInBounds i true) (fr.put o.dst x) σ') : WI P c R1 ops Q fuel listed fr σ i := by
  intro ρ w a S ha hS
  unfold wpOp
  simp only [hi]
  rw [if_pos (hw ρ w a ha)]
  refine .inl (hok ρ w ρ w a _ _ ⟨ha.rel, ha.fr, .refl _ _ _ _ _, ha.df, ha.sz, ha.kept⟩ fun ρ' w' v ha' hv => ?_)
  have hall : All c ρ' σ' w' fr a := ⟨ha'.rel, ha'.fr, ha.tr.trans ha'.tr hR hnew, ha'.df, ha'.sz, ha.kk⟩
  exact ⟨hS w' (SameFor.of ha.rel ha'.tr), h ρ' w' _ S (hall.putU hd hv) fun w'' h'' => hS w'' (SameFor.trans ha.rel ha'.tr h'')⟩
theorem WI.pass {R1 : Nat → Prop} {fuel : Nat} {listed : Array Bool} {i : Nat} {o : Oper} {σ : Heap'} (hi : ops[i]? = some o) (hw : ∀ ρ w a, All c ρ σ w fr a → Region.wanted o (yielded ops a.tmps) = false) (hd : okDst o.dst c.n = true)
    (h : WA P c R1 ops Q fuel (listed.setIfInBounds i true) (fr.put o.dst (.pv (.val undef))) σ) : WI P c R1 ops Q fuel listed fr σ i := by
  intro ρ w a S ha hS
  unfold wpOp
  simp only [hi]
  rw [if_neg (by simp [hw ρ w a ha])]
  exact ⟨hS w (.refl _ _ _ _), h ρ w _ S (ha.putU hd (mkVal undef)) hS⟩
def left (n : Nat) (listed : Array Bool) : Nat := ((List.range n).filter fun i => !listed.getD i true).length
theorem filt_le {p q : Nat → Bool} (h : ∀ j, q j = true → p j = true) : ∀ l : List Nat, (l.filter q).length ≤ (l.filter p).length
  | [] => Nat.le_refl _
  | a :: r => by
    have ih := filt_le h r
    simp only [List.filter_cons]
    cases hq : q a with
    | true => simp only [h a hq, if_true, List.length_cons]; omega
    | false => cases p a <;> simp only [if_true, Bool.false_eq_true, if_false, List.length_cons] <;> omega
theorem filt_lt {p q : Nat → Bool} {i : Nat} (h : ∀ j, q j = true → p j = true) (hp : p i = true) (hq : q i = false) : ∀ l : List Nat, i ∈ l → (l.filter q).length < (l.filter p).length
  | [], hm => by cases hm
  | a :: r, hm => by
    simp only [List.filter_cons]
    by_cases e : i = a
    · subst e
      have := filt_le h r
      simp only [hp, hq, if_true, Bool.false_eq_true, if_false, List.length_cons]; omega
    · have hr : i ∈ r := by
        rcases List.mem_cons.1 hm with h | h
        · exact absurd h e
        · exact h
      have ih := filt_lt h hp hq r hr
      cases hq : q a with
      | true => simp only [h a hq, if_true, List.length_cons]; omega
      | false => cases p a <;> simp only [if_true, Bool.false_eq_true, if_false, List.length_cons] <;> omega
theorem left_set {n i : Nat} {listed : Array Bool} (hi : i < n) (hs : listed.size = n) (hl : listed.getD i true = false) : left n (listed.setIfInBounds i true) < left n listed := by
  unfold left
  refine filt_lt (i := i) (fun j hj => ?_) (by rw [hl]; rfl) ?_ _ (List.mem_range.2 hi)
  · by_cases e : i = j
    · subst e; rw [hl]; rfl
    · simpa [Array.getD_eq_getD_getElem?, Array.getElem?_setIfInBounds, e] using hj
  · simp [Array.getD_eq_getD_getElem?, Array.getElem?_setIfInBounds, hs, hi]
theorem ready_mem {listed : Array Bool} {i : Nat} (hs : listed.size = ops.size) (h : i ∈ Region.ready .any ops listed) : ∃ o, ops[i]? = some o ∧ i < ops.size ∧ listed.getD i true = false ∧ listed.getD i false = false ∧ ∀ e ∈ o.after.toList, Region.binds .any e = true → listed.getD e.on false = true := by
  obtain ⟨h1, h2⟩ := List.mem_filter.1 h
  have hi := List.mem_range.1 h1
  simp only [Bool.and_eq_true, Bool.not_eq_true'] at h2
  obtain ⟨h2, h3⟩ := h2
  refine ⟨ops[i], by simp [hi], hi, h2, ?_, fun e he hb => ?_⟩
  · simpa [Array.getD_eq_getD_getElem?, hs, hi] using h2
  · have h4 : ops[i]? = some ops[i] := by simp [hi]
    rw [h4] at h3
    simp only [Option.map_some, Option.getD_some, Array.all_eq_true_iff_forall_mem] at h3
    have := h3 e (by simpa using he)
    simpa [hb] using this
theorem ready_none {listed : Array Bool} (hs : listed.size = ops.size) (he : ∀ {i : Nat} {o : Oper}, ops[i]? = some o → ∀ e ∈ o.after.toList, Region.binds .any e = true → e.on < i) (h : Region.ready .any ops listed = []) : ∀ i, i < ops.size → listed.getD i false = true := by
  intro i
  induction i using Nat.strongRecOn with
  | _ i ih =>
    intro hi
    cases hl : listed.getD i false with
    | true => rfl
    | false =>
      have : i ∈ Region.ready .any ops listed := by
        refine List.mem_filter.2 ⟨List.mem_range.2 hi, ?_⟩
        have h1 : listed.getD i true = false := by simpa [Array.getD_eq_getD_getElem?, hs, hi] using hl
        have h2 : ops[i]? = some ops[i] := by simp [hi]
        rw [h1, h2]
        simp only [Bool.not_false, Bool.true_and, Option.map_some, Option.getD_some, Array.all_eq_true_iff_forall_mem]
        intro e hme
        cases hb : Region.binds .any e with
        | false => rfl
        | true =>
          have hlt := he h2 e (by simpa using hme) hb
          simpa using ih e.on hlt (by omega)
      rw [h] at this
      cases this
theorem Fine.orders {L : List Ent} {fr0 : Fr} {hp0 : Hp} (F : Fine ops L) (hG : ∀ {A B : List Ent} {e : Ent}, L = A ++ e :: B → Good P ops Rl ks nt e (runFr fr0 A) (runHp hp0 A)) (hn : c.n = nt) (hR : ∀ k, c.R k → k ∈ Rl) (hσ : ∀ k, c.σ k ≠ none → k ∈ ks)
    (hQ : Q .normal (runFr fr0 L) (look (runHp hp0 L))) : ∀ (fuel : Nat) (listed : Array Bool), listed.size = ops.size → left ops.size listed ≤ fuel → Closed ops.toList (fun j => listed.getD j false = true) →
      WA P c c.R ops Q fuel listed (runFr fr0 (L.filter fun f => listed.getD f.i false)) (look (runHp hp0 (L.filter fun f => listed.getD f.i false))) := by
  subst hn
  have hlen : L.length = ops.size := by rw [← List.length_map (f := (·.o)), F.map]; simp
  have hend : ∀ {fuel : Nat} {listed : Array Bool}, listed.size = ops.size → Region.ready .any ops listed = [] → WA P c c.R ops Q fuel listed (runFr fr0 (L.filter fun f => listed.getD f.i false)) (look (runHp hp0 (L.filter fun f => listed.getD f.i false))) := by
    intro fuel listed hs hr
    have hall := ready_none hs F.edge hr
    have : (L.filter fun f => listed.getD f.i false) = L := List.filter_eq_self.2 fun f hf => hall f.i (by have := (F.idx.lo f hf).2; omega)
    rw [this]
    exact WA.done hr hQ
  intro fuel
  induction fuel with
  | zero =>
    intro listed hs hl hc
    refine hend hs ?_
    cases hq : Region.ready .any ops listed with
    | nil => rfl
    | cons i r =>
      obtain ⟨o, ho, hi, h1, _⟩ := ready_mem hs (i := i) (by rw [hq]; exact .head _)
      have := left_set hi hs h1
      omega
  | succ fuel ih =>
    intro listed hs hl hc
    by_cases hr : Region.ready .any ops listed = []
    · exact hend hs hr
    refine WA.all rfl hr fun i hi => ?_
    obtain ⟨o, ho, hlt, h1, h2, h3⟩ := ready_mem hs hi
    obtain ⟨e, he, hei, heo⟩ := F.idx.get (i := i) (o := o) (by rw [F.map]; simpa using ho)
    simp only [Nat.zero_add] at hei
    subst hei
    subst heo
    have hset : ∀ j, (listed.setIfInBounds e.i true).getD j false = only1 (fun j => listed.getD j false) e.i j := fun j => by
      by_cases hj : e.i = j
      · subst hj; simp [only1, Array.getD_eq_getD_getElem?, Array.getElem?_setIfInBounds, hs, hlt]
      · simp [only1, Array.getD_eq_getD_getElem?, Array.getElem?_setIfInBounds, hj, Ne.symm hj]
    have hc1 : Closed ops.toList fun j => only1 (fun j => listed.getD j false) e.i j = true := by
      intro j oj hoj hj ed hed hb
      simp only [only1, Bool.or_eq_true, beq_iff_eq] at hj ⊢
      rcases hj with hj | rfl
      · exact .inl (hc j oj hoj hj ed hed hb)
      · have : oj = e.o := by simpa [ho] using hoj.symm
        subst this
        exact .inl (h3 ed hed hb)
    obtain ⟨g, hF, hH⟩ := F.now hG he h2 hc hc1
    have hrest : WA P c c.R ops Q fuel (listed.setIfInBounds e.i true) (putE (runFr fr0 (L.filter fun f => listed.getD f.i false)) e) (look (putH (runHp hp0 (L.filter fun f => listed.getD f.i false)) e)) := by
      refine WA.ext (fun t => (hF t).symm) (fun k => (hH k).symm) ?_
      have := ih (listed.setIfInBounds e.i true) (by simpa using hs) (by have := left_set hlt hs h1; omega) (by simpa only [hset] using hc1)
      simpa only [hset] using this
    obtain ⟨hd, g⟩ := g
    split at g
    · rename_i s hsome
      have hx : e.x = s.x := by simp [Ent.x, hsome]
      have hw : e.wr = s.wr := by simp [Ent.wr, hsome]
      have hnw : e.nw = s.nw := by simp [Ent.nw, hsome]
      obtain ⟨g1, g2, g3, g4⟩ := g
      simp only [putE, putH, hx, hw] at hrest
      refine WI.go ho (fun ρ w a ha => g1.wanted ha) hd (fun _ h => h) (fun k hk1 hk2 => ?_) (fun ρ w => g2 _ _ _ hR (fun k hk => (frsh_ok (g3 k hk).2).2.2) (fun _ _ => rfl) (fun _ _ => rfl) fun k hk => (g3 k hk).2) hrest
      rw [look_app2] at hk2
      split at hk2
      · rename_i hm
        rcases wrOk_mem g4 hm with h5 | h5
        · cases h6 : c.σ k with
          | none => rfl
          | some ob => exact absurd (hσ k (by rw [h6]; simp)) (g3 k h5).1
        · exact absurd hk1 h5
      · exact absurd hk1 hk2
    · rename_i hsome
      have hx : e.x = .pv (.val undef) := by simp [Ent.x, hsome]
      have hw : e.wr = [] := by simp [Ent.wr, hsome]
      simp only [putE, putH, hx, hw, List.nil_append] at hrest
      exact WI.pass ho (fun ρ w a ha => g.wanted ha) hd hrest
theorem Chain.any {L : List Ent} (h : Chain P ops Rl ks nt fr hp L fr' hp') (hm : P.follows .mixedOrders = true) (hi : Idx 0 L) (hmap : L.map (·.o) = ops.toList) (hc : chk ops L.reverse = true) (hn : c.n = nt) (hR : ∀ k, c.R k → k ∈ Rl) (hσ : ∀ k, c.σ k ≠ none → k ∈ ks)
    (hQ : ∀ fr2, (∀ t, fr2.get t = fr'.get t) → Q .normal fr2 (look hp')) {id : Nat} : Tr P c (.region id ops true) fr (look hp) Q := by
  have F := fine_of hi hmap hc
  obtain ⟨h1, h2⟩ := h.fin FrEq.rfl'
  refine Tr.drawn hm c.R ?_
  have := F.orders (c := c) (Q := Q) (fr0 := fr) (hp0 := hp) (fun {A B e} he => h.at FrEq.rfl' he) hn hR hσ (by rw [← h2]; exact hQ _ h1.1) ops.size (Array.replicate ops.size false) (by simp) (by
      unfold left
      exact Nat.le_trans (List.length_filter_le _ _) (by simp)) (fun i o _ hS => by
        simp [Array.getD_eq_getD_getElem?, Array.getElem?_replicate] at hS
        split at hS <;> simp at hS)
  have he : (L.filter fun f => (Array.replicate ops.size false).getD f.i false) = [] := List.filter_eq_nil_iff.2 fun f _ => by
    simp [Array.getD_eq_getD_getElem?, Array.getElem?_replicate]
    split <;> simp
  rw [he] at this
  exact this
end
section
variable {P : Program} {T : TB P} {H : Hn} {fr fr' : Fr} {hp hp' : Hp} {Rl ks : List Nat} {c : Cx} {ops : Array Oper} {Q : Exit → Fr → Heap' → Prop} {nt : Nat}
def vguard (ops : Array Oper) (o : Oper) (fr : Fr) (A : Bool → Fr → Prop) : Prop := match o.guard with
  | none => A true fr
  | some (j, b) => vopt ops[j]? fun oj => vopt oj.dst fun t => vopt (fr.get t) fun x => match x with
    | .pv (.val (.bool b')) => bsel b' (A b ((t, .pv (.val (.bool true))) :: fr)) (A (!b) ((t, .pv (.val (.bool false))) :: fr))
    | .pv (.val (.tuple ⟨[]⟩)) => A false fr
    | _ => False
def appH {α : Type} : List α → List α → (List α → Prop) → Prop
  | [], h, K => K h
  | p :: r, h, K => appH r h fun l => K (p :: l)
theorem appH_ok {α : Type} : ∀ {l h : List α} {K : List α → Prop}, appH l h K → K (l ++ h)
  | [], _, _, h => h
  | _ :: r, _, K, h => appH_ok (l := r) (K := fun l => K (_ :: l)) h
def VopsT : Type := Nat → List Ent → Fr → Hp → (Fr → Hp → Prop) → Prop
def vopsN (ops : Array Oper) (draw : Bool) : VopsT := fun _ acc fr hp K => match draw with
  | false => K fr hp
  | true => vtest (chk ops acc) (K fr hp)
def vput (d : Option Nat) (x : IV) (fr : Fr) (A : Fr → Prop) : Prop := match d with
  | none => A fr
  | some d => A ((d, x) :: fr)
def vopsC (T : TB P) (H : Hn) (Rl ks : List Nat) (nt rid : Nat) (ops : Array Oper) (o : Oper) (ih : VopsT) : VopsT := fun i acc fr hp K =>
  vguard ops o fr fun go fr => vtest (okDst o.dst nt) (match go with
    | true => vop T H Rl (rid * 1000 + i) o fr hp fun s => match s with
      | ⟨x, wr, rd, nw⟩ => vtest (lAll (newB ks fr hp) nw && wrOk hp nw wr) (appH wr hp fun hp' => vput o.dst x fr fun fr' => ih (i + 1) (⟨i, o, some ⟨x, wr, rd, nw⟩⟩ :: acc) fr' hp' K)
    | false => vput o.dst (.pv (.val undef)) fr fun fr' => ih (i + 1) (⟨i, o, none⟩ :: acc) fr' hp K)
def vops (T : TB P) (H : Hn) (Rl ks : List Nat) (nt rid : Nat) (ops : Array Oper) (draw : Bool) (l : List Oper) : VopsT :=
  List.rec (motive := fun _ => VopsT) (vopsN ops draw) (fun o _ ih => vopsC T H Rl ks nt rid ops o ih) l
theorem vput_eq {d : Option Nat} {x : IV} {A : Fr → Prop} (h : vput d x fr A) : A (fr.put d x) := by
  cases d with
  | none => exact h
  | some d => exact h
theorem vguard_ok {o : Oper} {A : Bool → Fr → Prop} (h : vguard ops o fr A) : (∃ fr2, A true fr2 ∧ GYes ops o fr2 ∧ (fr2 = fr ∨ ∃ t v, fr.get t = some (.pv (.val v)) ∧ fr2 = (t, .pv (.val v)) :: fr)) ∨ (∃ fr2, A false fr2 ∧ GNo ops o fr2 ∧ (fr2 = fr ∨ ∃ t v, fr.get t = some (.pv (.val v)) ∧ fr2 = (t, .pv (.val v)) :: fr)) := by
  unfold vguard at h
  split at h
  · rename_i hg; exact .inl ⟨fr, h, .free hg, .inl rfl⟩
  · rename_i j b hg
    replace h := vopt_ok h
    obtain ⟨oj, hj, h⟩ := h
    replace h := vopt_ok h
    obtain ⟨t, ht, h⟩ := h
    replace h := vopt_ok h
    obtain ⟨x, hx, h⟩ := h
    split at h
    · rename_i b'
      have key : ∀ {q : Bool}, b' = q → Fr.get ((t, .pv (.val (.bool q))) :: fr) t = some (.pv (.val (.bool q))) := fun _ => by simp [Fr.get]
      cases b' with
      | true =>
        cases b with
        | true => exact .inl ⟨_, h, .met hg hj ht (key rfl), .inr ⟨t, _, hx, rfl⟩⟩
        | false => exact .inr ⟨_, h, .not (b := true) hg hj ht (key rfl), .inr ⟨t, _, hx, rfl⟩⟩
      | false =>
        cases b with
        | true => exact .inr ⟨_, h, .not (b := false) hg hj ht (key rfl), .inr ⟨t, _, hx, rfl⟩⟩
        | false => exact .inl ⟨_, h, .met hg hj ht (key rfl), .inr ⟨t, _, hx, rfl⟩⟩
    · exact .inr ⟨fr, h, .un hg hj ht hx, .inl rfl⟩
    · exact h.elim
theorem vops_ok {rid : Nat} {draw : Bool} : ∀ {l : List Oper} {i : Nat} {acc : List Ent} {fr : Fr} {hp : Hp} {K : Fr → Hp → Prop}, vops T H Rl ks nt rid ops draw l i acc fr hp K →
    ∃ L fr' hp', Chain P ops Rl ks nt fr hp L fr' hp' ∧ L.map (·.o) = l ∧ Idx i L ∧ (draw = true → chk ops (L.reverse ++ acc) = true) ∧ K fr' hp'
  | [], i, acc, fr, hp, K, h => by
    replace h : vopsN ops draw i acc fr hp K := h
    unfold vopsN at h
    cases draw with
    | false => exact ⟨[], fr, hp, .nil, rfl, trivial, (fun e => absurd e (by decide)), h⟩
    | true =>
      replace h := vtest_ok h
      exact ⟨[], fr, hp, .nil, rfl, trivial, fun _ => h.1, h.2⟩
  | o :: l, i, acc, fr, hp, K, h => by
    replace h : vopsC T H Rl ks nt rid ops o (vops T H Rl ks nt rid ops draw l) i acc fr hp K := h
    unfold vopsC at h
    have fin : ∀ {fr2 : Fr} {e : Ent}, (fr2 = fr ∨ ∃ t v, fr.get t = some (.pv (.val v)) ∧ fr2 = (t, .pv (.val v)) :: fr) → e.i = i → e.o = o → Good P ops Rl ks nt e fr2 hp → vops T H Rl ks nt rid ops draw l (i + 1) (e :: acc) (putE fr2 e) (putH hp e) K →
        ∃ L fr' hp', Chain P ops Rl ks nt fr hp L fr' hp' ∧ L.map (·.o) = o :: l ∧ Idx i L ∧ (draw = true → chk ops (L.reverse ++ acc) = true) ∧ K fr' hp' := by
      intro fr2 e hf hi ho hg h
      obtain ⟨L, fr', hp', h1, h2, h3, h4, h5⟩ := vops_ok h
      have hc : Chain P ops Rl ks nt fr2 hp (e :: L) fr' hp' := .cons hg h1
      refine ⟨e :: L, fr', hp', ?_, by simp [ho, h2], ⟨hi, h3⟩, fun hd => by have := h4 hd; simpa using this, h5⟩
      rcases hf with rfl | ⟨t, v, ht, rfl⟩
      · exact hc
      · exact .lit ht hc
    rcases vguard_ok h with ⟨fr2, h, hg, hf⟩ | ⟨fr2, h, hg, hf⟩
    · replace h := vtest_ok h
      obtain ⟨hd, h⟩ := h
      obtain ⟨s, h, hok⟩ := vop_ok h
      obtain ⟨x, wr, rd, nw⟩ := s
      replace h := vtest_ok h
      obtain ⟨h1, h⟩ := h
      simp only [Bool.and_eq_true] at h1
      replace h := vput_eq (appH_ok h)
      exact fin (e := ⟨i, o, some ⟨x, wr, rd, nw⟩⟩) hf rfl rfl ⟨hd, hg, hok, fun k hk => newB_ok (lAll_ok h1.1 k hk), h1.2⟩ h
    · replace h := vtest_ok h
      obtain ⟨hd, h⟩ := h
      replace h := vput_eq h
      exact fin (e := ⟨i, o, none⟩) hf rfl rfl ⟨hd, hg⟩ h
def liftK (K : Exit → Fr → Hp → Prop) : Exit → Fr → Heap' → Prop := fun e fr σ => ∃ fr' hp', Sub σ fr fr' ∧ (∀ k o, look hp' k = some o → σ k = some o) ∧ K e fr' hp'
theorem liftK_mk {K : Exit → Fr → Hp → Prop} {e : Exit} {fr2 : Fr} (hf : ∀ t, fr2.get t = fr'.get t) (h : K e fr' hp') : liftK K e fr2 (look hp') :=
  ⟨fr', hp', fun t y hy => ⟨y, (hf t).trans hy, fun _ _ _ _ h => h⟩, fun _ _ h => h, h⟩
theorem Tr.weak {x : Code} {σ : Heap'} (hs : Sub σ fr fr') (hh : ∀ k o, look hp' k = some o → σ k = some o) (h : Tr P c x fr' (look hp') Q) : Tr P c x fr σ Q := by
  intro ρ w a ha
  obtain ⟨ρ', ha', _⟩ := (ha.sub hs).restrict hh
  exact h ρ' w a ha'
theorem region_ok {id : Nat} {draw : Bool} {K : Fr → Hp → Prop} {K' : Exit → Fr → Hp → Prop} (hn : c.n = nt) (hR : ∀ k, c.R k → k ∈ Rl) (hσ : ∀ k, c.σ k ≠ none → k ∈ ks) (hK : ∀ fr hp, K fr hp → K' .normal fr hp) (h : vops T H Rl ks nt id ops draw ops.toList 0 [] fr hp K) : Tr P c (.region id ops draw) fr (look hp) (liftK K') := by
  obtain ⟨L, fr', hp', h1, h2, h3, h4, h5⟩ := vops_ok h
  cases draw with
  | false => exact Tr.region rfl (by rw [← h2]; exact h1.text hn hR hσ (liftK_mk (fun _ => rfl) (hK _ _ h5)))
  | true => exact h1.any T.mx h3 h2 (by simpa using h4 rfl) hn hR hσ fun fr2 hf => liftK_mk hf (hK _ _ h5)
theorem All.boxSub {ρ : Loc} {w : World} {a : Act} {k2 j : Nat} {cs : List IV} {x0 y : IV} (h' : All c ρ (look hp) w fr a) (hk2 : look hp k2 = some (.box cs)) (hj : cs[j]? = some x0) (hxy : ∀ v, RepI c.F ρ (look hp) w x0 v → RepI c.F ρ (look hp) w y v) : All c ρ (look ((k2, some (.box (cs.set j y))) :: hp)) w fr a := by
  have hlk : ∀ i, i ≠ k2 → look ((k2, some (.box (cs.set j y))) :: hp) i = look hp i := fun i hi => look_ne (Ne.symm hi)
  have hlk2 : look ((k2, some (.box (cs.set j y))) :: hp) k2 = some (.box (cs.set j y)) := look_hd
  have hconv : ∀ x v, RepI c.F ρ (look hp) w x v → RepI c.F ρ (look ((k2, some (.box (cs.set j y))) :: hp)) w x v := by
    intro x v hx
    induction hx with
    | pv p v hp => exact .pv p v hp
    | ptr i off v hi =>
      refine .ptr i off v fun cs' h2 => ?_
      by_cases e : i = k2
      · subst e; exact hi _ hk2
      · rw [hlk i e] at h2; exact hi _ h2
    | sl i len v hi =>
      refine .sl i len v fun s' els' h2 => ?_
      by_cases e : i = k2
      · subst e; rw [hlk2] at h2; cases h2
      · rw [hlk i e] at h2; exact hi _ _ h2
    | rpt i len off v hi =>
      refine .rpt i len off v fun s' els' h2 => ?_
      by_cases e : i = k2
      · subst e; rw [hlk2] at h2; cases h2
      · rw [hlk i e] at h2; exact hi _ _ h2
    | bs i n v hi =>
      refine .bs i n v fun cs' h2 => ?_
      by_cases e : i = k2
      · subst e; exact hi _ hk2
      · rw [hlk i e] at h2; exact hi _ h2
    | mp i v hi =>
      refine .mp i v fun es h2 => ?_
      by_cases e : i = k2
      · subst e; rw [hlk2] at h2; cases h2
      · rw [hlk i e] at h2; exact hi _ h2
    | tnil i T v hi =>
      refine .tnil i T v fun cs' h2 => ?_
      by_cases e : i = k2
      · subst e; exact hi _ hk2
      · rw [hlk i e] at h2; exact hi _ h2
    | agg cs vs u hl hv _ ih => exact .agg cs vs u hl hv ih
    | tup cs vs u hl hv _ ih => exact .tup cs vs u hl hv ih
    | fn f xs ys vs ws u t hl hv _ hl' hv' _ ih ih' => exact .fn f xs ys vs ws u t hl hv ih hl' hv' ih'
  refine ⟨⟨h'.rel.inj, h'.rel.apart, h'.rel.old, fun i b cc hi => ?_, fun i o h1 h2 => ?_⟩, fun t x hx => ?_, ?_, h'.df, h'.sz, h'.kk⟩
  · obtain ⟨o1, h1, h2⟩ := h'.rel.obj i b cc hi
    by_cases e : i = k2
    · subst e
      rw [hk2] at h1; cases h1
      refine ⟨_, hlk2, ?_⟩
      cases h2 with
      | box _ e' r u h5 hl hv hr =>
        refine .box _ e' r u h5 (by simpa using hl) (fun q x hq => ?_) fun q x hq => ?_
        · by_cases eq : q = j
          · subst eq; exact hv q _ hj
          · rw [List.getElem?_set_ne (Ne.symm eq)] at hq; exact hv q x hq
        · by_cases eq : q = j
          · subst eq
            have hlt : q < cs.length := (List.getElem?_eq_some_iff.1 hj).1
            rw [List.getElem?_set_self hlt] at hq; cases hq
            exact hconv _ _ (hxy _ (hr q _ hj))
          · rw [List.getElem?_set_ne (Ne.symm eq)] at hq; exact hconv _ _ (hr q x hq)
    · refine ⟨o1, (hlk i e).trans h1, ?_⟩
      cases h2 with
      | box cs' e' r u h hl hv hr => exact .box cs' e' r u h hl hv fun q x hq => hconv _ _ (hr q x hq)
      | row s' els' r u h hs hl hm hw hv hr => exact .row s' els' r u h hs hl hm hw hv hr
      | map es r t u h hl hv hr => exact .map es r t u h hl hv hr
  · by_cases e : i = k2
    · subst e
      obtain ⟨s', h3⟩ := h'.rel.real i _ hk2 h2
      cases h3
    · rw [hlk i e] at h1; exact h'.rel.real i o h1 h2
  · obtain ⟨v, hv, hr⟩ := h'.fr t x hx
    exact ⟨v, hv, hconv _ _ hr⟩
  · have t := h'.tr
    refine ⟨t.os, t.tape, t.output, t.size, t.blk, t.own, fun i a1 a2 e1 e2 => ?_, fun i a1 a2 e1 e2 => ?_, fun i s1 s2 a1 a2 e1 e2 hl => ?_, fun i s1 s2 a1 a2 e1 e2 => ?_, fun i a2 e2 => ?_, fun i a2 e2 => ?_, fun i s1 a2 e2 => ?_⟩
    all_goals by_cases e : i = k2
    · subst e; exact t.box i _ _ e1 hk2
    · rw [hlk i e] at e2; exact t.box i _ _ e1 e2
    · subst e; rw [hlk2] at e2; cases e2
    · rw [hlk i e] at e2; exact t.map i _ _ e1 e2
    · subst e; rw [hlk2] at e2; cases e2
    · rw [hlk i e] at e2; exact t.row i _ _ _ _ e1 e2 hl
    · subst e; rw [hlk2] at e2; cases e2
    · rw [hlk i e] at e2; exact t.grow i _ _ _ _ e1 e2
    · subst e; exact t.kindB i _ hk2
    · rw [hlk i e] at e2; exact t.kindB i _ e2
    · subst e; rw [hlk2] at e2; cases e2
    · rw [hlk i e] at e2; exact t.kindM i _ e2
    · subst e; rw [hlk2] at e2; cases e2
    · rw [hlk i e] at e2; exact t.kindR i _ _ e2
theorem nil_seq {F : Nat → Prop} {ρ : Loc} {σ : Heap'} {w : World} {v : Value} (h : RepI F ρ σ w (.pv (.val (.slice none 0 0))) v) : RepI F ρ σ w (.pv (.seq [])) v := sub_pv PSub.nil h
def isNil : Option IV → Bool
  | some (.pv (.val (.slice none 0 0))) => true
  | _ => false
theorem isNil_ok {x : Option IV} (h : isNil x = true) : x = some (.pv (.val (.slice none 0 0))) := by
  unfold isNil at h
  split at h
  · rfl
  · cases h
def isSl (k : Nat) : Option IV → Option Nat
  | some (.sl j n) => match Nat.beq j k with
    | true => some n
    | false => none
  | _ => none
theorem isSl_ok {k n : Nat} {x : Option IV} (h : isSl k x = some n) : x = some (.sl k n) := by
  unfold isSl at h
  split at h
  · split at h
    · rename_i hb; obtain rfl := Nat.eq_of_beq_eq_true hb; cases h; rfl
    · cases h
  · cases h
def isPtr (k : Nat) : Option IV → Bool
  | some (.ptr j 0) => Nat.beq j k
  | _ => false
theorem isPtr_ok {k : Nat} {x : Option IV} (h : isPtr k x = true) : x = some (.ptr k 0) := by
  unfold isPtr at h
  split at h
  · obtain rfl := Nat.eq_of_beq_eq_true h; rfl
  · cases h
def vgh (ks : List Nat) (g : Gh) (fr : Fr) (hp : Hp) (K : Fr → Hp → Prop) : Prop := match g with
  | .grow t k e n => vtest (isNil (fr.get t) && newB ks fr hp k) (K ((t, .sl k 0) :: fr) ((k, some (.row ⟨e, n⟩ [])) :: hp))
  | .growC k2 j k e n => vbox hp k2 fun cs => vtest (isNil cs[j]? && newB ks fr hp k) (frcI (cs.set j (.sl k 0)) fun l => K fr ((k2, some (.box l)) :: (k, some (.row ⟨e, n⟩ [])) :: hp))
  | .fz t k => vopt (isSl k (fr.get t)) fun n => vrow hp k fun _ els => els.length = n ∧ K ((t, .pv (.seq els)) :: fr) ((k, none) :: hp)
  | .fzC k2 j k => vbox hp k2 fun cs => vopt (isSl k cs[j]?) fun n => vtest (!Nat.beq k k2) (vrow hp k fun _ els => els.length = n ∧ frcI (cs.set j (.pv (.seq els))) fun l => K fr ((k2, some (.box l)) :: (k, none) :: hp))
  | .fzB t k => vtest (isPtr k (fr.get t)) (vbox hp k fun cs => vopt (purify cs) fun ps => frcP ps fun l => K ((t, .pv (.ept l 0)) :: fr) ((k, none) :: hp))
  | .len t => vopt (fr.get t) fun x => match x with
    | .pv (.seq els) => els.length ≤ 9223372036854775807 → K fr hp
    | .sl k n => vrow hp k fun _ els => els.length = n ∧ (n ≤ 9223372036854775807 → K fr hp)
    | _ => False
  | .drop k => K fr ((k, none) :: hp)
  | .ni t => match isNil (fr.get t) with
    | true => K ((t, .pv (.seq [])) :: fr) hp
    | false => K fr hp
  | .niC k j => vbox hp k fun cs => match isNil cs[j]? with
    | true => frcI (cs.set j (.pv (.seq []))) fun l => K fr ((k, some (.box l)) :: hp)
    | false => K fr hp
theorem vgh_ok {g : Gh} {x : Code} {K : Fr → Hp → Prop} (hσ : ∀ k, c.σ k ≠ none → k ∈ ks) (hK : ∀ fr hp, K fr hp → Tr P c x fr (look hp) Q) (h : vgh ks g fr hp K) : Tr P c x fr (look hp) Q := by
  have hc : ∀ {k : Nat}, newB ks fr hp k = true → look hp k = none ∧ c.σ k = none ∧ nmFr k fr = false ∧ nmHp k hp = false := fun {k} hk => by
    obtain ⟨h1, h2⟩ := newB_ok hk
    obtain ⟨f1, f2, f3⟩ := frsh_ok h2
    refine ⟨f3, ?_, f1, f2⟩
    cases h4 : c.σ k with
    | none => rfl
    | some o => exact absurd (hσ k (by rw [h4]; simp)) h1
  unfold vgh at h
  split at h
  · replace h := vtest_ok h
    obtain ⟨h1, h⟩ := h
    simp only [Bool.and_eq_true] at h1
    obtain ⟨f1, f2, f3, f4⟩ := hc h1.2
    exact Tr.grow _ (isNil_ok h1.1) f1 f2 f3 f4 (hK _ _ h)
  · replace h := vbox_ok h
    obtain ⟨cs, hk, h⟩ := h
    replace h := vtest_ok h
    obtain ⟨h1, h⟩ := h
    simp only [Bool.and_eq_true] at h1
    obtain ⟨f1, f2, f3, f4⟩ := hc h1.2
    exact Tr.growCell _ hk (isNil_ok h1.1) f1 f2 f3 f4 (hK _ _ (frcI_ok h))
  · replace h := vopt_ok h
    obtain ⟨n, hn, h⟩ := h
    replace h := vrow_ok h
    obtain ⟨s, els, hk, hl, h⟩ := h
    exact Tr.freeze (isSl_ok hn) hk hl (hK _ _ h)
  · replace h := vbox_ok h
    obtain ⟨cs, hk2, h⟩ := h
    replace h := vopt_ok h
    obtain ⟨n, hn, h⟩ := h
    replace h := vtest_ok h
    obtain ⟨hne, h⟩ := h
    replace h := vrow_ok h
    obtain ⟨s, els, hk, hl, h⟩ := h
    exact Tr.freezeCell hk hl hk2 (isSl_ok hn) (fun e => by subst e; simp at hne) (hK _ _ (frcI_ok h))
  · replace h := vtest_ok h
    obtain ⟨h1, h⟩ := h
    replace h := vbox_ok h
    obtain ⟨cs, hk, h⟩ := h
    replace h := vopt_ok h
    obtain ⟨ps, hps, h⟩ := h
    exact Tr.freezeBox (isPtr_ok h1) hk hps (hK _ _ (frcP_ok (K := fun l => K ((_, .pv (.ept l 0)) :: fr) ((_, none) :: hp)) h))
  · replace h := vopt_ok h
    obtain ⟨x, hx, h⟩ := h
    split at h
    · exact Tr.lenOf hx fun hl => hK _ _ (h hl)
    · replace h := vrow_ok h
      obtain ⟨s, els, hk, hl, h⟩ := h
      exact Tr.rowLen hx hk hl fun hn => hK _ _ (h hn)
    · exact h.elim
  · exact Tr.drop (hK _ _ h)
  · split at h
    · rename_i hn
      exact fun ρ w a ha => hK _ _ h ρ w a (ha.putFr (isNil_ok hn) fun v hv => nil_seq hv)
    · exact hK _ _ h
  · replace h := vbox_ok h
    obtain ⟨cs, hk, h⟩ := h
    split at h
    · rename_i hn
      exact fun ρ w a ha => hK _ _ (frcI_ok (K := fun l => K fr ((_, some (.box l)) :: hp)) h) ρ w a (ha.boxSub hk (isNil_ok hn) fun v hv => nil_seq hv)
    · exact hK _ _ h
def vghs (ks : List Nat) : List Gh → Fr → Hp → (Fr → Hp → Prop) → Prop
  | [], fr, hp, K => K fr hp
  | g :: r, fr, hp, K => vgh ks g fr hp fun fr hp => vghs ks r fr hp K
theorem vghs_ok {x : Code} {K : Fr → Hp → Prop} (hσ : ∀ k, c.σ k ≠ none → k ∈ ks) (hK : ∀ fr hp, K fr hp → Tr P c x fr (look hp) Q) : ∀ {gs : List Gh} {fr : Fr} {hp : Hp}, vghs ks gs fr hp K → Tr P c x fr (look hp) Q
  | [], fr, hp, h => hK _ _ h
  | g :: r, fr, hp, h => vgh_ok hσ (fun _ _ h => vghs_ok hσ hK (gs := r) h) h
def ghAt : List (Nat × List Gh) → Nat → List Gh
  | [], _ => []
  | (k, g) :: r, id => match Nat.beq k id with
    | true => g
    | false => ghAt r id
def idsF : Fr → List Nat
  | [] => []
  | (t, _) :: r => t :: idsF r
def pruneF (ds : List Nat) : Fr → Fr
  | [] => []
  | (t, x) :: r => match nIn t ds with
    | true => pruneF ds r
    | false => (t, x) :: pruneF (t :: ds) r
def pruneH (ds : List Nat) : Hp → Hp
  | [] => []
  | (k, o) :: r => match nIn k ds with
    | true => pruneH ds r
    | false => match o with
      | some o => (k, some o) :: pruneH (k :: ds) r
      | none => pruneH (k :: ds) r
theorem pruneF_get {x : IV} {t : Nat} : ∀ {fr : Fr} {ds : List Nat}, (pruneF ds fr).get t = some x → t ∉ ds ∧ fr.get t = some x
  | [], _, h => by cases h
  | (u, y) :: r, ds, h => by
    simp only [pruneF] at h
    split at h
    · rename_i hu
      obtain ⟨h1, h2⟩ := pruneF_get h
      have : u ≠ t := fun e => h1 (e ▸ nIn_iff.1 hu)
      exact ⟨h1, by simp only [Fr.get, beq_ne this]; exact h2⟩
    · rename_i hu
      simp only [Fr.get] at h ⊢
      cases hb : Nat.beq u t with
      | true =>
        obtain rfl := Nat.eq_of_beq_eq_true hb
        rw [hb] at h
        exact ⟨nIn_false hu, h⟩
      | false =>
        rw [hb] at h
        obtain ⟨h1, h2⟩ := pruneF_get h
        exact ⟨fun hm => h1 (.tail _ hm), h2⟩
theorem pruneH_look {o : HO} {k : Nat} : ∀ {hp : Hp} {ds : List Nat}, look (pruneH ds hp) k = some o → k ∉ ds ∧ look hp k = some o
  | [], _, h => by cases h
  | (j, q) :: r, ds, h => by
    simp only [pruneH] at h
    split at h
    · rename_i hu
      obtain ⟨h1, h2⟩ := pruneH_look h
      have : j ≠ k := fun e => h1 (e ▸ nIn_iff.1 hu)
      exact ⟨h1, by rw [look_ne this]; exact h2⟩
    · rename_i hu
      split at h
      · rename_i ob
        by_cases e : j = k
        · subst e
          rw [look_hd] at h
          exact ⟨nIn_false hu, by rw [look_hd]; exact h⟩
        · rw [look_ne e] at h
          obtain ⟨h1, h2⟩ := pruneH_look h
          exact ⟨fun hm => h1 (.tail _ hm), by rw [look_ne e]; exact h2⟩
      · obtain ⟨h1, h2⟩ := pruneH_look h
        have e : j ≠ k := fun e => h1 (e ▸ .head _)
        exact ⟨fun hm => h1 (.tail _ hm), by rw [look_ne e]; exact h2⟩
def frcL {α : Type} : List α → (List α → Prop) → Prop
  | [], K => K []
  | x :: r, K => frcL r fun l => K (x :: l)
theorem frcL_ok {α : Type} : ∀ {l : List α} {K : List α → Prop}, frcL l K → K l
  | [], _, h => h
  | _ :: r, K, h => frcL_ok (l := r) (K := fun l => K (_ :: l)) h
def dstsO : List Oper → List Nat → List Nat
  | [], acc => acc
  | o :: r, acc => match o.dst with
    | some d => dstsO r (d :: acc)
    | none => dstsO r acc
def dstsC : Code → List Nat → List Nat
  | .region _ ops _, acc => dstsO ops.toList acc
  | .seq a b, acc => dstsC a (dstsC b acc)
  | .cond _ a b, acc => dstsC a (dstsC b acc)
  | .block _ x, acc => dstsC x acc
  | .loop x, acc => dstsC x acc
  | _, acc => acc
def subH (hp : Hp) : List (Nat × HO) → Prop
  | [] => True
  | (k, o) :: r => look hp k = some o ∧ subH hp r
theorem subH_mem {k : Nat} {o : HO} : ∀ {l : List (Nat × HO)}, subH hp l → (k, o) ∈ l → look hp k = some o
  | (j, q) :: r, h, hm => by
    rcases List.mem_cons.1 hm with e | hm
    · cases e; exact h.1
    · exact subH_mem h.2 hm
inductive VNext {α : Type} (F : α → Fr) (Hf : α → List (Nat × HO)) (m : α → Nat) (I : α → Prop) (a : α) (bf : Fr) (bh : Hp) (fr' : Fr) (hp' : Hp) : Prop
  | mk (b : α) (hm : m b < m a) (hI : I b) (hf : subB fr' (F b)) (hh : subH hp' (Hf b)) (tf : fr'.drop (fr'.length - bf.length) = bf) (df : disj (idsF (fr'.take (fr'.length - bf.length))) (idsF bf) = true)
    (th : hp'.drop (hp'.length - bh.length) = bh) (dh : disj (idsH (hp'.take (hp'.length - bh.length))) (idsH bh) = true)
def vround {α : Type} (f : Fr → Hp → (Exit → Fr → Hp → Prop) → Prop) (K : Exit → Fr → Hp → Prop) (F : α → Fr) (Hf : α → List (Nat × HO)) (m : α → Nat) (I : α → Prop) (bf : Fr) (bh : Hp) (a : α) : Prop :=
  appH (F a) bf fun fr => appH (up (Hf a)) bh fun hp => f fr hp fun e fr' hp' => match e with
    | .normal => VNext F Hf m I a bf bh fr' hp'
    | e => K e fr' hp'
inductive VLoop (f : Fr → Hp → (Exit → Fr → Hp → Prop) → Prop) (ds : List Nat) (fr : Fr) (hp : Hp) (K : Exit → Fr → Hp → Prop) : Prop
  | mk (α : Type) (F : α → Fr) (Hf : α → List (Nat × HO)) (m : α → Nat) (I : α → Prop) (gone : List Nat) (a0 : α) (hI : I a0) (hf : subB fr (F a0)) (hh : subH hp (Hf a0))
    (round : frcL (pruneF (idsF (F a0) ++ ds) fr) fun bf => frcL (pruneH (gone ++ (Hf a0).map (·.1)) hp) fun bh => ∀ a, I a → vround f K F Hf m I bf bh a)
theorem get_app {t : Nat} : ∀ {A B : Fr}, t ∉ idsF A → (A ++ B).get t = B.get t
  | [], _, _ => rfl
  | (u, x) :: A, B, h => by
    simp only [idsF, List.mem_cons, not_or] at h
    simp only [List.cons_append, Fr.get, beq_ne (Ne.symm h.1)]
    exact get_app h.2
theorem get_ids {t : Nat} {x : IV} : ∀ {A : Fr}, A.get t = some x → t ∈ idsF A
  | (u, y) :: A, h => by
    simp only [Fr.get] at h
    cases hb : Nat.beq u t with
    | true => obtain rfl := Nat.eq_of_beq_eq_true hb; exact .head _
    | false => rw [hb] at h; exact .tail _ (get_ids h)
theorem get_cases {t : Nat} {x : IV} : ∀ {A B : Fr}, (A ++ B).get t = some x → A.get t = some x ∨ (t ∉ idsF A ∧ B.get t = some x)
  | [], B, h => .inr ⟨by simp [idsF], h⟩
  | (u, y) :: A, B, h => by
    simp only [List.cons_append, Fr.get] at h ⊢
    cases hb : Nat.beq u t with
    | true => rw [hb] at h; exact .inl h
    | false =>
      rw [hb] at h
      have hne : u ≠ t := fun e => by subst e; simp at hb
      rcases get_cases h with h | ⟨h1, h2⟩
      · exact .inl h
      · exact .inr ⟨by simp only [idsF, List.mem_cons, not_or]; exact ⟨Ne.symm hne, h1⟩, h2⟩
theorem subB_get {t : Nat} {y : IV} : ∀ {l : Fr}, subB fr l → l.get t = some y → fr.get t = some y
  | (u, x) :: r, h, hy => by
    simp only [Fr.get] at hy
    cases hb : Nat.beq u t with
    | true => obtain rfl := Nat.eq_of_beq_eq_true hb; rw [hb] at hy; cases hy; exact h.1
    | false => rw [hb] at hy; exact subB_get h.2 hy
theorem look_ids {k : Nat} {o : HO} : ∀ {l : Hp}, look l k = some o → k ∈ l.map (·.1)
  | (j, q) :: r, h => by
    by_cases e : j = k
    · subst e; simp
    · rw [look_ne e] at h
      simp only [List.map_cons, List.mem_cons]
      exact .inr (look_ids h)
theorem VLoop.ok {f : Fr → Hp → (Exit → Fr → Hp → Prop) → Prop} {x : Code} {ds : List Nat} {K : Exit → Fr → Hp → Prop} (hx : ∀ fr hp K, f fr hp K → Tr P c x fr (look hp) (liftK K)) (h : VLoop f ds fr hp K) : Tr P c (.loop x) fr (look hp) (liftK K) := by
  obtain ⟨α, F, Hf, m, I, gone, a0, hI, hf, hh, round⟩ := h
  replace round := frcL_ok (frcL_ok round)
  have hsub0 : Sub (look hp) fr (F a0 ++ pruneF (idsF (F a0) ++ ds) fr) := fun t y hy => by
    rcases get_cases hy with h | ⟨_, h⟩
    · exact ⟨y, subB_get hf h, fun _ _ _ _ h => h⟩
    · exact ⟨y, (pruneF_get h).2, fun _ _ _ _ h => h⟩
  generalize pruneF (idsF (F a0) ++ ds) fr = bf at round hsub0
  have hheap0 : ∀ k o, look (up (Hf a0) ++ pruneH (gone ++ (Hf a0).map (·.1)) hp) k = some o → look hp k = some o := fun k o hk => by
    rw [look_app2] at hk
    split at hk
    · exact subH_mem hh (look_up_mem hk)
    · exact (pruneH_look hk).2
  generalize pruneH (gone ++ (Hf a0).map (·.1)) hp = bh at round hheap0
  refine Tr.weak hsub0 hheap0 ?_
  refine Tr.loop (fun fr σ n => ∃ a, I a ∧ m a = n ∧ fr = F a ++ bf ∧ ∀ k o, look (up (Hf a) ++ bh) k = some o → σ k = some o) (n := m a0) ⟨a0, hI, rfl, rfl, fun _ _ h => h⟩ ?_
  rintro fr1 σ1 n ⟨a, hIa, rfl, rfl, hσ⟩
  have hr := round a hIa
  replace hr := appH_ok hr
  replace hr := appH_ok hr
  have h1 := hx _ _ _ hr
  refine Tr.weak (fr' := F a ++ bf) (fun t y hy => ⟨y, hy, fun _ _ _ _ h => h⟩) hσ (Tr.mono h1 fun e fr' σ' hq => ?_)
  obtain ⟨fr2, hp2, hs, hl, hk⟩ := hq
  cases e with
  | normal =>
    obtain ⟨b, hm, hIb, hf, hh, tf, df, th, dh⟩ := hk
    refine ⟨F b ++ bf, m b, hm, fun t y hy => ?_, b, hIb, rfl, rfl, fun k o hk => ?_⟩
    · have : fr2.get t = some y := by
        rcases get_cases hy with h | ⟨_, h⟩
        · exact subB_get hf h
        · have h3 : fr2 = fr2.take (fr2.length - bf.length) ++ bf := by
            conv => lhs; rw [← List.take_append_drop (fr2.length - bf.length) fr2]
            rw [tf]
          rw [h3, get_app fun hm => disj_ok df hm (get_ids h)]
          exact h
      obtain ⟨z, hz, hr⟩ := hs t y this
      exact ⟨z, hz, hr⟩
    · refine hl k o ?_
      rw [look_app2] at hk
      split at hk
      · exact subH_mem hh (look_up_mem hk)
      · have h3 : hp2 = hp2.take (hp2.length - bh.length) ++ bh := by
          conv => lhs; rw [← List.take_append_drop (hp2.length - bh.length) hp2]
          rw [th]
        rw [h3, look_app2, if_neg]
        · exact hk
        · intro hm
          rw [← idsH_eq] at hm
          exact disj_ok dh hm (by rw [idsH_eq]; exact look_ids hk)
  | _ => exact ⟨fr2, hp2, hs, hl, hk⟩
inductive VJoin {α : Type} (F : α → Fr) (Hf : α → List (Nat × HO)) (I : α → Prop) (bf : Fr) (bh : Hp) (fr' : Fr) (hp' : Hp) : Prop
  | mk (b : α) (hI : I b) (hf : subB fr' (F b)) (hh : subH hp' (Hf b)) (tf : fr'.drop (fr'.length - bf.length) = bf) (df : disj (idsF (fr'.take (fr'.length - bf.length))) (idsF bf) = true)
    (th : hp'.drop (hp'.length - bh.length) = bh) (dh : disj (idsH (hp'.take (hp'.length - bh.length))) (idsH bh) = true)
def frontF (ds : List Nat) : Fr → Fr
  | [] => []
  | (t, x) :: r => match nIn t ds with
    | true => (t, x) :: frontF ds r
    | false => frontF ds r
def frontH (ds : List Nat) : Hp → Hp
  | [] => []
  | (k, o) :: r => match nIn k ds with
    | true => (k, o) :: frontH ds r
    | false => frontH ds r
theorem frontF_get {t : Nat} {ds : List Nat} {x : IV} : ∀ {fr : Fr}, (frontF ds fr).get t = some x → fr.get t = some x
  | (u, y) :: r, h => by
    simp only [frontF] at h
    split at h
    · simp only [Fr.get] at h ⊢
      cases hb : Nat.beq u t with
      | true => rw [hb] at h; exact h
      | false => rw [hb] at h; exact frontF_get h
    · rename_i hu
      have h2 := frontF_get h
      have ht : t ∈ ds := by
        have key : ∀ {l : Fr}, (frontF ds l).get t = some x → t ∈ ds := by
          intro l
          induction l with
          | nil => intro h; cases h
          | cons p r ih =>
            obtain ⟨u, y⟩ := p
            intro h
            simp only [frontF] at h
            split at h
            · rename_i hu
              simp only [Fr.get] at h
              cases hb : Nat.beq u t with
              | true => obtain rfl := Nat.eq_of_beq_eq_true hb; exact nIn_iff.1 hu
              | false => rw [hb] at h; exact ih h
            · exact ih h
        exact key h
      have : u ≠ t := fun e => nIn_false hu (e ▸ ht)
      simp only [Fr.get, beq_ne this]
      exact h2
theorem frontH_look {k : Nat} {ds : List Nat} : ∀ {hp : Hp}, k ∈ ds → look (frontH ds hp) k = look hp k
  | [], _ => rfl
  | (j, o) :: r, hk => by
    simp only [frontH]
    split
    · by_cases e : j = k
      · subst e; rw [look_hd, look_hd]
      · rw [look_ne e, look_ne e]; exact frontH_look hk
    · rename_i hj
      have : j ≠ k := fun e => nIn_false hj (e ▸ hk)
      rw [look_ne this]; exact frontH_look hk
theorem frontH_ids {k : Nat} {ds : List Nat} : ∀ {hp : Hp}, k ∈ (frontH ds hp).map (·.1) → k ∈ ds
  | (j, o) :: r, h => by
    simp only [frontH] at h
    split at h
    · rename_i hj
      simp only [List.map_cons, List.mem_cons] at h
      rcases h with rfl | h
      · exact nIn_iff.1 hj
      · exact frontH_ids h
    · exact frontH_ids h
inductive VCut (ds : List Nat) (x y : Fr → Hp → (Exit → Fr → Hp → Prop) → Prop) (fr : Fr) (hp : Hp) (K : Exit → Fr → Hp → Prop) : Prop
  | mk (α : Type) (F : α → Fr) (Hf : α → List (Nat × HO)) (I : α → Prop) (gone : List Nat)
    (h : frcL (pruneF ds fr) fun bf => frcL (pruneH gone hp) fun bh => appH (frontF ds fr) bf fun fr1 => appH (frontH gone hp) bh fun hp1 => (x fr1 hp1 fun e fr' hp' => match e with
      | .normal => VJoin F Hf I bf bh fr' hp'
      | e => K e fr' hp') ∧ ∀ b, I b → appH (F b) bf fun fr2 => appH (up (Hf b)) bh fun hp2 => y fr2 hp2 K)
theorem join_sub {α : Type} {F : α → Fr} {b : α} {bf fr2 : Fr} {σ : Heap'} {fr1 : Fr} (hs : Sub σ fr1 fr2) (hf : subB fr2 (F b)) (tf : fr2.drop (fr2.length - bf.length) = bf) (df : disj (idsF (fr2.take (fr2.length - bf.length))) (idsF bf) = true) : Sub σ fr1 (F b ++ bf) := fun t y hy => by
  have : fr2.get t = some y := by
    rcases get_cases hy with h | ⟨_, h⟩
    · exact subB_get hf h
    · have h3 : fr2 = fr2.take (fr2.length - bf.length) ++ bf := by
        conv => lhs; rw [← List.take_append_drop (fr2.length - bf.length) fr2]
        rw [tf]
      rw [h3, get_app fun hm => disj_ok df hm (get_ids h)]
      exact h
  exact hs t y this
theorem join_heap {l : List (Nat × HO)} {bh hp2 : Hp} (hh : subH hp2 l) (th : hp2.drop (hp2.length - bh.length) = bh) (dh : disj (idsH (hp2.take (hp2.length - bh.length))) (idsH bh) = true) (k : Nat) (o : HO) (hk : look (up l ++ bh) k = some o) : look hp2 k = some o := by
  rw [look_app2] at hk
  split at hk
  · exact subH_mem hh (look_up_mem hk)
  · have h3 : hp2 = hp2.take (hp2.length - bh.length) ++ bh := by
      conv => lhs; rw [← List.take_append_drop (hp2.length - bh.length) hp2]
      rw [th]
    rw [h3, look_app2, if_neg]
    · exact hk
    · intro hm
      rw [← idsH_eq] at hm
      exact disj_ok dh hm (by rw [idsH_eq]; exact look_ids hk)
theorem VCut.ok {x y : Fr → Hp → (Exit → Fr → Hp → Prop) → Prop} {cx cy : Code} {ds : List Nat} {K : Exit → Fr → Hp → Prop} (hx : ∀ fr hp K, x fr hp K → Tr P c cx fr (look hp) (liftK K)) (hy : ∀ fr hp K, y fr hp K → Tr P c cy fr (look hp) (liftK K)) (h : VCut ds x y fr hp K) : Tr P c (.seq cx cy) fr (look hp) (liftK K) := by
  obtain ⟨α, F, Hf, I, gone, h⟩ := h
  replace h := frcL_ok (frcL_ok h)
  replace h := appH_ok (appH_ok h)
  have hsub0 : Sub (look hp) fr (frontF ds fr ++ pruneF ds fr) := fun t y hy => by
    rcases get_cases hy with h | ⟨_, h⟩
    · exact ⟨y, frontF_get h, fun _ _ _ _ h => h⟩
    · exact ⟨y, (pruneF_get h).2, fun _ _ _ _ h => h⟩
  generalize pruneF ds fr = bf at h hsub0
  have hheap0 : ∀ k o, look (frontH gone hp ++ pruneH gone hp) k = some o → look hp k = some o := fun k o hk => by
    rw [look_app2] at hk
    split at hk
    · rename_i hm; rw [frontH_look (frontH_ids hm)] at hk; exact hk
    · exact (pruneH_look hk).2
  generalize pruneH gone hp = bh at h hheap0
  obtain ⟨h1, h2⟩ := h
  refine Tr.weak hsub0 hheap0 ?_
  refine Tr.seq (Tr.mono (hx _ _ _ h1) fun e fr' σ' hq => ?_)
  obtain ⟨fr2, hp2, hs, hl, hk⟩ := hq
  cases e with
  | normal =>
    obtain ⟨b, hI, hf, hh, tf, df, th, dh⟩ := hk
    have h3 := h2 b hI
    replace h3 := appH_ok h3
    replace h3 := appH_ok h3
    exact Tr.weak (join_sub hs hf tf df) (fun k o hk => hl k o (join_heap hh th dh k o hk)) (hy _ _ _ h3)
  | _ => exact ⟨fr2, hp2, hs, hl, hk⟩
def VcT : Type := Fr → Hp → (Exit → Fr → Hp → Prop) → Prop
def vcNo : VcT := fun _ _ _ => False
def vcSkip : VcT := fun fr hp K => K .normal fr hp
def vcReg (T : TB P) (H : Hn) (Rl ks : List Nat) (nt id : Nat) (ops : Array Oper) (draw : Bool) : VcT := fun fr hp K =>
  vghs ks (ghAt H.gh id) fr hp fun fr hp => vops T H Rl ks nt id ops draw ops.toList 0 [] fr hp (K .normal)
def vcSeq (a b : VcT) : VcT := fun fr hp K => a fr hp fun e fr hp => match e with
  | .normal => b fr hp K
  | e => K e fr hp
def firstId : Code → Nat
  | .region id _ _ => id
  | .seq a _ => firstId a
  | .block _ x => firstId x
  | .loop x => firstId x
  | _ => 1000000
def vcSeqJ (H : Hn) (ca cb : Code) (a b : VcT) : VcT := match nIn (firstId cb) H.jn with
  | true => fun fr hp K => VCut (dstsC ca []) a b fr hp K
  | false => vcSeq a b
def vcCond (x : Operand) (a b : VcT) : VcT := fun fr hp K => vev fr x fun v => match v with
  | .pv (.val (.bool t)) => bsel t (a fr hp K) (b fr hp K)
  | _ => False
def vcBlock (id : Nat) (x : VcT) : VcT := fun fr hp K => x fr hp fun e fr hp => match e with
  | .exit id' => match Nat.beq id' id with
    | true => K .normal fr hp
    | false => K (.exit id') fr hp
  | e => K e fr hp
def vcLoop (c : Code) (x : VcT) : VcT := fun fr hp K => VLoop x (dstsC c []) fr hp K
def vcExit (id : Nat) : VcT := fun fr hp K => K (.exit id) fr hp
def vcRet : VcT := fun fr hp K => K .ret fr hp
def vc (T : TB P) (H : Hn) (Rl ks : List Nat) (nt : Nat) (c : Code) : VcT :=
  Code.rec (motive := fun _ => VcT) vcSkip (fun id ops draw => vcReg T H Rl ks nt id ops draw) (fun ca cb a b => vcSeqJ H ca cb a b) (fun x _ _ a b => vcCond x a b) (fun id _ x => vcBlock id x) (fun c x => vcLoop c x)
    (fun _ _ _ _ _ _ => vcNo) (fun id => vcExit id) (fun _ _ => vcNo) (fun _ => vcNo) (fun _ => vcNo) vcRet (fun _ => vcNo) c
theorem vc_ok (hn : c.n = nt) (hR : ∀ k, c.R k → k ∈ Rl) (hσ : ∀ k, c.σ k ≠ none → k ∈ ks) : ∀ (x : Code) {fr : Fr} {hp : Hp} {K : Exit → Fr → Hp → Prop}, vc T H Rl ks nt x fr hp K → Tr P c x fr (look hp) (liftK K)
  | .skip, fr, hp, K, h => Tr.skip (liftK_mk (fun _ => rfl) h)
  | .region id ops draw, fr, hp, K, h => vghs_ok hσ (fun fr hp h => region_ok hn hR hσ (fun _ _ h => h) h) h
  | .seq a b, fr, hp, K, h => by
    replace h : vcSeqJ H a b (Go.Proofs.YtahpinmlgnfklaaGreatDoor.vc T H Rl ks nt a) (Go.Proofs.YtahpinmlgnfklaaGreatDoor.vc T H Rl ks nt b) fr hp K := h
    cases hj : nIn (firstId b) H.jn with
    | true =>
      simp only [vcSeqJ, hj] at h
      exact VCut.ok (fun fr hp K h => vc_ok hn hR hσ a h) (fun fr hp K h => vc_ok hn hR hσ b h) h
    | false =>
    simp only [vcSeqJ, hj] at h
    refine Tr.seq (Tr.mono (vc_ok hn hR hσ a h) fun e fr' σ' hq => ?_)
    obtain ⟨fr2, hp2, hs, hl, hk⟩ := hq
    cases e with
    | normal => exact Tr.weak hs hl (vc_ok hn hR hσ b hk)
    | _ => exact ⟨fr2, hp2, hs, hl, hk⟩
  | .cond x a b, fr, hp, K, h => by
    obtain ⟨v, hv, h⟩ := vev_ok h
    split at h
    · rename_i t
      refine Tr.cond hv (fun ht => ?_) fun ht => ?_
      · subst ht; exact vc_ok hn hR hσ a h
      · subst ht; exact vc_ok hn hR hσ b h
    · exact h.elim
  | .block id x, fr, hp, K, h => by
    refine Tr.block (Tr.mono (vc_ok hn hR hσ x h) fun e fr' σ' hq => ?_)
    obtain ⟨fr2, hp2, hs, hl, hk⟩ := hq
    cases e with
    | exit id' =>
      simp only [blockQ]
      simp only at hk
      split at hk
      · rename_i hb; rw [hb]; exact ⟨fr2, hp2, hs, hl, hk⟩
      · rename_i hb; rw [hb]; exact ⟨fr2, hp2, hs, hl, hk⟩
    | _ => exact ⟨fr2, hp2, hs, hl, hk⟩
  | .loop x, fr, hp, K, h => VLoop.ok (f := Go.Proofs.YtahpinmlgnfklaaGreatDoor.vc T H Rl ks nt x) (fun fr hp K h => vc_ok hn hR hσ x h) h
  | .exit id, fr, hp, K, h => Tr.exit (liftK_mk (fun _ => rfl) h)
  | .ret, fr, hp, K, h => Tr.ret (liftK_mk (fun _ => rfl) h)
  | .scope _, _, _, _, h => h.elim
  | .rangeFunc .., _, _, _, h => h.elim
  | .label _, _, _, _, h => h.elim
  | .goto _, _, _, _, h => h.elim
  | .refuse _, _, _, _, h => h.elim
def SubI (x y : IV) : Prop := ∀ F ρ σ w v, RepI F ρ σ w x v → RepI F ρ σ w y v
theorem sI {x : IV} : SubI x x := fun _ _ _ _ _ h => h
theorem sE {x y : IV} (h : x = y) : SubI x y := fun _ _ _ _ _ hv => h ▸ hv
inductive VEnd (x r : IV) (post : List (Nat × HO)) (hp : Hp) : Prop
  | mk (hr : SubI x r) (hh : subH hp post)
def vend (T : TB P) (rs : List ResultVar) (r : IV) (post : List (Nat × HO)) (fr : Fr) (hp : Hp) : Prop := match rs with
  | [] => VEnd (.tup []) r post hp
  | [.tmp t] => vopt (fr.get t) fun x => VEnd x r post hp
  | [.tmp t, .tmp u] => vopt (fr.get t) fun x => vopt (fr.get u) fun y => VEnd (.tup [x, y]) r post hp
  | [.tmp t, .tmp u, .tmp v] => vopt (fr.get t) fun x => vopt (fr.get u) fun y => vopt (fr.get v) fun z => VEnd (.tup [x, y, z]) r post hp
  | [.cell q t] => vLoad T t fr hp (.tmp q) fun s => match s with
    | ⟨x, _, _, _⟩ => VEnd x r post hp
  | [.cell q t, .tmp b] => vLoad T t fr hp (.tmp q) fun s => match s with
    | ⟨x, _, _, _⟩ => vopt (fr.get b) fun y => VEnd (.tup [x, y]) r post hp
  | _ => False
def vret (T : TB P) (rs : List ResultVar) (r : IV) (post : List (Nat × HO)) : Exit → Fr → Hp → Prop
  | .ret, fr, hp => vend T rs r post fr hp
  | .normal, fr, hp => vend T rs r post fr hp
  | _, _, _ => False
theorem vLoad_okV {t : Nat} {y : Operand} {K : Stp → Prop} (h : vLoad T t fr hp y K) : ∃ x rd, K ⟨x, [], rd, []⟩ ∧ ∀ (c : Cx) (o : Oper), o.op = .load t y → OkV P c (fun _ => True) o fr (look hp) x := by
  obtain ⟨a, ea, h⟩ := vev_ok h
  replace h := vti_ok h
  obtain ⟨e, he, h⟩ := h
  obtain ⟨d, hd, hi⟩ := te_und he
  have hrow := TI.is_row hi
  split at h
  · split at h
    · rename_i hr
      replace h := vopt_ok h
      obtain ⟨z, hz, h⟩ := h
      exact ⟨_, _, h, fun c o ho => ok_load_ept ho ea hd (hrow.trans hr) hz⟩
    · rename_i hr
      replace h := vtest_ok h
      obtain ⟨hn, h⟩ := h
      exact ⟨_, _, frcP_ok (K := fun l => K ⟨.pv (.agg l), [], [], []⟩) h, fun c o ho => ok_load_ept_agg ho ea hd (hrow.trans hr) (te_size he) (Nat.le_of_ble_eq_true hn)⟩
  · replace h := vbox_ok h
    obtain ⟨cs, hk, h⟩ := h
    split at h
    · rename_i hr
      replace h := vopt_ok h
      obtain ⟨z, hz, h⟩ := h
      exact ⟨_, _, h, fun c o ho => ok_load_box ho ea hk hd (hrow.trans hr) hz trivial⟩
    · rename_i hr
      replace h := vtest_ok h
      obtain ⟨hn, h⟩ := h
      split at h
      · rename_i ps hps
        exact ⟨_, _, frcP_ok (K := fun l => K ⟨.pv (.agg l), [], [_], []⟩) h, fun c o ho => ok_load_box_pure ho ea hk hd (hrow.trans hr) (te_size he) (Nat.le_of_ble_eq_true hn) hps trivial⟩
      · exact ⟨_, _, frcI_ok (K := fun l => K ⟨.agg l, [], [_], []⟩) h, fun c o ho => ok_load_box_agg ho ea hk hd (hrow.trans hr) (te_size he) (Nat.le_of_ble_eq_true hn) trivial⟩
  · replace h := vrow_ok h
    obtain ⟨s, els, hk, h⟩ := h
    split at h
    · rename_i hr
      obtain ⟨hn, hoff, h1, h2, h⟩ := h
      exact ⟨_, _, h, fun c o ho => ok_load_row ho ea hk hn hoff h1 h2 hd (hrow.trans hr) trivial⟩
    · rename_i hr
      replace h := vtest_ok h
      obtain ⟨hq, h⟩ := h
      obtain ⟨hn, hoff, h1, h⟩ := h
      exact ⟨_, _, h, fun c o ho => ok_load_row_agg ho ea hk hn hoff h1 hd (hrow.trans hr) (by rw [te_size he, Nat.eq_of_beq_eq_true hq]) trivial⟩
  · exact h.elim
theorem vend_ok {fn : Func} {r : IV} {post : List (Nat × HO)} (h : vend T fn.results.toList r post fr hp) : (∀ k o, look (up post) k = some o → look hp k = some o) ∧ ∀ (c : Cx) ρ w a, All c ρ (look hp) w fr a → ∃ v, (results fn a.tmps).run P w = .ok v w ∧ RepI c.F ρ (look hp) w r v := by
  have fin : ∀ {x : IV}, VEnd x r post hp → (∀ (c : Cx) ρ w a, All c ρ (look hp) w fr a → ∃ v, (results fn a.tmps).run P w = .ok v w ∧ RepI c.F ρ (look hp) w x v) → (∀ k o, look (up post) k = some o → look hp k = some o) ∧ ∀ (c : Cx) ρ w a, All c ρ (look hp) w fr a → ∃ v, (results fn a.tmps).run P w = .ok v w ∧ RepI c.F ρ (look hp) w r v := by
    rintro x ⟨hr, hh⟩ hx
    exact ⟨fun k o hk => subH_mem hh (look_up_mem hk), fun c ρ w a ha => by
      obtain ⟨v, h1, h2⟩ := hx c ρ w a ha
      exact ⟨v, h1, hr _ _ _ _ _ h2⟩⟩
  have tmps : ∀ {x : IV}, resOf fn fr = some x → ∀ (c : Cx) ρ w a, All c ρ (look hp) w fr a → ∃ v, (results fn a.tmps).run P w = .ok v w ∧ RepI c.F ρ (look hp) w x v := fun hx c ρ w a ha => results_ok (P := P) ha hx
  have arr : ∀ {l : List ResultVar}, fn.results.toList = l → fn.results = l.toArray := fun hl => by rw [← hl]
  unfold vend at h
  split at h
  · rename_i hl; exact fin h (tmps (by simp [resOf, hl]))
  · rename_i t hl
    obtain ⟨x, hx, h⟩ := vopt_ok h
    exact fin h (tmps (by simp [resOf, hl, hx]))
  · rename_i t u hl
    obtain ⟨x, hx, h⟩ := vopt_ok h
    obtain ⟨y, hy, h⟩ := vopt_ok h
    exact fin h (tmps (by simp [resOf, hl, hx, hy]))
  · rename_i t u v hl
    obtain ⟨x, hx, h⟩ := vopt_ok h
    obtain ⟨y, hy, h⟩ := vopt_ok h
    obtain ⟨z, hz, h⟩ := vopt_ok h
    exact fin h (tmps (by simp [resOf, hl, hx, hy, hz]))
  · rename_i q t hl
    obtain ⟨x, rd, h, hv⟩ := vLoad_okV h
    refine fin h fun c ρ w a ha => ?_
    obtain ⟨v, ad, h1, h2, h3⟩ := resC_ok ha (fun c o ho => hv c o ho)
    refine ⟨v, ?_, h3⟩
    simp [results, arr hl, h1, h2, Sem.run_bind]
  · rename_i q t b hl
    obtain ⟨x, rd, h, hv⟩ := vLoad_okV h
    obtain ⟨y, hy, h⟩ := vopt_ok h
    refine fin h fun c ρ w a ha => ?_
    obtain ⟨v, ad, h1, h2, h3⟩ := resC_ok ha (fun c o ho => hv c o ho)
    obtain ⟨v', hv', h1'⟩ := ha.fr b y hy
    refine ⟨.tuple #[v, v'], ?_, tup_two h3 h1'⟩
    simp [results, arr hl, h1, h2, hv', Sem.run_bind]
  · exact h.elim
theorem retL_ok {fn : Func} {r : IV} {post : List (Nat × HO)} {e : Exit} {fr : Fr} {σ : Heap'} (h : liftK (vret T fn.results.toList r post) e fr σ) : (e = .ret ∨ e = .normal) ∧ (∀ k o, look (up post) k = some o → σ k = some o) ∧ ∀ (c : Cx) ρ w a, All c ρ σ w fr a → ∃ v ρ', (results fn a.tmps).run P w = .ok v w ∧ All c ρ' (look (up post)) w fr a ∧ RepI c.F ρ' (look (up post)) w r v := by
  obtain ⟨fr2, hp2, hs, hl, hk⟩ := h
  have key : vend T fn.results.toList r post fr2 hp2 → (∀ k o, look (up post) k = some o → σ k = some o) ∧ ∀ (c : Cx) ρ w a, All c ρ σ w fr a → ∃ v ρ', (results fn a.tmps).run P w = .ok v w ∧ All c ρ' (look (up post)) w fr a ∧ RepI c.F ρ' (look (up post)) w r v := fun hk => by
    obtain ⟨h1, h2⟩ := vend_ok hk
    refine ⟨fun k o hk => hl k o (h1 k o hk), fun c ρ w a ha => ?_⟩
    obtain ⟨ρ1, ha1, keep1⟩ := ha.restrict hl
    obtain ⟨ρ2, ha2, keep2⟩ := ha1.restrict h1
    have hsub : All c ρ1 (look hp2) w fr2 a := ⟨ha1.rel, fun t y hy => by
      obtain ⟨x, hx, hr⟩ := hs t y hy
      obtain ⟨v, hv, h3⟩ := ha.fr t x hx
      exact ⟨v, hv, keep1 _ _ (hr _ _ _ _ h3)⟩, ha1.tr, ha1.df, ha1.sz, ha1.kk⟩
    obtain ⟨v, hv, h4⟩ := h2 c ρ1 w a hsub
    exact ⟨v, ρ2, hv, ha2, keep2 _ _ h4⟩
  cases e with
  | ret => exact ⟨.inl rfl, key hk⟩
  | normal => exact ⟨.inr rfl, key hk⟩
  | _ => exact hk.elim
theorem SC.vc {f : FuncId} {fn : Func} {code : Code} {args : List IV} {pre post : List (Nat × HO)} {r : IV} (T : TB P) (H : Hn) (Rl : List Nat) (hf : P.funcs[f]? = some fn) (hb : fn.body = some code) (hn : Nat.ble args.length fn.ntmps = true)
    (h : Go.Proofs.YtahpinmlgnfklaaGreatDoor.vc T H Rl (pre.map (·.1)) fn.ntmps code (frOf 0 args) (up pre) (vret T fn.results.toList r post)) : SC P f args pre (fun k => k ∈ Rl) r post := by
  intro F ρ w vs hkept hrel hargs
  refine calls_of_wp hf hb ?_
  have ha : All ⟨F, fun k => k ∈ Rl, ρ, look (up pre), w, fn.ntmps⟩ ρ (look (up pre)) w (frOf 0 args) { tmps := vs.toArray ++ Array.replicate (fn.ntmps - vs.toArray.size) undef, defers := [] } := by
    refine ⟨hrel, fun t x hx => ?_, .refl _ _ _ _ _, rfl, ?_, hkept⟩
    · obtain ⟨v, hv, hr⟩ := hargs.2 t x (by simpa using (frOf_get hx).2)
      refine ⟨v, ?_, hr⟩
      rw [Array.getElem?_append_left (by simpa using (List.getElem?_eq_some_iff.1 hv).1)]
      simpa using hv
    · have := hargs.1
      have := Nat.le_of_ble_eq_true hn
      simp; omega
  have hσ : ∀ k, look (up pre) k ≠ none → k ∈ pre.map (·.1) := fun k hk => by
    refine Classical.byContradiction fun hn => hk (look_up_none.2 hn)
  refine wp_mono (vc_ok (c := ⟨F, fun k => k ∈ Rl, ρ, look (up pre), w, fn.ntmps⟩) rfl (fun _ h => h) hσ code h ρ w _ ha) fun e a' w' hq => ?_
  obtain ⟨ρ', σ', fr', ha', hq⟩ := hq
  obtain ⟨he, _, hres⟩ := retL_ok hq
  obtain ⟨v, ρ'', hv, ha'', h1⟩ := hres _ ρ' w' a' ha'
  rcases he with rfl | rfl
  · exact ⟨ha'.df, v, hv, ρ'', v, rfl, h1, ha''.rel, ha''.tr⟩
  · exact ⟨ha'.df, v, hv, ρ'', v, rfl, h1, ha''.rel, ha''.tr⟩
end
theorem slq {k m n : Nat} (h : m = n) : some (IV.sl k m) = some (IV.sl k n) := h ▸ rfl
theorem rwq {s : RT} {a b : List (List PV)} (h : a = b) : some (HO.row s a) = some (HO.row s b) := h ▸ rfl
theorem mpq {a b : List (Value × PV)} (h : a = b) : some (HO.map a) = some (HO.map b) := h ▸ rfl
theorem at_lt {α : Type} {l : List α} {k : Nat} (h : k < l.length) : ∃ x, l[k]? = some x ∧ l.take (k + 1) = l.take k ++ [x] ∧ l.drop k = x :: l.drop (k + 1) ∧ x ∈ l :=
  ⟨l[k], List.getElem?_eq_getElem h, by rw [List.take_append_getElem], List.drop_eq_getElem_cons h, List.getElem_mem h⟩
theorem lt_of {l : List (List PV)} {α : Type} {f : α → List PV} {a : List α} {k : Nat} (hl : l = a.map f) (h : decide ((k : Int) < l.length) = true) : k < a.length := by subst hl; simpa using h
theorem ge_of {l : List (List PV)} {α : Type} {f : α → List PV} {a : List α} {k : Nat} (hl : l = a.map f) (h : decide ((k : Int) < l.length) = false) : a.length ≤ k := by subst hl; simpa using h
theorem at0 {α : Type} {a : α} {r : List α} : (a :: r)[0]? = some a := rfl
theorem at1 {α : Type} {a b : α} {r : List α} : (a :: b :: r)[1]? = some b := rfl
theorem step_lt {n k : Nat} (h : k < n) : n - (k + 1) < n - k := by omega
theorem sN : SubI (.pv (.val (.slice none 0 0))) (.pv (.seq [])) := fun _ _ _ _ _ h => nil_seq h
theorem SubA.cons {x y : IV} {xs ys : List IV} (h : SubI x y) (hs : SubA xs ys) : SubA (x :: xs) (y :: ys) := fun σ => Subs.cons (fun _ _ _ _ hv => h _ _ _ _ _ hv) (hs σ)
theorem SubA.same {x : IV} {xs ys : List IV} (hs : SubA xs ys) : SubA (x :: xs) (x :: ys) := SubA.cons sI hs
theorem SubA.nil : SubA [] [] := sR
theorem sP {p q : PV} (h : PSub p q) : SubI (.pv p) (.pv q) := fun _ _ _ _ _ hv => sub_pv h hv
def tabE : List (Nat × TE) := [(2, ⟨.int .i64, 1, 8, [.int .i64]⟩),
  (3, ⟨.int .i64, 1, 8, [.int .i64]⟩),
  (4, ⟨.bool, 1, 1, [.bool]⟩),
  (5, ⟨.int .u8, 1, 1, [.int .u8]⟩),
  (6, ⟨.int .u8, 1, 1, [.int .u8]⟩),
  (7, ⟨.struct [(0, 2), (1, 3), (2, 4), (3, 6)], 4, 24, [.int .i64, .int .i64, .bool, .int .u8]⟩),
  (8, ⟨.struct [(0, 2), (1, 3), (2, 4), (3, 6)], 4, 24, [.int .i64, .int .i64, .bool, .int .u8]⟩),
  (9, ⟨.str, 1, 16, [.str]⟩),
  (10, ⟨.str, 1, 16, [.str]⟩),
  (11, ⟨.str, 1, 16, [.str]⟩),
  (12, ⟨.int .u64, 1, 8, [.int .u64]⟩),
  (13, ⟨.struct [(0, 9), (1, 12)], 2, 24, [.str, .int .u64]⟩),
  (14, ⟨.struct [(0, 9), (1, 12)], 2, 24, [.str, .int .u64]⟩),
  (15, ⟨.one, 1, 8, [.ptr]⟩),
  (16, ⟨.one, 1, 8, [.ptr]⟩),
  (17, ⟨.one, 1, 8, [.ptr]⟩),
  (18, ⟨.struct [(0, 17)], 1, 8, [.ptr]⟩),
  (19, ⟨.struct [(0, 17)], 1, 8, [.ptr]⟩),
  (21, ⟨.int .i32, 1, 4, [.int .i32]⟩),
  (22, ⟨.slice 46, 1, 24, [.slice]⟩),
  (23, ⟨.slice 41, 1, 24, [.slice]⟩),
  (24, ⟨.struct [(0, 22), (1, 23)], 2, 48, [.slice, .slice]⟩),
  (25, ⟨.struct [(0, 22), (1, 23)], 2, 48, [.slice, .slice]⟩),
  (28, ⟨.int .i64, 1, 8, [.int .i64]⟩),
  (32, ⟨.slice 5, 1, 24, [.slice]⟩),
  (35, ⟨.slice 3, 1, 24, [.slice]⟩),
  (36, ⟨.slice 39, 1, 24, [.slice]⟩),
  (37, ⟨.struct [(0, 3), (1, 3), (2, 3), (3, 9), (4, 35), (5, 35), (6, 35), (7, 36)], 8, 136, [.int .i64, .int .i64, .int .i64, .str, .slice, .slice, .slice, .slice]⟩),
  (38, ⟨.struct [(0, 3), (1, 3), (2, 3), (3, 9), (4, 35), (5, 35), (6, 35), (7, 36)], 8, 136, [.int .i64, .int .i64, .int .i64, .str, .slice, .slice, .slice, .slice]⟩),
  (39, ⟨.slice 38, 1, 24, [.slice]⟩),
  (40, ⟨.struct [(0, 9), (1, 3), (2, 3), (3, 35), (4, 39)], 5, 80, [.str, .int .i64, .int .i64, .slice, .slice]⟩),
  (41, ⟨.struct [(0, 9), (1, 3), (2, 3), (3, 35), (4, 39)], 5, 80, [.str, .int .i64, .int .i64, .slice, .slice]⟩),
  (45, ⟨.struct [(0, 9), (1, 3)], 2, 24, [.str, .int .i64]⟩),
  (46, ⟨.struct [(0, 9), (1, 3)], 2, 24, [.str, .int .i64]⟩),
  (50, ⟨.one, 1, 8, [.ptr]⟩),
  (51, ⟨.one, 1, 8, [.ptr]⟩),
  (52, ⟨.struct [(0, 51), (1, 32)], 2, 32, [.ptr, .slice]⟩),
  (53, ⟨.struct [(0, 51), (1, 32)], 2, 32, [.ptr, .slice]⟩),
  (54, ⟨.struct [(0, 53)], 2, 32, [.ptr, .slice]⟩),
  (55, ⟨.struct [(0, 53)], 2, 32, [.ptr, .slice]⟩),
  (62, ⟨.one, 1, 8, [.ptr]⟩),
  (63, ⟨.struct [(0, 32), (1, 3), (2, 35), (3, 3)], 4, 64, [.slice, .int .i64, .slice, .int .i64]⟩),
  (64, ⟨.struct [(0, 32), (1, 3), (2, 35), (3, 3)], 4, 64, [.slice, .int .i64, .slice, .int .i64]⟩),
  (69, ⟨.slice 9, 1, 24, [.slice]⟩),
  (78, ⟨.one, 1, 8, [.ptr]⟩),
  (85, ⟨.struct [(0, 4), (1, 4), (2, 35), (3, 35), (4, 35)], 5, 80, [.bool, .bool, .slice, .slice, .slice]⟩),
  (86, ⟨.struct [(0, 4), (1, 4), (2, 35), (3, 35), (4, 35)], 5, 80, [.bool, .bool, .slice, .slice, .slice]⟩),
  (87, ⟨.map 9 3, 1, 8, [.map]⟩),
  (91, ⟨.one, 1, 8, [.ptr]⟩),
  (92, ⟨.struct [(0, 25), (2, 41), (7, 35)], 8, 152, [.slice, .slice, .str, .int .i64, .int .i64, .slice, .slice, .slice]⟩),
  (93, ⟨.struct [(0, 25), (2, 41), (7, 35)], 8, 152, [.slice, .slice, .str, .int .i64, .int .i64, .slice, .slice, .slice]⟩),
  (95, ⟨.struct [(0, 4), (1, 4), (2, 35), (3, 35), (4, 35)], 5, 80, [.bool, .bool, .slice, .slice, .slice]⟩),
  (96, ⟨.struct [(0, 4), (1, 4), (2, 35), (3, 35), (4, 35)], 5, 80, [.bool, .bool, .slice, .slice, .slice]⟩),
  (97, ⟨.int .u64, 1, 8, [.int .u64]⟩),
  (104, ⟨.map 3 9, 1, 8, [.map]⟩),
  (107, ⟨.one, 1, 8, [.ptr]⟩),
  (108, ⟨.slice 4, 1, 24, [.slice]⟩),
  (109, ⟨.struct [(0, 25), (2, 41), (7, 108)], 8, 152, [.slice, .slice, .str, .int .i64, .int .i64, .slice, .slice, .slice]⟩),
  (110, ⟨.struct [(0, 25), (2, 41), (7, 108)], 8, 152, [.slice, .slice, .str, .int .i64, .int .i64, .slice, .slice, .slice]⟩),
  (112, ⟨.struct [(0, 4), (1, 4), (2, 35), (3, 35), (4, 35)], 5, 80, [.bool, .bool, .slice, .slice, .slice]⟩),
  (128, ⟨.int .u32, 1, 4, [.int .u32]⟩),
  (131, ⟨.int .u64, 1, 8, [.int .u64]⟩),
  (134, ⟨.arr 24 5, 24, 24, [.int .u8, .int .u8, .int .u8, .int .u8, .int .u8, .int .u8, .int .u8, .int .u8, .int .u8, .int .u8, .int .u8, .int .u8, .int .u8, .int .u8, .int .u8, .int .u8, .int .u8, .int .u8, .int .u8, .int .u8, .int .u8, .int .u8, .int .u8, .int .u8]⟩),
  (150, ⟨.arr 20 131, 20, 160, [.int .u64, .int .u64, .int .u64, .int .u64, .int .u64, .int .u64, .int .u64, .int .u64, .int .u64, .int .u64, .int .u64, .int .u64, .int .u64, .int .u64, .int .u64, .int .u64, .int .u64, .int .u64, .int .u64, .int .u64]⟩),
  (151, ⟨.arr 65 5, 65, 65, [.int .u8, .int .u8, .int .u8, .int .u8, .int .u8, .int .u8, .int .u8, .int .u8, .int .u8, .int .u8, .int .u8, .int .u8, .int .u8, .int .u8, .int .u8, .int .u8, .int .u8, .int .u8, .int .u8, .int .u8, .int .u8, .int .u8, .int .u8, .int .u8, .int .u8, .int .u8, .int .u8, .int .u8, .int .u8, .int .u8, .int .u8, .int .u8, .int .u8, .int .u8, .int .u8, .int .u8, .int .u8, .int .u8, .int .u8, .int .u8, .int .u8, .int .u8, .int .u8, .int .u8, .int .u8, .int .u8, .int .u8, .int .u8, .int .u8, .int .u8, .int .u8, .int .u8, .int .u8, .int .u8, .int .u8, .int .u8, .int .u8, .int .u8, .int .u8, .int .u8, .int .u8, .int .u8, .int .u8, .int .u8, .int .u8]⟩),
  (153, ⟨.struct [(0, 9), (1, 3)], 2, 24, [.str, .int .i64]⟩),
  (154, ⟨.struct [(0, 9), (1, 3)], 2, 24, [.str, .int .i64]⟩),
  (158, ⟨.map 3 3, 1, 8, [.map]⟩),
  (165, ⟨.arr 29 154, 58, 696, [.str, .int .i64, .str, .int .i64, .str, .int .i64, .str, .int .i64, .str, .int .i64, .str, .int .i64, .str, .int .i64, .str, .int .i64, .str, .int .i64, .str, .int .i64, .str, .int .i64, .str, .int .i64, .str, .int .i64, .str, .int .i64, .str, .int .i64, .str, .int .i64, .str, .int .i64, .str, .int .i64, .str, .int .i64, .str, .int .i64, .str, .int .i64, .str, .int .i64, .str, .int .i64, .str, .int .i64, .str, .int .i64, .str, .int .i64, .str, .int .i64, .str, .int .i64, .str, .int .i64]⟩),
  (175, ⟨.arr 32 5, 32, 32, [.int .u8, .int .u8, .int .u8, .int .u8, .int .u8, .int .u8, .int .u8, .int .u8, .int .u8, .int .u8, .int .u8, .int .u8, .int .u8, .int .u8, .int .u8, .int .u8, .int .u8, .int .u8, .int .u8, .int .u8, .int .u8, .int .u8, .int .u8, .int .u8, .int .u8, .int .u8, .int .u8, .int .u8, .int .u8, .int .u8, .int .u8, .int .u8]⟩),
  (176, ⟨.arr 64 5, 64, 64, [.int .u8, .int .u8, .int .u8, .int .u8, .int .u8, .int .u8, .int .u8, .int .u8, .int .u8, .int .u8, .int .u8, .int .u8, .int .u8, .int .u8, .int .u8, .int .u8, .int .u8, .int .u8, .int .u8, .int .u8, .int .u8, .int .u8, .int .u8, .int .u8, .int .u8, .int .u8, .int .u8, .int .u8, .int .u8, .int .u8, .int .u8, .int .u8, .int .u8, .int .u8, .int .u8, .int .u8, .int .u8, .int .u8, .int .u8, .int .u8, .int .u8, .int .u8, .int .u8, .int .u8, .int .u8, .int .u8, .int .u8, .int .u8, .int .u8, .int .u8, .int .u8, .int .u8, .int .u8, .int .u8, .int .u8, .int .u8, .int .u8, .int .u8, .int .u8, .int .u8, .int .u8, .int .u8, .int .u8, .int .u8]⟩),
  (178, ⟨.struct [(0, 17), (1, 17), (2, 17), (3, 9)], 4, 40, [.ptr, .ptr, .ptr, .str]⟩),
  (179, ⟨.struct [(0, 17), (1, 17), (2, 17), (3, 9)], 4, 40, [.ptr, .ptr, .ptr, .str]⟩),
  (180, ⟨.arr 0 16, 0, 0, []⟩),
  (181, ⟨.struct [(0, 180)], 0, 0, []⟩),
  (182, ⟨.struct [(0, 180)], 0, 0, []⟩),
  (183, ⟨.int .u8, 1, 1, [.int .u8]⟩),
  (184, ⟨.int .u8, 1, 1, [.int .u8]⟩),
  (186, ⟨.int .i32, 1, 4, [.int .i32]⟩),
  (187, ⟨.int .i32, 1, 4, [.int .i32]⟩),
  (188, ⟨.struct [(0, 12), (1, 12), (2, 128), (3, 183), (4, 5), (5, 5), (6, 184), (7, 185), (8, 78), (9, 186), (10, 187)], 11, 48, [.int .u64, .int .u64, .int .u32, .int .u8, .int .u8, .int .u8, .int .u8, .fn, .ptr, .int .i32, .int .i32]⟩),
  (189, ⟨.struct [(0, 12), (1, 12), (2, 128), (3, 183), (4, 5), (5, 5), (6, 184), (7, 185), (8, 78), (9, 186), (10, 187)], 11, 48, [.int .u64, .int .u64, .int .u32, .int .u8, .int .u8, .int .u8, .int .u8, .fn, .ptr, .int .i32, .int .i32]⟩)]
def tabN : List Nat := [2, 3, 4, 5, 6, 7, 8, 9, 10, 11, 12, 13, 14, 15, 16, 17, 18, 19, 20, 21, 22, 23, 24, 25, 26, 27, 28, 29, 30, 31, 32, 33, 34, 35, 36, 37, 38, 39, 40, 41, 42, 43, 44, 45, 46, 47, 48, 49, 50, 51, 52, 53, 54, 55, 56, 57, 58, 59, 60, 61, 62, 63, 64, 65, 66, 67, 68, 69, 70, 71, 72, 73, 74, 75, 76, 77, 78, 79, 80, 81, 83, 84, 85, 86, 87, 88, 89, 90, 91, 92, 93, 94, 95, 96, 97, 98, 99, 100, 101, 102, 103, 104, 105, 106, 107, 108, 109, 110, 111, 112, 114, 115, 116, 117, 118, 119, 120, 121, 122, 123, 124, 125, 126, 127, 128, 129, 130, 131, 132, 133, 134, 135, 136, 137, 138, 139, 140, 141, 142, 143, 144, 145, 146, 147, 148, 149, 150, 151, 174]
theorem tabE_ok : tAll Tryz.prog tabE = true := by kernel_rfl
theorem tabN_ok : entAll Tryz.prog tabN = true := by kernel_rfl
def tb : TB Tryz.prog := mkTB Tryz.prog tabE tabN tabE_ok tabN_ok (by kernel_rfl)
section
structure Gn where
  pos : Nat
  types : List Int
  left : Nat
structure Plc where
  If : Bool
  Loop : Bool
  Yield : List Int
  Next : List Int
  Left : List Int
section
variable (l : List UInt8)
end
end
structure Rs where
  ins : List Int
  ar : List (List Int)
  st : Int
  code : Int
  out : List Int
  cost : Int
  fuel : Int
  spent : Bool
theorem mixed : Tryz.prog.follows .mixedOrders = true := by kernel_rfl
theorem tS3 : (Tryz.prog.info? 3).map (·.size) = some 1 := by kernel_rfl
theorem tS4 : (Tryz.prog.info? 4).map (·.size) = some 1 := by kernel_rfl
theorem tS25 : (Tryz.prog.info? 25).map (·.size) = some 2 := by kernel_rfl
theorem tS38 : (Tryz.prog.info? 38).map (·.size) = some 8 := by kernel_rfl
theorem tS39 : (Tryz.prog.info? 39).map (·.size) = some 1 := by kernel_rfl
theorem tS41 : (Tryz.prog.info? 41).map (·.size) = some 5 := by kernel_rfl
theorem tS46 : (Tryz.prog.info? 46).map (·.size) = some 2 := by kernel_rfl
theorem tS96 : (Tryz.prog.info? 96).map (·.size) = some 5 := by kernel_rfl
theorem tS112 : (Tryz.prog.info? 112).map (·.size) = some 5 := by kernel_rfl
theorem tS154 : (Tryz.prog.info? 154).map (·.size) = some 2 := by kernel_rfl
theorem tB3 : (Tryz.prog.info? 3).map (fun i => (i.size, i.bytes, (i.zero.map fun z => z.cells.size))) = some (1, 8, some 1) := by kernel_rfl
theorem tC3 : (Tryz.prog.info? 3).map (fun i => (i.size, i.bytes)) = some (1, 8) := by kernel_rfl
theorem tZ3 : ((Tryz.prog.info? 3).bind (·.zero)) = some (.int .i64 (0)) := by kernel_rfl
theorem tC4 : (Tryz.prog.info? 4).map (fun i => (i.size, i.bytes)) = some (1, 1) := by kernel_rfl
theorem tZ4 : ((Tryz.prog.info? 4).bind (·.zero)) = some (.bool false) := by kernel_rfl
theorem tF25_0 : FieldOk Tryz.prog 25 0 0 := ⟨_, _, 0, Tryz.underlying25, rfl, rfl, by kernel_rfl⟩
theorem tF25_1 : FieldOk Tryz.prog 25 1 1 := ⟨_, _, 0, Tryz.underlying25, rfl, rfl, by kernel_rfl⟩
theorem tZ38 : ((Tryz.prog.info? 38).bind (·.zero)) = some (.agg #[.int .i64 (0), .int .i64 (0), .int .i64 (0), .string ⟨#[]⟩, .slice none 0 0, .slice none 0 0, .slice none 0 0, .slice none 0 0]) := by kernel_rfl
theorem tF38_0 : FieldOk Tryz.prog 38 0 0 := ⟨_, _, 0, Tryz.underlying38, rfl, rfl, by kernel_rfl⟩
theorem tF38_1 : FieldOk Tryz.prog 38 1 1 := ⟨_, _, 0, Tryz.underlying38, rfl, rfl, by kernel_rfl⟩
theorem tF38_3 : FieldOk Tryz.prog 38 3 3 := ⟨_, _, 0, Tryz.underlying38, rfl, rfl, by kernel_rfl⟩
theorem tF38_4 : FieldOk Tryz.prog 38 4 4 := ⟨_, _, 0, Tryz.underlying38, rfl, rfl, by kernel_rfl⟩
theorem tF38_5 : FieldOk Tryz.prog 38 5 5 := ⟨_, _, 0, Tryz.underlying38, rfl, rfl, by kernel_rfl⟩
theorem tF38_6 : FieldOk Tryz.prog 38 6 6 := ⟨_, _, 0, Tryz.underlying38, rfl, rfl, by kernel_rfl⟩
theorem tF38_7 : FieldOk Tryz.prog 38 7 7 := ⟨_, _, 0, Tryz.underlying38, rfl, rfl, by kernel_rfl⟩
theorem tZ41 : ((Tryz.prog.info? 41).bind (·.zero)) = some (.agg #[.string ⟨#[]⟩, .int .i64 (0), .int .i64 (0), .slice none 0 0, .slice none 0 0]) := by kernel_rfl
theorem tF41_0 : FieldOk Tryz.prog 41 0 0 := ⟨_, _, 0, Tryz.underlying41, rfl, rfl, by kernel_rfl⟩
theorem tF41_1 : FieldOk Tryz.prog 41 1 1 := ⟨_, _, 0, Tryz.underlying41, rfl, rfl, by kernel_rfl⟩
theorem tF41_2 : FieldOk Tryz.prog 41 2 2 := ⟨_, _, 0, Tryz.underlying41, rfl, rfl, by kernel_rfl⟩
theorem tF41_3 : FieldOk Tryz.prog 41 3 3 := ⟨_, _, 0, Tryz.underlying41, rfl, rfl, by kernel_rfl⟩
theorem tF41_4 : FieldOk Tryz.prog 41 4 4 := ⟨_, _, 0, Tryz.underlying41, rfl, rfl, by kernel_rfl⟩
theorem tF46_0 : FieldOk Tryz.prog 46 0 0 := ⟨_, _, 0, Tryz.underlying46, rfl, rfl, by kernel_rfl⟩
theorem tZ93 : ((Tryz.prog.info? 93).bind (·.zero)) = some (.agg #[.slice none 0 0, .slice none 0 0, .string ⟨#[]⟩, .int .i64 (0), .int .i64 (0), .slice none 0 0, .slice none 0 0, .slice none 0 0]) := by kernel_rfl
theorem tF93_1 : FieldOk Tryz.prog 93 1 2 := ⟨_, _, 4, Tryz.underlying93, rfl, rfl, by kernel_rfl⟩
theorem tF93_2 : FieldOk Tryz.prog 93 2 7 := ⟨_, _, 0, Tryz.underlying93, rfl, rfl, by kernel_rfl⟩
theorem tP93 : ∃ fs, Tryz.prog.underlying 93 = some (.struct fs) ∧ PlacesOk Tryz.prog fs #[(0, 2), (2, 5), (7, 1)] := ⟨_, Tryz.underlying93, fun _ => by kernel_rfl⟩
theorem tZ96 : ((Tryz.prog.info? 96).bind (·.zero)) = some (.agg #[.bool false, .bool false, .slice none 0 0, .slice none 0 0, .slice none 0 0]) := by kernel_rfl
theorem tF96_0 : FieldOk Tryz.prog 96 0 0 := ⟨_, _, 0, Tryz.underlying96, rfl, rfl, by kernel_rfl⟩
theorem tF96_1 : FieldOk Tryz.prog 96 1 1 := ⟨_, _, 0, Tryz.underlying96, rfl, rfl, by kernel_rfl⟩
theorem tF96_2 : FieldOk Tryz.prog 96 2 2 := ⟨_, _, 0, Tryz.underlying96, rfl, rfl, by kernel_rfl⟩
theorem tF96_3 : FieldOk Tryz.prog 96 3 3 := ⟨_, _, 0, Tryz.underlying96, rfl, rfl, by kernel_rfl⟩
theorem tF96_4 : FieldOk Tryz.prog 96 4 4 := ⟨_, _, 0, Tryz.underlying96, rfl, rfl, by kernel_rfl⟩
theorem tP96 : ∃ fs, Tryz.prog.underlying 96 = some (.struct fs) ∧ PlacesOk Tryz.prog fs #[(0, 1), (1, 1), (2, 1), (3, 1), (4, 1)] := ⟨_, Tryz.underlying96, fun _ => by kernel_rfl⟩
theorem tZ110 : ((Tryz.prog.info? 110).bind (·.zero)) = some (.agg #[.slice none 0 0, .slice none 0 0, .string ⟨#[]⟩, .int .i64 (0), .int .i64 (0), .slice none 0 0, .slice none 0 0, .slice none 0 0]) := by kernel_rfl
theorem tF110_1 : FieldOk Tryz.prog 110 1 2 := ⟨_, _, 4, Tryz.underlying110, rfl, rfl, by kernel_rfl⟩
theorem tF110_2 : FieldOk Tryz.prog 110 2 7 := ⟨_, _, 0, Tryz.underlying110, rfl, rfl, by kernel_rfl⟩
theorem tP110 : ∃ fs, Tryz.prog.underlying 110 = some (.struct fs) ∧ PlacesOk Tryz.prog fs #[(0, 2), (2, 5), (7, 1)] := ⟨_, Tryz.underlying110, fun _ => by kernel_rfl⟩
theorem tZ112 : ((Tryz.prog.info? 112).bind (·.zero)) = some (.agg #[.bool false, .bool false, .slice none 0 0, .slice none 0 0, .slice none 0 0]) := by kernel_rfl
theorem tP112 : ∃ fs, Tryz.prog.underlying 112 = some (.struct fs) ∧ PlacesOk Tryz.prog fs #[(0, 1), (1, 1), (2, 1), (3, 1), (4, 1)] := ⟨_, Tryz.underlying112, fun _ => by kernel_rfl⟩
theorem tZ154 : ((Tryz.prog.info? 154).bind (·.zero)) = some (.agg #[.string ⟨#[]⟩, .int .i64 (0)]) := by kernel_rfl
theorem tP154 : ∃ fs, Tryz.prog.underlying 154 = some (.struct fs) ∧ PlacesOk Tryz.prog fs #[(0, 1), (1, 1)] := ⟨_, Tryz.underlying154, fun _ => by kernel_rfl⟩
theorem ent13 : enters Tryz.prog 13 := ⟨Tryz.f13, Tryz.func13, by kernel_rfl, by kernel_rfl⟩
theorem ent27 : enters Tryz.prog 27 := ⟨Tryz.f27, Tryz.func27, by kernel_rfl, by kernel_rfl⟩
theorem ent28 : enters Tryz.prog 28 := ⟨Tryz.f28, Tryz.func28, by kernel_rfl, by kernel_rfl⟩
theorem ent36 : enters Tryz.prog 36 := ⟨Tryz.f36, Tryz.func36, by kernel_rfl, by kernel_rfl⟩
theorem ent37 : enters Tryz.prog 37 := ⟨Tryz.f37, Tryz.func37, by kernel_rfl, by kernel_rfl⟩
theorem ent47 : enters Tryz.prog 47 := ⟨Tryz.f47, Tryz.func47, by kernel_rfl, by kernel_rfl⟩
theorem ent49 : enters Tryz.prog 49 := ⟨Tryz.f49, Tryz.func49, by kernel_rfl, by kernel_rfl⟩
theorem ent50 : enters Tryz.prog 50 := ⟨Tryz.f50, Tryz.func50, by kernel_rfl, by kernel_rfl⟩
theorem ent51 : enters Tryz.prog 51 := ⟨Tryz.f51, Tryz.func51, by kernel_rfl, by kernel_rfl⟩
theorem ent64 : enters Tryz.prog 64 := ⟨Tryz.f64, Tryz.func64, by kernel_rfl, by kernel_rfl⟩
theorem ent71 : enters Tryz.prog 71 := ⟨Tryz.f71, Tryz.func71, by kernel_rfl, by kernel_rfl⟩
theorem ent73 : enters Tryz.prog 73 := ⟨Tryz.f73, Tryz.func73, by kernel_rfl, by kernel_rfl⟩
theorem ent74 : enters Tryz.prog 74 := ⟨Tryz.f74, Tryz.func74, by kernel_rfl, by kernel_rfl⟩
theorem ent75 : enters Tryz.prog 75 := ⟨Tryz.f75, Tryz.func75, by kernel_rfl, by kernel_rfl⟩
theorem ent76 : enters Tryz.prog 76 := ⟨Tryz.f76, Tryz.func76, by kernel_rfl, by kernel_rfl⟩
theorem ent77 : enters Tryz.prog 77 := ⟨Tryz.f77, Tryz.func77, by kernel_rfl, by kernel_rfl⟩
theorem ent78 : enters Tryz.prog 78 := ⟨Tryz.f78, Tryz.func78, by kernel_rfl, by kernel_rfl⟩
theorem ent79 : enters Tryz.prog 79 := ⟨Tryz.f79, Tryz.func79, by kernel_rfl, by kernel_rfl⟩
theorem ent80 : enters Tryz.prog 80 := ⟨Tryz.f80, Tryz.func80, by kernel_rfl, by kernel_rfl⟩
theorem ent81 : enters Tryz.prog 81 := ⟨Tryz.f81, Tryz.func81, by kernel_rfl, by kernel_rfl⟩
theorem ent95 : enters Tryz.prog 95 := ⟨Tryz.f95, Tryz.func95, by kernel_rfl, by kernel_rfl⟩
theorem ent96 : enters Tryz.prog 96 := ⟨Tryz.f96, Tryz.func96, by kernel_rfl, by kernel_rfl⟩
theorem ent97 : enters Tryz.prog 97 := ⟨Tryz.f97, Tryz.func97, by kernel_rfl, by kernel_rfl⟩
theorem ent98 : enters Tryz.prog 98 := ⟨Tryz.f98, Tryz.func98, by kernel_rfl, by kernel_rfl⟩
theorem ent104 : enters Tryz.prog 104 := ⟨Tryz.f104, Tryz.func104, by kernel_rfl, by kernel_rfl⟩
theorem ent105 : enters Tryz.prog 105 := ⟨Tryz.f105, Tryz.func105, by kernel_rfl, by kernel_rfl⟩
theorem ent106 : enters Tryz.prog 106 := ⟨Tryz.f106, Tryz.func106, by kernel_rfl, by kernel_rfl⟩
theorem ent107 : enters Tryz.prog 107 := ⟨Tryz.f107, Tryz.func107, by kernel_rfl, by kernel_rfl⟩
theorem ent108 : enters Tryz.prog 108 := ⟨Tryz.f108, Tryz.func108, by kernel_rfl, by kernel_rfl⟩
theorem ent109 : enters Tryz.prog 109 := ⟨Tryz.f109, Tryz.func109, by kernel_rfl, by kernel_rfl⟩
theorem ent110 : enters Tryz.prog 110 := ⟨Tryz.f110, Tryz.func110, by kernel_rfl, by kernel_rfl⟩
theorem ent111 : enters Tryz.prog 111 := ⟨Tryz.f111, Tryz.func111, by kernel_rfl, by kernel_rfl⟩
theorem ent112 : enters Tryz.prog 112 := ⟨Tryz.f112, Tryz.func112, by kernel_rfl, by kernel_rfl⟩
theorem ent120 : enters Tryz.prog 120 := ⟨Tryz.f120, Tryz.func120, by kernel_rfl, by kernel_rfl⟩
theorem ent127 : enters Tryz.prog 127 := ⟨Tryz.f127, Tryz.func127, by kernel_rfl, by kernel_rfl⟩
theorem ent129 : enters Tryz.prog 129 := ⟨Tryz.f129, Tryz.func129, by kernel_rfl, by kernel_rfl⟩
theorem ent132 : enters Tryz.prog 132 := ⟨Tryz.f132, Tryz.func132, by kernel_rfl, by kernel_rfl⟩
theorem ent133 : enters Tryz.prog 133 := ⟨Tryz.f133, Tryz.func133, by kernel_rfl, by kernel_rfl⟩
theorem ent134 : enters Tryz.prog 134 := ⟨Tryz.f134, Tryz.func134, by kernel_rfl, by kernel_rfl⟩
theorem ent141 : enters Tryz.prog 141 := ⟨Tryz.f141, Tryz.func141, by kernel_rfl, by kernel_rfl⟩
theorem ent142 : enters Tryz.prog 142 := ⟨Tryz.f142, Tryz.func142, by kernel_rfl, by kernel_rfl⟩
theorem ent143 : enters Tryz.prog 143 := ⟨Tryz.f143, Tryz.func143, by kernel_rfl, by kernel_rfl⟩
theorem ent144 : enters Tryz.prog 144 := ⟨Tryz.f144, Tryz.func144, by kernel_rfl, by kernel_rfl⟩
theorem ent145 : enters Tryz.prog 145 := ⟨Tryz.f145, Tryz.func145, by kernel_rfl, by kernel_rfl⟩
theorem ent146 : enters Tryz.prog 146 := ⟨Tryz.f146, Tryz.func146, by kernel_rfl, by kernel_rfl⟩
theorem ent147 : enters Tryz.prog 147 := ⟨Tryz.f147, Tryz.func147, by kernel_rfl, by kernel_rfl⟩
theorem ent148 : enters Tryz.prog 148 := ⟨Tryz.f148, Tryz.func148, by kernel_rfl, by kernel_rfl⟩
theorem ent149 : enters Tryz.prog 149 := ⟨Tryz.f149, Tryz.func149, by kernel_rfl, by kernel_rfl⟩
theorem ent150 : enters Tryz.prog 150 := ⟨Tryz.f150, Tryz.func150, by kernel_rfl, by kernel_rfl⟩
theorem ent151 : enters Tryz.prog 151 := ⟨Tryz.f151, Tryz.func151, by kernel_rfl, by kernel_rfl⟩
def tabL : List (Nat × List (Option Nat)) := [(7, [some 0, some 1, some 2, some 3]), (8, [some 0, some 1, some 2, some 3]), (13, [some 0, some 1]), (14, [some 0, some 1]), (18, [some 0]), (19, [some 0]), (24, [some 0, some 1]), (25, [some 0, some 1]), (37, [some 0, some 1, some 2, some 3, some 4, some 5, some 6, some 7]), (38, [some 0, some 1, some 2, some 3, some 4, some 5, some 6, some 7]), (40, [some 0, some 1, some 2, some 3, some 4]), (41, [some 0, some 1, some 2, some 3, some 4]), (45, [some 0, some 1]), (46, [some 0, some 1]), (52, [some 0, some 1]), (53, [some 0, some 1]), (54, [some 0]), (55, [some 0]), (63, [some 0, some 1, some 2, some 3]), (64, [some 0, some 1, some 2, some 3]), (85, [some 0, some 1, some 2, some 3, some 4]), (86, [some 0, some 1, some 2, some 3, some 4]), (92, [some 0, some 2, some 7]), (93, [some 0, some 2, some 7]), (95, [some 0, some 1, some 2, some 3, some 4]), (96, [some 0, some 1, some 2, some 3, some 4]), (109, [some 0, some 2, some 7]), (110, [some 0, some 2, some 7]), (112, [some 0, some 1, some 2, some 3, some 4]), (153, [some 0, some 1]), (154, [some 0, some 1]), (178, [some 0, some 1, some 2, some 3]), (179, [some 0, some 1, some 2, some 3]), (181, [none]), (182, [none]), (188, [some 0, some 1, some 2, some 3, some 4, some 5, some 6, some 7, some 8, some 9, some 10]), (189, [some 0, some 1, some 2, some 3, some 4, some 5, some 6, some 7, some 8, some 9, some 10])]
def tabQ : List Nat := [2, 3, 4, 5, 6, 9, 10, 11, 12, 15, 16, 17, 21, 22, 23, 28, 32, 35, 36, 39, 50, 51, 62, 69, 78, 87, 91, 97, 104, 107, 108, 128, 131, 158, 183, 184, 186, 187]
theorem tabL_ok : okTab Tryz.prog tabL = true := by kernel_rfl
theorem tabQ_ok : okLd Tryz.prog tabQ = true := by kernel_rfl
def tab : Tab Tryz.prog := mkTab Tryz.prog tabL tabQ tabL_ok tabQ_ok
theorem sm {c : Cx} {ops : Array Oper} {hp : Hp} {l l' : List Oper} {fr fr' : Fr} {Q : Exit → Fr → Heap' → Prop} (n : Nat) (h : simL tab ops hp c.n n l fr = some (l', fr')) (h2 : WL Tryz.prog c ops Q l' fr' (look hp)) : WL Tryz.prog c ops Q l fr (look hp) := sim tab n h h2
theorem smS {c : Cx} {ops : Array Oper} {hp : Hp} {l l' : List Oper} {fr fr' : Fr} {Q : Exit → Fr → Heap' → Prop} (n : Nat) (h : simL tab ops hp c.n n l fr = some (l', fr')) (h2 : WS Tryz.prog c ops Q l' fr' (look hp)) : WS Tryz.prog c ops Q l fr (look hp) := simS tab n h h2
theorem smR {c : Cx} {R1 : Nat → Prop} {ops : Array Oper} {hp : Hp} {is is' : List Nat} {li li' : Array Bool} {fr fr' : Fr} {Q : Exit → Fr → Heap' → Prop} {fuel : Nat} (n : Nat) (h : simR tab ops hp c.n n is li fr = some (is', li', fr')) (h2 : WR Tryz.prog c R1 ops Q is' fuel li' fr' (look hp)) : WR Tryz.prog c R1 ops Q is fuel li fr (look hp) := simR' tab n h h2
def eB (x : UInt8) : List PV := [.val (.int .u8 (x.toNat : Int))]
section
variable {P : Program} {c : Cx} {o : Oper} {fr : Fr} {hp : Hp}
def tEls (s : ByteArray) : List (List PV) := s.data.toList.map eB
def vB (b : UInt8) : Value := .int .u8 b.toNat
theorem tEls_len (s : ByteArray) : (tEls s).length = s.size := by
  rw [tEls, List.length_map, Array.length_toList]; rfl
theorem tEls_app (a b : ByteArray) : tEls (a ++ b) = tEls a ++ tEls b := by simp [tEls]
theorem row1 {own : Nat → Prop} {w w' : World} {els : List (List PV)} {bs : List UInt8} {pre rest : List Value} {u : Nat → Nat → Value} (hpl : pre.length = els.length) (hwe : ∀ el ∈ els, el.length = 1)
    (hpre : ∀ i el, els[i]? = some el → ∀ j x, el[j]? = some x → pre[i * 1 + j]? = some (u i j)) :
    ∀ i el, (els ++ bs.map eB)[i]? = some el → ∀ j x, el[j]? = some x → ((pre ++ bs.map vB ++ rest).toArray)[i * 1 + j]? = some (if i < els.length then u i j else vB (bs.getD (i - els.length) 0)) := by
  intro i el hi j x hj
  rw [List.getElem?_toArray]
  by_cases h : i < els.length
  ·rw [List.getElem?_append_left h] at hi
   have h1 := hpre i el hi j x hj
   have := (List.getElem?_eq_some_iff.1 h1).1
   rw [if_pos h, List.append_assoc, List.getElem?_append_left this, h1]
  rw [List.getElem?_append_right (by omega), List.getElem?_map, Option.map_eq_some_iff] at hi
  obtain ⟨b, hb, rfl⟩ := hi
  have hj0 : j = 0 := by have := (List.getElem?_eq_some_iff.1 hj).1; simp [eB] at this; omega
  subst hj0
  have hlt := (List.getElem?_eq_some_iff.1 hb).1
  rw [if_neg h, List.append_assoc, List.getElem?_append_right (by omega), List.getElem?_append_left (by simp; omega), hpl, List.getElem?_map]
  have e : i * 1 + 0 - els.length = i - els.length := by omega
  rw [e, hb, List.getD_eq_getElem?_getD, hb]
  rfl
theorem row1_rep {own own' : Nat → Prop} {w w' : World} {els : List (List PV)} {bs : List UInt8} {u : Nat → Nat → Value} (keep : ∀ x v, RepP own w x v → RepP own' w' x v)
    (hu : ∀ i el, els[i]? = some el → ∀ j x, el[j]? = some x → RepP own w x (u i j)) :
    ∀ i el, (els ++ bs.map eB)[i]? = some el → ∀ j x, el[j]? = some x → RepP own' w' x (if i < els.length then u i j else vB (bs.getD (i - els.length) 0)) := by
  intro i el hi j x hj
  by_cases h : i < els.length
  ·rw [List.getElem?_append_left h] at hi
   rw [if_pos h]; exact keep _ _ (hu i el hi j x hj)
  rw [List.getElem?_append_right (by omega), List.getElem?_map, Option.map_eq_some_iff] at hi
  obtain ⟨b, hb, rfl⟩ := hi
  have hj0 : j = 0 := by have := (List.getElem?_eq_some_iff.1 hj).1; simp [eB] at this; omega
  subst hj0
  rw [if_neg h, List.getD_eq_getElem?_getD, hb]
  cases hj
  exact .val _
theorem strCells_vB (s : ByteArray) : Lib.strCells s = s.data.toList.map vB := rfl
theorem ok_append_str {t u : TypeId} {x y : Operand} {k n : Nat} {e : TypeId} {els : List (List PV)} {s : ByteArray} (ho : o.op = .call { callee := .builtin .append, args := #[x, y], argTypes := #[t, u] }) (hx : fr.ev x = some (.sl k n)) (hy : fr.ev y = some (.pv (.val (.string s))))
    (hk : look hp k = some (.row ⟨e, 1⟩ els)) (hn : els.length = n) (hR : ¬ c.R k) (ht : P.underlying t = some (.slice e)) (hu : P.underlying u = some .string) {i : TypeInfo} (hi : P.info? e = some i) (hz : i.zero = some (.int .u8 0)) (hs1 : i.size = 1) (hb1 : i.bytes = 1)
    (hb : n + s.size ≤ 140737488355328) :
    Ok P c o fr (look hp) (.sl k (n + s.size)) (look ((k, some (.row ⟨e, 1⟩ (els ++ tEls s))) :: hp)) := by
  intro ρ w a K Q h hK
  have hlk' : look ((k, some (.row ⟨e, 1⟩ (els ++ tEls s))) :: hp) k = some (.row ⟨e, 1⟩ (els ++ tEls s)) := look_hd
  have hvy : a.eval y = .string s := ev_val h hy
  have hnl : (tEls s).length = s.size := tEls_len s
  have hwN : ∀ el ∈ tEls s, el.length = 1 := fun el hel => by
    obtain ⟨b, _, rfl⟩ := List.mem_map.1 hel; rfl
  have hrun : ∀ (v : Value) (w' : World), (Builtin.append_ #[t, u] o.type #[a.eval x, a.eval y]).run P w = .ok v w' → (execOp a.eval o).run P w = .ok (.value v) w' := fun v w' hr => by
    simp only [execOp, ho, resolve, Sem.run_bind, Sem.run_pure, Result.andThen_ok, invoke, builtin, List.map_toArray, List.map_cons, List.map_nil, hr]
  have h63 : n + s.size ≤ maxLen := by simp only [maxLen]; omega
  unfold Oper.wp
  have hgrow : ∀ (old : Nat) (pre : List Value) (u' : Nat → Nat → Value), old < n + s.size → 0 < s.size → pre.length = els.length → (∀ el ∈ els, el.length = 1) → (∀ i el, els[i]? = some el → ∀ j x, el[j]? = some x → pre[i * 1 + j]? = some (u' i j)) →
      (∀ i el, els[i]? = some el → ∀ j x, el[j]? = some x → RepP (owned c.F ρ) w x (u' i j)) →
      (Builtin.append_ #[t, u] o.type #[a.eval x, a.eval y]).run P w = .ok (.slice (some ⟨w.heap.size, 0, none⟩) (n + s.size) (grownCap w (n + s.size) old e))
        (w.drew.alloc (.cells (pre.toArray ++ (Lib.strCells s).toArray ++ Builtin.zeroCells (Value.int .u8 0).cells (grownCap w (n + s.size) old e - (n + s.size))) e)) →
      o.upon P a K Q ((execOp a.eval o).run P w) := by
    intro old pre u' hold h0 hpl hwe hpre hrep hr
    have hge := grownCap_ge w (n + s.size) old e
    have hcm : grownCap w (n + s.size) old e ≤ maxLen := grownCap_le_maxLen w (n + s.size) old e h63
    rw [hrun _ _ hr]
    have hnewb : (w.drew.alloc (.cells (pre.toArray ++ (Lib.strCells s).toArray ++ Builtin.zeroCells (Value.int .u8 0).cells (grownCap w (n + s.size) old e - (n + s.size))) e)).heap[w.heap.size]? =
        some (.cells (pre ++ s.data.toList.map vB ++ (Builtin.zeroCells (Value.int .u8 0).cells (grownCap w (n + s.size) old e - (n + s.size))).toList).toArray e (0, 0)) := by
      rw [show w.heap.size = w.drew.heap.size from rfl, heap_new w.drew, strCells_vB]
      congr 2
      apply Array.ext'
      simp
    refine hK (locUpd ρ k (some (w.heap.size, grownCap w (n + s.size) old e))) _ _ (h.move hk (by simp [hnl]; omega) rfl rfl rfl (by simp) (fun j hj => Go.RowKit.Below.heap_alloc w.drew _ j hj) fun keep => ?_) (.sl _ _ _ fun s1 els1 h1 => ?_)
    ·refine .row ⟨e, 1⟩ (els ++ tEls s) _ (fun i j => if i < els.length then u' i j else vB (s.data.toList.getD (i - els.length) 0)) hnewb ?_ (by simp [hnl]; omega) hcm (fun el hel => (List.mem_append.1 hel).elim (hwe el) (hwN el)) (row1 (own := owned c.F ρ) (w := w) (w' := w) hpl hwe hpre) (row1_rep keep hrep)
     have hz1 : (Value.int IntKind.u8 0).cells.size = 1 := rfl
     have hsz : s.data.size = s.size := rfl
     simp only [List.size_toArray, List.length_append, List.length_map, Array.length_toList, size_zeroCells, hz1, hpl, hsz]
     omega
    rw [hlk'] at h1; cases h1
    exact ⟨by simp [hnl]; omega, fun _ => .inl ⟨w.heap.size, _, locUpd_same, rfl⟩⟩
  rcases h.row hx hk hn with ⟨b, cc, r, u', hv, hρ, h3, h4, hc, hcm, hwe, hcells, hur⟩ | ⟨hv, hρ, hnil⟩
  ·simp only [Nat.mul_one] at h4
   have hpl : (r.toList.take n).length = els.length := by simp; omega
   have hpre : ∀ i el, els[i]? = some el → ∀ j x, el[j]? = some x → (r.toList.take n)[i * 1 + j]? = some (u' i j) := fun i el hi j x hj => by
     have h5 := hcells i el hi j x hj
     have hi' : i < els.length := (List.getElem?_eq_some_iff.1 hi).1
     have hj' : j < 1 := by have := (List.getElem?_eq_some_iff.1 hj).1; have := hwe el (List.mem_of_getElem? hi); simp at this; omega
     rw [List.getElem?_take, if_pos (by omega), Array.getElem?_toList]
     exact h5
   by_cases hroom : n + s.size ≤ cc
   ·have hr := Lib.run_append_room_string (P := P) w t u o.type e i ht hu hi hs1 b n cc r h3 s hroom (by omega)
    rw [hrun _ _ (by rw [hv, hvy]; exact hr)]
    refine hK ρ _ _ (h.write hρ hk ⟨rfl, by simp⟩ hR rfl rfl rfl (by simp) (fun j hj => setRow_other w b j _ hj) fun _ keep => ?_) (.sl _ _ _ fun s1 els1 h1 => ?_)
    ·refine .row ⟨e, 1⟩ (els ++ tEls s) _ (fun i j => if i < els.length then u' i j else vB (s.data.toList.getD (i - els.length) 0)) (setRow_heap w b r _ e _ h3) ?_ (by simp [hnl]; omega) hcm (fun el hel => (List.mem_append.1 hel).elim (hwe el) (hwN el)) (row1 (own := owned c.F ρ) (w := w) (w' := w) hpl hwe hpre) (row1_rep keep hur)
     simp only [List.size_toArray, List.length_append, List.length_drop, Array.length_toList, Lib.strCells_length]
     rw [hpl]
     omega
    rw [hlk'] at h1; cases h1
    exact ⟨by simp [hnl]; omega, fun _ => .inl ⟨b, cc, hρ, rfl⟩⟩
   have holds : ∀ j y, (r.toList.take n)[j]? = some y → w.cell? ((⟨b, 0, none⟩ : Addr).add j) = some y := fun j y hj => by
     rw [Addr.add_mid, Nat.zero_add, cell_at h3]
     rw [List.getElem?_take] at hj
     split at hj
     ·simpa using hj
     cases hj
   refine hgrow cc (r.toList.take n) u' (by omega) (by omega) hpl hwe hpre hur ?_
   rw [hv, hvy]
   exact Lib.run_append_grow_string (P := P) w t u o.type e i _ ht hu hi hz ⟨b, 0, none⟩ n cc _ (by rw [hs1, hpl]; omega) holds s (by omega) (by omega) (by rw [hb1]; exact growslice_fits (by omega) (by omega))
  subst hnil
  simp only [List.length_nil] at hn
  subst hn
  by_cases h0 : s.size = 0
  ·have hnl0 : tEls s = [] := List.eq_nil_of_length_eq_zero (by rw [hnl]; exact h0)
   have hsame : look ((k, some (.row ⟨e, 1⟩ [])) :: hp) = look hp := by
     funext j
     by_cases e : j = k
     ·subst e; rw [look_hd, hk]
     rw [look_ne (Ne.symm e)]
   rw [hnl0, h0] at hK
   simp only [List.append_nil, Nat.add_zero] at hK
   rw [hsame] at hK
   have hf := Lib.run_firstCells_string (P := P) w 1 s
   rw [h0] at hf
   have hr : (Builtin.append_ #[t, u] o.type #[a.eval x, a.eval y]).run P w = .ok (a.eval x) w := by
     rw [hv, hvy]
     simp [Builtin.append_, run_underlying ht, run_underlying hu, sizeOf, typeInfo, hi, hs1, Builtin.lenOf, h0, hf]
   rw [hrun _ _ hr]
   exact hK ρ w _ h (h.ev hx)
  refine hgrow 0 [] (fun _ _ => undef) (by omega) (by omega) (by simp) (by simp) (by simp) (by simp) ?_
  rw [hv, hvy]
  have hr := run_append_nil_string (P := P) w t u o.type e i (.int .u8 0) ht hu hi hz s (by omega) (by omega) (by rw [hb1]; omega)
  have e1 : (s.data.map fun b => Value.int .u8 b.toNat) = (Lib.strCells s).toArray := by
    apply Array.ext'
    simp [Lib.strCells]
  rw [e1] at hr
  simpa using hr
end
def laysItoa_ren : Go.Shelf.Ren := ⟨fun | 246 => 57 | 283 => 87 | 284 => 88 | 285 => 89 | 286 => 90 | 129 => 115 | 317 => 114 | 318 => 116 | 319 => 117 | 320 => 118 | 337 => 135 | 338 => 136 | n => n, fun | 2 => 2 | 3 => 3 | 9 => 9 | 4 => 4 | 171 => 134 | 0 => 0 | 53 => 131 | 37 => 32 | 5 => 5 | 173 => 137 | 212 => 150 | 51 => 128 | 20 => 20 | 213 => 151 | 46 => 97 | 232 => 175 | 233 => 176 | n => n, fun | 17 => 0 | 18 => 2 | 19 => 3 | n => n⟩
theorem laysItoa : Go.Proofs.LaysM.n246 Tryz.prog laysItoa_ren where
  mixed := by kernel_rfl
  f129 := Tryz.func115.trans (congrArg some (by kernel_rfl))
  f246 := Tryz.func57.trans (congrArg some (by kernel_rfl))
  f283 := Tryz.func87.trans (congrArg some (by kernel_rfl))
  f284 := Tryz.func88.trans (congrArg some (by kernel_rfl))
  f285 := Tryz.func89.trans (congrArg some (by kernel_rfl))
  f286 := Tryz.func90.trans (congrArg some (by kernel_rfl))
  f317 := Tryz.func114.trans (congrArg some (by kernel_rfl))
  f318 := Tryz.func116.trans (congrArg some (by kernel_rfl))
  f319 := Tryz.func117.trans (congrArg some (by kernel_rfl))
  f320 := Tryz.func118.trans (congrArg some (by kernel_rfl))
  f337 := Tryz.func135.trans (congrArg some (by kernel_rfl))
  f338 := Tryz.func136.trans (congrArg some (by kernel_rfl))
  t0 := Tryz.underlying0
  a0 := Tryz.isAgg0
  z0 := Tryz.sizeOf0
  v0 := Tryz.zeroValue0
  t2 := Tryz.underlying2
  a2 := Tryz.isAgg2
  z2 := Tryz.sizeOf2
  v2 := Tryz.zeroValue2
  t3 := Tryz.underlying3
  a3 := Tryz.isAgg3
  z3 := Tryz.sizeOf3
  v3 := Tryz.zeroValue3
  t4 := Tryz.underlying4
  a4 := Tryz.isAgg4
  z4 := Tryz.sizeOf4
  v4 := Tryz.zeroValue4
  t5 := Tryz.underlying5
  a5 := Tryz.isAgg5
  z5 := Tryz.sizeOf5
  v5 := Tryz.zeroValue5
  t9 := Tryz.underlying9
  a9 := Tryz.isAgg9
  z9 := Tryz.sizeOf9
  v9 := Tryz.zeroValue9
  t20 := Tryz.underlying20
  a20 := Tryz.isAgg20
  z20 := Tryz.sizeOf20
  v20 := Tryz.zeroValue20
  t37 := Tryz.underlying32
  a37 := Tryz.isAgg32
  z37 := Tryz.sizeOf32
  v37 := Tryz.zeroValue32
  t46 := Tryz.underlying97
  a46 := Tryz.isAgg97
  z46 := Tryz.sizeOf97
  v46 := Tryz.zeroValue97
  t51 := Tryz.underlying128
  a51 := Tryz.isAgg128
  z51 := Tryz.sizeOf128
  v51 := Tryz.zeroValue128
  t53 := Tryz.underlying131
  a53 := Tryz.isAgg131
  z53 := Tryz.sizeOf131
  v53 := Tryz.zeroValue131
  t171 := Tryz.underlying134
  a171 := Tryz.isAgg134
  z171 := Tryz.sizeOf134
  v171 := Tryz.zeroValue134
  t173 := Tryz.underlying137
  a173 := Tryz.isAgg137
  z173 := Tryz.sizeOf137
  v173 := Tryz.zeroValue137
  t212 := Tryz.underlying150
  a212 := Tryz.isAgg150
  z212 := Tryz.sizeOf150
  v212 := Tryz.zeroValue150
  t213 := Tryz.underlying151
  a213 := Tryz.isAgg151
  z213 := Tryz.sizeOf151
  t232 := Tryz.underlying175
  a232 := Tryz.isAgg175
  z232 := Tryz.sizeOf175
  v232 := Tryz.zeroValue175
  t233 := Tryz.underlying176
  a233 := Tryz.isAgg176
  z233 := Tryz.sizeOf176
  v233 := Tryz.zeroValue176
  g17 := by kernel_rfl
  g18 := by kernel_rfl
  g19 := by kernel_rfl
  i0 := by kernel_rfl
  i2 := by kernel_rfl
  i3 := by kernel_rfl
  i4 := by kernel_rfl
  i5 := by kernel_rfl
  i9 := by kernel_rfl
  i20 := by kernel_rfl
  i37 := by kernel_rfl
  i46 := by kernel_rfl
  i51 := by kernel_rfl
  i53 := by kernel_rfl
  i171 := by kernel_rfl
  i173 := by kernel_rfl
  i212 := by kernel_rfl
  i232 := by kernel_rfl
  i233 := by kernel_rfl
  m17 := by kernel_rfl
  m18 := by kernel_rfl
  m19 := by kernel_rfl
theorem loc_none {F : Nat → Prop} {ρ : Loc} {w : World} (h : RelH F ρ (look (up [])) w) (k : Nat) : ρ k = none := by
  cases hk : ρ k with
  | none => rfl
  | some l =>
    obtain ⟨o, ho, _⟩ := h.obj k l.1 l.2 hk
    cases ho
theorem grown {F : Nat → Prop} {ρ : Loc} {w : World} (h : RelH F ρ (look (up [])) w) (R : Nat → Prop) (k : Nat) (os : Array Obj) :
    RelH F ρ (look (up [])) (Go.Sort.grow (w.drewN k) os) ∧ Trans F R ρ (look (up [])) w ρ (look (up [])) (Go.Sort.grow (w.drewN k) os) := by
  have hn := loc_none h
  have hs : w.heap.size ≤ (Go.Sort.grow (w.drewN k) os).heap.size := by simp [Go.Sort.grow, World.drewN]
  have hb : ∀ b, b < w.heap.size → (Go.Sort.grow (w.drewN k) os).heap[b]? = w.heap[b]? := fun b hb => Go.Sort.heap_grow_old (w.drewN k) os hb
  refine ⟨⟨fun i _ _ _ _ hi => ?_, fun i _ _ hi => ?_, fun b hF => Nat.lt_of_lt_of_le (h.old b hF) hs, fun i _ _ hi => ?_, fun i o ho => ?_⟩,
    ⟨rfl, rfl, rfl, hs, fun b hlt _ => hb b hlt, fun i _ _ hi _ => hi, fun i cs _ hi => ?_, fun i cs _ hi => ?_, fun i _ _ _ _ hi => ?_, fun i _ _ _ _ hi => ?_, fun i _ hi => ?_, fun i _ hi => ?_, fun i _ _ hi => ?_⟩⟩
  all_goals first
  | (rw [hn i] at hi; cases hi)
  | cases ho
  | cases hi
theorem sc_FormatInt (n : Int) (h0 : -9223372036854775808 ≤ n) (h1 : n ≤ 9223372036854775807) :
    SC Tryz.prog 57 [.pv (.val (.int .i64 n)), .pv (.val (.int .i64 10))] [] (fun k => k ∈ []) (.pv (.val (.string ⟨(Lib.itoa n).toArray⟩))) [] := by
  intro F ρ w vs hk hrel hargs
  obtain ⟨v0, e0, r0⟩ := hargs.2 0 _ rfl
  obtain ⟨v1, e1, r1⟩ := hargs.2 1 _ rfl
  have hv : vs = [.int .i64 n, .int .i64 10] := by
    have hl := hargs.1
    have d0 := r0.val
    have d1 := r1.val
    subst d0 d1
    match vs, hl, e0, e1 with
    | [a, b], _, e0, e1 => cases e0; cases e1; rfl
  subst hv
  refine (Any.internal_strconv_FormatInt_10 laysItoa n h0 h1 w ?_).mono ?_
  ·obtain ⟨⟨T, f, h1⟩, _⟩ := hk _ (List.mem_cons_self)
   unfold Lib.TabIs World.var?
   rw [laysItoa.m17]
   show (match w.heap[0]? with
     | some (.cells cs _ _) => some cs
     | _ => none) = _
   rw [h1]
  rintro e w' ⟨rfl, k, os, rfl⟩
  obtain ⟨g1, g2⟩ := grown hrel (fun k => k ∈ []) k os
  exact ⟨ρ, _, rfl, .pv _ _ (.val _), g1, g2⟩
def laysJoin_ren : Go.Shelf.Ren := ⟨fun | 156 => 34 | 165 => 55 | 166 => 29 | 169 => 19 | 240 => 52 | 241 => 86 | 276 => 82 | 277 => 113 | n => n, fun | 31 => 69 | 9 => 9 | 3 => 3 | 4 => 4 | 0 => 0 | 20 => 20 | 72 => 53 | 76 => 72 | 70 => 51 | 37 => 32 | 75 => 71 | 127 => 78 | 164 => 126 | 5 => 5 | 80 => 60 | n => n, fun | n => n⟩
theorem laysJoin : Go.Proofs.Lays.n156 Tryz.prog laysJoin_ren where
  mixed := by kernel_rfl
  f156 := Tryz.func34.trans (congrArg some (by kernel_rfl))
  f165 := Tryz.func55.trans (congrArg some (by kernel_rfl))
  f166 := Tryz.func29.trans (congrArg some (by kernel_rfl))
  f169 := Tryz.func19.trans (congrArg some (by kernel_rfl))
  f240 := Tryz.func52.trans (congrArg some (by kernel_rfl))
  f241 := Tryz.func86.trans (congrArg some (by kernel_rfl))
  f276 := Tryz.func82.trans (congrArg some (by kernel_rfl))
  f277 := Tryz.func113.trans (congrArg some (by kernel_rfl))
  t0 := Tryz.underlying0
  a0 := Tryz.isAgg0
  z0 := Tryz.sizeOf0
  v0 := Tryz.zeroValue0
  t3 := Tryz.underlying3
  a3 := Tryz.isAgg3
  z3 := Tryz.sizeOf3
  v3 := Tryz.zeroValue3
  t4 := Tryz.underlying4
  a4 := Tryz.isAgg4
  z4 := Tryz.sizeOf4
  v4 := Tryz.zeroValue4
  t9 := Tryz.underlying9
  a9 := Tryz.isAgg9
  z9 := Tryz.sizeOf9
  v9 := Tryz.zeroValue9
  t20 := Tryz.underlying20
  a20 := Tryz.isAgg20
  z20 := Tryz.sizeOf20
  v20 := Tryz.zeroValue20
  t31 := Tryz.underlying69
  a31 := Tryz.isAgg69
  z31 := Tryz.sizeOf69
  v31 := Tryz.zeroValue69
  t37 := Tryz.underlying32
  a37 := Tryz.isAgg32
  z37 := Tryz.sizeOf32
  v37 := Tryz.zeroValue32
  t70 := Tryz.underlying51
  a70 := Tryz.isAgg51
  z70 := Tryz.sizeOf51
  v70 := Tryz.zeroValue51
  t72 := Tryz.underlying53
  a72 := Tryz.isAgg53
  z72 := Tryz.sizeOf53
  v72 := Tryz.zeroValue53
  t75 := Tryz.underlying71
  a75 := Tryz.isAgg71
  z75 := Tryz.sizeOf71
  v75 := Tryz.zeroValue71
  t76 := Tryz.underlying72
  a76 := Tryz.isAgg72
  z76 := Tryz.sizeOf72
  v76 := Tryz.zeroValue72
  t127 := Tryz.underlying78
  a127 := Tryz.isAgg78
  z127 := Tryz.sizeOf78
  v127 := Tryz.zeroValue78
  t164 := Tryz.underlying126
  a164 := Tryz.isAgg126
  z164 := Tryz.sizeOf126
  v164 := Tryz.zeroValue126
theorem laysJoin_extra : Builder.Extra Tryz.prog laysJoin_ren where
  sizeBuilder := by kernel_rfl
  liesBuilder := by kernel_rfl
  t5 := Tryz.underlying5
  a5 := Tryz.isAgg5
  z5 := Tryz.sizeOf5
  v5 := Tryz.zeroValue5
  infoByte := by kernel_rfl
  cellsByte := by kernel_rfl
  sizeByte := by kernel_rfl
  neB5 := by decide
def laysRepeat_ren : Go.Shelf.Ren := ⟨fun | 105 => 30 | 212 => 53 | 99 => 54 | 165 => 55 | 166 => 29 | 170 => 56 | 169 => 19 | 263 => 83 | 264 => 84 | 206 => 85 | 240 => 52 | 241 => 86 | 276 => 82 | 277 => 113 | n => n, fun | 9 => 9 | 3 => 3 | 4 => 4 | 20 => 20 | 0 => 0 | 46 => 97 | 109 => 98 | 5 => 5 | 72 => 53 | 76 => 72 | 51 => 128 | 146 => 129 | 53 => 131 | 148 => 132 | 70 => 51 | 37 => 32 | 75 => 71 | 127 => 78 | 164 => 126 | 80 => 60 | n => n, fun | n => n⟩
theorem laysRepeat : Go.Proofs.Lays.n105 Tryz.prog laysRepeat_ren where
  mixed := by kernel_rfl
  f99 := Tryz.func54.trans (congrArg some (by kernel_rfl))
  f105 := Tryz.func30.trans (congrArg some (by kernel_rfl))
  f165 := Tryz.func55.trans (congrArg some (by kernel_rfl))
  f166 := Tryz.func29.trans (congrArg some (by kernel_rfl))
  f169 := Tryz.func19.trans (congrArg some (by kernel_rfl))
  f170 := Tryz.func56.trans (congrArg some (by kernel_rfl))
  f206 := Tryz.func85.trans (congrArg some (by kernel_rfl))
  f212 := Tryz.func53.trans (congrArg some (by kernel_rfl))
  f240 := Tryz.func52.trans (congrArg some (by kernel_rfl))
  f241 := Tryz.func86.trans (congrArg some (by kernel_rfl))
  f263 := Tryz.func83.trans (congrArg some (by kernel_rfl))
  f264 := Tryz.func84.trans (congrArg some (by kernel_rfl))
  f276 := Tryz.func82.trans (congrArg some (by kernel_rfl))
  f277 := Tryz.func113.trans (congrArg some (by kernel_rfl))
  t0 := Tryz.underlying0
  a0 := Tryz.isAgg0
  z0 := Tryz.sizeOf0
  v0 := Tryz.zeroValue0
  t3 := Tryz.underlying3
  a3 := Tryz.isAgg3
  z3 := Tryz.sizeOf3
  v3 := Tryz.zeroValue3
  t4 := Tryz.underlying4
  a4 := Tryz.isAgg4
  z4 := Tryz.sizeOf4
  v4 := Tryz.zeroValue4
  t5 := Tryz.underlying5
  a5 := Tryz.isAgg5
  z5 := Tryz.sizeOf5
  v5 := Tryz.zeroValue5
  t9 := Tryz.underlying9
  a9 := Tryz.isAgg9
  z9 := Tryz.sizeOf9
  v9 := Tryz.zeroValue9
  t20 := Tryz.underlying20
  a20 := Tryz.isAgg20
  z20 := Tryz.sizeOf20
  v20 := Tryz.zeroValue20
  t37 := Tryz.underlying32
  a37 := Tryz.isAgg32
  z37 := Tryz.sizeOf32
  v37 := Tryz.zeroValue32
  t46 := Tryz.underlying97
  a46 := Tryz.isAgg97
  z46 := Tryz.sizeOf97
  v46 := Tryz.zeroValue97
  t51 := Tryz.underlying128
  a51 := Tryz.isAgg128
  z51 := Tryz.sizeOf128
  v51 := Tryz.zeroValue128
  t53 := Tryz.underlying131
  a53 := Tryz.isAgg131
  z53 := Tryz.sizeOf131
  v53 := Tryz.zeroValue131
  t70 := Tryz.underlying51
  a70 := Tryz.isAgg51
  z70 := Tryz.sizeOf51
  v70 := Tryz.zeroValue51
  t72 := Tryz.underlying53
  a72 := Tryz.isAgg53
  z72 := Tryz.sizeOf53
  v72 := Tryz.zeroValue53
  t75 := Tryz.underlying71
  a75 := Tryz.isAgg71
  z75 := Tryz.sizeOf71
  v75 := Tryz.zeroValue71
  t76 := Tryz.underlying72
  a76 := Tryz.isAgg72
  z76 := Tryz.sizeOf72
  v76 := Tryz.zeroValue72
  t109 := Tryz.underlying98
  a109 := Tryz.isAgg98
  z109 := Tryz.sizeOf98
  v109 := Tryz.zeroValue98
  t127 := Tryz.underlying78
  a127 := Tryz.isAgg78
  z127 := Tryz.sizeOf78
  v127 := Tryz.zeroValue78
  t146 := Tryz.underlying129
  a146 := Tryz.isAgg129
  z146 := Tryz.sizeOf129
  v146 := Tryz.zeroValue129
  t148 := Tryz.underlying132
  a148 := Tryz.isAgg132
  z148 := Tryz.sizeOf132
  v148 := Tryz.zeroValue132
  t164 := Tryz.underlying126
  a164 := Tryz.isAgg126
  z164 := Tryz.sizeOf126
  v164 := Tryz.zeroValue126
theorem laysRepeat_extra : Builder.Extra Tryz.prog laysRepeat_ren where
  sizeBuilder := by kernel_rfl
  liesBuilder := by kernel_rfl
  t5 := Tryz.underlying5
  a5 := Tryz.isAgg5
  z5 := Tryz.sizeOf5
  v5 := Tryz.zeroValue5
  infoByte := by kernel_rfl
  cellsByte := by kernel_rfl
  sizeByte := by kernel_rfl
  neB5 := by decide
theorem below_ok {F : Nat → Prop} {ρ : Loc} {w w' : World} (h : RelH F ρ (look (up [])) w) (R : Nat → Prop) (hb : Go.RowKit.Below w.heap.size w w') :
    RelH F ρ (look (up [])) w' ∧ Trans F R ρ (look (up [])) w ρ (look (up [])) w' := by
  have hn := loc_none h
  refine ⟨⟨fun i _ _ _ _ hi => ?_, fun i _ _ hi => ?_, fun b hF => Nat.lt_of_lt_of_le (h.old b hF) hb.size, fun i _ _ hi => ?_, fun i o ho => ?_⟩,
    ⟨hb.os, hb.tape, hb.output, hb.size, fun b hlt _ => hb.block b hlt, fun i _ _ hi _ => hi, fun i cs _ hi => ?_, fun i cs _ hi => ?_, fun i _ _ _ _ hi => ?_, fun i _ _ _ _ hi => ?_, fun i _ hi => ?_, fun i _ hi => ?_, fun i _ _ hi => ?_⟩⟩
  all_goals first
  | (rw [hn i] at hi; cases hi)
  | cases ho
  | cases hi
theorem sc_Repeat (s : ByteArray) (c : Nat) (hc : c ≤ 9223372036854775807) (hlen : s.size * c ≤ 140737488355328) :
    SC Tryz.prog 30 [.pv (.val (.string s)), .pv (.val (.int .i64 c))] [] (fun k => k ∈ []) (.pv (.val (.string ⟨(Lib.repeatL s.data.toList c).toArray⟩))) [] := by
  intro F ρ w vs hk hrel hargs
  obtain ⟨v0, e0, r0⟩ := hargs.2 0 _ rfl
  obtain ⟨v1, e1, r1⟩ := hargs.2 1 _ rfl
  have hv : vs = [.string s, .int .i64 c] := by
    have hl := hargs.1
    have d0 := r0.val
    have d1 := r1.val
    subst d0 d1
    match vs, hl, e0, e1 with
    | [a, b], _, e0, e1 => cases e0; cases e1; rfl
  subst hv
  refine (Any.strings_Repeat laysRepeat laysRepeat_extra s c w hc hlen).mono ?_
  rintro e w' ⟨rfl, hb⟩
  obtain ⟨g1, g2⟩ := below_ok hrel (fun k => k ∈ []) hb
  exact ⟨ρ, _, rfl, .pv _ _ (.val _), g1, g2⟩
theorem sc_Join (xs : List ByteArray) (sep : ByteArray) (hN : xs.length ≤ 140737488355328) (hlen : (Lib.join (xs.map (·.data.toList)) sep.data.toList).length ≤ 140737488355328) :
    SC Tryz.prog 34 [.pv (.seq (xs.map fun x => [.val (.string x)])), .pv (.val (.string sep))] [] (fun k => k ∈ []) (.pv (.val (.string ⟨(Lib.join (xs.map (·.data.toList)) sep.data.toList).toArray⟩))) [] := by
  intro F ρ w vs hk hrel hargs
  obtain ⟨v0, e0, r0⟩ := hargs.2 0 _ rfl
  obtain ⟨v1, e1, r1⟩ := hargs.2 1 _ rfl
  have d1 := r1.val
  subst d1
  have hv : vs = [v0, .string sep] := by
    have hl := hargs.1
    match vs, hl, e0, e1 with
    | [a, b], _, e0, e1 => cases e0; cases e1; rfl
  subst hv
  have key : Calls Tryz.prog 34 #[v0, .string sep] w fun e w' => e = .returned (.string ⟨(Lib.join (xs.map (·.data.toList)) sep.data.toList).toArray⟩) ∧ Go.RowKit.Below w.heap.size w w' := by
    generalize hels : (xs.map fun x => ([.val (.string x)] : List PV)) = els at r0
    cases r0 with
    | pv _ _ r0 =>
      cases r0 with
      | seq els a cap b off u ha hb hl hm hcell hrep =>
        have hlen2 : els.length = xs.length := by rw [← hels]; simp
        rw [hlen2] at hl ⊢
        match xs, hels, hN, hlen with
        | [], hels, _, _ => exact (Any.strings_Join_none laysJoin laysJoin_extra a cap sep w).mono fun e w' ⟨h1, h2⟩ => ⟨h1, h2 ▸ Go.RowKit.Below.refl _ _⟩
        | x :: r, hels, hN, hlen =>
          have hne : els ≠ [] := by rw [← hels]; simp
          rw [ha hne]
          refine Any.strings_Join laysJoin laysJoin_extra b off cap (x :: r) sep w (fun j y hy => ?_) (hb hne).2 hN (by simpa using hl) hlen
          have h1 : els[j]? = some [.val (.string y)] := by rw [← hels, List.getElem?_map, hy]; rfl
          have h2 := hcell j _ h1 0 _ rfl
          have h3 := hrep j _ h1 0 _ rfl
          have h4 : u j 0 = .string y := by
            generalize u j 0 = q at h3
            cases h3
            rfl
          rw [h4] at h2
          simpa using h2
  refine key.mono ?_
  rintro e w' ⟨rfl, hb⟩
  obtain ⟨g1, g2⟩ := below_ok hrel (fun k => k ∈ []) hb
  exact ⟨ρ, _, rfl, .pv _ _ (.val _), g1, g2⟩
section
variable {P : Program} {c : Cx} {o : Oper} {fr : Fr} {hp : Hp} {R1 : Nat → Prop}
theorem run_eqGuard_ptr {op : BinOp} {t : TypeId} {x y : Operand} {p q : Option Addr} (w : World) : (eqGuard op t x y (.pointer p) (.pointer q)).run P w = .ok () w := by
  unfold eqGuard
  split <;> simp
theorem run_eql_ptr_nil {tp te : TypeId} {w : World} (p : Option Addr) (hp : P.underlying tp = some (.pointer te)) : (binOp .eql tp (.pointer p) (.pointer none)).run P w = .ok (.bool p.isNone) w := by
  have h : ∀ d : Nat, (Op.equalIn (d + 1) tp (.pointer p) (.pointer none)).run P w = .ok p.isNone w := fun d => by
    cases p <;> simp [Op.equalIn, run_underlying hp]
  simp only [binOp]
  simp [Op.equal, Op.maxDepth, h 9999]
theorem ev_nil {a : Act} : a.eval (.const (.pointer none)) = .pointer none := rfl
theorem ok_eql_tnil {t u te : TypeId} {x : Operand} {k T : Nat} {cs : List IV} (ho : o.op = .binOp .eql t x (.const (.pointer none)) u) (hx : fr.ev x = some (.tnil k T)) (hk : look hp k = some (.box cs))
    (ht : P.underlying t = some (.pointer te)) : OkV P c R1 o fr (look hp) (.pv (.val (.bool true))) := fun ρ w a h => by
  have hv := h.ev hx
  generalize hg : a.eval x = v at hv
  cases hv with
  | tnil _ _ _ hb =>
    obtain ⟨b, _, rfl⟩ := hb cs hk
    exact ⟨_, fun w2 _ => by simp only [execOp, ho, hg, ev_nil, Sem.run_bind, run_eqGuard_ptr, Result.andThen_ok, run_eql_ptr_nil none ht]; rfl, mkVal _⟩
theorem ok_eql_nil {t u te : TypeId} {x : Operand} {k off : Nat} {cs : List IV} (ho : o.op = .binOp .eql t x (.const (.pointer none)) u) (hx : fr.ev x = some (.ptr k off)) (hk : look hp k = some (.box cs))
    (ht : P.underlying t = some (.pointer te)) : OkV P c R1 o fr (look hp) (.pv (.val (.bool false))) := fun ρ w a h => by
  have hv := h.ev hx
  generalize hg : a.eval x = v at hv
  cases hv with
  | ptr _ _ _ hb =>
    obtain ⟨b, _, _, rfl⟩ := hb cs hk
    exact ⟨_, fun w2 _ => by simp only [execOp, ho, hg, ev_nil, Sem.run_bind, run_eqGuard_ptr, Result.andThen_ok, run_eql_ptr_nil (some _) ht]; rfl, mkVal _⟩
theorem ok_neq_same {t u te : TypeId} {j : TypeInfo} {x y : Operand} {k off : Nat} {cs : List IV} (ho : o.op = .binOp .neq t x y u) (hx : fr.ev x = some (.ptr k off)) (hy : fr.ev y = some (.ptr k off)) (hk : look hp k = some (.box cs))
    (ht : P.underlying t = some (.pointer te)) (hj : P.info? te = some j) : OkV P c R1 o fr (look hp) (.pv (.val (.bool false))) := fun ρ w a h => by
  have hv := h.ev hx
  have hu := h.ev hy
  generalize hg : a.eval x = v at hv
  generalize hg2 : a.eval y = v2 at hu
  cases hv with
  | ptr _ _ _ hb =>
    obtain ⟨b, c1, h1, rfl⟩ := hb cs hk
    cases hu with
    | ptr _ _ _ hb2 =>
      obtain ⟨b2, c2, h2, rfl⟩ := hb2 cs hk
      rw [h1] at h2
      cases h2
      exact ⟨_, fun w2 _ => by simp only [execOp, ho, hg, hg2, Sem.run_bind, run_eqGuard_ptr, Result.andThen_ok, Lib.run_neq_ptr_same w2 _ ht hj]; rfl, mkVal _⟩
theorem Ok.one {x : IV} (h : ∀ ρ w a, All c ρ (look hp) w fr a → ∃ v, (execOp a.eval o).run P w = .ok (.value v) w ∧ RepI c.F ρ (look hp) w x v) : Ok P c o fr (look hp) x (look hp) := by
  intro ρ w a K Q ha hK
  obtain ⟨v, h1, h2⟩ := h ρ w a ha
  unfold Oper.wp
  rw [h1]
  exact hK ρ w v ha h2
theorem shape_of {w : World} {b : Nat} {r : Array Value} {e : TypeId} {f : Nat × Nat} (h : w.heap[b]? = some (.cells r e f)) : w.shape? b = some (e, r.size) := by simp [World.shape?, h]
theorem All.typed {ρ : Loc} {w : World} {a : Act} (h : All c ρ (look hp) w fr a) {x : Operand} {k e off : Nat} {cs : List IV} (hx : fr.ev x = some (.ptr k off)) (hk : look hp k = some (.box (.tnil k (tyTag + e) :: cs))) :
    ∃ b, a.eval x = .pointer (some ⟨b, off, none⟩) ∧ w.shape? b = some (e, 2) := by
  have hv := h.ev hx
  generalize hg : a.eval x = v at hv
  cases hv with
  | ptr _ _ _ hb =>
    obtain ⟨b, c1, h1, rfl⟩ := hb _ hk
    obtain ⟨ob, h3, h4⟩ := h.rel.obj k b c1 h1
    rw [hk] at h3
    cases h3
    cases h4 with
    | box _ e2 r u hh hl hv hr ht =>
      have hu := hr 0 _ rfl
      generalize u 0 = u0 at hu
      cases hu with
      | tnil _ _ _ hb2 =>
        obtain ⟨b2, h2, _⟩ := hb2 _ hk
        rw [h1] at h2
        cases h2
        obtain ⟨h5, h6⟩ := ht (Nat.le_add_right _ _)
        obtain rfl : e = e2 := Nat.add_left_cancel h5
        exact ⟨b, rfl, by rw [shape_of hh, h6]⟩
theorem ok_to_unsafe {s d te : TypeId} {j : TypeInfo} {x : Operand} {k e : Nat} {cs : List IV} (ho : o.op = .convert s d x) (hx : fr.ev x = some (.ptr k 0)) (hk : look hp k = some (.box (.tnil k (tyTag + e) :: cs)))
    (hs : P.underlying s = some (.pointer te)) (hd : P.underlying d = some .unsafePointer) (ht : P.info? te = some j) (hj : j.size ≠ 0) : Ok P c o fr (look hp) (.ptr k 0) (look hp) := Ok.one fun ρ w a h => by
  obtain ⟨b, h1, h2⟩ := h.typed hx hk
  have hv := h.ev hx
  rw [h1] at hv
  exact ⟨_, by simp only [execOp, ho, h1, Sem.run_bind, Lib.run_to_unsafe w ⟨b, 0, none⟩ hs hd ht hj h2 (Nat.zero_lt_succ 1), Result.andThen_ok]; rfl, hv⟩
theorem ok_from_unsafe {s d te : TypeId} {j : TypeInfo} {x : Operand} {k e : Nat} {cs : List IV} (ho : o.op = .convert s d x) (hx : fr.ev x = some (.ptr k 0)) (hk : look hp k = some (.box (.tnil k (tyTag + e) :: cs)))
    (hs : P.underlying s = some .unsafePointer) (hd : P.underlying d = some (.pointer te)) (ht : P.info? te = some j) (hl : liesAt P P.depth e (2 / P.cellsOf e) 0 te 1 = true) : Ok P c o fr (look hp) (.ptr k 0) (look hp) := Ok.one fun ρ w a h => by
  obtain ⟨b, h1, h2⟩ := h.typed hx hk
  have hv := h.ev hx
  rw [h1] at hv
  exact ⟨_, by simp only [execOp, ho, h1, Sem.run_bind, Lib.run_from_unsafe w ⟨b, 0, none⟩ hs hd ht h2 hl, Result.andThen_ok]; rfl, hv⟩
theorem ok_noEscape {f : FuncId} {fn : Func} {tys : Array TypeId} {x : Operand} {z : IV} (ho : o.op = .call { callee := .value (.func f), args := #[x], argTypes := tys }) (hx : fr.ev x = some z) (hf : P.funcs[f]? = some fn) (hname : (fn.name == "runtime.NumGoroutine") = false)
    (hb : fn.body.isNone = true) (hn : Extern.findNext fn = none) (he : Extern.find fn = some Extern.AbiNoEscape.same) : Ok P c o fr (look hp) z (look hp) := Ok.one fun ρ w a h => by
  refine ⟨a.eval x, ?_, h.ev hx⟩
  have e0 : a.eval (.func f) = .func (.func f) #[] #[] := rfl
  simp only [execOp, ho, resolve, e0, Deferred.ofValue, Sem.run_bind, Sem.run_pure, Result.andThen_ok, invoke]
  have := run_callFunc_extern hf hname hb hn he #[a.eval x] w
  rw [Lib.run_noEscape] at this
  simpa using this
theorem OkF.same {Rl : List Nat} {x : IV} (rd : List Nat) (h : ∀ (c : Cx) fr2 hp2, agr fr2 fr (opSlots o.op) → agh hp2 hp rd → Ok P c o fr2 (look hp2) x (look hp2)) : OkF P Rl o fr hp ⟨x, [], rd, []⟩ :=
  fun c fr2 hp2 _ _ hg hh _ => h c fr2 hp2 hg hh
theorem ok_boxT {t : TypeId} {x : Operand} {k : Nat} (ho : o.op = .box t x) (hx : fr.ev x = some (.pv (.agg [.val (.pointer none), .val (.slice none 0 0)]))) (hσ : look hp k = none) (hc : c.σ k = none) (hfr : nmFr k fr = false) (hhp : nmHp k hp = false) :
    Ok P c o fr (look hp) (.ptr k 0) (look ((k, some (.box [.tnil k (tyTag + t), .pv (.val (.slice none 0 0))])) :: hp)) := by
  intro ρ w a K Q h hK
  have hr := h.ev hx
  generalize hv : a.eval x = v at hr
  cases hr with
  | pv _ _ hr =>
    cases hr with
    | agg _ vs u hl hvu hr =>
      have h0 := hvu 0 _ rfl
      have h1 := hvu 1 _ rfl
      have r0 := hr 0 _ rfl
      have r1 := hr 1 _ rfl
      generalize u 0 = u0 at h0 r0
      generalize u 1 = u1 at h1 r1
      cases r0
      cases r1
      have hrun : (execOp a.eval o).run P w = .ok (.value (.pointer (some ⟨w.heap.size, 0, none⟩))) (w.alloc (.cells vs t)) := by
        have hn : (newVar t (.agg vs)).run P w = .ok ⟨w.heap.size, 0, none⟩ (w.alloc (.cells vs t)) := rfl
        simp only [execOp, ho, hv, Instr.box, Sem.run_bind, hn, Result.andThen_ok]
        rfl
      unfold Oper.wp
      rw [hrun]
      refine hK (locUpd ρ k (some (w.heap.size, tyTag + t))) _ _ (h.alloc hσ hc hfr hhp (tyTag + t) _ _ fun keep keepP => ?_) (.ptr _ _ _ fun cs' _ => ⟨w.heap.size, tyTag + t, locUpd_same, rfl⟩)
      refine .box _ t vs (fun | 0 => .pointer none | _ => .slice none 0 0) (heap_new w _) (by simp [hl]) (fun j x hj => ?_) (fun j x hj => ?_) fun _ => ⟨rfl, by simpa using hl⟩
      ·match j, hj with
       | 0, hj => exact h0
       | 1, hj => exact h1
      match j, hj with
      | 0, hj => cases hj; exact .tnil _ _ _ fun cs _ => ⟨w.heap.size, locUpd_same, rfl⟩
      | 1, hj => cases hj; exact .pv _ _ (.val _)
end
set_option maxRecDepth 20000
def tNum (n : Int) : ByteArray := ⟨(Lib.itoa n).toArray⟩
def tVal (n : Int) : ByteArray := ⟨#[118]⟩ ++ tNum n
def N64 (n : Int) : Prop := -9223372036854775808 ≤ n ∧ n ≤ 9223372036854775807
theorem tNum_le {n : Int} (h : N64 n) : (tNum n).size ≤ 21 := Lib.itoa_length_le n h.1 h.2
theorem size_app (a b : ByteArray) : (a ++ b).size = a.size + b.size := ByteArray.size_append
theorem tVal_le {n : Int} (h : N64 n) : (tVal n).size ≤ 22 := by
  unfold tVal
  rw [size_app]
  have := tNum_le h
  have e : (⟨#[118]⟩ : ByteArray).size = 1 := rfl
  omega
theorem str_add {a b : ByteArray} (h : a.size + b.size ≤ 9223372036854775807) : strBin .add a b = some (.string (a ++ b)) := by
  show (if ((a.size + b.size : Nat) : Int) > IntKind.i64.max then none else some (Value.string (a ++ b))) = _
  rw [if_neg]
  have : IntKind.i64.max = 9223372036854775807 := rfl
  rw [this]
  omega
theorem sc_ItoaI (n : Int) (h : N64 n) : SC Tryz.prog 32 [.pv (.val (.int .i64 n))] [] (fun k => k ∈ []) (.pv (.val (.string (tNum n)))) [] := by
  refine SC.vc tb {} [] Tryz.func32 rfl rfl ?_
  exact ⟨[], sc_FormatInt n h.1 h.2, sR, trivial, rfl, sI, trivial⟩
theorem sc_Itoa (n : Int) (h : N64 n) : SC Tryz.prog 16 [.pv (.val (.int .i64 n))] [] (fun k => k ∈ []) (.pv (.val (.string (tNum n)))) [] := by
  refine SC.vc tb {} [] Tryz.func16 rfl rfl ?_
  exact ⟨[], sc_ItoaI n h, sR, trivial, rfl, sI, trivial⟩
theorem sc_showValue (n : Int) (h : N64 n) : SC Tryz.prog 59 [.pv (.val (.int .i64 n))] [] (fun k => k ∈ []) (.pv (.val (.string (tVal n)))) [] := by
  refine SC.vc tb {} [] Tryz.func59 rfl rfl ?_
  have h1 := tNum_le h
  exact ⟨[], sc_Itoa n h, sR, trivial, rfl, str_add (by have e : (⟨#[118]⟩ : ByteArray).size = 1 := rfl; rw [e]; omega), sI, trivial⟩
def tEl (v : Int) : List PV := [.val (.string (tVal v))]
theorem sc_texts (l : List Int) (hl : ∀ v ∈ l, N64 v) (hb : l.length ≤ 1073741824) : SC Tryz.prog 92 [.pv (ints l)] [] (fun k => k ∈ []) (.pv (.seq (l.map tEl))) [] := by
  refine SC.vc tb { gh := [(1, [.grow 2 102 9 1]), (6, [.fz 2 102])] } [] Tryz.func92 rfl rfl ?_
  refine ⟨Nat × List Int, fun (k, acc) => [(7, iInt k), (2, .sl 102 (acc.map tEl).length)], fun (_, acc) => [(102, .row ⟨9, 1⟩ (acc.map tEl))], fun (k, _) => l.length - k, fun (k, acc) => k ≤ l.length ∧ acc = l.take k, [], (0, []), ⟨Nat.zero_le _, rfl⟩, ⟨rfl, rfl, trivial⟩, ⟨rfl, trivial⟩, ?_⟩
  rintro ⟨k, acc⟩ ⟨hk, rfl⟩
  refine bcase (fun hc => ?_) fun hc => ?_
  · have hlt := lt_of (f := eInt) rfl hc
    obtain ⟨x, hx, ht, _, hm⟩ := at_lt hlt
    exact ⟨map_get (f := eInt) hx, rfl, [], sc_showValue x (hl x hm), sR, trivial, rfl, rfl, flat1 rfl, by simp; omega, i64_add rfl (by omega), (k + 1, l.take (k + 1)), step_lt hlt, ⟨hlt, rfl⟩, ⟨rfl, slq (by simp; omega), trivial⟩, ⟨rwq (by simp [ht, tEl]), trivial⟩, rfl, rfl, rfl, rfl⟩
  · exact ⟨rfl, sE (by rw [List.take_of_length_le (ge_of (f := eInt) rfl hc)]), trivial⟩
def tJoin (xs : List ByteArray) (sep : ByteArray) : ByteArray := ⟨(Lib.join (xs.map (·.data.toList)) sep.data.toList).toArray⟩
def tVals (l : List Int) : ByteArray := tJoin (l.map tVal) ⟨#[44, 32]⟩
theorem join_le (sep : List UInt8) (m : Nat) : ∀ xs : List (List UInt8), (∀ x ∈ xs, x.length ≤ m) → (Lib.join xs sep).length ≤ xs.length * (m + sep.length)
  | [], _ => by simp [Lib.join]
  | [x], h => by
    have := h x (.head _)
    rw [Lib.join_one]
    simp only [List.length_cons, List.length_nil]
    omega
  | x :: y :: r, h => by
    have h1 := h x (.head _)
    have h2 := join_le sep m (y :: r) fun z hz => h z (.tail _ hz)
    have e : Lib.join (x :: y :: r) sep = x ++ sep ++ Lib.join (y :: r) sep := by simp [Lib.join]
    rw [e]
    simp only [List.length_append, List.length_cons] at h2 ⊢
    rw [Nat.add_mul (r.length + 1) 1]
    omega
theorem sc_showValues (l : List Int) (hl : ∀ v ∈ l, N64 v) (hb : l.length ≤ 1073741824) : SC Tryz.prog 91 [.pv (ints l)] [] (fun k => k ∈ []) (.pv (.val (.string (tVals l)))) [] := by
  refine SC.vc tb {} [] Tryz.func91 rfl rfl ?_
  have hj := sc_Join (l.map tVal) ⟨#[44, 32]⟩ (by simp; omega) (by
    refine Nat.le_trans (join_le _ 22 _ fun x hx => ?_) ?_
    · simp only [List.map_map, List.mem_map] at hx
      obtain ⟨v, hv, rfl⟩ := hx
      exact tVal_le (hl v hv)
    · simp; omega)
  rw [List.map_map] at hj
  exact ⟨[], sc_texts l hl hb, sR, trivial, rfl, [], hj, sR, trivial, rfl, sI, trivial⟩
def tBool (b : Bool) : ByteArray := if b then ⟨#[116, 114, 117, 101]⟩ else ⟨#[102, 97, 108, 115, 101]⟩
theorem sc_FormatBoolI (b : Bool) : SC Tryz.prog 119 [iBool b] [] (fun k => k ∈ []) (.pv (.val (.string (tBool b)))) [] := by
  refine SC.vc tb {} [] Tryz.func119 rfl rfl ?_
  cases b with
  | true => exact ⟨sI, trivial⟩
  | false => exact ⟨sI, trivial⟩
theorem sc_FormatBool (b : Bool) : SC Tryz.prog 93 [iBool b] [] (fun k => k ∈ []) (.pv (.val (.string (tBool b)))) [] := by
  refine SC.vc tb {} [] Tryz.func93 rfl rfl ?_
  exact ⟨[], sc_FormatBoolI b, sR, trivial, rfl, sI, trivial⟩
def tKind (t : Int) : ByteArray := if t = 2 then ⟨#[98, 111, 111, 108]⟩ else ⟨#[105, 110, 116]⟩
theorem sc_kind (t : Int) : SC Tryz.prog 33 [.pv (.val (.int .i64 t))] [] (fun k => k ∈ []) (.pv (.val (.string (tKind t)))) [] := by
  refine SC.vc tb {} [] Tryz.func33 rfl rfl ?_
  refine bcase (fun h => ?_) fun h => ?_
  · exact ⟨sE (by unfold tKind; rw [if_pos (by simpa using h)]), trivial⟩
  · exact ⟨sE (by unfold tKind; rw [if_neg (by simpa using h)]), trivial⟩
set_option maxRecDepth 20000
set_option maxHeartbeats 2000000
def bTn : IV := .tnil 1001 (tyTag + 55)
def bPt : IV := .ptr 1001 0
def bRt : RT := ⟨5, 1⟩
def bdN (c0 : IV) (n : Nat) (els : List (List PV)) : List (Nat × HO) := [(1001, .box [c0, .sl 1002 n]), (1002, .row bRt els)]
def bd (c0 : IV) (t : ByteArray) : List (Nat × HO) := bdN c0 (tEls t).length (tEls t)
theorem bd_size : ∃ j, Tryz.prog.info? 53 = some j ∧ j.size = 2 := Option.map_eq_some_iff.1 laysJoin_extra.sizeBuilder
theorem bd_lies : liesAt Tryz.prog Tryz.prog.depth 55 (2 / Tryz.prog.cellsOf 55) 0 53 1 = true := by kernel_rfl
theorem sc_copyCheck (n : Nat) (els : List (List PV)) : SC Tryz.prog 52 [.ptr 1001 0] (bdN bPt n els) (fun k => k ∈ [1001, 1002]) (.tup []) (bdN bPt n els) := by
  obtain ⟨j, hj, hj2⟩ := bd_size
  refine SC.vc tb { an := [4, 2005] } [1001, 1002] Tryz.func52 rfl rfl ?_
  exact ⟨OkF.pure (rd := [1001]) fun c R1 fr2 hp2 hg hh _ => ok_eql_nil rfl (hg.ev rfl (by simp [Op.operands])) (hh.at rfl (.head _)) Tryz.underlying51,
    OkF.pure (rd := [1001]) fun c R1 fr2 hp2 hg hh _ => ok_neq_same rfl (hg.ev rfl (by simp [Op.operands])) (hg.ev rfl (by simp [Op.operands])) (hh.at rfl (.head _)) Tryz.underlying51 hj, sI, rfl, rfl, trivial⟩
theorem sc_copyCheck0 (n : Nat) (els : List (List PV)) : SC Tryz.prog 52 [.ptr 1001 0] (bdN bTn n els) (fun k => k ∈ [1002]) (.tup []) (bdN bPt n els) := by
  obtain ⟨j, hj, hj2⟩ := bd_size
  refine SC.vc tb { an := [4, 1002, 1003, 1004] } [1002] Tryz.func52 rfl rfl ?_
  exact ⟨OkF.pure (rd := [1001]) fun c R1 fr2 hp2 hg hh _ => ok_eql_tnil rfl (hg.ev rfl (by simp [Op.operands])) (hh.at rfl (.head _)) Tryz.underlying51,
    OkF.same [1001] fun c fr2 hp2 hg hh => ok_to_unsafe rfl (hg.ev rfl (by simp [Op.operands])) (hh.at rfl (.head _)) Tryz.underlying51 Tryz.underlying126 hj (by omega),
    OkF.same [] fun c fr2 hp2 hg hh => ok_noEscape rfl (hg.ev rfl (by simp [Op.operands, Call.operands])) Tryz.func82 (by kernel_rfl) (by kernel_rfl) (by kernel_rfl) (by kernel_rfl),
    OkF.same [1001] fun c fr2 hp2 hg hh => ok_from_unsafe rfl (hg.ev rfl (by simp [Op.operands])) (hh.at rfl (.head _)) Tryz.underlying126 Tryz.underlying51 hj bd_lies, sI, rfl, rfl, trivial⟩
theorem byte_info : ∃ i, Tryz.prog.info? 5 = some i ∧ i.zero = some (.int .u8 0) ∧ i.size = 1 ∧ i.bytes = 1 := by
  have h := laysJoin_extra.infoByte
  obtain ⟨i, hi, h2⟩ := Option.map_eq_some_iff.1 h
  simp only [Prod.mk.injEq] at h2
  exact ⟨i, hi, h2⟩
theorem okf_app {o : Oper} {fr : Fr} {hp : Hp} {n : Nat} {els : List (List PV)} {s : ByteArray} {Rl : List Nat} {x y : Operand} (ho : o.op = .call { callee := .builtin .append, args := #[x, y], argTypes := #[32, 9] }) (hx : fr.ev x = some (.sl 1002 n)) (hy : fr.ev y = some (.pv (.val (.string s))))
    (hk : look hp 1002 = some (.row bRt els)) (hn : els.length = n) (hb : n + s.size ≤ 140737488355328) (hR : nIn 1002 Rl = false) : OkF Tryz.prog Rl o fr hp ⟨.sl 1002 (n + s.size), [(1002, some (.row bRt (els ++ tEls s)))], [1002], []⟩ := by
  obtain ⟨i, h1, h2, h3, h4⟩ := byte_info
  have hops : o.op.operands.toList = [x, y] := by rw [ho]; rfl
  exact fun c fr2 hp2 hc _ hg hh _ => ok_append_str ho (hg.ev hx (by rw [hops]; simp)) (hg.ev hy (by rw [hops]; simp)) (hh.at hk (.head _)) hn (notR hc hR) Tryz.underlying32 Tryz.underlying9 h1 h2 h3 h4 hb
theorem sc_WriteString (n : Nat) (els : List (List PV)) (hn : els.length = n) (s : ByteArray) (hb : n + s.size ≤ 140737488355328) :
    SC Tryz.prog 29 [.ptr 1001 0, .pv (.val (.string s))] (bdN bPt n els) (fun k => k ∈ []) (.tup [iInt s.size, .pv (.val .nilIface)]) (bdN bPt (n + s.size) (els ++ tEls s)) := by
  refine SC.vc tb { an := [2006] } [] Tryz.func29 rfl rfl ?_
  exact ⟨[1001, 1002], sc_copyCheck n els, sR, ⟨rfl, rfl, rfl, rfl, trivial⟩, rfl, okf_app rfl rfl rfl rfl hn hb rfl, by rw [List.length_append, hn, tEls_len], sI, rfl, rfl, trivial⟩
theorem sc_WriteString0 (n : Nat) (els : List (List PV)) (hn : els.length = n) (s : ByteArray) (hb : n + s.size ≤ 140737488355328) :
    SC Tryz.prog 29 [.ptr 1001 0, .pv (.val (.string s))] (bdN bTn n els) (fun k => k ∈ []) (.tup [iInt s.size, .pv (.val .nilIface)]) (bdN bPt (n + s.size) (els ++ tEls s)) := by
  refine SC.vc tb { an := [2006] } [] Tryz.func29 rfl rfl ?_
  exact ⟨[1002], sc_copyCheck0 n els, sR, ⟨rfl, rfl, rfl, trivial⟩, rfl, okf_app rfl rfl rfl rfl hn hb rfl, by rw [List.length_append, hn, tEls_len], sI, rfl, rfl, trivial⟩
theorem okf_app1 {o : Oper} {fr : Fr} {hp : Hp} {n : Nat} {els : List (List PV)} {v : Value} {Rl : List Nat} {x y : Operand} (ho : o.op = .call { callee := .builtin .append, args := #[x, y], argTypes := #[32, 32] }) (hx : fr.ev x = some (.sl 1002 n)) (hy : fr.ev y = some (.pv (.seq [[.val v]])))
    (hv : (PV.val v).one = true) (hk : look hp 1002 = some (.row bRt els)) (hn : els.length = n) (hb : n + 1 ≤ 140737488355328) (hR : nIn 1002 Rl = false) : OkF Tryz.prog Rl o fr hp ⟨.sl 1002 (n + 1), [(1002, some (.row bRt (els ++ [[.val v]])))], [1002], []⟩ := by
  obtain ⟨i, h1, h2, h3, h4⟩ := byte_info
  have hops : o.op.operands.toList = [x, y] := by rw [ho]; rfl
  exact fun c fr2 hp2 hc _ hg hh _ => ok_append (by_ := 1) ho (hg.ev hx (by rw [hops]; simp)) (hg.ev hy (by rw [hops]; simp)) (hh.at hk (.head _)) hn (notR hc hR) Tryz.underlying32 (by rw [show bRt.e = 5 from rfl, h1]; simp [h2, h3, h4, bRt]; rfl) (by decide) (fun el hel => by simp at hel; subst hel; rfl) (fun el hel z hz => by simp at hel; subst hel; simp at hz; subst hz; exact hv) (by show n + 1 ≤ _; unfold maxLen; omega) (by show (n + 1) * 1 ≤ _; omega)
theorem sc_WriteByte (n : Nat) (els : List (List PV)) (hn : els.length = n) (b : UInt8) (hb : n + 1 ≤ 140737488355328) :
    SC Tryz.prog 31 [.ptr 1001 0, .pv (.val (vB b))] (bdN bPt n els) (fun k => k ∈ []) (.pv (.val .nilIface)) (bdN bPt (n + 1) (els ++ [[.val (vB b)]])) := by
  refine SC.vc tb { an := [2007] } [] Tryz.func31 rfl rfl ?_
  exact ⟨[1001, 1002], sc_copyCheck n els, sR, ⟨rfl, rfl, rfl, rfl, trivial⟩, rfl, okf_app1 rfl rfl rfl rfl rfl hn hb rfl, by rw [List.length_append, hn]; rfl, sI, rfl, rfl, trivial⟩
section
open Go Go.Shelf Go.RowKit
set_option maxRecDepth 100000
set_option maxHeartbeats 2000000
set_option linter.unusedVariables false
theorem calls_StringG {P : Program} {ρ : Ren} (L : Lays.n169 P ρ) (X : Builder.Extra P ρ) (b g cap : Nat) (cur : Array Value) (l : List UInt8) (w : World) (c0 : w.cell? ⟨b, 1, none⟩ = some (.slice (some ⟨g, 0, none⟩) l.length cap))
    (hg : w.heap[g]? = some (.cells cur (ρ.t 5) (0, 0))) (h0 : l ≠ []) (hc : l.length ≤ cap) (hm : cap ≤ maxLen) (hs : cur.size = cap) (htake : cur.toList.take l.length = Lib.byteCells l) :
    Calls P (ρ.f 169) #[.pointer (some ⟨b, 0, none⟩)] w fun e w' => e = .returned (.string ⟨l.toArray⟩) ∧ w' = w.drew.freeze ⟨g, 0, none⟩ l.length := by
  have hl0 : l.length ≠ 0 := by simpa using h0
  have c1 : w.drew.cell? ⟨b, 1, none⟩ = some (.slice (some ⟨g, 0, none⟩) l.length cap) := c0
  have hg' : w.drew.heap[g]? = some (.cells cur (ρ.t 5) (0, 0)) := hg
  have hSD : (Builtin.unsafeSliceData_ #[ρ.t 37] (ρ.t 127) #[.slice (some ⟨g, 0, none⟩) l.length cap]).run P w.drew = .ok (.pointer (some ⟨g, 0, none⟩)) w.drew :=
    Lib.run_unsafeSliceData_row _ _ _ _ _ _ (by omega)
  have hUS : (Builtin.unsafeString_ #[ρ.t 127, ρ.t 3] (ρ.t 9) #[.pointer (some ⟨g, 0, none⟩), .int .i64 l.length]).run P w.drew = .ok (.string ⟨l.toArray⟩) (w.drew.freeze ⟨g, 0, none⟩ l.length) := by
    refine Lib.run_unsafeString_row w.drew (ρ.t 127) (ρ.t 3) (ρ.t 9) (ρ.t 5) L.t127 X.cellsByte g cur.size (by simp [World.shape?, hg']) l h0 (by omega) (by unfold maxLen at hm; omega) ?_
    intro j x hx
    have h1 : (Lib.byteCells l)[j]? = some (.int .u8 x.toNat) := by simp [Lib.byteCells, hx]
    rw [← htake, List.getElem?_take] at h1
    split at h1
    ·rw [Addr.add_mid, Nat.zero_add, cell_at hg', ← Array.getElem?_toList]; exact h1
    cases h1
  have mixed := L.mixed
  have t72 := L.t72; have a72 := L.a72; have z72 := L.z72; have v72 := L.v72; have u72 := run_underlying L.t72
  have t70 := L.t70; have a70 := L.a70; have z70 := L.z70; have v70 := L.v70; have u70 := run_underlying L.t70
  have t37 := L.t37; have a37 := L.a37; have z37 := L.z37; have v37 := L.v37; have u37 := run_underlying L.t37
  have t127 := L.t127; have a127 := L.a127; have z127 := L.z127; have v127 := L.v127; have u127 := run_underlying L.t127
  have t3 := L.t3; have a3 := L.a3; have z3 := L.z3; have v3 := L.v3; have u3 := run_underlying L.t3
  have t9 := L.t9; have a9 := L.a9; have z9 := L.z9; have v9 := L.v9; have u9 := run_underlying L.t9
  have t5 := X.t5; have a5 := X.a5; have z5 := X.z5; have v5 := X.v5; have u5 := run_underlying X.t5
  go_enter L.f169, Body.n169_ntmps ρ
  go_wp2
  go_region_o
  all_goals (go_wp2; go_ret; exact ⟨rfl, rfl⟩)
theorem All.spent {c : Cx} {ρ : Loc} {hp : Hp} {w w' : World} {fr : Fr} {a : Act} {k b cc : Nat} (h : All c ρ (look hp) w fr a) (hk : ρ k = some (b, cc)) (hR : ¬ c.R k)
    (hos : w'.os = w.os) (ht : w'.tape = w.tape) (hout : w'.output = w.output) (hsz : w'.heap.size = w.heap.size) (hblk : ∀ j, j ≠ b → w'.heap[j]? = w.heap[j]?) : All c (locUpd ρ k none) (look ((k, none) :: hp)) w' fr a := by
  have hlk : ∀ j, j ≠ k → look ((k, none) :: hp) j = look hp j := fun j hj => look_ne (Ne.symm hj)
  have hlk' : look ((k, none) :: hp) k = none := look_hd
  have hρ : ∀ j, j ≠ k → locUpd ρ k none j = ρ j := fun j hj => locUpd_ne (Ne.symm hj)
  have hne : ∀ j x, look ((k, none) :: hp) j = some x → j ≠ k := fun j x hj e => by subst e; rw [hlk'] at hj; cases hj
  have t : Trans c.F (· ≠ k) ρ (look hp) w (locUpd ρ k none) (look ((k, none) :: hp)) w' := by
    refine ⟨hos, ht, hout, by omega, fun j hj hall => hblk j fun e => hall k cc (e ▸ hk) rfl, ?_, fun j _ _ _ h1 => hρ j (hne _ _ h1), fun j _ _ _ h1 => hρ j (hne _ _ h1), fun j _ _ _ _ _ h1 _ => hρ j (hne _ _ h1), ?_, ?_, ?_, ?_⟩
    ·intro j b c' hj hb
     by_cases e : j = k
     ·subst e; rw [locUpd_same] at hj; cases hj
     rwa [hρ j e] at hj
    ·intro j s s' els els' h1 h2
     rw [hlk j (hne _ _ h2), h1] at h2
     cases h2; exact Nat.le_refl _
    all_goals intro j
    ·intro cs h2
     rw [hlk j (hne _ _ h2)] at h2; exact .inr ⟨_, h2⟩
    ·intro cs h2
     rw [hlk j (hne _ _ h2)] at h2; exact .inr ⟨_, h2⟩
    intro s cs h2
    rw [hlk j (hne _ _ h2)] at h2; exact .inr ⟨_, h2⟩
  have hnone : ∀ j, ¬ (look hp j = none ∧ look ((k, none) :: hp) j ≠ none) := fun j hj => by
    by_cases e : j = k
    ·subst e; exact hj.2 hlk'
    rw [hlk j e] at hj; exact hj.2 hj.1
  have hnn : ∀ x, ¬ Names (fun j => look hp j = none ∧ look ((k, none) :: hp) j ≠ none) x := fun x hx => by
    obtain ⟨j, hj⟩ := hx.some
    exact hnone j hj
  refine h.step t (fun j hj e => hR (e ▸ hj)) ⟨?_, ?_, fun b hb => by rw [hsz]; exact h.rel.old b hb, fun j b' c' hj => ?_, fun j o1 h1 h2 => ?_⟩ (fun j h1 h2 => absurd ⟨h1, h2⟩ (hnone j)) fun _ x _ => hnn x
  ·intro j j' b c1 c2 h1 h2
   by_cases e : j = k
   ·subst e; rw [locUpd_same] at h1; cases h1
   by_cases e' : j' = k
   ·subst e'; rw [locUpd_same] at h2; cases h2
   rw [hρ j e] at h1; rw [hρ j' e'] at h2
   exact h.rel.inj _ _ _ _ _ h1 h2
  ·intro j b c1 h1 hF
   by_cases e : j = k
   ·subst e; rw [locUpd_same] at h1; cases h1
   rw [hρ j e] at h1; exact h.rel.apart _ _ _ h1 hF
  ·by_cases e : j = k
   ·subst e; rw [locUpd_same] at hj; cases hj
   rw [hρ j e] at hj
   obtain ⟨o1, h1, h2⟩ := h.rel.obj j b' c' hj
   refine ⟨o1, (hlk j e).trans h1, h2.keep t (hblk b' fun e' => e ?_) fun x _ => hnn x⟩
   subst e'
   exact h.rel.inj _ _ _ _ _ hj hk
  have e := hne _ _ h1
  rw [hlk j e] at h1; rw [hρ j e] at h2; exact h.rel.real j o1 h1 h2
theorem freeze_other (w : World) (a : Addr) (n j : Nat) (h : j ≠ a.block) : (w.freeze a n).heap[j]? = w.heap[j]? := by
  unfold World.freeze
  split
  ·rfl
  rw [Array.getElem?_modify, if_neg (Ne.symm h)]
theorem freeze_size (w : World) (a : Addr) (n : Nat) : (w.freeze a n).heap.size = w.heap.size := by
  unfold World.freeze
  split
  ·rfl
  simp
theorem freeze_rest (w : World) (a : Addr) (n : Nat) : (w.freeze a n).os = w.os ∧ (w.freeze a n).tape = w.tape ∧ (w.freeze a n).output = w.output := by
  unfold World.freeze
  split <;> exact ⟨rfl, rfl, rfl⟩
theorem enters_String : enters Tryz.prog 19 := ⟨_, Tryz.func19, by kernel_rfl, by kernel_rfl⟩
theorem ok_String {c : Cx} {o : Oper} {fr : Fr} {hp : Hp} {x : Operand} {n : Nat} {s : ByteArray} {tys : Array TypeId} (ho : o.op = .call { callee := .value (.func 19), args := #[x], argTypes := tys }) (hx : fr.ev x = some (.ptr 1001 0))
    (h1 : look hp 1001 = some (.box [bPt, .sl 1002 n])) (h2 : look hp 1002 = some (.row bRt (tEls s))) (hn : (tEls s).length = n) (h0 : s.size ≠ 0) (hR : ¬ c.R 1002) : Ok Tryz.prog c o fr (look hp) (.pv (.val (.string s))) (look ((1002, none) :: hp)) := by
  intro ρ w a K Q h hK
  obtain ⟨fn, hfn, hname, hbody⟩ := enters_String
  have hx2 := h.ev hx
  generalize hv : a.eval x = v at hx2
  cases hx2 with
  | ptr _ _ _ hb =>
    obtain ⟨b, cb, hρ, rfl⟩ := hb _ h1
    obtain ⟨o1, g1, g2⟩ := h.rel.obj _ _ _ hρ
    rw [h1] at g1
    cases g1
    cases g2 with
    | box _ T arr u hh hl hv2 hr ht =>
      have a1 := hv2 1 _ rfl
      have r1 := hr 1 _ rfl
      generalize u 1 = u1 at a1 r1
      cases r1 with
      | sl _ _ _ hs =>
        rcases (hs _ _ h2).2 hn with ⟨g, cap, hρ2, rfl⟩ | ⟨_, hz, _⟩
        ·obtain ⟨o2, g3, g4⟩ := h.rel.obj _ _ _ hρ2
         rw [h2] at g3
         cases g3
         cases g4 with
         | row _ _ cur u2 hg hsz hlc hm hw hcv hrv =>
           have hlen : s.data.toList.length = n := by rw [← hn, tEls, List.length_map]
           have hl' : s.data.toList.length = s.size := by simp
           have hrun : (execOp a.eval o).run Tryz.prog w = .ok (.enter 19 #[.pointer (some ⟨b, 0, none⟩)]) w := by
             have hcall : (callFunc 19 #[.pointer (some ⟨b, 0, none⟩)]).run Tryz.prog w = .ok (.enter 19 #[.pointer (some ⟨b, 0, none⟩)]) w := by
               unfold callFunc
               simp only [Sem.run_bind]
               show (Result.andThen (.ok Tryz.prog w) _) = _
               simp only [Result.andThen_ok, hfn, hname, hbody]
               rfl
             have e0 : a.eval (.func 19) = .func (.func 19) #[] #[] := rfl
             simp only [execOp, ho, resolve, e0, Deferred.ofValue, Sem.run_bind, Sem.run_pure, Result.andThen_ok, invoke]
             rw [← hcall]
             congr 2
             apply Array.ext'
             simp [hv]
           unfold Oper.wp
           rw [hrun, Oper.upon_enter]
           have key := calls_StringG (P := Tryz.prog) (ρ := laysJoin_ren) { laysJoin with } laysJoin_extra b g cap cur s.data.toList w (by rw [Lib.cell_of_heap hh, a1, hlen]) hg (fun e => h0 (by rw [← hl', e]; rfl)) (by rw [hlen, ← hn]; exact hlc) hm (by have h3 := hsz; rw [show bRt.n = 1 from rfl, Nat.mul_one] at h3; exact h3) (by
             apply List.ext_getElem?
             intro i
             rw [List.getElem?_take]
             by_cases hi : i < s.data.toList.length
             · rw [if_pos hi]
               have e1 : s.data.toList[i]? = some s.data.toList[i] := List.getElem?_eq_getElem hi
               have e2 : (tEls s)[i]? = some (eB s.data.toList[i]) := by rw [tEls, List.getElem?_map, e1]; rfl
               have e3 := hcv i _ e2 0 _ rfl
               have e4 := hrv i _ e2 0 _ rfl
               generalize u2 i 0 = q at e3 e4
               cases e4
               have e5 : i * 1 + 0 = i := by omega
               rw [show bRt.n = 1 from rfl, e5] at e3
               rw [Array.getElem?_toList, e3, Lib.byteCells, List.getElem?_map, e1]
               rfl
             · rw [if_neg hi, List.getElem?_eq_none]
               rw [Lib.byteCells_length]; omega)
           refine key.mono ?_
           rintro e w' ⟨rfl, rfl⟩
           obtain ⟨f1, f2, f3⟩ := freeze_rest w.drew ⟨g, 0, none⟩ s.data.toList.length
           have h9 := All.spent (w' := w.drew.freeze ⟨g, 0, none⟩ s.data.toList.length) h hρ2 hR f1 f2 f3 (freeze_size w.drew _ _) fun j hj => freeze_other w.drew _ _ j hj
           exact hK _ _ _ h9 (mkVal _)
        exact absurd (hn.trans hz) (by rw [tEls_len]; exact h0)
end
set_option maxRecDepth 20000
theorem q64 {m n z : Int} (hn : n ≠ 0) (h : m.tdiv n = z) (h1 : -9223372036854775808 ≤ z ∧ z ≤ 9223372036854775807) : intBin .quo .i64 m n = some (.int .i64 z) := by
  subst h; simp only [intBin]; rw [if_neg hn, IntWalk.i64_in _ h1]
theorem r64 {m n z : Int} (hn : n ≠ 0) (h : m.tmod n = z) : intBin .rem .i64 m n = some (.int .i64 z) := by
  subst h; simp only [intBin]; rw [if_neg hn]
def tDig (n : Nat) : ByteArray := ⟨(Lib.decDigits n).toArray⟩
theorem dig_one (n : Nat) : bytesStr [IntKind.u8.wrap (48 + ((n % 10 : Nat) : Int))] = ⟨#[UInt8.ofNat (48 + n % 10)]⟩ := by
  have h : IntKind.u8.wrap (48 + ((n % 10 : Nat) : Int)) = ((48 + n % 10 : Nat) : Int) := by
    unfold IntKind.wrap
    have h1 : IntKind.u8.signed = false := rfl
    have h2 : IntKind.u8.bits = 8 := rfl
    rw [h1, h2]
    simp only [Bool.false_and, Bool.false_eq_true, if_false]
    omega
  rw [h]
  rfl
theorem dig_lt {n : Nat} (h : n < 10) : tDig n = ⟨#[UInt8.ofNat (48 + n % 10)]⟩ := by
  unfold tDig
  rw [Lib.decDigits_one h, Nat.mod_eq_of_lt h]
theorem dig_ge {n : Nat} (h : ¬ n < 10) : tDig n = tDig (n / 10) ++ ⟨#[UInt8.ofNat (48 + n % 10)]⟩ := by
  unfold tDig
  conv => lhs; rw [Lib.decDigits, dif_neg h]
  apply ByteArray.ext
  simp
theorem dig_le {n : Nat} (h : n ≤ 9223372036854775808) : (tDig n).size ≤ 21 := by
  have h2 := Lib.itoa_length_le (-(n : Int)) (by omega) (by omega)
  have : (tDig n).size = (Lib.decDigits n).length := rfl
  rw [this]
  unfold Lib.itoa at h2
  by_cases h0 : n = 0
  · subst h0; rw [Lib.decDigits_one (by omega)]; decide
  · rw [if_pos (by omega)] at h2
    simp at h2
    omega
theorem sc_Digits : ∀ (N n : Nat), n < N → n ≤ 9223372036854775807 → SC Tryz.prog 38 [.pv (.val (.int .i64 (n : Int)))] [] (fun k => k ∈ []) (.pv (.val (.string (tDig n)))) []
  | 0, _, h, _ => absurd h (Nat.not_lt_zero _)
  | N + 1, n, hN, hn => by
    refine SC.vc tb {} [] Tryz.func38 rfl rfl ?_
    have hr : (n : Int).tmod 10 = ((n % 10 : Nat) : Int) := by rw [Int.tmod_eq_emod_of_nonneg (by omega)]; omega
    have hq : (n : Int).tdiv 10 = ((n / 10 : Nat) : Int) := by rw [Int.tdiv_eq_ediv_of_nonneg (by omega)]; omega
    refine ⟨r64 (by decide) hr, i64_add rfl (by omega), ?_⟩
    refine bcase (fun h => ?_) fun h => ?_
    · have h : n < 10 := by have := of_decide_eq_true h; omega
      exact ⟨sE (by rw [dig_lt h, dig_one]), trivial⟩
    · have h : ¬ n < 10 := by have := of_decide_eq_false h; omega
      have hs := dig_le (n := n / 10) (by omega)
      refine ⟨q64 (by decide) hq (by omega), [], sc_Digits N (n / 10) (by omega) (by omega), sR, trivial, rfl, str_add (by rw [dig_one]; show _ + 1 ≤ _; omega), sE (by rw [dig_ge h, dig_one]), trivial⟩
set_option maxRecDepth 20000
theorem num_pos {n : Int} (h : 0 ≤ n) : tNum n = tDig n.toNat := by
  unfold tNum tDig Lib.itoa
  rw [if_neg (by omega)]
theorem num_one {n : Int} (h : n < 0) (h2 : -10 < n) : tNum n = ⟨#[45]⟩ ++ tDig (n.natAbs % 10) := by
  unfold tNum tDig Lib.itoa
  rw [if_pos h, Nat.mod_eq_of_lt (show n.natAbs < 10 by omega)]
  apply ByteArray.ext
  simp
theorem num_more {n : Int} (h2 : n ≤ -10) : tNum n = tNum (n.tdiv 10) ++ tDig (n.natAbs % 10) := by
  have hd : n.tdiv 10 = -((n.natAbs / 10 : Nat) : Int) := by
    have e : n = -((n.natAbs : Nat) : Int) := by omega
    conv => lhs; rw [e]
    rw [Int.neg_tdiv, Int.tdiv_eq_ediv_of_nonneg (by omega)]
    omega
  have hlt : n.tdiv 10 < 0 := by rw [hd]; omega
  unfold tNum tDig Lib.itoa
  rw [if_pos (show n < 0 by omega), if_pos hlt, hd]
  have e2 : (-((n.natAbs / 10 : Nat) : Int)).natAbs = n.natAbs / 10 := by omega
  rw [e2]
  conv => lhs; rw [Lib.decDigits, dif_neg (show ¬ n.natAbs < 10 by omega)]
  rw [Lib.decDigits_one (show n.natAbs % 10 < 10 by omega)]
  apply ByteArray.ext
  simp
theorem sc_digits : ∀ (N : Nat) (n : Int), n.natAbs < N → N64 n → SC Tryz.prog 21 [.pv (.val (.int .i64 n))] [] (fun k => k ∈ []) (.pv (.val (.string (tNum n)))) []
  | 0, _, h, _ => absurd h (Nat.not_lt_zero _)
  | N + 1, n, hN, hn => by
    have hn1 := hn.1
    have hn2 := hn.2
    refine SC.vc tb {} [] Tryz.func21 rfl rfl ?_
    refine bcase (fun h => ?_) fun h => ?_
    · have h : 0 ≤ n := by have := of_decide_eq_true h; omega
      have hD := sc_Digits (n.toNat + 1) n.toNat (Nat.lt_succ_self _) (by omega)
      rw [Int.toNat_of_nonneg h] at hD
      exact ⟨[], hD, sR, trivial, rfl, sE (by rw [num_pos h]), trivial⟩
    · have h : n < 0 := by have := of_decide_eq_false h; omega
      have hr : n.tmod 10 = -((n.natAbs % 10 : Nat) : Int) := by
        have e : n = -((n.natAbs : Nat) : Int) := by omega
        conv => lhs; rw [e]
        rw [Int.neg_tmod, Int.tmod_eq_emod_of_nonneg (by omega)]
        omega
      have hw : IntKind.i64.wrap (0 - -((n.natAbs % 10 : Nat) : Int)) = ((n.natAbs % 10 : Nat) : Int) := by
        rw [show (0 - -((n.natAbs % 10 : Nat) : Int)) = ((n.natAbs % 10 : Nat) : Int) by omega]
        exact IntWalk.i64_in _ (by omega)
      have hD := sc_Digits (n.natAbs % 10 + 1) (n.natAbs % 10) (Nat.lt_succ_self _) (by omega)
      rw [← hw] at hD
      have hs := dig_le (n := n.natAbs % 10) (by omega)
      refine ⟨r64 (by decide) hr, ?_⟩
      refine bcase (fun h2 => ?_) fun h2 => ?_
      · have h2 : -10 < n := by have := of_decide_eq_true h2; omega
        exact ⟨[], hD, sR, trivial, rfl, str_add (by show 1 + _ ≤ _; omega), sE (by rw [num_one h h2]), trivial⟩
      · have h2 : n ≤ -10 := by have := of_decide_eq_false h2; omega
        have hd : n.tdiv 10 = -((n.natAbs / 10 : Nat) : Int) := by
          have e : n = -((n.natAbs : Nat) : Int) := by omega
          conv => lhs; rw [e]
          rw [Int.neg_tdiv, Int.tdiv_eq_ediv_of_nonneg (by omega)]
          omega
        have hI := sc_digits N (n.tdiv 10) (by rw [hd]; omega) ⟨by rw [hd]; omega, by rw [hd]; omega⟩
        have hs2 := tNum_le (n := n.tdiv 10) ⟨by rw [hd]; omega, by rw [hd]; omega⟩
        exact ⟨q64 (by decide) rfl (by rw [hd]; omega), [], hI, sR, trivial, rfl, [], hD, sR, trivial, rfl, str_add (by omega), sE (by rw [num_more h2]), trivial⟩
theorem sc_refValue (n : Int) (h : N64 n) : SC Tryz.prog 39 [.pv (.val (.int .i64 n))] [] (fun k => k ∈ []) (.pv (.val (.string (tVal n)))) [] := by
  refine SC.vc tb {} [] Tryz.func39 rfl rfl ?_
  have h1 := tNum_le h
  exact ⟨[], sc_digits _ n (Nat.lt_succ_self _) h, sR, trivial, rfl, str_add (by have e : (⟨#[118]⟩ : ByteArray).size = 1 := rfl; rw [e]; omega), sI, trivial⟩
theorem sc_types (t : Int) (h : t = 1 ∨ t = 2) : SC Tryz.prog 22 [.pv (.val (.int .i64 t))] [] (fun k => k ∈ []) (.pv (.val (.string (tKind t)))) [] := by
  refine SC.vc tb {} [] Tryz.func22 rfl rfl ?_
  rcases h with rfl | rfl
  · exact ⟨sI, trivial⟩
  · exact ⟨sI, trivial⟩
end Go.Proofs.YtahpinmlgnfklaaGreatDoor
