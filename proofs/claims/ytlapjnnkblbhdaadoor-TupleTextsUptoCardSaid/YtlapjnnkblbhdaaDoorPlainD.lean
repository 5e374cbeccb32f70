/- Literals: both writers agree. -/
import Derived.Test.YtlapjnnkblbhdaaDoorPlainC
set_option linter.unusedVariables false
set_option linter.unusedSimpArgs false
set_option maxRecDepth 100000
namespace Go.Sim.M
open Go.RowKit Go.Lib

def qb (c : UInt8) : List UInt8 := if c = 39 then [39, 39] else [c]

theorem byte39 (c : UInt8) : ((c.toNat : Int) == 39) = decide (c = 39) := by
  by_cases h : c = 39
  · subst h; rfl
  · have : ¬ ((c.toNat : Int) = 39) := fun e => by
      apply h
      apply UInt8.toNat_inj.1
      have : c.toNat = 39 := by omega
      rw [this]; rfl
    simp [h, this]

def quote_res (s : List UInt8) (a : Nat × List UInt8) : LR := .leaf (.exit 0) [.str (a.2 ++ (s.drop a.1).flatMap qb)] []

theorem index_nil {sub : List UInt8} (h : sub ≠ []) : index [] sub = -1 := by
  unfold index; rw [if_neg (by cases sub <;> simp_all)]

theorem index_hit {b : UInt8} {l sub : List UInt8} (h : sub.isPrefixOf (b :: l) = true) : index (b :: l) sub = 0 := by
  rw [index.eq_2, if_pos h]

theorem index_miss {b : UInt8} {l sub : List UInt8} (h : sub.isPrefixOf (b :: l) = false) : index (b :: l) sub = if index l sub == -1 then -1 else index l sub + 1 := by
  rw [index.eq_2, if_neg (by rw [h]; simp)]

theorem countFrom_stable (sub : List UInt8) (hs : sub ≠ []) : ∀ (f : Nat) (s : List UInt8), s.length < f → countFrom sub f s = countFrom sub (f + 1) s
  | 0, s, h => by omega
  | f + 1, s, h => by
    rw [countFrom.eq_2 sub s f, countFrom.eq_2 sub s (f + 1)]
    split
    · rfl
    · rename_i hi
      congr 1
      have hpos : 0 < sub.length := List.length_pos_iff.2 hs
      cases s with
      | nil => rw [index_nil hs] at hi; simp at hi
      | cons b l => exact countFrom_stable sub hs f _ (by simp only [List.length_drop, List.length_cons] at h ⊢; omega)

theorem countFrom_more (sub : List UInt8) (hs : sub ≠ []) {s : List UInt8} : ∀ {f g : Nat}, s.length < f → f ≤ g → countFrom sub f s = countFrom sub g s
  | f, g, h, hg => by
    induction g with
    | zero => omega
    | succ g ih =>
      by_cases e : f = g + 1
      · subst e; rfl
      · rw [ih (by omega)]; exact countFrom_stable sub hs g s (by omega)

theorem count_nil {sub : List UInt8} (h : sub ≠ []) : count [] sub = 0 := by
  unfold count; rw [countFrom.eq_2, index_nil h]; rfl

theorem count_hit {b : UInt8} {l sub : List UInt8} (hs : sub ≠ []) (h : sub.isPrefixOf (b :: l) = true) : count (b :: l) sub = 1 + count ((b :: l).drop sub.length) sub := by
  have hpos : 0 < sub.length := List.length_pos_iff.2 hs
  unfold count
  rw [List.length_cons, countFrom.eq_2, index_hit h, if_neg (by decide)]
  congr 1
  have e : (0 : Int).toNat + sub.length = sub.length := by simp
  rw [e]
  exact (countFrom_more sub hs (by omega) (by simp only [List.length_drop, List.length_cons]; omega)).symm

theorem count_miss {b : UInt8} {l sub : List UInt8} (hs : sub ≠ []) (h : sub.isPrefixOf (b :: l) = false) : count (b :: l) sub = count l sub := by
  unfold count
  rw [List.length_cons, countFrom.eq_2, index_miss h, countFrom.eq_2 sub l l.length]
  cases hi : index l sub == -1 with
  | true => simp
  | false =>
    have hge := index_ge l sub
    have hne : index l sub ≠ -1 := by simpa using hi
    have h1 : (index l sub + 1 == -1) = false := by simp; omega
    simp only [Bool.false_eq_true, if_false, h1]
    congr 1
    have e : (index l sub + 1).toNat + sub.length = ((index l sub).toNat + sub.length) + 1 := by omega
    rw [e, List.drop_succ_cons]
    have hpos : 0 < sub.length := List.length_pos_iff.2 hs
    cases l with
    | nil => rw [index_nil hs] at hne; exact (hne rfl).elim
    | cons c l => exact (countFrom_more sub hs (by simp only [List.length_drop, List.length_cons]; omega) (by simp)).symm

theorem replaceK_miss {old new : List UInt8} (hs : old ≠ []) {b : UInt8} {l : List UInt8} (h : old.isPrefixOf (b :: l) = false) : ∀ k, replaceK old new k (b :: l) = b :: replaceK old new k l
  | 0 => rfl
  | k + 1 => by
    rw [replaceK.eq_2, replaceK.eq_2, index_miss h]
    cases hi : index l old == -1 with
    | true => simp
    | false =>
      have hge := index_ge l old
      have hne : index l old ≠ -1 := by simpa using hi
      have h1 : (index l old + 1 == -1) = false := by simp; omega
      simp only [Bool.false_eq_true, if_false, h1]
      have e1 : (index l old + 1).toNat = (index l old).toNat + 1 := by omega
      rw [e1, List.take_succ_cons, show (index l old).toNat + 1 + old.length = ((index l old).toNat + old.length) + 1 by omega, List.drop_succ_cons]
      rfl

theorem replaceK_hit0 {old new : List UInt8} {b : UInt8} {l : List UInt8} (h : old.isPrefixOf (b :: l) = true) (k : Nat) : replaceK old new (k + 1) (b :: l) = new ++ replaceK old new k ((b :: l).drop old.length) := by
  rw [replaceK.eq_2, index_hit h, if_neg (by decide)]
  simp

theorem replaceAll_def {s old new : List UInt8} (hne : old ≠ new) : replaceAll s old new = replaceK old new (count s old) s := by
  unfold replaceAll replace replaceNum
  rw [if_neg (by simpa using hne), if_pos (.inl (by decide))]

theorem rA_nil {old new : List UInt8} (hs : old ≠ []) (hne : old ≠ new) : replaceAll [] old new = [] := by
  rw [replaceAll_def hne, count_nil hs]; rfl

theorem rA_hit {old new : List UInt8} (hs : old ≠ []) (hne : old ≠ new) {b : UInt8} {l : List UInt8} (h : old.isPrefixOf (b :: l) = true) : replaceAll (b :: l) old new = new ++ replaceAll ((b :: l).drop old.length) old new := by
  rw [replaceAll_def hne, replaceAll_def hne, count_hit hs h, Nat.add_comm 1, replaceK_hit0 h]

theorem rA_miss {old new : List UInt8} (hs : old ≠ []) (hne : old ≠ new) {b : UInt8} {l : List UInt8} (h : old.isPrefixOf (b :: l) = false) : replaceAll (b :: l) old new = b :: replaceAll l old new := by
  rw [replaceAll_def hne, replaceAll_def hne, count_miss hs h, replaceK_miss hs h]

theorem count_le (sub : List UInt8) (hs : sub ≠ []) : ∀ (n : Nat) (s : List UInt8), s.length ≤ n → count s sub ≤ s.length
  | 0, s, h => by
    have : s = [] := List.length_eq_zero_iff.1 (by omega)
    subst this; rw [count_nil hs]; exact Nat.le_refl _
  | n + 1, [], h => by rw [count_nil hs]; exact Nat.le_refl _
  | n + 1, b :: l, h => by
    have hpos : 0 < sub.length := List.length_pos_iff.2 hs
    cases hp : sub.isPrefixOf (b :: l) with
    | true =>
      rw [count_hit hs hp]
      have := count_le sub hs n ((b :: l).drop sub.length) (by simp only [List.length_drop, List.length_cons] at h ⊢; omega)
      simp only [List.length_drop, List.length_cons] at this ⊢
      omega
    | false =>
      rw [count_miss hs hp]
      have := count_le sub hs n l (by simp at h; omega)
      simp only [List.length_cons]; omega

theorem pre1 (b : UInt8) (l : List UInt8) : ([39] : List UInt8).isPrefixOf (b :: l) = decide (b = 39) := by
  by_cases h : b = 39
  · subst h; simp [List.isPrefixOf]
  · have : ((39 : UInt8) == b) = false := by simpa using fun e => h e.symm
    simp [List.isPrefixOf, this, h]
/-- Every quote doubled. -/
theorem repl_quote : ∀ t : List UInt8, replaceAll t [39] [39, 39] = t.flatMap qb
  | [] => rA_nil (by simp) (by simp)
  | b :: l => by
    by_cases h : b = 39
    · rw [rA_hit (by simp) (by simp) (by rw [pre1]; simpa using h), List.flatMap_cons]
      simp only [List.length_cons, List.length_nil, Nat.zero_add, List.drop_succ_cons, List.drop_zero]
      rw [repl_quote l]; simp [qb, h]
    · rw [rA_miss (by simp) (by simp) (by rw [pre1]; simpa using h), List.flatMap_cons, repl_quote l]; simp [qb, h]

def lead (n : Nat) : Nat := if h : n < 10 then n else lead (n / 10)
termination_by n
decreasing_by omega
def dtail (n : Nat) : List UInt8 := if h : n < 10 then [] else dtail (n / 10) ++ [UInt8.ofNat (48 + n % 10)]
termination_by n
decreasing_by omega

def digits10 : List UInt8 := [48, 49, 50, 51, 52, 53, 54, 55, 56, 57]
theorem digit_at : ∀ m : Nat, m < 10 → List.take 1 (List.drop m digits10) = [UInt8.ofNat (48 + m)] := by decide

theorem lead_lt (n : Nat) : lead n < 10 := by
  induction n using Nat.strongRecOn with
  | _ n ih =>
    rw [lead]
    split
    · assumption
    · exact ih (n / 10) (by omega)

theorem dtail_len (n : Nat) : (dtail n).length ≤ n := by
  induction n using Nat.strongRecOn with
  | _ n ih =>
    rw [dtail]
    split
    · simp
    · have := ih (n / 10) (by omega)
      simp only [List.length_append, List.length_cons, List.length_nil]; omega

theorem dec_eq (n : Nat) : decDigits n = UInt8.ofNat (48 + lead n) :: dtail n := by
  induction n using Nat.strongRecOn with
  | _ n ih =>
    rw [decDigits, lead, dtail]
    by_cases h : n < 10
    · rw [dif_pos h, dif_pos h, dif_pos h]
    · rw [dif_neg h, dif_neg h, dif_neg h, ih (n / 10) (by omega)]; rfl

theorem num_loop : ∀ (n : Nat) (s : List UInt8), n + s.length ≤ 2305843009213693952 → Iter ref01_Number_l0_step ((n : Int), s) = some ((lead n : Int), dtail n ++ s) := by
  intro n
  induction n using Nat.strongRecOn with
  | _ n ih =>
    intro s ha
    by_cases h : n < 10
    · refine iter_end ?_
      have e1 : decide ((n : Int) > 9) = false := decide_eq_false (by omega)
      unfold ref01_Number_l0_step
      simp only [e1]
      rw [lead, dtail, dif_pos h, dif_pos h]; rfl
    · have e1 : decide ((n : Int) > 9) = true := decide_eq_true (by omega)
      have e2 : (n : Int).tmod 10 = ((n % 10 : Nat) : Int) := by rw [Int.tmod_eq_emod_of_nonneg (by omega)]; rfl
      have e3 : (n : Int).tdiv 10 = ((n / 10 : Nat) : Int) := by rw [Int.tdiv_eq_ediv_of_nonneg (by omega)]; rfl
      have e4 : IntKind.i64.wrap (((n % 10 : Nat) : Int) + 1) = ((n % 10 + 1 : Nat) : Int) := by rw [wrap_i64 (by omega) (by omega)]; rfl
      have e5 : IntKind.i64.wrap ((n / 10 : Nat) : Int) = ((n / 10 : Nat) : Int) := wrap_i64 (by omega) (by omega)
      have hm : n % 10 < 10 := Nat.mod_lt _ (by omega)
      have hdg := digit_at (n % 10) hm
      unfold digits10 at hdg
      rw [iter_step (s' := (((n / 10 : Nat) : Int), [UInt8.ofNat (48 + n % 10)] ++ s)) ?_, ih (n / 10) (by omega) _ (by simp; omega)]
      · rw [lead.eq_1 n, dtail.eq_1 n, dif_neg h, dif_neg h]; simp
      · simp only [ref01_Number_l0_step, e1, e2, e3, e4, e5, Int.toNat_natCast, Nat.add_sub_cancel_left, hdg, br_if]
        rw [if_pos trivial, if_pos (by simp; omega), if_pos (by simp; omega)]

theorem number01_eq (n : Nat) (h : n ≤ 1152921504606846976) : ref01_Number_pre (n : Int) = true ∧ ref01_Number (n : Int) = decDigits n := by
  have hl := lead_lt n
  have hd := dtail_len n
  have ew : IntKind.i64.wrap ((lead n : Int) + 1) = ((lead n + 1 : Nat) : Int) := by rw [wrap_i64 (by omega) (by omega)]; rfl
  have c2 : (decide ((0 : Int) ≤ ((lead n + 1 : Nat) : Int)) && decide (((lead n + 1 : Nat) : Int) ≤ 10) && (decide ((0 : Int) ≤ (lead n : Int)) && decide ((lead n : Int) ≤ (((((lead n + 1 : Nat) : Int)).toNat : Nat) : Int)))) = true := by
    rw [Int.toNat_natCast]; simp; omega
  have hg := digit_at (lead n) hl
  unfold digits10 at hg
  have et : List.take ((((lead n + 1 : Nat) : Int)).toNat - ((lead n : Int)).toNat) (List.drop ((lead n : Int)).toNat [(48 : UInt8), 49, 50, 51, 52, 53, 54, 55, 56, 57]) = [UInt8.ofNat (48 + lead n)] := by
    rw [Int.toNat_natCast, Int.toNat_natCast, Nat.add_sub_cancel_left]; exact hg
  have hit := num_loop n [] (by simp; omega)
  unfold ref01_Number_pre ref01_Number
  rw [hit]
  simp only [Option.isSome_some, Option.getD_some]
  simp only [ew, c2, et]
  have c3 : decide (([UInt8.ofNat (48 + lead n)]).length + (dtail n ++ []).length ≤ 4611686018427387904) = true := decide_eq_true (by simp; omega)
  rw [c3]
  exact ⟨rfl, by rw [dec_eq]; simp only [List.append_nil]; rfl⟩

theorem number07_eq (n : Int) (h1 : -1125899906842624 ≤ n) (h2 : n ≤ 1125899906842624) : ref07_Number_pre n = true ∧ ref07_Number n = itoa n := by
  unfold ref07_Number_pre ref07_Number itoa
  by_cases hn : n < 0
  · have w1 : IntKind.i64.wrap (0 - n) = ((n.natAbs : Nat) : Int) := by rw [wrap_i64 (by omega) (by omega)]; omega
    have q : n.tdiv 10 = -(((n.natAbs / 10 : Nat)) : Int) := by
      have e : n = -((n.natAbs : Nat) : Int) := by omega
      rw [e, Int.neg_tdiv, Int.tdiv_eq_ediv_of_nonneg (by omega)]; simp
    have r : n.tmod 10 = -(((n.natAbs % 10 : Nat)) : Int) := by
      have e : n = -((n.natAbs : Nat) : Int) := by omega
      rw [e, Int.neg_tmod, Int.tmod_eq_emod_of_nonneg (by omega)]; simp
    rw [decide_eq_true hn, if_pos hn]
    simp only [br_tt]
    by_cases h10 : n > -10
    · obtain ⟨p, v⟩ := number01_eq n.natAbs (by omega)
      have hl : (decDigits n.natAbs).length ≤ n.natAbs + 1 := by rw [dec_eq]; have := dtail_len n.natAbs; simp; omega
      rw [decide_eq_true h10, w1, p, v]
      have c : decide (1 + (decDigits n.natAbs).length ≤ 4611686018427387904) = true := decide_eq_true (by omega)
      rw [c]
      exact ⟨rfl, rfl⟩
    · have w2 : IntKind.i64.wrap (n.tdiv 10) = -(((n.natAbs / 10 : Nat)) : Int) := by rw [q, wrap_i64 (by omega) (by omega)]
      have w3 : IntKind.i64.wrap (0 - -(((n.natAbs / 10 : Nat)) : Int)) = ((n.natAbs / 10 : Nat) : Int) := by rw [wrap_i64 (by omega) (by omega)]; omega
      have w4 : IntKind.i64.wrap (0 - -(((n.natAbs % 10 : Nat)) : Int)) = ((n.natAbs % 10 : Nat) : Int) := by rw [wrap_i64 (by omega) (by omega)]; omega
      obtain ⟨p1, v1⟩ := number01_eq (n.natAbs / 10) (by omega)
      obtain ⟨p2, v2⟩ := number01_eq (n.natAbs % 10) (by omega)
      have hl : (decDigits (n.natAbs / 10)).length ≤ n.natAbs / 10 + 1 := by rw [dec_eq]; have := dtail_len (n.natAbs / 10); simp; omega
      have hl2 : (decDigits (n.natAbs % 10)).length ≤ n.natAbs % 10 + 1 := by rw [dec_eq]; have := dtail_len (n.natAbs % 10); simp; omega
      rw [decide_eq_false h10, w2, w3, r, w4, p1, v1, p2, v2]
      have c : decide (1 + (decDigits (n.natAbs / 10)).length ≤ 4611686018427387904) = true := decide_eq_true (by omega)
      have c2 : decide (([(45 : UInt8)] ++ decDigits (n.natAbs / 10)).length + (decDigits (n.natAbs % 10)).length ≤ 4611686018427387904) = true := decide_eq_true (by simp; omega)
      rw [c, c2]
      refine ⟨rfl, ?_⟩
      simp only [br_tt, br_ff]
      have hd : ¬ n.natAbs < 10 := by omega
      have hs : decDigits (n.natAbs % 10) = [UInt8.ofNat (48 + n.natAbs % 10)] := by rw [decDigits, dif_pos (Nat.mod_lt _ (by omega))]
      rw [hs, decDigits.eq_1 n.natAbs, dif_neg hd]; simp
  · obtain ⟨p, v⟩ := number01_eq n.toNat (by omega)
    have e : ((n.toNat : Nat) : Int) = n := Int.toNat_of_nonneg (by omega)
    rw [e] at p v
    have h10 : n > -10 := by omega
    rw [decide_eq_false hn, decide_eq_true h10, p, v, if_neg hn]
    exact ⟨rfl, rfl⟩
theorem q_loop (s : List UInt8) (hs : s.length ≤ 1152921504606846976) : ∀ (k n : Nat) (out : List UInt8), n + k = s.length → out.length + 2 * k ≤ 2305843009213693952 + 1 → Iter (ref07_Quote_l0_step s) (out, (n : Int)) = some (out ++ (s.drop n).flatMap qb)
  | 0, n, out, hk, ho => by
    have h0 : ¬ ((n : Int) < (s.length : Int)) := by omega
    rw [List.drop_eq_nil_of_le (by omega : s.length ≤ n)]
    refine iter_end ?_
    simp [ref07_Quote_l0_step, br_if, h0]
  | k + 1, n, out, hk, ho => by
    have h1 : n < s.length := by omega
    have h1' : (n : Int) < (s.length : Int) := by omega
    have e4 : IntKind.i64.wrap ((n : Int) + 1) = ((n + 1 : Nat) : Int) := wrap_nat (by unfold maxLen; omega)
    have et : List.take ((((n + 1 : Nat) : Int)).toNat - ((n : Int)).toNat) (List.drop ((n : Int)).toNat s) = [s[n]] := by
      rw [Int.toNat_natCast, Int.toNat_natCast, Nat.add_sub_cancel_left, drop_cons h1]; rfl
    have eg : s.getD ((n : Int)).toNat 0 = s[n] := by simp [List.getD, h1]
    have hq : (qb s[n]).length ≤ 2 := by unfold qb; split <;> simp
    have hstep : ref07_Quote_l0_step s (out, (n : Int)) = some (.inl (out ++ qb s[n], ((n + 1 : Nat) : Int))) := by
      simp only [ref07_Quote_l0_step, br_if, e4, et, eg, byte39]
      have cb : (decide ((0 : Int) ≤ (n : Int)) && decide ((n : Int) < (s.length : Int))) = true := by simpa using h1
      have cc : (decide ((0 : Int) ≤ ((n + 1 : Nat) : Int)) && decide (((n + 1 : Nat) : Int) ≤ (s.length : Int)) && (decide ((0 : Int) ≤ (n : Int)) && decide ((n : Int) ≤ (((((n + 1 : Nat) : Int)).toNat : Nat) : Int)))) = true := by
        rw [Int.toNat_natCast]; simp; omega
      rw [if_pos (by simpa using h1), if_pos cb]
      by_cases hc : s[n] = 39
      · rw [if_pos (by simpa using hc), if_pos (by simp; omega), if_pos cc, if_pos (by simp; omega)]; simp [qb, hc]
      · rw [if_neg (by simpa using hc), if_pos cc, if_pos (by simp; omega)]; simp [qb, hc]
    rw [iter_step hstep, q_loop s hs k (n + 1) _ (by omega) (by simp; omega), drop_cons h1, List.flatMap_cons, List.append_assoc]

def quoteV (t : List UInt8) : List UInt8 := [39] ++ t.flatMap qb ++ [39]

theorem qb_len : ∀ t : List UInt8, (t.flatMap qb).length ≤ 2 * t.length
  | [] => by simp
  | c :: t => by
    have := qb_len t
    simp only [List.flatMap_cons, List.length_append, List.length_cons]
    have : (qb c).length ≤ 2 := by unfold qb; split <;> simp
    omega

theorem quote_eq (t : List UInt8) (h : t.length ≤ 1000000000) : ref07_Quote_pre t = true ∧ ref07_Quote t = quoteV t := by
  have hq := qb_len t
  have hl := q_loop t (by omega) t.length 0 [39] (by omega) (by simp; omega)
  unfold ref07_Quote_pre ref07_Quote
  rw [show ((0 : Int)) = ((0 : Nat) : Int) from rfl, hl]
  simp only [Option.isSome_some, Option.getD_some, List.drop_zero]
  have c2 : decide (([(39 : UInt8)] ++ List.flatMap qb t).length + 1 ≤ 4611686018427387904) = true := decide_eq_true (by simp only [List.length_append, List.length_cons, List.length_nil]; omega)
  rw [c2]; exact ⟨rfl, rfl⟩

inductive VForm (k i : Int) (t : List UInt8) : Prop where
  | null (h1 : k = 0) (h2 : i = 0) (h3 : t = [])
  | int (h1 : k = 1) (h2 : t = []) (h3 : -1125899906842624 ≤ i) (h4 : i ≤ 1125899906842624)
  | text (h1 : k = 2) (h2 : i = 0) (h3 : t.length ≤ 200)
  | bool (h1 : k = 3) (h2 : t = []) (h3 : i = 0 ∨ i = 1)

theorem valid_form {k i : Int} {t : List UInt8} (h : value_Valid k i t = true) : VForm k i t := by
  unfold value_Valid at h
  by_cases k0 : k = 0
  · subst k0
    by_cases i0 : i = 0
    · subst i0; exact .null rfl rfl (by simpa [br_if] using h)
    · simp [br_if, i0] at h
  · by_cases k1 : k = 1
    · subst k1
      by_cases t0 : t = []
      · subst t0
        simp only [br_if] at h
        have h : -1125899906842624 ≤ i ∧ i ≤ 1125899906842624 := by simpa using h
        exact .int rfl rfl h.1 h.2
      · simp [br_if, t0] at h
    · by_cases k2 : k = 2
      · subst k2
        by_cases i0 : i = 0
        · subst i0
          by_cases hl : t.length ≤ 200
          · have e : decide ((t.length : Int) ≤ 200) = true := decide_eq_true (by omega)
            exact .text rfl rfl hl
          · have e : decide ((t.length : Int) ≤ 200) = false := decide_eq_false (by omega)
            rw [e] at h; simp [br_if] at h
        · simp [br_if, i0] at h
      · by_cases k3 : k = 3
        · subst k3
          by_cases t0 : t = []
          · subst t0
            by_cases i0 : i = 0
            · exact .bool rfl rfl (.inl i0)
            · by_cases i1 : i = 1
              · exact .bool rfl rfl (.inr i1)
              · simp [br_if, i0, i1] at h
          · simp [br_if, t0] at h
        · simp [br_if, k0, k1, k2, k3] at h

def wNULL : List UInt8 := [78, 85, 76, 76]
def wTRUE : List UInt8 := [84, 82, 85, 69]
def wFALSE : List UInt8 := [70, 65, 76, 83, 69]

/-- A value's literal. -/
def litV (k i : Int) (t : List UInt8) : List UInt8 := if k = 0 then wNULL else if k = 1 then itoa i else if k = 2 then quoteV t else if i = 1 then wTRUE else wFALSE

theorem literal_valid {k i : Int} {t : List UInt8} (hl : t.length ≤ maxLen) (hv : value_Valid k i t = true) : value_Literal_pre k i t = true ∧ value_Literal k i t = litV k i t := by
  unfold value_Literal_pre value_Literal litV
  rw [valid_pre' _ _ _ hl, hv]
  cases valid_form hv with
  | null h1 h2 h3 => subst h1 h2 h3; exact ⟨rfl, rfl⟩
  | int h1 h2 h3 h4 =>
    subst h1 h2
    have e : (decide (-9223372036854775808 ≤ i) && decide (i ≤ 9223372036854775807)) = true := by simp; omega
    rw [e]; exact ⟨rfl, rfl⟩
  | text h1 h2 h3 =>
    subst h1 h2
    have hc := count_le [39] (by simp) _ t (Nat.le_refl _)
    have hq := qb_len t
    have e1 : (decide (t.length < 4294967281) && decide (t.length + count t [39] * 2 ≤ 140737488355328)) = true := by simp; omega
    have e2 : decide (1 + (t.flatMap qb).length ≤ 4611686018427387904) = true := decide_eq_true (by omega)
    have e3 : decide (([(39 : UInt8)] ++ t.flatMap qb).length + 1 ≤ 4611686018427387904) = true := decide_eq_true (by simp only [List.length_append, List.length_cons, List.length_nil]; omega)
    rw [e1, repl_quote, e2, e3]; exact ⟨rfl, rfl⟩
  | bool h1 h2 h3 => subst h1 h2; rcases h3 with rfl | rfl <;> exact ⟨rfl, rfl⟩

theorem refliteral_valid {k i : Int} {t : List UInt8} (hl : t.length ≤ maxLen) (hv : value_Valid k i t = true) : ref07_Literal_pre k i t = true ∧ ref07_Literal k i t = litV k i t := by
  unfold ref07_Literal_pre ref07_Literal litV
  rw [valid_pre _ _ _ hl, ← valid_ref, hv]
  cases valid_form hv with
  | null h1 h2 h3 => subst h1 h2 h3; exact ⟨rfl, rfl⟩
  | int h1 h2 h3 h4 =>
    subst h1 h2
    obtain ⟨p, v⟩ := number07_eq i h3 h4
    rw [p, v]; exact ⟨rfl, rfl⟩
  | text h1 h2 h3 =>
    subst h1 h2
    obtain ⟨p, v⟩ := quote_eq t (by omega)
    rw [p, v]; exact ⟨rfl, rfl⟩
  | bool h1 h2 h3 => subst h1 h2; rcases h3 with rfl | rfl <;> exact ⟨rfl, rfl⟩

theorem literal_all (k i : Int) (t : List UInt8) (hl : t.length ≤ maxLen) : value_Literal_pre k i t = true ∧ ref07_Literal_pre k i t = true ∧ value_Literal k i t = ref07_Literal k i t := by
  cases hv : value_Valid k i t with
  | true =>
    obtain ⟨p, v⟩ := literal_valid hl hv
    obtain ⟨p', v'⟩ := refliteral_valid hl hv
    exact ⟨p, p', v.trans v'.symm⟩
  | false =>
    unfold value_Literal_pre value_Literal ref07_Literal_pre ref07_Literal
    rw [valid_pre' _ _ _ hl, valid_pre _ _ _ hl, ← valid_ref, hv]; exact ⟨rfl, rfl, rfl⟩

end Go.Sim.M
