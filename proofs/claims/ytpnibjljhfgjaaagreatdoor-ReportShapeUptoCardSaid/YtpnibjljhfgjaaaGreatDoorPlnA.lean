/- Values and rows as texts: what both writers give. -/
import Derived.Test.YtpnibjljhfgjaaaGreatDoorK3
import Derived.Test.YtpnibjljhfgjaaaGreatDoorTxt
set_option linter.unusedVariables false
set_option linter.unusedSimpArgs false
set_option maxRecDepth 100000
namespace Go.Sim.M
open Go.RowKit Go.Lib

theorem br_some {α : Type} (t : Bool) (a b : α) : br t (some a) (some b) = some (br t a b) := by cases t <;> rfl

theorem printable_both (s : List UInt8) (hs : s.length ≤ maxLen) : ∃ b, value_printable s = some b ∧ ref07_Printable s = some b := by
  obtain ⟨e, h⟩ := iter_count2 (step1 := value_printable_l0_step s ((s.length : Nat) : Int)) (step2 := ref07_Printable_l0_step s) (len := s.length) (fun n hn => by
    refine ⟨rfl, ?_⟩
    by_cases h : n < s.length
    · have h' : (n : Int) < (s.length : Int) := by omega
      simp only [value_printable_l0_step, value_printable_l0_t, br_if, h', wrap_nat (show n + 1 ≤ maxLen by omega)]
      simp only [Int.toNat_natCast, decide_true, Bool.and_true, decide_eq_true_eq, show (0 : Int) ≤ (n : Int) by omega, if_true]
      generalize ((s.getD n 0).toNat : Int) = c
      by_cases h1 : c < 32
      · exact .inl ⟨(true, false, ()), by simp [h1]⟩
      · by_cases h2 : c > 126
        · exact .inl ⟨(true, false, ()), by simp [h1, h2]⟩
        · exact .inr ⟨h, by simp [h1, h2]⟩
    · have h' : ¬ (n : Int) < (s.length : Int) := by omega
      exact .inl ⟨(false, false, ()), by simp [value_printable_l0_step, value_printable_l0_t, br_if, h']⟩) s.length 0 (by omega)
  obtain ⟨r, hr⟩ := Option.isSome_iff_exists.1 h
  have hr2 := e ▸ hr
  simp only [show ((0 : Nat) : Int) = 0 from rfl] at hr hr2
  refine ⟨br r.1 r.2.1 true, ?_, ?_⟩
  · unfold value_printable value_printable_t
    rw [hr]; simp only [Option.isSome_some, br_tt, Option.getD_some, br_some]
  · unfold ref07_Printable ref07_Printable_t
    rw [hr2]; simp only [Option.isSome_some, br_tt, Option.getD_some, br_some]

def vB (p : Bool) (k i : Int) (t : List UInt8) : Bool := br (k == 0) (br (i == 0) (t == []) false)
        (br (k == 1) (br (t == []) (br (decide (i ≥ -1125899906842624)) (decide (i ≤ 1125899906842624)) false) false)
          (br (k == 2) (br (i == 0) (br (decide ((t.length : Int) ≤ 200)) p false) false)
            (br (k == 3) (br (t == []) (br (i == 0) true (i == 1)) false) false)))

theorem valid_both (k i : Int) (t : List UInt8) (ht : t.length ≤ maxLen) : ∃ b, value_Valid k i t = some b ∧ ref07_Valid k i t = some b ∧ (b = true → VForm k i t) := by
  obtain ⟨p, h1, h2⟩ := printable_both t ht
  refine ⟨vB p k i t, by unfold value_Valid value_Valid_t; rw [h1]; simp only [Option.isSome_some, br_tt, Option.getD_some, br_some]; rfl, by unfold ref07_Valid ref07_Valid_t; rw [h2]; simp only [Option.isSome_some, br_tt, Option.getD_some, br_some]; rfl, fun h => ?_⟩
  unfold vB at h
  by_cases k0 : k = 0
  · subst k0
    by_cases i0 : i = 0
    · subst i0; exact .null rfl rfl (by simpa [br_if] using h)
    · simp [br_if, i0] at h
  · by_cases k1 : k = 1
    · subst k1
      by_cases t0 : t = []
      · subst t0
        simp only [br_if] at h
        have h : -1125899906842624 ≤ i ∧ i ≤ 1125899906842624 := by simpa using h
        exact .int rfl rfl h.1 h.2
      · simp [br_if, t0] at h
    · by_cases k2 : k = 2
      · subst k2
        by_cases i0 : i = 0
        · subst i0
          by_cases hl : t.length ≤ 200
          · exact .text rfl rfl hl
          · have e : decide ((t.length : Int) ≤ 200) = false := decide_eq_false (by omega)
            rw [e] at h; simp [br_if] at h
        · simp [br_if, i0] at h
      · by_cases k3 : k = 3
        · subst k3
          by_cases t0 : t = []
          · subst t0
            by_cases i0 : i = 0
            · exact .bool rfl rfl (.inl i0)
            · by_cases i1 : i = 1
              · exact .bool rfl rfl (.inr i1)
              · simp [br_if, i0, i1] at h
          · simp [br_if, t0] at h
        · simp [br_if, k0, k1, k2, k3] at h

theorem num_loop : ∀ (n : Nat) (s : List UInt8), n + s.length ≤ 2305843009213693952 → Iter ref01_Number_l0_step ((n : Int), s) = some ((lead n : Int), dtail n ++ s) := by
  intro n
  induction n using Nat.strongRecOn with
  | _ n ih =>
    intro s ha
    by_cases h : n < 10
    · refine iter_end ?_
      have e1 : decide ((n : Int) > 9) = false := decide_eq_false (by omega)
      simp only [ref01_Number_l0_step, ref01_Number_l0_t, e1]
      rw [lead, dtail, dif_pos h, dif_pos h]; rfl
    · have e1 : decide ((n : Int) > 9) = true := decide_eq_true (by omega)
      have e2 : (n : Int).tmod 10 = ((n % 10 : Nat) : Int) := by rw [Int.tmod_eq_emod_of_nonneg (by omega)]; rfl
      have e3 : (n : Int).tdiv 10 = ((n / 10 : Nat) : Int) := by rw [Int.tdiv_eq_ediv_of_nonneg (by omega)]; rfl
      have e4 : IntKind.i64.wrap (((n % 10 : Nat) : Int) + 1) = ((n % 10 + 1 : Nat) : Int) := by rw [wrap_i64 (by omega) (by omega)]; rfl
      have e5 : IntKind.i64.wrap ((n / 10 : Nat) : Int) = ((n / 10 : Nat) : Int) := wrap_i64 (by omega) (by omega)
      have hm : n % 10 < 10 := Nat.mod_lt _ (by omega)
      have hdg := digit_at (n % 10) hm
      unfold digits10 at hdg
      rw [iter_step (s' := (((n / 10 : Nat) : Int), [UInt8.ofNat (48 + n % 10)] ++ s)) ?_, ih (n / 10) (by omega) _ (by simp; omega)]
      · rw [lead.eq_1 n, dtail.eq_1 n, dif_neg h, dif_neg h]; simp
      · simp only [ref01_Number_l0_step, ref01_Number_l0_t, ref01_Number_l0_v0, e1, e2, e3, e4, e5, Int.toNat_natCast, Nat.add_sub_cancel_left, hdg, br_if]
        rw [if_pos trivial, if_pos (by simp; omega), if_pos (by simp; omega)]

theorem number01_eq (n : Nat) (h : n ≤ 2000000000000000000) : ref01_Number (n : Int) = some (decDigits n) := by
  have hl := lead_lt n
  have hd := dtail_len n
  have ew : IntKind.i64.wrap ((lead n : Int) + 1) = ((lead n + 1 : Nat) : Int) := by rw [wrap_i64 (by omega) (by omega)]; rfl
  have c2 : (decide ((0 : Int) ≤ ((lead n + 1 : Nat) : Int)) && decide (((lead n + 1 : Nat) : Int) ≤ 10) && (decide ((0 : Int) ≤ (lead n : Int)) && decide ((lead n : Int) ≤ (((((lead n + 1 : Nat) : Int)).toNat : Nat) : Int)))) = true := by
    rw [Int.toNat_natCast]; simp; omega
  have hg := digit_at (lead n) hl
  unfold digits10 at hg
  have et : List.take ((((lead n + 1 : Nat) : Int)).toNat - ((lead n : Int)).toNat) (List.drop ((lead n : Int)).toNat [(48 : UInt8), 49, 50, 51, 52, 53, 54, 55, 56, 57]) = [UInt8.ofNat (48 + lead n)] := by
    rw [Int.toNat_natCast, Int.toNat_natCast, Nat.add_sub_cancel_left]; exact hg
  have hit := num_loop n [] (by simp; omega)
  unfold ref01_Number ref01_Number_t ref01_Number_v0 ref01_Number_v1
  rw [hit]
  simp only [Option.isSome_some, Option.getD_some]
  simp only [ew, c2, et]
  have c3 : decide (([UInt8.ofNat (48 + lead n)]).length + (dtail n ++ []).length ≤ 4611686018427387904) = true := decide_eq_true (by simp; omega)
  rw [c3, dec_eq]
  simp only [br_tt, List.append_nil]; rfl

theorem number07_eq (n : Int) (h1 : -2000000000000000000 ≤ n) (h2 : n ≤ 2000000000000000000) : ref07_Number n = some (itoa n) := by
  unfold ref07_Number ref07_Number_t ref07_Number_v0 itoa
  by_cases hn : n < 0
  · have w1 : IntKind.i64.wrap (0 - n) = ((n.natAbs : Nat) : Int) := by rw [wrap_i64 (by omega) (by omega)]; omega
    have q : n.tdiv 10 = -(((n.natAbs / 10 : Nat)) : Int) := by
      have e : n = -((n.natAbs : Nat) : Int) := by omega
      rw [e, Int.neg_tdiv, Int.tdiv_eq_ediv_of_nonneg (by omega)]; simp
    have r : n.tmod 10 = -(((n.natAbs % 10 : Nat)) : Int) := by
      have e : n = -((n.natAbs : Nat) : Int) := by omega
      rw [e, Int.neg_tmod, Int.tmod_eq_emod_of_nonneg (by omega)]; simp
    rw [decide_eq_true hn, if_pos hn]
    simp only [br_tt]
    by_cases h10 : n > -10
    · have v := number01_eq n.natAbs (by omega)
      have hl : (decDigits n.natAbs).length ≤ n.natAbs + 1 := by rw [dec_eq]; have := dtail_len n.natAbs; simp; omega
      rw [decide_eq_true h10, w1, v]
      have c : decide (1 + (decDigits n.natAbs).length ≤ 4611686018427387904) = true := decide_eq_true (by omega)
      simp only [br_tt, Option.isSome_some, Option.getD_some, c]; rfl
    · have w2 : IntKind.i64.wrap (n.tdiv 10) = -(((n.natAbs / 10 : Nat)) : Int) := by rw [q, wrap_i64 (by omega) (by omega)]
      have w3 : IntKind.i64.wrap (0 - -(((n.natAbs / 10 : Nat)) : Int)) = ((n.natAbs / 10 : Nat) : Int) := by rw [wrap_i64 (by omega) (by omega)]; omega
      have w4 : IntKind.i64.wrap (0 - -(((n.natAbs % 10 : Nat)) : Int)) = ((n.natAbs % 10 : Nat) : Int) := by rw [wrap_i64 (by omega) (by omega)]; omega
      have v1 := number01_eq (n.natAbs / 10) (by omega)
      have v2 := number01_eq (n.natAbs % 10) (by omega)
      have hl : (decDigits (n.natAbs / 10)).length ≤ n.natAbs / 10 + 1 := by rw [dec_eq]; have := dtail_len (n.natAbs / 10); simp; omega
      have hl2 : (decDigits (n.natAbs % 10)).length ≤ n.natAbs % 10 + 1 := by rw [dec_eq]; have := dtail_len (n.natAbs % 10); simp; omega
      rw [decide_eq_false h10, w2, w3, r, w4, v1, v2]
      have c : decide (1 + (decDigits (n.natAbs / 10)).length ≤ 4611686018427387904) = true := decide_eq_true (by omega)
      have c2 : decide (([(45 : UInt8)] ++ decDigits (n.natAbs / 10)).length + (decDigits (n.natAbs % 10)).length ≤ 4611686018427387904) = true := decide_eq_true (by simp; omega)
      have hd : ¬ n.natAbs < 10 := by omega
      have hs : decDigits (n.natAbs % 10) = [UInt8.ofNat (48 + n.natAbs % 10)] := by rw [decDigits, dif_pos (Nat.mod_lt _ (by omega))]
      simp only [br_tt, br_ff, Option.isSome_some, Option.getD_some, c, c2]
      rw [hs, decDigits.eq_1 n.natAbs, dif_neg hd]; simp
  · have v := number01_eq n.toNat (by omega)
    have e : ((n.toNat : Nat) : Int) = n := Int.toNat_of_nonneg (by omega)
    rw [e] at v
    have h10 : n > -10 := by omega
    rw [decide_eq_false hn, decide_eq_true h10, v, if_neg hn]
    simp only [br_tt, br_ff, Option.isSome_some, Option.getD_some]

theorem q_loop (s : List UInt8) (hs : s.length ≤ 1152921504606846976) : ∀ (k n : Nat) (out : List UInt8), n + k = s.length → out.length + 2 * k ≤ 2305843009213693952 + 1 → Iter (ref07_Quote_l0_step s) (out, (n : Int)) = some (out ++ (s.drop n).flatMap qb)
  | 0, n, out, hk, ho => by
    have h0 : ¬ ((n : Int) < (s.length : Int)) := by omega
    rw [List.drop_eq_nil_of_le (by omega : s.length ≤ n)]
    refine iter_end ?_
    simp [ref07_Quote_l0_step, ref07_Quote_l0_t, br_if, h0]
  | k + 1, n, out, hk, ho => by
    have h1 : n < s.length := by omega
    have h1' : (n : Int) < (s.length : Int) := by omega
    have e4 : IntKind.i64.wrap ((n : Int) + 1) = ((n + 1 : Nat) : Int) := wrap_nat (by unfold maxLen; omega)
    have et : List.take ((((n + 1 : Nat) : Int)).toNat - ((n : Int)).toNat) (List.drop ((n : Int)).toNat s) = [s[n]] := by
      rw [Int.toNat_natCast, Int.toNat_natCast, Nat.add_sub_cancel_left, drop_cons h1]; rfl
    have eg : s.getD ((n : Int)).toNat 0 = s[n] := by simp [List.getD, h1]
    have hq : (qb s[n]).length ≤ 2 := by unfold qb; split <;> simp
    have hstep : ref07_Quote_l0_step s (out, (n : Int)) = some (.inl (out ++ qb s[n], ((n + 1 : Nat) : Int))) := by
      simp only [ref07_Quote_l0_step, ref07_Quote_l0_t, ref07_Quote_l0_v0, ref07_Quote_l0_v1, br_if, e4, et, eg, byte39]
      have cb : (decide ((0 : Int) ≤ (n : Int)) && decide ((n : Int) < (s.length : Int))) = true := by simpa using h1
      have cc : (decide ((0 : Int) ≤ ((n + 1 : Nat) : Int)) && decide (((n + 1 : Nat) : Int) ≤ (s.length : Int)) && (decide ((0 : Int) ≤ (n : Int)) && decide ((n : Int) ≤ (((((n + 1 : Nat) : Int)).toNat : Nat) : Int)))) = true := by
        rw [Int.toNat_natCast]; simp; omega
      rw [if_pos (by simpa using h1), if_pos cb]
      by_cases hc : s[n] = 39
      · rw [if_pos (by simpa using hc), if_pos (by simp; omega), if_pos cc, if_pos (by simp; omega)]; simp [qb, hc]
      · rw [if_neg (by simpa using hc), if_pos cc, if_pos (by simp; omega)]; simp [qb, hc]
    rw [iter_step hstep, q_loop s hs k (n + 1) _ (by omega) (by simp; omega), drop_cons h1, List.flatMap_cons, List.append_assoc]

theorem quote_eq (t : List UInt8) (h : t.length ≤ 1000000000) : ref07_Quote t = some (quoteV t) := by
  have hq := qb_len t
  have hl := q_loop t (by omega) t.length 0 [39] (by omega) (by simp; omega)
  unfold ref07_Quote ref07_Quote_t
  rw [show ((0 : Int)) = ((0 : Nat) : Int) from rfl, hl]
  simp only [Option.isSome_some, Option.getD_some, List.drop_zero]
  have c2 : decide (([(39 : UInt8)] ++ List.flatMap qb t).length + 1 ≤ 4611686018427387904) = true := decide_eq_true (by simp only [List.length_append, List.length_cons, List.length_nil]; omega)
  rw [c2]; rfl

theorem literal_both (k i : Int) (t : List UInt8) (hl : t.length ≤ maxLen) : ∃ s, value_Literal k i t = some s ∧ ref07_Literal k i t = some s ∧ s.length ≤ 410 := by
  obtain ⟨b, h1, h2, h3⟩ := valid_both k i t hl
  unfold value_Literal value_Literal_t value_Literal_v0 ref07_Literal ref07_Literal_t
  rw [h1, h2]
  simp only [Option.isSome_some, br_tt, Option.getD_some]
  cases b with
  | false => exact ⟨[], rfl, rfl, by simp⟩
  | true =>
    cases h3 rfl with
    | null g1 g2 g3 => subst g1 g2 g3; exact ⟨_, rfl, rfl, by simp⟩
    | int g1 g2 g3 g4 =>
      subst g1 g2
      have e : (decide (-9223372036854775808 ≤ i) && decide (i ≤ 9223372036854775807)) = true := by simp; omega
      have v := number07_eq i (by omega) (by omega)
      rw [e, v]
      refine ⟨_, rfl, rfl, ?_⟩
      unfold itoa
      have := dec_len 17 i.natAbs (by omega)
      have := dec_len 17 i.toNat (by omega)
      split <;> simp <;> omega
    | text g1 g2 g3 =>
      subst g1 g2
      have hc := count_le [39] (by simp) _ t (Nat.le_refl _)
      have hq := qb_len t
      have e1 : (decide (t.length < 4294967281) && decide (t.length + count t [39] * 2 ≤ 140737488355328)) = true := by simp; omega
      have e2 : decide (1 + (t.flatMap qb).length ≤ 4611686018427387904) = true := decide_eq_true (by omega)
      have e3 : decide (([(39 : UInt8)] ++ t.flatMap qb).length + 1 ≤ 4611686018427387904) = true := decide_eq_true (by simp only [List.length_append, List.length_cons, List.length_nil]; omega)
      have v := quote_eq t (by omega)
      rw [e1, repl_quote, e2, e3, v]
      refine ⟨_, rfl, rfl, ?_⟩
      simp only [List.length_append, List.length_cons, List.length_nil]; omega
    | bool g1 g2 g3 => subst g1 g2; rcases g3 with rfl | rfl <;> exact ⟨_, rfl, rfl, by simp⟩

/-- A value's literal. -/
noncomputable def lit (v : Val) : List UInt8 := (value_Literal v.k v.i v.t).getD []

theorem lit_val (v : Val) (hl : v.t.length ≤ maxLen) : value_Literal v.k v.i v.t = some (lit v) := by
  obtain ⟨s, h1, _, _⟩ := literal_both v.k v.i v.t hl
  unfold lit; rw [h1]; rfl
theorem lit_ref (v : Val) (hl : v.t.length ≤ maxLen) : ref07_Literal v.k v.i v.t = some (lit v) := by
  obtain ⟨s, h1, h2, _⟩ := literal_both v.k v.i v.t hl
  unfold lit; rw [h1, h2]; rfl
theorem lit_len (v : Val) (hl : v.t.length ≤ maxLen) : (lit v).length ≤ 410 := by
  obtain ⟨s, h1, _, h3⟩ := literal_both v.k v.i v.t hl
  unfold lit; rw [h1]; exact h3
end Go.Sim.M
