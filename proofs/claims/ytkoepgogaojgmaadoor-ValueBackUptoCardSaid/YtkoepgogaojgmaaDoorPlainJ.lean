/- The law of literals: both writers agree. -/
import Derived.Test.YtkoepgogaojgmaaDoorPlainI
set_option linter.unusedVariables false
set_option linter.unusedSimpArgs false
set_option maxRecDepth 100000
namespace Go.Sim.M
open Go.RowKit Go.Lib

theorem lead_lt (n : Nat) : lead n < 10 := by
  induction n using Nat.strongRecOn with
  | _ n ih =>
    rw [lead]
    split
    · assumption
    · exact ih (n / 10) (by omega)

theorem dtail_len (n : Nat) : (dtail n).length ≤ n := by
  induction n using Nat.strongRecOn with
  | _ n ih =>
    rw [dtail]
    split
    · simp
    · have := ih (n / 10) (by omega)
      simp only [List.length_append, List.length_cons, List.length_nil]; omega

theorem dec_eq (n : Nat) : decDigits n = UInt8.ofNat (48 + lead n) :: dtail n := by
  induction n using Nat.strongRecOn with
  | _ n ih =>
    rw [decDigits, lead, dtail]
    by_cases h : n < 10
    · rw [dif_pos h, dif_pos h, dif_pos h]
    · rw [dif_neg h, dif_neg h, dif_neg h, ih (n / 10) (by omega)]; rfl

theorem number01_eq (n : Nat) (h : n ≤ 1152921504606846976) : ref01_Number_pre (n : Int) = true ∧ ref01_Number (n : Int) = decDigits n := by
  have hl := lead_lt n
  have hd := dtail_len n
  have c1 : (decide ((0 : Int) ≤ (n : Int)) && decide ((n : Int) ≤ 2305843009213693952)) = true := by simp; omega
  have ew : IntKind.i64.wrap ((lead n : Int) + 1) = ((lead n + 1 : Nat) : Int) := by rw [wrap_i64 (by omega) (by omega)]; rfl
  have c2 : (decide ((0 : Int) ≤ ((lead n + 1 : Nat) : Int)) && decide (((lead n + 1 : Nat) : Int) ≤ 10) && decide ((lead n : Int) ≤ (((((lead n + 1 : Nat) : Int)).toNat : Nat) : Int))) = true := by
    rw [Int.toNat_natCast]; simp; omega
  have hg := digit_at (lead n) hl
  unfold digits10 at hg
  have et : List.take ((((lead n + 1 : Nat) : Int)).toNat - ((lead n : Int)).toNat) (List.drop ((lead n : Int)).toNat [(48 : UInt8), 49, 50, 51, 52, 53, 54, 55, 56, 57]) = [UInt8.ofNat (48 + lead n)] := by
    rw [Int.toNat_natCast, Int.toNat_natCast, Nat.add_sub_cancel_left]; exact hg
  unfold ref01_Number_pre ref01_Number
  have en : ((n : Int)).toNat = n := Int.toNat_natCast n
  rw [c1, en, ew, c2, et]
  have c3 : decide (([UInt8.ofNat (48 + lead n)]).length + (dtail n ++ []).length ≤ 4611686018427387904) = true := decide_eq_true (by simp; omega)
  rw [c3]
  exact ⟨rfl, by rw [dec_eq]; simp only [br_tt, List.append_nil]; rfl⟩

theorem number07_eq (n : Int) (h1 : -1125899906842624 ≤ n) (h2 : n ≤ 1125899906842624) : ref07_Number_pre n = true ∧ ref07_Number n = itoa n := by
  unfold ref07_Number_pre ref07_Number itoa
  by_cases hn : n < 0
  · have w1 : IntKind.i64.wrap (0 - n) = ((n.natAbs : Nat) : Int) := by rw [wrap_i64 (by omega) (by omega)]; omega
    have q : n.tdiv 10 = -(((n.natAbs / 10 : Nat)) : Int) := by
      have e : n = -((n.natAbs : Nat) : Int) := by omega
      rw [e, Int.neg_tdiv, Int.tdiv_eq_ediv_of_nonneg (by omega)]; simp
    have r : n.tmod 10 = -(((n.natAbs % 10 : Nat)) : Int) := by
      have e : n = -((n.natAbs : Nat) : Int) := by omega
      rw [e, Int.neg_tmod, Int.tmod_eq_emod_of_nonneg (by omega)]; simp
    rw [decide_eq_true hn, if_pos hn]
    simp only [br_tt]
    by_cases h10 : n > -10
    · obtain ⟨p, v⟩ := number01_eq n.natAbs (by omega)
      have hl : (decDigits n.natAbs).length ≤ n.natAbs + 1 := by rw [dec_eq]; have := dtail_len n.natAbs; simp; omega
      rw [decide_eq_true h10, w1, p, v]
      have c : decide (1 + (decDigits n.natAbs).length ≤ 4611686018427387904) = true := decide_eq_true (by omega)
      rw [c]
      exact ⟨rfl, rfl⟩
    · have w2 : IntKind.i64.wrap (n.tdiv 10) = -(((n.natAbs / 10 : Nat)) : Int) := by rw [q, wrap_i64 (by omega) (by omega)]
      have w3 : IntKind.i64.wrap (0 - -(((n.natAbs / 10 : Nat)) : Int)) = ((n.natAbs / 10 : Nat) : Int) := by rw [wrap_i64 (by omega) (by omega)]; omega
      have w4 : IntKind.i64.wrap (0 - -(((n.natAbs % 10 : Nat)) : Int)) = ((n.natAbs % 10 : Nat) : Int) := by rw [wrap_i64 (by omega) (by omega)]; omega
      obtain ⟨p1, v1⟩ := number01_eq (n.natAbs / 10) (by omega)
      obtain ⟨p2, v2⟩ := number01_eq (n.natAbs % 10) (by omega)
      have hl : (decDigits (n.natAbs / 10)).length ≤ n.natAbs / 10 + 1 := by rw [dec_eq]; have := dtail_len (n.natAbs / 10); simp; omega
      have hl2 : (decDigits (n.natAbs % 10)).length ≤ n.natAbs % 10 + 1 := by rw [dec_eq]; have := dtail_len (n.natAbs % 10); simp; omega
      rw [decide_eq_false h10, w2, w3, r, w4, p1, v1, p2, v2]
      have c : decide (1 + (decDigits (n.natAbs / 10)).length ≤ 4611686018427387904) = true := decide_eq_true (by omega)
      have c2 : decide (([(45 : UInt8)] ++ decDigits (n.natAbs / 10)).length + (decDigits (n.natAbs % 10)).length ≤ 4611686018427387904) = true := decide_eq_true (by simp; omega)
      rw [c, c2]
      refine ⟨rfl, ?_⟩
      simp only [br_tt, br_ff]
      have hd : ¬ n.natAbs < 10 := by omega
      have hs : decDigits (n.natAbs % 10) = [UInt8.ofNat (48 + n.natAbs % 10)] := by rw [decDigits, dif_pos (Nat.mod_lt _ (by omega))]
      rw [hs, decDigits.eq_1 n.natAbs, dif_neg hd]; simp
  · obtain ⟨p, v⟩ := number01_eq n.toNat (by omega)
    have e : ((n.toNat : Nat) : Int) = n := Int.toNat_of_nonneg (by omega)
    rw [e] at p v
    have h10 : n > -10 := by omega
    rw [decide_eq_false hn, decide_eq_true h10, p, v, if_neg hn]
    exact ⟨rfl, rfl⟩
end Go.Sim.M
