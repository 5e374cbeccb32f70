/- Loops over the letters of a text: all printable. -/
import Derived.Test.YtkoepgogaojgmaaDoorAwake
set_option linter.unusedVariables false
set_option linter.unusedSimpArgs false
set_option maxRecDepth 100000
namespace Go.Sim.M
open Go.RowKit Go.Proofs

theorem drop_cons {s : List UInt8} {i : Nat} (h : i < s.length) : s.drop i = s.getD i 0 :: s.drop (i + 1) := by
  rw [List.drop_eq_getElem_cons h]; simp [List.getD_eq_getElem?_getD, h]

theorem wrap_succ {s : List UInt8} {i : Nat} (h : i < s.length) (hs : s.length ≤ strMax) : IntKind.i64.wrap ((i : Int) + 1) = ((i + 1 : Nat) : Int) := by
  have : s.length ≤ 4611686018427387904 := hs
  rw [wrap_i64 (by omega) (by omega)]; rfl

theorem lt_true {i n : Nat} (h : i < n) : decide ((i : Int) < (n : Int)) = true := by simpa using h
theorem lt_false {i n : Nat} (h : ¬ i < n) : decide ((i : Int) < (n : Int)) = false := by simpa using h
theorem in_true {i n : Nat} (h : i < n) : (decide ((0 : Int) ≤ (i : Int)) && decide ((i : Int) < (n : Int))) = true := by simpa using h

def okb (c : UInt8) : Bool := !(decide ((c.toNat : Int) < 32) || decide ((c.toNat : Int) > 126))

def printable_res (s : List UInt8) (i : Nat) : LR := .node ((s.drop i).all okb) (.leaf (.exit 0) [.bool false] []) (.leaf .ret [.bool false] [])

theorem value_printable_r (s : List UInt8) (n : Int) (i : Int) : XR Tryd.prog E1a [0, 2, 5, 6] [2] 0 (loopAt Tryd.f41 0) ⟨mkTs 20 (List.zip [0, 2, 5, 6] [AV.str s, AV.bool false, AV.int IntKind.i64 n, AV.int IntKind.i64 i]), []⟩ = br (decide (i < n)) (br (decide ((0 : Int) ≤ i) && decide (i < (↑s.length : Int))) (br (decide ((↑(s.getD i.toNat (0 : UInt8)).toNat : Int) < (32 : Int))) (some (Go.Exit.ret, ⟨mkTs 20 (List.zip [2] [AV.bool false]), []⟩)) (br (decide ((0 : Int) ≤ i) && decide (i < (↑s.length : Int))) (br (decide ((↑(s.getD i.toNat (0 : UInt8)).toNat : Int) > (126 : Int))) (some (Go.Exit.ret, ⟨mkTs 20 (List.zip [2] [AV.bool false]), []⟩)) (some (Go.Exit.normal, ⟨mkTs 20 (List.zip [0, 2, 5, 6] [AV.str s, AV.bool false, AV.int IntKind.i64 n, AV.int IntKind.i64 (IntKind.i64.wrap (i + (1 : Int)))]), []⟩))) (none))) (none)) (some (Go.Exit.exit (0 : Nat), ⟨mkTs 20 (List.zip [2] [AV.bool false]), []⟩)) := by kernel_rfl
theorem ref07_Printable_r (s : List UInt8) (i : Int) : XR Tryd.prog E1a [0, 2, 3] [2] 0 (loopAt Tryd.f42 0) ⟨mkTs 20 (List.zip [0, 2, 3] [AV.str s, AV.bool false, AV.int IntKind.i64 i]), []⟩ = br (decide (i < (↑s.length : Int))) (br (decide ((0 : Int) ≤ i) && decide (i < (↑s.length : Int))) (br (decide ((↑(s.getD i.toNat (0 : UInt8)).toNat : Int) < (32 : Int))) (some (Go.Exit.ret, ⟨mkTs 20 (List.zip [2] [AV.bool false]), []⟩)) (br (decide ((0 : Int) ≤ i) && decide (i < (↑s.length : Int))) (br (decide ((↑(s.getD i.toNat (0 : UInt8)).toNat : Int) > (126 : Int))) (some (Go.Exit.ret, ⟨mkTs 20 (List.zip [2] [AV.bool false]), []⟩)) (some (Go.Exit.normal, ⟨mkTs 20 (List.zip [0, 2, 3] [AV.str s, AV.bool false, AV.int IntKind.i64 (IntKind.i64.wrap (i + (1 : Int)))]), []⟩))) (none))) (none)) (some (Go.Exit.exit (0 : Nat), ⟨mkTs 20 (List.zip [2] [AV.bool false]), []⟩)) := by kernel_rfl

theorem value_printable_loop (s : List UInt8) (hs : s.length ≤ strMax) (i : Nat) (hi : i ≤ s.length) : Does Tryd.prog ITryd (.loop (loopAt Tryd.f41 0))
    (fun e st => e = (printable_res s i).eval.1 ∧ st = ⟨mkTs 20 (List.zip [2] (printable_res s i).eval.2.1), (printable_res s i).eval.2.2⟩) ⟨mkTs 20 (List.zip [0, 2, 5, 6] [.str s, .bool false, .int .i64 s.length, .int .i64 i]), []⟩ :=
  loop_of_XR mxTryd (inv0Ok _) E1a_ok (loOk_nil (by kernel_rfl)) (k := 0) (L := fun i : Nat => [.str s, .bool false, .int .i64 s.length, .int .i64 i]) (H := fun _ => []) (res := printable_res s) (ok := fun i => i ≤ s.length) (fun i => s.length - i) (fun i hi => by
    rw [value_printable_r]
    by_cases h : i < s.length
    · have hd := drop_cons h
      rw [in_true h, lt_true h, wrap_succ h hs, Int.toNat_natCast]
      simp only [br_tt]
      cases c1 : decide (((s.getD i 0).toNat : Int) < 32) with
      | true =>
        have e : (printable_res s i).eval = (.ret, [.bool false], []) := by simp only [printable_res, LR.eval, hd, List.all_cons, okb, c1]; simp
        exact .inr ⟨by rw [e]; simp, by rw [e]; rfl⟩
      | false =>
        cases c2 : decide (((s.getD i 0).toNat : Int) > 126) with
        | true =>
          have e : (printable_res s i).eval = (.ret, [.bool false], []) := by simp only [printable_res, LR.eval, hd, List.all_cons, okb, c1, c2]; simp
          exact .inr ⟨by rw [e]; simp, by rw [e]; rfl⟩
        | false => exact .inl ⟨i + 1, h, by omega, by simp only [printable_res, LR.eval, hd, List.all_cons, okb, c1, c2]; simp, rfl⟩
    · have e : (printable_res s i).eval = (.exit 0, [.bool false], []) := by simp only [printable_res, LR.eval, List.drop_eq_nil_of_le (Nat.le_of_not_lt h)]; simp
      rw [lt_false h]
      exact .inr ⟨by rw [e]; simp, by rw [e]; rfl⟩) i hi

theorem ref07_Printable_loop (s : List UInt8) (hs : s.length ≤ strMax) (i : Nat) (hi : i ≤ s.length) : Does Tryd.prog ITryd (.loop (loopAt Tryd.f42 0))
    (fun e st => e = (printable_res s i).eval.1 ∧ st = ⟨mkTs 20 (List.zip [2] (printable_res s i).eval.2.1), (printable_res s i).eval.2.2⟩) ⟨mkTs 20 (List.zip [0, 2, 3] [.str s, .bool false, .int .i64 i]), []⟩ :=
  loop_of_XR mxTryd (inv0Ok _) E1a_ok (loOk_nil (by kernel_rfl)) (k := 0) (L := fun i : Nat => [.str s, .bool false, .int .i64 i]) (H := fun _ => []) (res := printable_res s) (ok := fun i => i ≤ s.length) (fun i => s.length - i) (fun i hi => by
    rw [ref07_Printable_r]
    by_cases h : i < s.length
    · have hd := drop_cons h
      rw [in_true h, lt_true h, wrap_succ h hs, Int.toNat_natCast]
      simp only [br_tt]
      cases c1 : decide (((s.getD i 0).toNat : Int) < 32) with
      | true =>
        have e : (printable_res s i).eval = (.ret, [.bool false], []) := by simp only [printable_res, LR.eval, hd, List.all_cons, okb, c1]; simp
        exact .inr ⟨by rw [e]; simp, by rw [e]; rfl⟩
      | false =>
        cases c2 : decide (((s.getD i 0).toNat : Int) > 126) with
        | true =>
          have e : (printable_res s i).eval = (.ret, [.bool false], []) := by simp only [printable_res, LR.eval, hd, List.all_cons, okb, c1, c2]; simp
          exact .inr ⟨by rw [e]; simp, by rw [e]; rfl⟩
        | false => exact .inl ⟨i + 1, h, by omega, by simp only [printable_res, LR.eval, hd, List.all_cons, okb, c1, c2]; simp, rfl⟩
    · have e : (printable_res s i).eval = (.exit 0, [.bool false], []) := by simp only [printable_res, LR.eval, List.drop_eq_nil_of_le (Nat.le_of_not_lt h)]; simp
      rw [lt_false h]
      exact .inr ⟨by rw [e]; simp, by rw [e]; rfl⟩) i hi

def value_printable_lo : List AV → List Box → Option (Bool × LR)
  | [.str s, .bool b, .int .i64 n, .int .i64 i], [] => some (!b && (n == (s.length : Int) && (i == 0 && decide (s.length ≤ strMax))), printable_res s 0)
  | _, _ => none
theorem value_printable_lok : LoopOk Tryd.prog ITryd 20 [0, 2, 5, 6] [2] (loopAt Tryd.f41 0) value_printable_lo := fun vals H r h => by
  unfold value_printable_lo at h; split at h
  · rename_i s b n i
    simp only [Option.some.injEq, Prod.mk.injEq, Bool.and_eq_true, Bool.not_eq_true', beq_iff_eq, decide_eq_true_eq] at h
    obtain ⟨⟨rfl, rfl, rfl, hs⟩, rfl⟩ := h
    exact value_printable_loop s hs 0 (Nat.zero_le _)
  · simp at h
def E1p : Env := E1a.loop 20 [0, 2, 5, 6] [2] value_printable_lo
theorem E1p_ok : OrcOk Tryd.prog ITryd E1p := E1a_ok.loop
theorem E1p_lk : LoOk Tryd.prog ITryd E1p (Tryd.f41.body.getD .skip) := loOk_one (l := loopAt Tryd.f41 0) (by kernel_rfl) value_printable_lok

def ref07_Printable_lo : List AV → List Box → Option (Bool × LR)
  | [.str s, .bool b, .int .i64 i], [] => some (!b && (i == 0 && decide (s.length ≤ strMax)), printable_res s 0)
  | _, _ => none
theorem ref07_Printable_lok : LoopOk Tryd.prog ITryd 20 [0, 2, 3] [2] (loopAt Tryd.f42 0) ref07_Printable_lo := fun vals H r h => by
  unfold ref07_Printable_lo at h; split at h
  · rename_i s b i
    simp only [Option.some.injEq, Prod.mk.injEq, Bool.and_eq_true, Bool.not_eq_true', beq_iff_eq, decide_eq_true_eq] at h
    obtain ⟨⟨rfl, rfl, hs⟩, rfl⟩ := h
    exact ref07_Printable_loop s hs 0 (Nat.zero_le _)
  · simp at h
def E1q : Env := E1a.loop 20 [0, 2, 3] [2] ref07_Printable_lo
theorem E1q_ok : OrcOk Tryd.prog ITryd E1q := E1a_ok.loop
theorem E1q_lk : LoOk Tryd.prog ITryd E1q (Tryd.f42.body.getD .skip) := loOk_one (l := loopAt Tryd.f42 0) (by kernel_rfl) ref07_Printable_lok
end Go.Sim.M
