/- Loops over the letters of a text: numbers and quoted texts. -/
import Derived.Test.YtkoepgogaojgmaaDoorL13
set_option linter.unusedVariables false
set_option linter.unusedSimpArgs false
set_option maxRecDepth 100000
namespace Go.Sim.M
open Go.RowKit Go.Proofs

theorem br_pos {α : Type} {t : Bool} {a b : α} (h : t = true) : br t a b = a := by subst h; rfl
theorem br_neg {α : Type} {t : Bool} {a b : α} (h : t = false) : br t a b = b := by subst h; rfl

theorem take_one {s : List UInt8} {i : Nat} (h : i < s.length) : List.take 1 (List.drop i s) = [s.getD i 0] := by
  rw [drop_cons h]; rfl

theorem wrap_u8 {n : Int} (h1 : 0 ≤ n) (h2 : n ≤ 255) : IntKind.u8.wrap n = n := by
  simp only [IntKind.wrap, IntKind.signed, IntKind.bits]; simp; omega

theorem ref01_Number_r (n : Int) (s : List UInt8) : XR Tryd.prog E13 [0, 2, 3] [0, 3] 0 (loopAt Tryd.f68 0) ⟨mkTs 22 (List.zip [0, 2, 3] [AV.int IntKind.i64 n, AV.str [], AV.str s]), []⟩ = br (decide (n > (9 : Int))) (br (decide ((0 : Int) ≤ IntKind.i64.wrap (n.tmod (10 : Int) + (1 : Int))) && decide (IntKind.i64.wrap (n.tmod (10 : Int) + (1 : Int)) ≤ (10 : Int)) && (decide ((0 : Int) ≤ n.tmod (10 : Int)) && decide (n.tmod (10 : Int) ≤ (↑(IntKind.i64.wrap (n.tmod (10 : Int) + (1 : Int))).toNat : Int)))) (br (decide ((List.take ((IntKind.i64.wrap (n.tmod (10 : Int) + (1 : Int))).toNat - (n.tmod (10 : Int)).toNat) (List.drop (n.tmod (10 : Int)).toNat [(48 : UInt8), (49 : UInt8), (50 : UInt8), (51 : UInt8), (52 : UInt8), (53 : UInt8), (54 : UInt8), (55 : UInt8), (56 : UInt8), (57 : UInt8)])).length + s.length ≤ (4611686018427387904 : Nat))) (some (Go.Exit.normal, ⟨mkTs 22 (List.zip [0, 2, 3] [AV.int IntKind.i64 (IntKind.i64.wrap (n.tdiv (10 : Int))), AV.str [], AV.str (List.take ((IntKind.i64.wrap (n.tmod (10 : Int) + (1 : Int))).toNat - (n.tmod (10 : Int)).toNat) (List.drop (n.tmod (10 : Int)).toNat [(48 : UInt8), (49 : UInt8), (50 : UInt8), (51 : UInt8), (52 : UInt8), (53 : UInt8), (54 : UInt8), (55 : UInt8), (56 : UInt8), (57 : UInt8)]) ++ s)]), []⟩)) (none)) (none)) (some (Go.Exit.exit (0 : Nat), ⟨mkTs 22 (List.zip [0, 3] [AV.int IntKind.i64 n, AV.str s]), []⟩)) := by kernel_rfl
theorem ref07_Quote_r (s : List UInt8) (out : List UInt8) (i : Int) : XR Tryd.prog E13 [0, 2, 3, 4] [3] 0 (loopAt Tryd.f53 0) ⟨mkTs 26 (List.zip [0, 2, 3, 4] [AV.str s, AV.str [], AV.str out, AV.int IntKind.i64 i]), []⟩ = br (decide (i < (↑s.length : Int))) (br (decide ((0 : Int) ≤ i) && decide (i < (↑s.length : Int))) (br ((↑(s.getD i.toNat (0 : UInt8)).toNat : Int) == (39 : Int)) (br (decide (out.length + (1 : Nat) ≤ (4611686018427387904 : Nat))) (br (decide ((0 : Int) ≤ IntKind.i64.wrap (i + (1 : Int))) && decide (IntKind.i64.wrap (i + (1 : Int)) ≤ (↑s.length : Int)) && (decide ((0 : Int) ≤ i) && decide (i ≤ (↑(IntKind.i64.wrap (i + (1 : Int))).toNat : Int)))) (br (decide ((out ++ [(39 : UInt8)]).length + (List.take ((IntKind.i64.wrap (i + (1 : Int))).toNat - i.toNat) (List.drop i.toNat s)).length ≤ (4611686018427387904 : Nat))) (some (Go.Exit.normal, ⟨mkTs 26 (List.zip [0, 2, 3, 4] [AV.str s, AV.str [], AV.str (out ++ [(39 : UInt8)] ++ List.take ((IntKind.i64.wrap (i + (1 : Int))).toNat - i.toNat) (List.drop i.toNat s)), AV.int IntKind.i64 (IntKind.i64.wrap (i + (1 : Int)))]), []⟩)) (none)) (none)) (none)) (br (decide ((0 : Int) ≤ IntKind.i64.wrap (i + (1 : Int))) && decide (IntKind.i64.wrap (i + (1 : Int)) ≤ (↑s.length : Int)) && (decide ((0 : Int) ≤ i) && decide (i ≤ (↑(IntKind.i64.wrap (i + (1 : Int))).toNat : Int)))) (br (decide (out.length + (List.take ((IntKind.i64.wrap (i + (1 : Int))).toNat - i.toNat) (List.drop i.toNat s)).length ≤ (4611686018427387904 : Nat))) (some (Go.Exit.normal, ⟨mkTs 26 (List.zip [0, 2, 3, 4] [AV.str s, AV.str [], AV.str (out ++ List.take ((IntKind.i64.wrap (i + (1 : Int))).toNat - i.toNat) (List.drop i.toNat s)), AV.int IntKind.i64 (IntKind.i64.wrap (i + (1 : Int)))]), []⟩)) (none)) (none))) (none)) (some (Go.Exit.exit (0 : Nat), ⟨mkTs 26 (List.zip [3] [AV.str out]), []⟩)) := by kernel_rfl
theorem ref07_number_r (s : List UInt8) (n : Int) (i : Int) : XR Tryd.prog E13 [0, 2, 3, 4, 5] [2, 3, 4] 0 (loopAt Tryd.f49 0) ⟨mkTs 45 (List.zip [0, 2, 3, 4, 5] [AV.str s, AV.int IntKind.i64 (0 : Int), AV.bool false, AV.int IntKind.i64 n, AV.int IntKind.i64 i]), []⟩ = br (decide (i < (↑s.length : Int))) (br (decide ((0 : Int) ≤ i) && decide (i < (↑s.length : Int))) (br (decide ((↑(s.getD i.toNat (0 : UInt8)).toNat : Int) < (48 : Int))) (some (Go.Exit.ret, ⟨mkTs 45 (List.zip [2, 3, 4] [AV.int IntKind.i64 (0 : Int), AV.bool false, AV.int IntKind.i64 n]), []⟩)) (br (decide ((0 : Int) ≤ i) && decide (i < (↑s.length : Int))) (br (decide ((↑(s.getD i.toNat (0 : UInt8)).toNat : Int) > (57 : Int))) (some (Go.Exit.ret, ⟨mkTs 45 (List.zip [2, 3, 4] [AV.int IntKind.i64 (0 : Int), AV.bool false, AV.int IntKind.i64 n]), []⟩)) (br (decide ((0 : Int) ≤ i) && decide (i < (↑s.length : Int))) (br (decide (IntKind.i64.wrap (IntKind.i64.wrap (n * (10 : Int)) + IntKind.i64.wrap (IntKind.u8.wrap ((↑(s.getD i.toNat (0 : UInt8)).toNat : Int) - (48 : Int)))) > (1125899906842624 : Int))) (some (Go.Exit.normal, ⟨mkTs 45 (List.zip [0, 2, 3, 4, 5] [AV.str s, AV.int IntKind.i64 (0 : Int), AV.bool false, AV.int IntKind.i64 (1125899906842625 : Int), AV.int IntKind.i64 (IntKind.i64.wrap (i + (1 : Int)))]), []⟩)) (some (Go.Exit.normal, ⟨mkTs 45 (List.zip [0, 2, 3, 4, 5] [AV.str s, AV.int IntKind.i64 (0 : Int), AV.bool false, AV.int IntKind.i64 (IntKind.i64.wrap (IntKind.i64.wrap (n * (10 : Int)) + IntKind.i64.wrap (IntKind.u8.wrap ((↑(s.getD i.toNat (0 : UInt8)).toNat : Int) - (48 : Int))))), AV.int IntKind.i64 (IntKind.i64.wrap (i + (1 : Int)))]), []⟩))) (none))) (none))) (none)) (some (Go.Exit.exit (0 : Nat), ⟨mkTs 45 (List.zip [2, 3, 4] [AV.int IntKind.i64 (0 : Int), AV.bool false, AV.int IntKind.i64 n]), []⟩)) := by kernel_rfl
theorem value_parseInt_r (d : List UInt8) (neg : Bool) (n : Int) (len : Int) (i : Int) : XR Tryd.prog E13 [2, 3, 4, 5, 6, 31, 32] [2, 3, 5, 6] 1 (loopAt Tryd.f47 0) ⟨mkTs 61 (List.zip [2, 3, 4, 5, 6, 31, 32] [AV.own (0 : Nat) (0 : Nat) (0 : Nat) (0 : Nat), AV.int IntKind.i64 (0 : Int), AV.str d, AV.bool neg, AV.int IntKind.i64 n, AV.int IntKind.i64 len, AV.int IntKind.i64 i]), [{ ver := (0 : Nat), sz := (3 : Nat), ty := (23 : Go.TypeId), xs := [AV.agg [AV.int IntKind.i64 (0 : Int), AV.int IntKind.i64 (0 : Int), AV.str []]], frz := false }]⟩ = br (decide (i < len)) (br (decide ((0 : Int) ≤ i) && decide (i < (↑d.length : Int))) (br (decide ((↑(d.getD i.toNat (0 : UInt8)).toNat : Int) < (48 : Int))) (some (Go.Exit.ret, ⟨mkTs 61 (List.zip [2, 3, 5, 6] [AV.own (0 : Nat) (0 : Nat) (0 : Nat) (0 : Nat), AV.int IntKind.i64 (1 : Int), AV.bool neg, AV.int IntKind.i64 n]), [{ ver := (0 : Nat), sz := (3 : Nat), ty := (23 : Nat), xs := [AV.agg [AV.int IntKind.i64 (0 : Int), AV.int IntKind.i64 (0 : Int), AV.str []]], frz := false }]⟩)) (br (decide ((↑(d.getD i.toNat (0 : UInt8)).toNat : Int) > (57 : Int))) (some (Go.Exit.ret, ⟨mkTs 61 (List.zip [2, 3, 5, 6] [AV.own (0 : Nat) (0 : Nat) (0 : Nat) (0 : Nat), AV.int IntKind.i64 (1 : Int), AV.bool neg, AV.int IntKind.i64 n]), [{ ver := (0 : Nat), sz := (3 : Nat), ty := (23 : Nat), xs := [AV.agg [AV.int IntKind.i64 (0 : Int), AV.int IntKind.i64 (0 : Int), AV.str []]], frz := false }]⟩)) (some (Go.Exit.normal, ⟨mkTs 61 (List.zip [2, 3, 4, 5, 6, 31, 32] [AV.own (0 : Nat) (0 : Nat) (0 : Nat) (0 : Nat), AV.int IntKind.i64 (0 : Int), AV.str d, AV.bool neg, AV.int IntKind.i64 (if (1125899906842625 : Int) < IntKind.i64.wrap (IntKind.i64.wrap ((10 : Int) * n) + IntKind.i64.wrap (IntKind.u8.wrap ((↑(d.getD i.toNat (0 : UInt8)).toNat : Int) - (48 : Int)))) then (1125899906842625 : Int) else IntKind.i64.wrap (IntKind.i64.wrap ((10 : Int) * n) + IntKind.i64.wrap (IntKind.u8.wrap ((↑(d.getD i.toNat (0 : UInt8)).toNat : Int) - (48 : Int))))), AV.int IntKind.i64 len, AV.int IntKind.i64 (IntKind.i64.wrap (i + (1 : Int)))]), [{ ver := (0 : Nat), sz := (3 : Nat), ty := (23 : Nat), xs := [AV.agg [AV.int IntKind.i64 (0 : Int), AV.int IntKind.i64 (0 : Int), AV.str []]], frz := false }]⟩)))) (none)) (some (Go.Exit.exit (0 : Nat), ⟨mkTs 61 (List.zip [2, 3, 5, 6] [AV.own (0 : Nat) (0 : Nat) (0 : Nat) (0 : Nat), AV.int IntKind.i64 (0 : Int), AV.bool neg, AV.int IntKind.i64 n]), [{ ver := (0 : Nat), sz := (3 : Nat), ty := (23 : Nat), xs := [AV.agg [AV.int IntKind.i64 (0 : Int), AV.int IntKind.i64 (0 : Int), AV.str []]], frz := false }]⟩)) := by kernel_rfl
theorem ref07_unquote_r (out : List UInt8) (d : List UInt8) (i : Int) : XR Tryd.prog E13 [2, 3, 4, 5, 6] [2, 3, 4] 0 (loopAt Tryd.f48 0) ⟨mkTs 62 (List.zip [2, 3, 4, 5, 6] [AV.str [], AV.bool false, AV.str out, AV.str d, AV.int IntKind.i64 i]), []⟩ = br (decide (i < (↑d.length : Int))) (br (decide ((0 : Int) ≤ i) && decide (i < (↑d.length : Int))) (br ((↑(d.getD i.toNat (0 : UInt8)).toNat : Int) == (39 : Int)) (br (IntKind.i64.wrap (i + (1 : Int)) == (↑d.length : Int)) (some (Go.Exit.ret, ⟨mkTs 62 (List.zip [2, 3, 4] [AV.str [], AV.bool false, AV.str out]), []⟩)) (br (decide ((0 : Int) ≤ IntKind.i64.wrap (i + (1 : Int))) && decide (IntKind.i64.wrap (i + (1 : Int)) < (↑d.length : Int))) (br ((↑(d.getD (IntKind.i64.wrap (i + (1 : Int))).toNat (0 : UInt8)).toNat : Int) != (39 : Int)) (some (Go.Exit.ret, ⟨mkTs 62 (List.zip [2, 3, 4] [AV.str [], AV.bool false, AV.str out]), []⟩)) (br (decide ((0 : Int) ≤ IntKind.i64.wrap (IntKind.i64.wrap (i + (1 : Int)) + (1 : Int))) && decide (IntKind.i64.wrap (IntKind.i64.wrap (i + (1 : Int)) + (1 : Int)) ≤ (↑d.length : Int)) && (decide ((0 : Int) ≤ IntKind.i64.wrap (i + (1 : Int))) && decide (IntKind.i64.wrap (i + (1 : Int)) ≤ (↑(IntKind.i64.wrap (IntKind.i64.wrap (i + (1 : Int)) + (1 : Int))).toNat : Int)))) (br (decide (out.length + (List.take ((IntKind.i64.wrap (IntKind.i64.wrap (i + (1 : Int)) + (1 : Int))).toNat - (IntKind.i64.wrap (i + (1 : Int))).toNat) (List.drop (IntKind.i64.wrap (i + (1 : Int))).toNat d)).length ≤ (4611686018427387904 : Nat))) (some (Go.Exit.normal, ⟨mkTs 62 (List.zip [2, 3, 4, 5, 6] [AV.str [], AV.bool false, AV.str (out ++ List.take ((IntKind.i64.wrap (IntKind.i64.wrap (i + (1 : Int)) + (1 : Int))).toNat - (IntKind.i64.wrap (i + (1 : Int))).toNat) (List.drop (IntKind.i64.wrap (i + (1 : Int))).toNat d)), AV.str d, AV.int IntKind.i64 (IntKind.i64.wrap (IntKind.i64.wrap (i + (1 : Int)) + (1 : Int)))]), []⟩)) (none)) (none))) (none))) (br (decide ((0 : Int) ≤ IntKind.i64.wrap (i + (1 : Int))) && decide (IntKind.i64.wrap (i + (1 : Int)) ≤ (↑d.length : Int)) && (decide ((0 : Int) ≤ i) && decide (i ≤ (↑(IntKind.i64.wrap (i + (1 : Int))).toNat : Int)))) (br (decide (out.length + (List.take ((IntKind.i64.wrap (i + (1 : Int))).toNat - i.toNat) (List.drop i.toNat d)).length ≤ (4611686018427387904 : Nat))) (some (Go.Exit.normal, ⟨mkTs 62 (List.zip [2, 3, 4, 5, 6] [AV.str [], AV.bool false, AV.str (out ++ List.take ((IntKind.i64.wrap (i + (1 : Int))).toNat - i.toNat) (List.drop i.toNat d)), AV.str d, AV.int IntKind.i64 (IntKind.i64.wrap (i + (1 : Int)))]), []⟩)) (none)) (none))) (none)) (some (Go.Exit.exit (0 : Nat), ⟨mkTs 62 (List.zip [2, 3, 4] [AV.str [], AV.bool false, AV.str out]), []⟩)) := by kernel_rfl

/-! ### Quote -/
def qb (c : UInt8) : List UInt8 := if c = 39 then [39, 39] else [c]

theorem byte39 (c : UInt8) : ((c.toNat : Int) == 39) = decide (c = 39) := by
  by_cases h : c = 39
  · subst h; rfl
  · have : ¬ ((c.toNat : Int) = 39) := fun e => by
      apply h
      apply UInt8.toNat_inj.1
      have : c.toNat = 39 := by omega
      rw [this]; rfl
    simp [h, this]

def quote_res (s : List UInt8) (a : Nat × List UInt8) : LR := .leaf (.exit 0) [.str (a.2 ++ (s.drop a.1).flatMap qb)] []

theorem ref07_Quote_loop (s : List UInt8) (hs : s.length ≤ 1152921504606846976) (a : Nat × List UInt8) (ha : a.1 ≤ s.length ∧ a.2.length ≤ 2 * a.1 + 1) : Does Tryd.prog ITryd (.loop (loopAt Tryd.f53 0))
    (fun e st => e = (quote_res s a).eval.1 ∧ st = ⟨mkTs 26 (List.zip [3] (quote_res s a).eval.2.1), (quote_res s a).eval.2.2⟩) ⟨mkTs 26 (List.zip [0, 2, 3, 4] [.str s, .str [], .str a.2, .int .i64 a.1]), []⟩ :=
  loop_of_XR mxTryd (inv0Ok _) E13_ok (loOk_nil (by kernel_rfl)) (k := 0) (L := fun a : Nat × List UInt8 => [.str s, .str [], .str a.2, .int .i64 a.1]) (H := fun _ => []) (res := quote_res s) (ok := fun a => a.1 ≤ s.length ∧ a.2.length ≤ 2 * a.1 + 1) (fun a => s.length - a.1) (fun a ha => by
    obtain ⟨i, out⟩ := a
    simp only at ha
    rw [ref07_Quote_r]
    by_cases h : i < s.length
    · have hd := drop_cons h
      have hsm : s.length ≤ strMax := by unfold strMax; omega
      rw [in_true h, lt_true h, wrap_succ h hsm, Int.toNat_natCast, Int.toNat_natCast, Nat.add_sub_cancel_left, take_one h, byte39]
      simp only [br_tt]
      by_cases c : s.getD i 0 = 39
      · refine .inl ⟨(i + 1, out ++ [39] ++ [s.getD i 0]), ⟨h, by simp; omega⟩, by simp; omega, ?_, ?_⟩
        · simp only [quote_res, LR.eval, hd, List.flatMap_cons, qb]; rw [if_pos c, c]; simp
        · refine (br_pos (by simpa using c)).trans ?_
          refine (br_pos (by simp; omega)).trans ?_
          refine (br_pos (by simp; omega)).trans ?_
          refine (br_pos (by simp; omega)).trans ?_
          rfl
      · refine .inl ⟨(i + 1, out ++ [s.getD i 0]), ⟨h, by simp; omega⟩, by simp; omega, ?_, ?_⟩
        · simp only [quote_res, LR.eval, hd, List.flatMap_cons, qb]; rw [if_neg c]; simp
        · refine (br_neg (by simpa using c)).trans ?_
          refine (br_pos (by simp; omega)).trans ?_
          refine (br_pos (by simp; omega)).trans ?_
          rfl
    · rw [lt_false h]
      have e : (quote_res s (i, out)).eval = (.exit 0, [.str out], []) := by simp only [quote_res, LR.eval, List.drop_eq_nil_of_le (Nat.le_of_not_lt h)]; simp
      exact .inr ⟨by rw [e]; simp, by rw [e]; rfl⟩) a ha

def ref07_Quote_lo : List AV → List Box → Option (Bool × LR)
  | [.str s, .str r, .str out, .int .i64 i], [] => some (r.isEmpty && (i == 0 && (decide (s.length ≤ 1152921504606846976) && decide (out.length ≤ 1))), quote_res s (0, out))
  | _, _ => none
theorem ref07_Quote_lok : LoopOk Tryd.prog ITryd 26 [0, 2, 3, 4] [3] (loopAt Tryd.f53 0) ref07_Quote_lo := fun vals H r h => by
  unfold ref07_Quote_lo at h; split at h
  · rename_i s r out i
    simp only [Option.some.injEq, Prod.mk.injEq, Bool.and_eq_true, beq_iff_eq, decide_eq_true_eq, List.isEmpty_iff] at h
    obtain ⟨⟨rfl, rfl, hs, ho⟩, rfl⟩ := h
    exact ref07_Quote_loop s hs (0, out) ⟨Nat.zero_le _, by simpa using ho⟩
  · simp at h
def Eq1 : Env := E13.loop 26 [0, 2, 3, 4] [3] ref07_Quote_lo
theorem Eq1_ok : OrcOk Tryd.prog ITryd Eq1 := E13_ok.loop
theorem Eq1_lk : LoOk Tryd.prog ITryd Eq1 (Tryd.f53.body.getD .skip) := loOk_one (l := loopAt Tryd.f53 0) (by kernel_rfl) ref07_Quote_lok

/-! ### Numbers read -/
def isD (c : UInt8) : Bool := !(decide ((c.toNat : Int) < 48) || decide ((c.toNat : Int) > 57))
def stepD (n : Int) (c : UInt8) : Int := if n * 10 + ((c.toNat : Int) - 48) > 1125899906842624 then 1125899906842625 else n * 10 + ((c.toNat : Int) - 48)

theorem stepD_range {n : Int} {c : UInt8} (h : 0 ≤ n ∧ n ≤ 1125899906842625) (hc1 : decide ((c.toNat : Int) < 48) = false) : 0 ≤ stepD n c ∧ stepD n c ≤ 1125899906842625 := by
  have : ¬ (c.toNat : Int) < 48 := of_decide_eq_false hc1
  unfold stepD; split <;> omega

def number_res (s : List UInt8) (a : Nat × Int) : LR :=
  .node ((s.drop a.1).all isD) (.leaf (.exit 0) [.int .i64 0, .bool false, .int .i64 (((s.drop a.1).takeWhile isD).foldl stepD a.2)] []) (.leaf .ret [.int .i64 0, .bool false, .int .i64 (((s.drop a.1).takeWhile isD).foldl stepD a.2)] [])

theorem ref07_number_loop (s : List UInt8) (hs : s.length ≤ strMax) (a : Nat × Int) (ha : a.1 ≤ s.length ∧ 0 ≤ a.2 ∧ a.2 ≤ 1125899906842625) : Does Tryd.prog ITryd (.loop (loopAt Tryd.f49 0))
    (fun e st => e = (number_res s a).eval.1 ∧ st = ⟨mkTs 45 (List.zip [2, 3, 4] (number_res s a).eval.2.1), (number_res s a).eval.2.2⟩) ⟨mkTs 45 (List.zip [0, 2, 3, 4, 5] [.str s, .int .i64 0, .bool false, .int .i64 a.2, .int .i64 a.1]), []⟩ :=
  loop_of_XR mxTryd (inv0Ok _) E13_ok (loOk_nil (by kernel_rfl)) (k := 0) (L := fun a : Nat × Int => [.str s, .int .i64 0, .bool false, .int .i64 a.2, .int .i64 a.1]) (H := fun _ => []) (res := number_res s) (ok := fun a => a.1 ≤ s.length ∧ 0 ≤ a.2 ∧ a.2 ≤ 1125899906842625) (fun a => s.length - a.1) (fun a ha => by
    obtain ⟨i, n⟩ := a
    simp only at ha
    rw [ref07_number_r]
    by_cases h : i < s.length
    · have hd := drop_cons h
      rw [in_true h, lt_true h, wrap_succ h hs, Int.toNat_natCast]
      simp only [br_tt]
      cases c1 : decide (((s.getD i 0).toNat : Int) < 48) with
      | true =>
        have e : (number_res s (i, n)).eval = (.ret, [.int .i64 0, .bool false, .int .i64 n], []) := by simp only [number_res, LR.eval, hd, List.all_cons, List.takeWhile_cons, isD, c1]; simp
        exact .inr ⟨by rw [e]; simp, by rw [e]; rfl⟩
      | false =>
        cases c2 : decide (((s.getD i 0).toNat : Int) > 57) with
        | true =>
          have e : (number_res s (i, n)).eval = (.ret, [.int .i64 0, .bool false, .int .i64 n], []) := by simp only [number_res, LR.eval, hd, List.all_cons, List.takeWhile_cons, isD, c1, c2]; simp
          exact .inr ⟨by rw [e]; simp, by rw [e]; rfl⟩
        | false =>
          have f1 : ¬ ((s.getD i 0).toNat : Int) < 48 := of_decide_eq_false c1
          have f2 : ¬ ((s.getD i 0).toNat : Int) > 57 := of_decide_eq_false c2
          have hr := stepD_range (c := s.getD i 0) ha.2 c1
          refine .inl ⟨(i + 1, stepD n (s.getD i 0)), ⟨h, hr⟩, by simp; omega, ?_, ?_⟩
          · simp only [number_res, LR.eval, hd, List.all_cons, List.takeWhile_cons, isD, c1, c2]; simp
          · rw [wrap_u8 (by omega) (by omega), wrap_i64 (n := n * 10) (by omega) (by omega), wrap_i64 (n := ((s.getD i 0).toNat : Int) - 48) (by omega) (by omega), wrap_i64 (n := n * 10 + (((s.getD i 0).toNat : Int) - 48)) (by omega) (by omega)]
            by_cases g : n * 10 + (((s.getD i 0).toNat : Int) - 48) > 1125899906842624
            · refine (br_pos (decide_eq_true g)).trans ?_
              have e : stepD n (s.getD i 0) = 1125899906842625 := if_pos g
              simp only [e]
            · refine (br_neg (decide_eq_false g)).trans ?_
              have e : stepD n (s.getD i 0) = n * 10 + (((s.getD i 0).toNat : Int) - 48) := if_neg g
              simp only [e]
    · rw [lt_false h]
      have e : (number_res s (i, n)).eval = (.exit 0, [.int .i64 0, .bool false, .int .i64 n], []) := by simp only [number_res, LR.eval, List.drop_eq_nil_of_le (Nat.le_of_not_lt h)]; simp
      exact .inr ⟨by rw [e]; simp, by rw [e]; rfl⟩) a ha

def ref07_number_lo : List AV → List Box → Option (Bool × LR)
  | [.str s, .int .i64 r, .bool b, .int .i64 n, .int .i64 i], [] => some ((r == 0) && (!b && (n == 0 && (i == 0 && decide (s.length ≤ strMax)))), number_res s (0, 0))
  | _, _ => none
theorem ref07_number_lok : LoopOk Tryd.prog ITryd 45 [0, 2, 3, 4, 5] [2, 3, 4] (loopAt Tryd.f49 0) ref07_number_lo := fun vals H r h => by
  unfold ref07_number_lo at h; split at h
  · simp only [Option.some.injEq, Prod.mk.injEq, Bool.and_eq_true, beq_iff_eq, decide_eq_true_eq, Bool.not_eq_true'] at h
    obtain ⟨⟨rfl, rfl, rfl, rfl, hs⟩, rfl⟩ := h
    exact ref07_number_loop _ hs (0, 0) ⟨Nat.zero_le _, by decide, by decide⟩
  · simp at h
def Eq2 : Env := E13.loop 45 [0, 2, 3, 4, 5] [2, 3, 4] ref07_number_lo
theorem Eq2_ok : OrcOk Tryd.prog ITryd Eq2 := E13_ok.loop
theorem Eq2_lk : LoOk Tryd.prog ITryd Eq2 (Tryd.f49.body.getD .skip) := loOk_one (l := loopAt Tryd.f49 0) (by kernel_rfl) ref07_number_lok
end Go.Sim.M
