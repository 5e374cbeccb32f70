/- Loops over the letters of a text: the program's own number reader, quoted texts, decimal numerals. -/
import Derived.Test.YtkoepgogaojgmaaDoorLoopQ
import Derived.Test.YtkoepgogaojgmaaDoorL15
set_option linter.unusedVariables false
set_option linter.unusedSimpArgs false
set_option maxRecDepth 100000
namespace Go.Sim.M
open Go.RowKit Go.Proofs

/-! ### parseInt -/
def box0 : Box := ⟨0, 3, 23, [.agg [.int .i64 0, .int .i64 0, .str []]], false⟩

def parse_res (d : List UInt8) (neg : Bool) (a : Nat × Int) : LR :=
  .node ((d.drop a.1).all isD) (.leaf (.exit 0) [.own 0 0 0 0, .int .i64 0, .bool neg, .int .i64 (((d.drop a.1).takeWhile isD).foldl stepD a.2)] [box0])
    (.leaf .ret [.own 0 0 0 0, .int .i64 1, .bool neg, .int .i64 (((d.drop a.1).takeWhile isD).foldl stepD a.2)] [box0])

theorem value_parseInt_loop (d : List UInt8) (neg : Bool) (hs : d.length ≤ strMax) (a : Nat × Int) (ha : a.1 ≤ d.length ∧ 0 ≤ a.2 ∧ a.2 ≤ 1125899906842625) : Does Tryd.prog ITryd (.loop (loopAt Tryd.f47 0))
    (fun e st => e = (parse_res d neg a).eval.1 ∧ st = ⟨mkTs 61 (List.zip [2, 3, 5, 6] (parse_res d neg a).eval.2.1), (parse_res d neg a).eval.2.2⟩) ⟨mkTs 61 (List.zip [2, 3, 4, 5, 6, 31, 32] [.own 0 0 0 0, .int .i64 0, .str d, .bool neg, .int .i64 a.2, .int .i64 d.length, .int .i64 a.1]), [box0]⟩ :=
  loop_of_XR mxTryd (inv0Ok _) E13_ok (loOk_nil (by kernel_rfl)) (k := 1) (L := fun a : Nat × Int => [.own 0 0 0 0, .int .i64 0, .str d, .bool neg, .int .i64 a.2, .int .i64 d.length, .int .i64 a.1]) (H := fun _ => [box0]) (res := parse_res d neg) (ok := fun a => a.1 ≤ d.length ∧ 0 ≤ a.2 ∧ a.2 ≤ 1125899906842625) (fun a => d.length - a.1) (fun a ha => by
    obtain ⟨i, n⟩ := a
    simp only at ha
    unfold box0
    rw [value_parseInt_r]
    by_cases h : i < d.length
    · have hd := drop_cons h
      rw [in_true h, lt_true h, wrap_succ h hs, Int.toNat_natCast]
      simp only [br_tt]
      cases c1 : decide (((d.getD i 0).toNat : Int) < 48) with
      | true =>
        have e : (parse_res d neg (i, n)).eval = (.ret, [.own 0 0 0 0, .int .i64 1, .bool neg, .int .i64 n], [box0]) := by simp only [parse_res, LR.eval, hd, List.all_cons, List.takeWhile_cons, isD, c1]; simp
        exact .inr ⟨by rw [e]; simp, by rw [e]; rfl⟩
      | false =>
        cases c2 : decide (((d.getD i 0).toNat : Int) > 57) with
        | true =>
          have e : (parse_res d neg (i, n)).eval = (.ret, [.own 0 0 0 0, .int .i64 1, .bool neg, .int .i64 n], [box0]) := by simp only [parse_res, LR.eval, hd, List.all_cons, List.takeWhile_cons, isD, c1, c2]; simp
          exact .inr ⟨by rw [e]; simp, by rw [e]; rfl⟩
        | false =>
          have f1 : ¬ ((d.getD i 0).toNat : Int) < 48 := of_decide_eq_false c1
          have f2 : ¬ ((d.getD i 0).toNat : Int) > 57 := of_decide_eq_false c2
          have hr := stepD_range (c := d.getD i 0) ha.2 c1
          refine .inl ⟨(i + 1, stepD n (d.getD i 0)), ⟨h, hr⟩, by simp; omega, ?_, ?_⟩
          · simp only [parse_res, LR.eval, hd, List.all_cons, List.takeWhile_cons, isD, c1, c2]; simp
          · rw [wrap_u8 (by omega) (by omega), wrap_i64 (n := 10 * n) (by omega) (by omega), wrap_i64 (n := ((d.getD i 0).toNat : Int) - 48) (by omega) (by omega), wrap_i64 (n := 10 * n + (((d.getD i 0).toNat : Int) - 48)) (by omega) (by omega)]
            have e : (if (1125899906842625 : Int) < 10 * n + (((d.getD i 0).toNat : Int) - 48) then (1125899906842625 : Int) else 10 * n + (((d.getD i 0).toNat : Int) - 48)) = stepD n (d.getD i 0) := by
              unfold stepD
              split <;> split <;> omega
            simp only [br_ff, e]
    · rw [lt_false h]
      have e : (parse_res d neg (i, n)).eval = (.exit 0, [.own 0 0 0 0, .int .i64 0, .bool neg, .int .i64 n], [box0]) := by simp only [parse_res, LR.eval, List.drop_eq_nil_of_le (Nat.le_of_not_lt h)]; simp
      exact .inr ⟨by rw [e]; simp, by rw [e]; rfl⟩) a ha

def value_parseInt_lo : List AV → List Box → Option (Bool × LR)
  | [.own 0 0 0 0, .int .i64 e, .str d, .bool neg, .int .i64 n, .int .i64 len, .int .i64 i], [⟨0, 3, 23, [.agg [.int .i64 a, .int .i64 b, .str t]], false⟩] =>
    some ((e == 0) && ((n == 0) && ((len == (d.length : Int)) && ((i == 0) && ((a == 0) && ((b == 0) && (t.isEmpty && decide (d.length ≤ strMax))))))), parse_res d neg (0, 0))
  | _, _ => none
theorem value_parseInt_lok : LoopOk Tryd.prog ITryd 61 [2, 3, 4, 5, 6, 31, 32] [2, 3, 5, 6] (loopAt Tryd.f47 0) value_parseInt_lo := fun vals H r h => by
  unfold value_parseInt_lo at h; split at h
  · simp only [Option.some.injEq, Prod.mk.injEq, Bool.and_eq_true, beq_iff_eq, decide_eq_true_eq, List.isEmpty_iff] at h
    obtain ⟨⟨rfl, rfl, rfl, rfl, rfl, rfl, rfl, hs⟩, rfl⟩ := h
    exact value_parseInt_loop _ _ hs (0, 0) ⟨Nat.zero_le _, by decide, by decide⟩
  · simp at h
def Eq3 : Env := E15.loop 61 [2, 3, 4, 5, 6, 31, 32] [2, 3, 5, 6] value_parseInt_lo
theorem Eq3_ok : OrcOk Tryd.prog ITryd Eq3 := E15_ok.loop
theorem Eq3_lk : LoOk Tryd.prog ITryd Eq3 (Tryd.f47.body.getD .skip) := loOk_one (l := loopAt Tryd.f47 0) (by kernel_rfl) value_parseInt_lok

/-! ### Quoted texts read -/
def unqOk : List UInt8 → Bool
  | [] => true
  | [c] => !(decide (c = 39))
  | c :: c2 :: r => if c = 39 then (if c2 = 39 then unqOk r else false) else unqOk (c2 :: r)
def unq : List UInt8 → List UInt8
  | [] => []
  | [c] => if c = 39 then [] else [c]
  | c :: c2 :: r => if c = 39 then (if c2 = 39 then 39 :: unq r else []) else c :: unq (c2 :: r)

theorem unqOk_other {c : UInt8} {r : List UInt8} (h : c ≠ 39) : unqOk (c :: r) = unqOk r := by
  cases r <;> simp [unqOk, h]
theorem unq_other {c : UInt8} {r : List UInt8} (h : c ≠ 39) : unq (c :: r) = c :: unq r := by
  cases r <;> simp [unq, h]

def unquote_res (d : List UInt8) (a : Nat × List UInt8) : LR :=
  .node (unqOk (d.drop a.1)) (.leaf (.exit 0) [.str [], .bool false, .str (a.2 ++ unq (d.drop a.1))] []) (.leaf .ret [.str [], .bool false, .str (a.2 ++ unq (d.drop a.1))] [])

theorem ref07_unquote_loop (d : List UInt8) (hs : d.length ≤ 1152921504606846976) (a : Nat × List UInt8) (ha : a.1 ≤ d.length ∧ a.2.length ≤ a.1) : Does Tryd.prog ITryd (.loop (loopAt Tryd.f48 0))
    (fun e st => e = (unquote_res d a).eval.1 ∧ st = ⟨mkTs 62 (List.zip [2, 3, 4] (unquote_res d a).eval.2.1), (unquote_res d a).eval.2.2⟩) ⟨mkTs 62 (List.zip [2, 3, 4, 5, 6] [.str [], .bool false, .str a.2, .str d, .int .i64 a.1]), []⟩ :=
  loop_of_XR mxTryd (inv0Ok _) E13_ok (loOk_nil (by kernel_rfl)) (k := 0) (L := fun a : Nat × List UInt8 => [.str [], .bool false, .str a.2, .str d, .int .i64 a.1]) (H := fun _ => []) (res := unquote_res d) (ok := fun a => a.1 ≤ d.length ∧ a.2.length ≤ a.1) (fun a => d.length - a.1) (fun a ha => by
    obtain ⟨i, out⟩ := a
    simp only at ha
    rw [ref07_unquote_r]
    by_cases h : i < d.length
    · have hd := drop_cons h
      have hsm : d.length ≤ strMax := by unfold strMax; omega
      rw [in_true h, lt_true h, wrap_succ h hsm, Int.toNat_natCast, Int.toNat_natCast, byte39]
      simp only [br_tt]
      by_cases c : d.getD i 0 = 39
      · rw [decide_eq_true c]
        simp only [br_tt]
        by_cases h2 : i + 1 < d.length
        · have hd2 := drop_cons h2
          have e1 : (((i + 1 : Nat) : Int) == (d.length : Int)) = false := by simp; omega
          rw [e1, in_true h2, wrap_succ h2 hsm, Int.toNat_natCast]
          simp only [br_tt, br_ff]
          have bn : ((((d.getD (i + 1) 0).toNat : Int)) != 39) = !(decide (d.getD (i + 1) 0 = 39)) := by rw [← byte39]; rfl
          rw [bn]
          by_cases c2 : d.getD (i + 1) 0 = 39
          · rw [decide_eq_true c2, Nat.add_sub_cancel_left, take_one h2]
            refine .inl ⟨(i + 1 + 1, out ++ [d.getD (i + 1) 0]), ⟨h2, by simp; omega⟩, by simp; omega, ?_, ?_⟩
            · simp only [unquote_res, LR.eval]; rw [hd, hd2, c, c2]; simp [unqOk, unq]
            · refine (br_neg rfl).trans ?_
              refine (br_pos (by simp; omega)).trans ?_
              refine (br_pos (by simp; omega)).trans ?_
              rfl
          · rw [decide_eq_false c2]
            have e : (unquote_res d (i, out)).eval = (.ret, [.str [], .bool false, .str out], []) := by
              have c3 : ¬ d[i + 1]?.getD 0 = 39 := by simpa [List.getD_eq_getElem?_getD] using c2
              simp only [unquote_res, LR.eval]; rw [hd, hd2, c]; simp [unqOk, unq, c3]
            exact .inr ⟨by rw [e]; simp, by rw [e]; rfl⟩
        · have e1 : (((i + 1 : Nat) : Int) == (d.length : Int)) = true := by simp; omega
          rw [e1]
          have e : (unquote_res d (i, out)).eval = (.ret, [.str [], .bool false, .str out], []) := by
            simp only [unquote_res, LR.eval]; rw [hd, List.drop_eq_nil_of_le (Nat.le_of_not_lt h2), c]; simp [unqOk, unq]
          exact .inr ⟨by rw [e]; simp, by rw [e]; rfl⟩
      · rw [decide_eq_false c, Nat.add_sub_cancel_left, take_one h]
        refine .inl ⟨(i + 1, out ++ [d.getD i 0]), ⟨h, by simp; omega⟩, by simp; omega, ?_, ?_⟩
        · simp only [unquote_res, LR.eval]; rw [hd, unqOk_other c, unq_other c]; simp
        · refine (br_neg rfl).trans ?_
          refine (br_pos (by simp; omega)).trans ?_
          refine (br_pos (by simp; omega)).trans ?_
          rfl
    · rw [lt_false h]
      have e : (unquote_res d (i, out)).eval = (.exit 0, [.str [], .bool false, .str out], []) := by simp only [unquote_res, LR.eval, List.drop_eq_nil_of_le (Nat.le_of_not_lt h)]; simp [unqOk, unq]
      exact .inr ⟨by rw [e]; simp, by rw [e]; rfl⟩) a ha

def ref07_unquote_lo : List AV → List Box → Option (Bool × LR)
  | [.str r, .bool b, .str out, .str d, .int .i64 i], [] => some (r.isEmpty && (!b && (out.isEmpty && ((i == 0) && decide (d.length ≤ 1152921504606846976)))), unquote_res d (0, []))
  | _, _ => none
theorem ref07_unquote_lok : LoopOk Tryd.prog ITryd 62 [2, 3, 4, 5, 6] [2, 3, 4] (loopAt Tryd.f48 0) ref07_unquote_lo := fun vals H r h => by
  unfold ref07_unquote_lo at h; split at h
  · simp only [Option.some.injEq, Prod.mk.injEq, Bool.and_eq_true, beq_iff_eq, decide_eq_true_eq, List.isEmpty_iff, Bool.not_eq_true'] at h
    obtain ⟨⟨rfl, rfl, rfl, rfl, hs⟩, rfl⟩ := h
    exact ref07_unquote_loop _ hs (0, []) ⟨Nat.zero_le _, Nat.le_refl _⟩
  · simp at h
def Eq4 : Env := E13.loop 62 [2, 3, 4, 5, 6] [2, 3, 4] ref07_unquote_lo
theorem Eq4_ok : OrcOk Tryd.prog ITryd Eq4 := E13_ok.loop
theorem Eq4_lk : LoOk Tryd.prog ITryd Eq4 (Tryd.f48.body.getD .skip) := loOk_one (l := loopAt Tryd.f48 0) (by kernel_rfl) ref07_unquote_lok

/-! ### Decimal numerals -/
def lead (n : Nat) : Nat := if h : n < 10 then n else lead (n / 10)
termination_by n
decreasing_by omega
def dtail (n : Nat) : List UInt8 := if h : n < 10 then [] else dtail (n / 10) ++ [UInt8.ofNat (48 + n % 10)]
termination_by n
decreasing_by omega

def digits10 : List UInt8 := [48, 49, 50, 51, 52, 53, 54, 55, 56, 57]
theorem digit_at : ∀ m : Nat, m < 10 → List.take 1 (List.drop m digits10) = [UInt8.ofNat (48 + m)] := by decide

def number01_res (a : Nat × List UInt8) : LR := .leaf (.exit 0) [.int .i64 (lead a.1), .str (dtail a.1 ++ a.2)] []

theorem ref01_Number_loop (a : Nat × List UInt8) (ha : a.1 + a.2.length ≤ 2305843009213693952) : Does Tryd.prog ITryd (.loop (loopAt Tryd.f68 0))
    (fun e st => e = (number01_res a).eval.1 ∧ st = ⟨mkTs 22 (List.zip [0, 3] (number01_res a).eval.2.1), (number01_res a).eval.2.2⟩) ⟨mkTs 22 (List.zip [0, 2, 3] [.int .i64 a.1, .str [], .str a.2]), []⟩ :=
  loop_of_XR mxTryd (inv0Ok _) E13_ok (loOk_nil (by kernel_rfl)) (k := 0) (L := fun a : Nat × List UInt8 => [.int .i64 a.1, .str [], .str a.2]) (H := fun _ => []) (res := number01_res) (ok := fun a => a.1 + a.2.length ≤ 2305843009213693952) (fun a => a.1) (fun a ha => by
    obtain ⟨n, s⟩ := a
    simp only at ha
    rw [ref01_Number_r]
    by_cases h : n < 10
    · have e1 : decide ((n : Int) > 9) = false := decide_eq_false (by omega)
      rw [e1]
      have e : (number01_res (n, s)).eval = (.exit 0, [.int .i64 n, .str s], []) := by
        simp only [number01_res, LR.eval]; rw [lead, dtail, dif_pos h, dif_pos h]; rfl
      exact .inr ⟨by rw [e]; simp, by rw [e]; rfl⟩
    · have e1 : decide ((n : Int) > 9) = true := decide_eq_true (by omega)
      have e2 : (n : Int).tmod 10 = ((n % 10 : Nat) : Int) := by rw [Int.tmod_eq_emod_of_nonneg (by omega)]; rfl
      have e3 : (n : Int).tdiv 10 = ((n / 10 : Nat) : Int) := by rw [Int.tdiv_eq_ediv_of_nonneg (by omega)]; rfl
      have e4 : IntKind.i64.wrap (((n % 10 : Nat) : Int) + 1) = ((n % 10 + 1 : Nat) : Int) := by rw [wrap_i64 (by omega) (by omega)]; rfl
      have e5 : IntKind.i64.wrap ((n / 10 : Nat) : Int) = ((n / 10 : Nat) : Int) := wrap_i64 (by omega) (by omega)
      have hm : n % 10 < 10 := Nat.mod_lt _ (by omega)
      have hdg := digit_at (n % 10) hm
      unfold digits10 at hdg
      rw [e1, e2, e3, e4, e5, Int.toNat_natCast, Int.toNat_natCast, Nat.add_sub_cancel_left, hdg]
      simp only [br_tt]
      refine .inl ⟨(n / 10, [UInt8.ofNat (48 + n % 10)] ++ s), by simp; omega, by simp; omega, ?_, ?_⟩
      · simp only [number01_res, LR.eval]
        rw [lead.eq_1 n, dtail.eq_1 n, dif_neg h, dif_neg h]; simp
      · refine (br_pos (by simp; omega)).trans ?_
        refine (br_pos (by simp; omega)).trans ?_
        rfl) a ha

def ref01_Number_lo : List AV → List Box → Option (Bool × LR)
  | [.int .i64 n, .str r, .str s], [] => some (r.isEmpty && (s.isEmpty && (decide (0 ≤ n) && decide (n ≤ 2305843009213693952))), number01_res (n.toNat, []))
  | _, _ => none
theorem ref01_Number_lok : LoopOk Tryd.prog ITryd 22 [0, 2, 3] [0, 3] (loopAt Tryd.f68 0) ref01_Number_lo := fun vals H r h => by
  unfold ref01_Number_lo at h; split at h
  · rename_i n r s
    simp only [Option.some.injEq, Prod.mk.injEq, Bool.and_eq_true, beq_iff_eq, decide_eq_true_eq, List.isEmpty_iff] at h
    obtain ⟨⟨rfl, rfl, h0, h1⟩, rfl⟩ := h
    have := ref01_Number_loop (n.toNat, []) (by simp; omega)
    have e : ((n.toNat : Nat) : Int) = n := Int.toNat_of_nonneg h0
    simp only [e] at this
    exact this
  · simp at h
def Eq5 : Env := E13.loop 22 [0, 2, 3] [0, 3] ref01_Number_lo
theorem Eq5_ok : OrcOk Tryd.prog ITryd Eq5 := E13_ok.loop
theorem Eq5_lk : LoOk Tryd.prog ITryd Eq5 (Tryd.f68.body.getD .skip) := loOk_one (l := loopAt Tryd.f68 0) (by kernel_rfl) ref01_Number_lok
end Go.Sim.M
