/- Reading of values, third part: numbers; both readers agree. -/
import Derived.Test.YtkoepgogaojgmaaDoorPlainF
set_option linter.unusedVariables false
set_option linter.unusedSimpArgs false
set_option maxRecDepth 100000
namespace Go.Sim.M
open Go.RowKit Go.Lib

def foldV (d : List UInt8) : Int := d.foldl stepD 0

theorem fold_range : ∀ (d : List UInt8) (n : Int), d.all isD = true → 0 ≤ n ∧ n ≤ 1125899906842625 → 0 ≤ d.foldl stepD n ∧ d.foldl stepD n ≤ 1125899906842625
  | [], n, _, h => h
  | c :: d, n, ha, h => by
    simp only [List.all_cons, Bool.and_eq_true] at ha
    have hc : decide ((c.toNat : Int) < 48) = false := by
      have := ha.1; unfold isD at this
      cases hh : decide ((c.toNat : Int) < 48) with
      | false => rfl
      | true => rw [hh] at this; simp at this
    exact fold_range d _ ha.2 (stepD_range h hc)

theorem isD_range {c : UInt8} (h : isD c = true) : 48 ≤ c.toNat ∧ c.toNat ≤ 57 := by
  unfold isD at h
  simp only [Bool.not_eq_true', Bool.or_eq_false_iff, decide_eq_false_iff_not] at h
  omega

theorem fold_pos : ∀ (d : List UInt8) (n : Int), d.all isD = true → 1 ≤ n → 1 ≤ d.foldl stepD n
  | [], n, _, h => h
  | c :: d, n, ha, h => by
    simp only [List.all_cons, Bool.and_eq_true] at ha
    have hc := isD_range ha.1
    refine fold_pos d _ ha.2 ?_
    unfold stepD; split <;> omega

theorem fold_lead {c : UInt8} {d : List UInt8} (ha : (c :: d).all isD = true) (h : c ≠ 48) : 1 ≤ foldV (c :: d) := by
  unfold foldV
  simp only [List.all_cons, Bool.and_eq_true] at ha
  have hc := isD_range ha.1
  have : c.toNat ≠ 48 := fun e => h (UInt8.toNat_inj.1 (by rw [e]; rfl))
  refine fold_pos d _ ha.2 ?_
  unfold stepD; split <;> omega

theorem takeWhile_all : ∀ d : List UInt8, d.all isD = true → d.takeWhile isD = d
  | [], _ => rfl
  | c :: d, h => by
    simp only [List.all_cons, Bool.and_eq_true] at h
    rw [List.takeWhile_cons, if_pos h.1, takeWhile_all d h.2]

/-- What the digits 'd', behind a sign or not, read as. -/
def numV (d : List UInt8) (neg : Bool) : Int × Int × List UInt8 × Int :=
  br (d == []) (errV 1) (br (decide (d.getD 0 0 = 48) && (neg || decide (1 < d.length))) (errV 1) (br (d.all isD) (br (decide (foldV d > 1125899906842624)) (errV 6) (1, br neg (-(foldV d)) (foldV d), [], 0)) (errV 1)))

theorem byte48 (c : UInt8) : ((c.toNat : Int) == 48) = decide (c = 48) := by
  by_cases h : c = 48
  · subst h; rfl
  · have : ¬ ((c.toNat : Int) = 48) := fun e => by
      apply h
      apply UInt8.toNat_inj.1
      have : c.toNat = 48 := by omega
      rw [this]; rfl
    simp [h, this]

theorem byte45 (c : UInt8) : ((c.toNat : Int) == 45) = decide (c = 45) := by
  by_cases h : c = 45
  · subst h; rfl
  · have : ¬ ((c.toNat : Int) = 45) := fun e => by
      apply h
      apply UInt8.toNat_inj.1
      have : c.toNat = 45 := by omega
      rw [this]; rfl
    simp [h, this]

theorem parseInt_of {s d : List UInt8} {neg : Bool} (hp : strings_CutPrefix_pre s [45] = true) (hv : strings_CutPrefix s [45] = (d, neg)) (h : d.length ≤ big) : value_parseInt_pre s = true ∧ value_parseInt s = numV d neg := by
  unfold big at h
  have e0 : (((d.length : Int) == (d.length : Int)) && decide (d.length ≤ 4611686018427387904)) = true := by simp; omega
  unfold value_parseInt_pre value_parseInt
  rw [hp, hv]
  simp only [br_tt, List.drop_zero]
  rw [e0, byte48]
  simp only [br_tt]
  unfold numV
  cases hd : d == [] with
  | true => exact ⟨rfl, rfl⟩
  | false =>
    have hne : d ≠ [] := by simpa using hd
    have hpos := List.length_pos_iff.2 hne
    have e1 : decide ((0 : Int) < (d.length : Int)) = true := decide_eq_true (by omega)
    have e2 : decide ((d.length : Int) > 1) = decide (1 < d.length) := by
      by_cases g : 1 < d.length
      · rw [decide_eq_true g]; exact decide_eq_true (by omega)
      · rw [decide_eq_false g]; exact decide_eq_false (by omega)
    rw [e1, e2]
    simp only [br_tt, br_ff]
    cases ha : d.all isD with
    | false => cases decide (d.getD 0 0 = 48) <;> cases neg <;> cases decide (1 < d.length) <;> exact ⟨rfl, rfl⟩
    | true =>
      have hr := fold_range d 0 ha ⟨by decide, by decide⟩
      rw [takeWhile_all d ha]
      have ew : IntKind.i64.wrap (0 - d.foldl stepD 0) = -(d.foldl stepD 0) := by rw [wrap_i64 (by omega) (by omega)]; omega
      rw [ew]
      unfold foldV
      cases decide (d.getD 0 0 = 48) <;> cases neg <;> cases decide (1 < d.length) <;> cases decide (d.foldl stepD 0 > 1125899906842624) <;> exact ⟨rfl, rfl⟩

def numR (d : List UInt8) : Int × Bool := br (d == []) (0, false) (br (decide (d.getD 0 0 = 48) && decide (1 < d.length)) (0, false) (br (d.all isD) (foldV d, true) (0, false)))

theorem number_of (d : List UInt8) (h : d.length ≤ big) : ref07_number_pre d = true ∧ ref07_number d = numR d := by
  unfold big at h
  have e0 : decide (d.length ≤ 4611686018427387904) = true := decide_eq_true (by omega)
  unfold ref07_number_pre ref07_number numR
  rw [e0, byte48]
  simp only [br_tt, List.drop_zero]
  cases hd : d == [] with
  | true => exact ⟨rfl, rfl⟩
  | false =>
    have hne : d ≠ [] := by simpa using hd
    have hpos := List.length_pos_iff.2 hne
    have e1 : decide ((0 : Int) < (d.length : Int)) = true := decide_eq_true (by omega)
    have e2 : decide ((d.length : Int) > 1) = decide (1 < d.length) := by
      by_cases g : 1 < d.length
      · rw [decide_eq_true g]; exact decide_eq_true (by omega)
      · rw [decide_eq_false g]; exact decide_eq_false (by omega)
    rw [e1, e2]
    simp only [br_tt, br_ff]
    cases ha : d.all isD with
    | false => cases decide (d.getD 0 0 = 48) <;> cases decide (1 < d.length) <;> exact ⟨rfl, rfl⟩
    | true =>
      rw [takeWhile_all d ha]
      unfold foldV
      cases decide (d.getD 0 0 = 48) <;> cases decide (1 < d.length) <;> exact ⟨rfl, rfl⟩

theorem int_in {n : Int} (h1 : -1125899906842624 ≤ n) (h2 : n ≤ 1125899906842624) : ref07_Int n = (1, n, []) := by
  unfold ref07_Int ref07_valid ref07_Valid
  rw [rorNull_pre, rvalid_pre, decide_eq_true h1, decide_eq_true h2]; rfl

theorem text_in {t : List UInt8} (h : t.length ≤ 200) (ha : t.all okb = true) : ref07_Text t = (2, 0, t) := by
  have e : decide ((t.length : Int) ≤ 200) = true := decide_eq_true (by omega)
  unfold ref07_Text ref07_valid ref07_Valid
  rw [rorNull_pre, rvalid_pre, e, rp_pre (le200 e), rp_eq (le200 e), ha]; rfl
end Go.Sim.M
