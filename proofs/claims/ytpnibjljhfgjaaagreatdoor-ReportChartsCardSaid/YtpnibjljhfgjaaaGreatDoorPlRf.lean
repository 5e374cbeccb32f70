/- What the reference makes of periods one by one: Subtract, rest, mark. -/
import Derived.Test.YtpnibjljhfgjaaaGreatDoorSwP
import Derived.Test.YtpnibjljhfgjaaaGreatDoorKC2
set_option linter.unusedVariables false
set_option linter.unusedSectionVars false
set_option linter.unusedSimpArgs false
set_option maxRecDepth 100000
namespace Go.Sim.M
open Go.RowKit Go.Lib

theorem rvalid_eq (p : Per) : ref01_Valid p.1 p.2 = pv p := by
  unfold ref01_Valid pv
  rw [br_if, br_if]
  by_cases h1 : 0 ≤ p.1 <;> by_cases h2 : p.1 < p.2 <;> simp [h1, h2]
def ov (p q : Per) : Bool := pv p && (pv q && (decide (p.1 < q.2) && decide (q.1 < p.2)))
theorem rov_eq (p q : Per) : ref01_Overlaps p.1 p.2 q.1 q.2 = ov p q := by
  unfold ref01_Overlaps ov
  rw [rvalid_eq, rvalid_eq]
  cases pv p <;> cases pv q <;> by_cases h : p.1 < q.2 <;> simp [br_if, h]
theorem ov_iff (p q : Per) : ov p q = true ↔ ∃ t, hasP p t = true ∧ hasP q t = true := by
  unfold ov
  simp only [Bool.and_eq_true, decide_eq_true_eq]
  constructor
  · rintro ⟨h1, h2, h3, h4⟩
    have a1 := pv_iff.1 h1
    have a2 := pv_iff.1 h2
    by_cases h : p.1 ≤ q.1
    · exact ⟨q.1, hasP_iff.2 ⟨h1, h, h4⟩, hasP_iff.2 ⟨h2, Int.le_refl _, a2.2.1⟩⟩
    · exact ⟨p.1, hasP_iff.2 ⟨h1, Int.le_refl _, a1.2.1⟩, hasP_iff.2 ⟨h2, by omega, h3⟩⟩
  · rintro ⟨t, h1, h2⟩
    obtain ⟨a1, a2, a3⟩ := hasP_iff.1 h1
    obtain ⟨b1, b2, b3⟩ := hasP_iff.1 h2
    exact ⟨a1, b1, by omega, by omega⟩

def subP (p q : Per) : List Per := if pv p = true then (if ov p q = true then (if p.1 < q.1 then [(p.1, q.1)] else []) ++ (if q.2 < p.2 then [(q.2, p.2)] else []) else [p]) else []
theorem rsub_eq (p q : Per) : ref01_Subtract p.1 p.2 q.1 q.2 = some ((subP p q).map encP) := by
  unfold ref01_Subtract ref01_Subtract_t ref01_Subtract_v0 subP
  rw [rvalid_eq, rov_eq]
  cases pv p with
  | false => rfl
  | true =>
    cases ov p q with
    | false => rfl
    | true =>
      by_cases h1 : p.1 < q.1 <;> by_cases h2 : q.2 < p.2 <;> simp [h1, h2, br_if, encP]

/-- How long periods are together. -/
def tl : List Per → Int
  | [] => 0
  | p :: l => (p.2 - p.1) + tl l
theorem tl_append : ∀ a b, tl (a ++ b) = tl a + tl b
  | [], b => by simp [tl]
  | p :: a, b => by simp only [List.cons_append, tl, tl_append a b]; omega
theorem tl_len : ∀ l : List Per, (∀ p, p ∈ l → pv p = true) → (l.length : Int) ≤ tl l
  | [], _ => by simp [tl]
  | p :: l, h => by
    have := tl_len l fun q hq => h q (List.mem_cons_of_mem _ hq)
    have := pv_iff.1 (h p (List.mem_cons_self ..))
    simp only [tl, List.length_cons]; omega
theorem subP_spec (p q : Per) : (∀ r, r ∈ subP p q → pv r = true) ∧ (∀ t, inL (subP p q) t = (hasP p t && !hasP q t)) ∧ (pv p = true → tl (subP p q) ≤ p.2 - p.1) := by
  unfold subP
  by_cases hp : pv p = true
  · have ap := pv_iff.1 hp
    rw [if_pos hp]
    by_cases ho : ov p q = true
    · rw [if_pos ho]
      have ho' := ho
      unfold ov at ho
      simp only [Bool.and_eq_true, decide_eq_true_eq] at ho
      obtain ⟨_, hq, o1, o2⟩ := ho
      have aq := pv_iff.1 hq
      refine ⟨fun r hr => ?_, fun t => ?_, fun _ => ?_⟩
      · rcases List.mem_append.1 hr with hr | hr
        · split at hr
          · rw [List.mem_singleton.1 hr]; exact pv_iff.2 ⟨by show 0 ≤ p.1; omega, by assumption, by show q.1 ≤ _; omega⟩
          · cases hr
        · split at hr
          · rw [List.mem_singleton.1 hr]; exact pv_iff.2 ⟨by show 0 ≤ q.2; omega, by assumption, by show p.2 ≤ _; omega⟩
          · cases hr
      · have k1 : inL (if p.1 < q.1 then [(p.1, q.1)] else []) t = decide (p.1 ≤ t ∧ t < q.1) := by
          split
          · rename_i h
            rw [inL_cons, inL_nil, Bool.or_false]
            unfold hasP
            have : pv (p.1, q.1) = true := pv_iff.2 ⟨by show 0 ≤ p.1; omega, h, by show q.1 ≤ _; omega⟩
            rw [this]; simp
          · rw [inL_nil]; exact (decide_eq_false (by omega)).symm
        have k2 : inL (if q.2 < p.2 then [(q.2, p.2)] else []) t = decide (q.2 ≤ t ∧ t < p.2) := by
          split
          · rename_i h
            rw [inL_cons, inL_nil, Bool.or_false]
            unfold hasP
            have : pv (q.2, p.2) = true := pv_iff.2 ⟨by show 0 ≤ q.2; omega, h, by show p.2 ≤ _; omega⟩
            rw [this]; simp
          · rw [inL_nil]; exact (decide_eq_false (by omega)).symm
        rw [inL_append, k1, k2]
        unfold hasP
        rw [hp, hq]
        by_cases a : p.1 ≤ t <;> by_cases b : t < p.2 <;> by_cases c : q.1 ≤ t <;> by_cases d : t < q.2 <;> simp [a, b, c, d] <;> omega
      · rw [tl_append]
        split <;> split <;> simp [tl] <;> omega
    · rw [if_neg ho]
      refine ⟨fun r hr => by rw [List.mem_singleton.1 hr]; exact hp, fun t => ?_, fun _ => by simp [tl]⟩
      rw [inL_cons, inL_nil, Bool.or_false]
      cases h1 : hasP p t with
      | false => rfl
      | true =>
        cases h2 : hasP q t with
        | false => rfl
        | true => exact absurd ((ov_iff p q).2 ⟨t, h1, h2⟩) ho
  · rw [if_neg hp]
    refine ⟨fun r hr => (by cases hr), fun t => ?_, fun h => absurd h hp⟩
    have : hasP p t = false := by
      cases hc : hasP p t with
      | false => rfl
      | true => exact absurd (hasP_iff.1 hc).1 hp
    rw [this]; rfl

/-- What is left of periods without one. -/
def restP (l : List Per) (q : Per) : List Per := l.flatMap (subP · q)
theorem rest_spec (q : Per) : ∀ l : List Per, (∀ p, p ∈ l → pv p = true) → (∀ r, r ∈ restP l q → pv r = true) ∧ (∀ t, inL (restP l q) t = (inL l t && !hasP q t)) ∧ tl (restP l q) ≤ tl l
  | [], _ => ⟨fun r h => (by cases h), fun t => rfl, Int.le_refl _⟩
  | p :: l, h => by
    obtain ⟨i1, i2, i3⟩ := rest_spec q l fun x hx => h x (List.mem_cons_of_mem _ hx)
    obtain ⟨s1, s2, s3⟩ := subP_spec p q
    have e : restP (p :: l) q = subP p q ++ restP l q := rfl
    rw [e]
    refine ⟨fun r hr => (List.mem_append.1 hr).elim (s1 r) (i1 r), fun t => ?_, ?_⟩
    · rw [inL_append, s2, i2, inL_cons]; cases hasP p t <;> cases inL l t <;> cases hasP q t <;> rfl
    · rw [tl_append]
      have := s3 (h p (List.mem_cons_self ..))
      simp only [tl]; omega
theorem rest_snoc (l : List Per) (q : Per) (n : Nat) (h : n < l.length) : restP (l.take (n + 1)) q = restP (l.take n) q ++ subP l[n] q := by
  rw [List.take_add_one, List.getElem?_eq_getElem h]
  show restP (l.take n ++ [l[n]]) q = _
  unfold restP
  rw [List.flatMap_append]; simp
theorem tl_take : ∀ (l : List Per) (n : Nat), (∀ p, p ∈ l → pv p = true) → tl (l.take n) ≤ tl l
  | [], n, _ => by simp [tl]
  | p :: l, 0, h => by
    have := tl_len (p :: l) h
    simp only [List.take_zero]; show (0 : Int) ≤ _; omega
  | p :: l, n + 1, h => by
    have := tl_take l n fun q hq => h q (List.mem_cons_of_mem _ hq)
    simp only [List.take_succ_cons, tl]; omega

section
variable (l : List Per) (hv : ∀ p, p ∈ l → pv p = true) (ht : tl l ≤ 1099511627776)
include hv ht
theorem rest_loop (q : Per) : ∀ (k n : Nat), n + k = l.length →
    Iter (ref55_rest_l0_step (l.map encP)) ((restP (l.take n) q).length, ((n : Nat) : Int), q.1, q.2, (restP (l.take n) q).map encP) = some ((restP l q).length, (restP l q).map encP)
  | 0, n, hk => by
    obtain rfl : n = l.length := by omega
    rw [List.take_of_length_le (Nat.le_refl _)]
    refine iter_end ?_
    unfold ref55_rest_l0_step
    simp only
    unfold ref55_rest_l0_t
    rw [List.length_map, decide_eq_false (by omega : ¬ ((l.length : Nat) : Int) < ((l.length : Nat) : Int))]
    rfl
  | k + 1, n, hk => by
    have h1 : n < l.length := by omega
    have hle := tl_len l hv
    obtain ⟨r1, r2, r3⟩ := rest_spec q (l.take (n + 1)) fun p hp => hv p (List.mem_of_mem_take hp)
    have hb := tl_len _ r1
    have hb2 := tl_take l (n + 1) hv
    rw [rest_snoc l q n h1, List.length_append] at hb
    rw [rest_snoc l q n h1] at r3
    have d1 : ((n : Nat) : Int) < ((l.length : Nat) : Int) := by omega
    have d2 : (0 : Int) ≤ ((n : Nat) : Int) := by omega
    have d3 : ((restP (l.take n) q).length + (subP l[n] q).length) * 16 ≤ 140737488355328 := by omega
    have d4 : (restP (l.take n) q).length + (subP l[n] q).length ≤ 4611686018427387904 := by omega
    have d5 : ((restP (l.take n) q).length == (restP (l.take n) q).length) = true := by simp
    have gf : (l.map encP).getD n .top = encP l[n] := getD_map _ _ _ h1
    have c0 : ((encP l[n]).cells.getD 0 .top).toInt = l[n].1 := rfl
    have c1 : ((encP l[n]).cells.getD 1 .top).toInt = l[n].2 := rfl
    have sh : ((encP l[n]).cells.length == (2 : Nat) && hasShs [Sh.int IntKind.i64, Sh.int IntKind.i64] (encP l[n]).cells (0 : Nat)) = true := rfl
    have v0 : ref55_rest_l0_v0 (l.map encP) (restP (l.take n) q).length ((n : Nat) : Int) q.1 q.2 = (restP (l.take n) q).length + (subP l[n] q).length := by
      unfold ref55_rest_l0_v0; rw [Int.toNat_natCast, gf, c0, c1, rsub_eq]; simp only [Option.getD_some, List.length_map]
    have st : ref55_rest_l0_step (l.map encP) ((restP (l.take n) q).length, ((n : Nat) : Int), q.1, q.2, (restP (l.take n) q).map encP) =
        some (.inl ((restP (l.take (n + 1)) q).length, ((n + 1 : Nat) : Int), q.1, q.2, (restP (l.take (n + 1)) q).map encP)) := by
      rw [rest_snoc l q n h1]
      unfold ref55_rest_l0_step
      simp only
      unfold ref55_rest_l0_t
      rw [v0, Int.toNat_natCast, gf, sh, c0, c1, rsub_eq, List.length_map, List.length_map, decide_eq_true d1, decide_eq_true d2, decide_eq_true h1, decide_eq_true d3, decide_eq_true d4, d5, wrap_nat (show n + 1 ≤ maxLen by unfold maxLen; omega), List.length_append, List.map_append]
      rfl
    rw [iter_step st]
    exact rest_loop q k (n + 1) (by omega)

theorem rest_ok (q : Per) : ref55_rest (l.map encP) q.1 q.2 = some ((restP l q).map encP) := by
  have hl := rest_loop l hv ht q l.length 0 (by omega)
  rw [List.take_zero] at hl
  have v3 : ref55_rest_v3 (l.map encP) q.1 q.2 = some ((restP l q).length, (restP l q).map encP) := by unfold ref55_rest_v3; exact hl
  have v2 : ref55_rest_v2 (l.map encP) q.1 q.2 = ((restP l q).length, (restP l q).map encP) := by unfold ref55_rest_v2; rw [v3]; rfl
  have v1 : ref55_rest_v1 (l.map encP) q.1 q.2 = (restP l q).length := by unfold ref55_rest_v1; rw [v2]
  have v0 : ref55_rest_v0 (l.map encP) q.1 q.2 = (restP l q).map encP := by unfold ref55_rest_v0; rw [v2]
  have d1 : 0 + (restP l q).length ≤ (restP l q).length := by omega
  unfold ref55_rest ref55_rest_t
  rw [v3, v1, v0, List.length_map, decide_eq_true d1, List.drop_zero, List.take_of_length_le (by rw [List.length_map]; exact Nat.le_refl _)]
  rfl
end

open Classical in
/-- The mark of a part. -/
noncomputable def markB (l : List Per) (p : Per) : UInt8 := if ∀ t, hasP p t = true → inL l t = true then 35 else if ∃ t, hasP p t = true ∧ inL l t = true then 43 else 46

/-- What a round of mark leaves. -/
def MkI (l : List Per) (part : Per) (s : List AV × Bool × Int × Int × Int) : Prop :=
  ∃ (left : List Per) (n : Nat), s = (left.map encP, (l.take n).any (ov · part), ((n : Nat) : Int), part.1, part.2) ∧ n ≤ l.length ∧ (∀ p, p ∈ left → pv p = true) ∧ tl left ≤ 1099511627776 ∧ ∀ t, inL left t = (hasP part t && !inL (l.take n) t)

theorem any_snoc (l : List Per) (f : Per → Bool) (n : Nat) (h : n < l.length) : (l.take (n + 1)).any f = ((l.take n).any f || f l[n]) := by
  rw [List.take_add_one, List.getElem?_eq_getElem h]
  show (l.take n ++ [l[n]]).any f = _
  rw [List.any_append]
  simp only [List.any_cons, List.any_nil, Bool.or_false]

theorem mark_round (l : List Per) (part : Per) (hl : l.length ≤ 1073741824) (s : List AV × Bool × Int × Int × Int) (hs : MkI l part s) :
    (∃ s', ref55_mark_l0_step (l.map encP) s = some (.inl s') ∧ MkI l part s' ∧ ((l.length : Int) - s'.2.2.1).toNat < ((l.length : Int) - s.2.2.1).toNat) ∨
    ∃ r, ref55_mark_l0_step (l.map encP) s = some (.inr r) ∧ ∃ left : List Per, r = (left.map encP, l.any (ov · part)) ∧ (∀ p, p ∈ left → pv p = true) ∧ ∀ t, inL left t = (hasP part t && !inL l t) := by
  obtain ⟨left, n, rfl, hn, hv, ht, hm⟩ := hs
  by_cases h1 : n < l.length
  · left
    have d1 : ((n : Nat) : Int) < ((l.length : Nat) : Int) := by omega
    have d2 : (0 : Int) ≤ ((n : Nat) : Int) := by omega
    have gf : (l.map encP).getD n .top = encP l[n] := getD_map _ _ _ h1
    have c0 : ((encP l[n]).cells.getD 0 .top).toInt = l[n].1 := rfl
    have c1 : ((encP l[n]).cells.getD 1 .top).toInt = l[n].2 := rfl
    have sh : ((encP l[n]).cells.length == (2 : Nat) && hasShs [Sh.int IntKind.i64, Sh.int IntKind.i64] (encP l[n]).cells (0 : Nat)) = true := rfl
    have v0 : ref55_mark_l0_v0 (l.map encP) ((n : Nat) : Int) = true := by unfold ref55_mark_l0_v0; rw [Int.toNat_natCast, gf, sh, List.length_map, decide_eq_true h1]; rfl
    have v1 : ref55_mark_l0_v1 (l.map encP) ((n : Nat) : Int) = true := by unfold ref55_mark_l0_v1; rw [List.length_map, decide_eq_true d1, decide_eq_true d2]; rfl
    have hr := rest_ok left hv ht l[n]
    obtain ⟨r1, r2, r3⟩ := rest_spec l[n] left hv
    refine ⟨((restP left l[n]).map encP, (l.take (n + 1)).any (ov · part), ((n + 1 : Nat) : Int), part.1, part.2), ?_, ⟨restP left l[n], n + 1, rfl, h1, r1, by omega, fun t => ?_⟩, by show ((l.length : Int) - ((n + 1 : Nat) : Int)).toNat < ((l.length : Int) - ((n : Nat) : Int)).toNat; omega⟩
    · rw [any_snoc l _ n h1]
      unfold ref55_mark_l0_step
      simp only
      unfold ref55_mark_l0_t
      rw [v0, v1, Int.toNat_natCast, gf, c0, c1, hr, rov_eq, List.length_map, decide_eq_true d1, wrap_nat (show n + 1 ≤ maxLen by unfold maxLen; omega)]
      cases (l.take n).any (ov · part) <;> rfl
    · rw [r2, hm]
      have : inL (l.take (n + 1)) t = (inL (l.take n) t || hasP l[n] t) := any_snoc l (hasP · t) n h1
      rw [this]
      cases hasP part t <;> cases inL (l.take n) t <;> cases hasP l[n] t <;> rfl
  · right
    have hnl : n = l.length := by omega
    subst hnl
    rw [List.take_of_length_le (Nat.le_refl _)] at hm ⊢
    refine ⟨(left.map encP, l.any (ov · part)), ?_, left, rfl, hv, hm⟩
    unfold ref55_mark_l0_step
    simp only
    unfold ref55_mark_l0_t
    rw [List.length_map, decide_eq_false (by omega : ¬ ((l.length : Nat) : Int) < ((l.length : Nat) : Int))]
    rfl

theorem any_ov (l : List Per) (part : Per) : l.any (ov · part) = true ↔ ∃ t, hasP part t = true ∧ inL l t = true := by
  rw [List.any_eq_true]
  constructor
  · rintro ⟨p, hp, ho⟩
    obtain ⟨t, h1, h2⟩ := (ov_iff p part).1 ho
    exact ⟨t, h2, inL_iff.2 ⟨p, hp, hasP_iff.1 h1⟩⟩
  · rintro ⟨t, h1, h2⟩
    obtain ⟨p, hp, h3⟩ := inL_iff.1 h2
    exact ⟨p, hp, (ov_iff p part).2 ⟨t, hasP_iff.2 h3, h1⟩⟩

theorem markB_left (l : List Per) (part : Per) (left : List Per) (hv : ∀ p, p ∈ left → pv p = true) (hm : ∀ t, inL left t = (hasP part t && !inL l t)) :
    markB l part = if left = [] then 35 else if l.any (ov · part) = true then 43 else 46 := by
  have e1 : (∀ t, hasP part t = true → inL l t = true) ↔ left = [] := by
    constructor
    · intro h
      cases left with
      | nil => rfl
      | cons p r =>
        have hp := hv p (List.mem_cons_self ..)
        have h4 : inL (p :: r) p.1 = true := inL_iff.2 ⟨p, List.mem_cons_self .., hp, Int.le_refl _, (pv_iff.1 hp).2.1⟩
        rw [hm] at h4
        simp only [Bool.and_eq_true, Bool.not_eq_true'] at h4
        rw [h _ h4.1] at h4
        cases h4.2
    · rintro rfl t ht
      have := hm t
      rw [ht, inL_nil] at this
      cases hc : inL l t with
      | true => rfl
      | false => rw [hc] at this; cases this
  unfold markB
  by_cases h : left = []
  · rw [if_pos h, if_pos (e1.2 h)]
  · rw [if_neg h, if_neg (fun hc => h (e1.1 hc))]
    by_cases ho : l.any (ov · part) = true
    · rw [if_pos ho, if_pos ((any_ov l part).1 ho)]
    · rw [if_neg ho, if_neg (fun hc => ho ((any_ov l part).2 hc))]

theorem rmark_ok (l : List Per) (part : Per) (hl : l.length ≤ 1073741824) (hp : pv part = true) : ref55_mark (l.map encP) part.1 part.2 = some [markB l part] := by
  have ap := pv_iff.1 hp
  by_cases h0 : l.length = 0
  · obtain rfl : l = [] := List.length_eq_zero_iff.1 h0
    have : markB [] part = 46 := by
      rw [markB_left [] part [part] (fun p h => by rw [List.mem_singleton.1 h]; exact hp) (fun t => by simp [inL])]
      simp
    rw [this]; rfl
  · have h1 : 0 < l.length := by omega
    have d1 : (0 : Int) < ((l.length : Nat) : Int) := by omega
    have gf : (l.map encP).getD 0 .top = encP l[0] := getD_map _ _ _ h1
    have c0 : ((encP l[0]).cells.getD 0 .top).toInt = l[0].1 := rfl
    have c1 : ((encP l[0]).cells.getD 1 .top).toInt = l[0].2 := rfl
    have sh : ((encP l[0]).cells.length == (2 : Nat) && hasShs [Sh.int IntKind.i64, Sh.int IntKind.i64] (encP l[0]).cells (0 : Nat)) = true := rfl
    have hv1 : ∀ p, p ∈ [part] → pv p = true := fun p h => by rw [List.mem_singleton.1 h]; exact hp
    have ht1 : tl [part] ≤ 1099511627776 := by simp only [tl]; omega
    have hr := rest_ok [part] hv1 ht1 l[0]
    obtain ⟨r1, r2, r3⟩ := rest_spec l[0] [part] hv1
    have tk : l.take 1 = [l[0]] := by
      rw [List.take_add_one, List.getElem?_eq_getElem h1]; rfl
    have v4 : ref55_mark_v4 (l.map encP) = true := by unfold ref55_mark_v4; rw [List.length_map, decide_eq_true d1]
    have v2 : ref55_mark_v2 (l.map encP) = true := by unfold ref55_mark_v2; rw [gf, sh, List.length_map, decide_eq_true h1]; rfl
    have v3 : ref55_mark_v3 (l.map encP) part.1 part.2 = some ((restP [part] l[0]).map encP) := by unfold ref55_mark_v3; rw [gf, c0, c1]; exact hr
    obtain ⟨r, hr, left, rfl, hv, hm⟩ := iter_inv (MkI l part) (fun s => ((l.length : Int) - s.2.2.1).toNat) (fun r => ∃ left : List Per, r = (left.map encP, l.any (ov · part)) ∧ (∀ p, p ∈ left → pv p = true) ∧ ∀ t, inL left t = (hasP part t && !inL l t))
      (mark_round l part hl) ((restP [part] l[0]).map encP, ov l[0] part, 1, part.1, part.2) ⟨restP [part] l[0], 1, by rw [tk]; simp, h1, r1, by omega, fun t => by
        rw [r2, tk]; simp [inL]⟩
    have v1 : ref55_mark_v1 (l.map encP) part.1 part.2 = some (left.map encP, l.any (ov · part)) := by
      unfold ref55_mark_v1; rw [v3, gf, c0, c1, rov_eq]; exact hr
    have v0 : ref55_mark_v0 (l.map encP) part.1 part.2 = (left.map encP, l.any (ov · part)) := by unfold ref55_mark_v0; rw [v1]; rfl
    unfold ref55_mark ref55_mark_t
    rw [v0, v1, v2, v3, v4, markB_left l part left hv hm]
    simp only [br_tt, Option.isSome_some, List.length_map]
    by_cases h : left = []
    · rw [h]; rfl
    · have : (((left.length : Nat) : Int) == 0) = false := by
        have := List.length_pos_iff.2 h
        simp; omega
      rw [this, if_neg h]
      cases l.any (ov · part) <;> rfl
end Go.Sim.M
