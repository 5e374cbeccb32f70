/- The stable sort of rows: the executor's functions are the plain ones. Printed by program from one template for both comparisons. -/
import Derived.Test.YtlapjnnkblbhdaaDoorStabA
import Derived.Test.YtlapjnnkblbhdaaDoorL5
set_option linter.unusedVariables false
set_option linter.unusedSimpArgs false
set_option maxRecDepth 100000
namespace Go.Sim.M
open Go.RowKit Go.Sim.Srt

section
variable {N : Nat} (hN : N ≤ 2 ^ 60) {ok : Row → Prop} {c : Row → Row → Int} (hc : ∀ x y, ok x → ok y → tuple_Compare_pre (x.map encV) (y.map encV) = true ∧ tuple_Compare (x.map encV) (y.map encV) = c x y)
include hN

theorem swr_A (a b n : Nat) (l r : List Row) (ha : a ≤ 2 ^ 60) (hb : b ≤ 2 ^ 60) (hn : n ≤ 2 ^ 60) (hl : LOk N ok l) (hr : swr a b n l = some r) : slices_swapRangeCmpFunc_A N a b n (encL l) = some (encL r) ∧ LOk N ok r := by
  obtain ⟨e1, e2⟩ := sim_swr hN a b n ha hb hn (g := slices_swapRangeCmpFunc_A_l0_step N a b n) (fun i xs => rfl) hl hr
  refine ⟨?_, e2⟩
  unfold slices_swapRangeCmpFunc_A slices_swapRangeCmpFunc_A_t
  rw [e1]; rfl

theorem rot_A (a m b : Nat) (l r : List Row) (h1 : a ≤ m) (h2 : m ≤ b) (h3 : b ≤ N) (hl : LOk N ok l) (hr : rot a m b l = some r) : slices_rotateCmpFunc_A N a m b (encL l) = some (encL r) ∧ LOk N ok r := by
  unfold rot at hr
  cases hi : Iter (rotStep m) (m - a, b - m, l) with
  | none => rw [hi] at hr; simp at hr
  | some p =>
    obtain ⟨i, l'⟩ := p
    rw [hi] at hr
    obtain ⟨e1, e2, e3⟩ := sim_rot hN (ok := ok) (SW := fun a b n xs => slices_swapRangeCmpFunc_A N a b n xs) (fun a b n l r ha hb hn hl hr => swr_A hN a b n l r ha hb hn hl hr) m (by omega) (g := slices_rotateCmpFunc_A_l0_step N m) (fun i j xs => rfl) (by omega) (by omega) hl hi
    obtain ⟨e4, e5⟩ := swr_A hN (m - i) m i l' r (by omega) (by omega) (by omega) e3 hr
    refine ⟨?_, e5⟩
    simp only [slices_rotateCmpFunc_A, slices_rotateCmpFunc_A_t, slices_rotateCmpFunc_A_v0, slices_rotateCmpFunc_A_v1, slices_rotateCmpFunc_A_v2, slices_rotateCmpFunc_A_v3, w64 (x := (m : Int) - (a : Int)) (n := m - a) (by omega) (by omega), w64 (x := (b : Int) - (m : Int)) (n := b - m) (by omega) (by omega), e1, Option.getD_some, Option.isSome_some, br_tt, w64 (x := (m : Int) - (i : Int)) (n := m - i) (by omega) (by omega), e4]

include hc

theorem ins_A (a b : Nat) (ha : a ≤ N) (hb : b ≤ N) {l r : List Row} (hl : LOk N ok l) (hr : insSort c a b l = some r) : slices_insertionSortCmpFunc_A N a b (encL l) = some (encL r) ∧ LOk N ok r := by
  obtain ⟨e1, e2⟩ := sim_insO hN (c := c) (ok := ok) a b hb (gi := fun i => slices_insertionSortCmpFunc_A_l1_step N a b i) (fun i l r hl hr => sim_ins hN (P := tuple_Compare_pre) (V := tuple_Compare) hc a (fun j xs => rfl) hl hr) (g := slices_insertionSortCmpFunc_A_l0_step N a b) (fun i xs => rfl) hl hr
  refine ⟨?_, e2⟩
  unfold slices_insertionSortCmpFunc_A slices_insertionSortCmpFunc_A_t
  rw [w64 (x := (a : Int) + 1) (n := a + 1) (by omega) (by omega), e1]; rfl

theorem sym_A : ∀ (f a m b : Nat) (l r : List Row), a < m → m < b → b ≤ N → LOk N ok l → symM c f a m b l = some r → slices_symMergeCmpFunc_A_R f N a m b (encL l) = some (encL r) ∧ LOk N ok r := by
  intro f
  induction f with
  | zero => intro a m b l r _ _ _ _ hr; simp [symM] at hr
  | succ f ih =>
    intro a m b l r ham hmb hb hl hr
    unfold symM at hr
    show slices_symMergeCmpFunc_A (slices_symMergeCmpFunc_A_R f) N a m b (encL l) = some (encL r) ∧ LOk N ok r
    have wma : IntKind.i64.wrap ((m : Int) - (a : Int)) = ((m - a : Nat) : Int) := w64 (by omega) (by omega)
    have wbm : IntKind.i64.wrap ((b : Int) - (m : Int)) = ((b - m : Nat) : Int) := w64 (by omega) (by omega)
    by_cases h1 : m - a = 1
    · rw [if_pos h1] at hr
      cases hi : Iter (bsStep fun h => (get2 c l h a).map fun r => decide (r < 0)) (m, b) with
      | none => rw [hi] at hr; simp at hr
      | some i =>
        rw [hi] at hr
        obtain ⟨e0, b1, b2⟩ := sim_bs hN (P := tuple_Compare_pre) (V := tuple_Compare) hc (fun h => h) (fun _ => a) (fun h => h) (fun _ => (a : Int)) m b (by omega) (fun _ _ _ => rfl) (fun _ _ _ => rfl) (fun r => decide (r < 0)) (g := slices_symMergeCmpFunc_A_l0_step N a) (fun i j xs => rfl) hl (Nat.le_refl _) (Nat.le_refl _) (by omega) hi
        obtain ⟨e1, e2⟩ := sim_up hN (ok := ok) (i - 1) i (by omega) (by omega) (g := slices_symMergeCmpFunc_A_l1_step N i) (fun k xs => rfl) hl hr
        refine ⟨?_, e2⟩
        simp only [slices_symMergeCmpFunc_A, slices_symMergeCmpFunc_A_t, slices_symMergeCmpFunc_A_v0, slices_symMergeCmpFunc_A_v1, slices_symMergeCmpFunc_A_v2, slices_symMergeCmpFunc_A_v3, slices_symMergeCmpFunc_A_v4, slices_symMergeCmpFunc_A_v5, slices_symMergeCmpFunc_A_v6, slices_symMergeCmpFunc_A_v7, slices_symMergeCmpFunc_A_v8, slices_symMergeCmpFunc_A_v9, slices_symMergeCmpFunc_A_v10, slices_symMergeCmpFunc_A_v11, slices_symMergeCmpFunc_A_v12, slices_symMergeCmpFunc_A_v13, slices_symMergeCmpFunc_A_v14, slices_symMergeCmpFunc_A_v15, slices_symMergeCmpFunc_A_v16, slices_symMergeCmpFunc_A_v17, slices_symMergeCmpFunc_A_v18, slices_symMergeCmpFunc_A_v19, slices_symMergeCmpFunc_A_v20, slices_symMergeCmpFunc_A_v21, slices_symMergeCmpFunc_A_v22, slices_symMergeCmpFunc_A_v23, slices_symMergeCmpFunc_A_v24, wma, h1, e0, Option.getD_some, Option.isSome_some, br_tt, e1, Int.natCast_one, beq_self_eq_true]
    · rw [if_neg h1] at hr
      have d1 : (((m - a : Nat) : Int) == 1) = false := by simp; omega
      by_cases h2 : b - m = 1
      · rw [if_pos h2] at hr
        cases hi : Iter (bsStep fun h => (get2 c l m h).map fun r => !decide (r < 0)) (a, m) with
        | none => rw [hi] at hr; simp at hr
        | some i =>
          rw [hi] at hr
          obtain ⟨e0, b1, b2⟩ := sim_bs hN (P := tuple_Compare_pre) (V := tuple_Compare) hc (fun _ => m) (fun h => h) (fun _ => (m : Int)) (fun h => h) a m (by omega) (fun _ _ _ => rfl) (fun _ _ _ => rfl) (fun r => !decide (r < 0)) (g := slices_symMergeCmpFunc_A_l2_step N m) (fun i j xs => rfl) hl (Nat.le_refl _) (Nat.le_refl _) (by omega) hi
          obtain ⟨e1, e2⟩ := sim_down hN (ok := ok) i (g := slices_symMergeCmpFunc_A_l3_step N i) (fun k xs => rfl) hl hr
          refine ⟨?_, e2⟩
          simp only [slices_symMergeCmpFunc_A, slices_symMergeCmpFunc_A_t, slices_symMergeCmpFunc_A_v0, slices_symMergeCmpFunc_A_v1, slices_symMergeCmpFunc_A_v2, slices_symMergeCmpFunc_A_v3, slices_symMergeCmpFunc_A_v4, slices_symMergeCmpFunc_A_v5, slices_symMergeCmpFunc_A_v6, slices_symMergeCmpFunc_A_v7, slices_symMergeCmpFunc_A_v8, slices_symMergeCmpFunc_A_v9, slices_symMergeCmpFunc_A_v10, slices_symMergeCmpFunc_A_v11, slices_symMergeCmpFunc_A_v12, slices_symMergeCmpFunc_A_v13, slices_symMergeCmpFunc_A_v14, slices_symMergeCmpFunc_A_v15, slices_symMergeCmpFunc_A_v16, slices_symMergeCmpFunc_A_v17, slices_symMergeCmpFunc_A_v18, slices_symMergeCmpFunc_A_v19, slices_symMergeCmpFunc_A_v20, slices_symMergeCmpFunc_A_v21, slices_symMergeCmpFunc_A_v22, slices_symMergeCmpFunc_A_v23, slices_symMergeCmpFunc_A_v24, wma, wbm, d1, h2, e0, Option.getD_some, Option.isSome_some, br_tt, br_ff, e1, Int.natCast_one, beq_self_eq_true]
      · rw [if_neg h2] at hr
        have d2 : (((b - m : Nat) : Int) == 1) = false := by simp; omega
        have hh : IntKind.i64.wrap ((IntKind.u64.wrap (IntKind.i64.wrap ((a : Int) + (b : Int)))).fdiv 2) = (((a + b) / 2 : Nat) : Int) := half64 (by omega)
        obtain ⟨mid, hmid⟩ : ∃ mid, mid = (a + b) / 2 := ⟨_, rfl⟩
        rw [← hmid] at hr hh
        have w2 : IntKind.i64.wrap ((mid : Int) + (m : Int)) = ((mid + m : Nat) : Int) := w64 (by omega) (by omega)
        have w3 : IntKind.i64.wrap (((mid + m : Nat) : Int) - 1) = ((mid + m - 1 : Nat) : Int) := w64 (by omega) (by omega)
        -- the search
        obtain ⟨lo, hi, hlh, g1, g2, g3, g4, hst⟩ : ∃ lo hi, (if mid < m then (mid + m - b, mid) else (a, m)) = (lo, hi) ∧ a ≤ lo ∧ lo ≤ hi ∧ hi ≤ m ∧ hi ≤ mid ∧ ((mid < m ∧ lo = mid + m - b ∧ hi = mid) ∨ (¬ mid < m ∧ lo = a ∧ hi = m)) := by
          by_cases h : mid < m
          · exact ⟨_, _, if_pos h, by omega, by omega, by omega, by omega, .inl ⟨h, rfl, rfl⟩⟩
          · exact ⟨_, _, if_neg h, by omega, by omega, by omega, by omega, .inr ⟨h, rfl, rfl⟩⟩
        rw [hlh] at hr
        cases hs : Iter (bsStep fun h => (get2 c l (mid + m - 1 - h) h).map fun r => !decide (r < 0)) (lo, hi) with
        | none => rw [hs] at hr; simp at hr
        | some s =>
          rw [hs] at hr
          dsimp only at hr
          obtain ⟨e0, b1, b2⟩ := sim_bs hN (P := tuple_Compare_pre) (V := tuple_Compare) hc (fun h => mid + m - 1 - h) (fun h => h) (fun h => IntKind.i64.wrap (((mid + m - 1 : Nat) : Int) - h)) (fun h => h) lo hi (by omega) (fun h _ _ => w64 (by omega) (by omega)) (fun _ _ _ => rfl) (fun r => !decide (r < 0)) (g := slices_symMergeCmpFunc_A_l4_step N a m b mid ((mid + m : Nat) : Int) ((mid + m - 1 : Nat) : Int)) (fun i j xs => rfl) hl (Nat.le_refl _) (Nat.le_refl _) g2 hs
          have w5 : IntKind.i64.wrap (((mid + m : Nat) : Int) - (s : Int)) = ((mid + m - s : Nat) : Int) := w64 (by omega) (by omega)
          obtain ⟨e, he⟩ : ∃ e, e = mid + m - s := ⟨_, rfl⟩
          rw [← he] at hr w5
          -- the parts
          cases hrot : (if s < m ∧ m < e then rot s m e l else some l) with
          | none => rw [hrot] at hr; simp at hr
          | some l1 =>
            rw [hrot] at hr
            dsimp only at hr
            have k1 : (s < m ∧ m < e ∧ slices_rotateCmpFunc_A N s m e (encL l) = some (encL l1) ∧ LOk N ok l1) ∨ (¬ (s < m ∧ m < e) ∧ l1 = l) := by
              by_cases h : s < m ∧ m < e
              · rw [if_pos h] at hrot
                obtain ⟨x1, x2⟩ := rot_A hN s m e l l1 (by omega) (by omega) (by omega) hl hrot
                exact .inl ⟨h.1, h.2, x1, x2⟩
              · rw [if_neg h] at hrot
                simp only [Option.some.injEq] at hrot
                exact .inr ⟨h, hrot.symm⟩
            have hl1 : LOk N ok l1 := by
              rcases k1 with k | k
              · exact k.2.2.2
              · rw [k.2]; exact hl
            cases hlf : (if a < s ∧ s < mid then symM c f a s mid l1 else some l1) with
            | none => rw [hlf] at hr; simp at hr
            | some l2 =>
              rw [hlf] at hr
              dsimp only at hr
              have k2 : (a < s ∧ s < mid ∧ slices_symMergeCmpFunc_A_R f N a s mid (encL l1) = some (encL l2) ∧ LOk N ok l2) ∨ (¬ (a < s ∧ s < mid) ∧ l2 = l1) := by
                by_cases h : a < s ∧ s < mid
                · rw [if_pos h] at hlf
                  obtain ⟨x1, x2⟩ := ih a s mid l1 l2 h.1 h.2 (by omega) hl1 hlf
                  exact .inl ⟨h.1, h.2, x1, x2⟩
                · rw [if_neg h] at hlf
                  simp only [Option.some.injEq] at hlf
                  exact .inr ⟨h, hlf.symm⟩
              have hl2 : LOk N ok l2 := by
                rcases k2 with k | k
                · exact k.2.2.2
                · rw [k.2]; exact hl1
              have k3 : (mid < e ∧ e < b ∧ slices_symMergeCmpFunc_A_R f N mid e b (encL l2) = some (encL r) ∧ LOk N ok r) ∨ (¬ (mid < e ∧ e < b) ∧ r = l2) := by
                by_cases h : mid < e ∧ e < b
                · rw [if_pos h] at hr
                  obtain ⟨x1, x2⟩ := ih mid e b l2 r h.1 h.2 hb hl2 hr
                  exact .inl ⟨h.1, h.2, x1, x2⟩
                · rw [if_neg h] at hr
                  simp only [Option.some.injEq] at hr
                  exact .inr ⟨h, hr.symm⟩
              refine ⟨?_, ?_⟩
              · clear ih hc hl hl1 hl2 hr hlf hrot hs hlh
                rcases hst with ⟨hm, hlo, hhi⟩ | ⟨hm, hlo, hhi⟩
                · rw [hlo, hhi] at e0
                  have w4 : IntKind.i64.wrap (((mid + m : Nat) : Int) - (b : Int)) = ((mid + m - b : Nat) : Int) := w64 (by omega) (by omega)
                  have dm : decide ((m : Int) > (mid : Int)) = true := by simp [hm]
                  rcases k1 with ⟨p1, p2, p3, _⟩ | ⟨p1, rfl⟩ <;> rcases k2 with ⟨q1, q2, q3, _⟩ | ⟨q1, rfl⟩ <;> rcases k3 with ⟨r1, r2, r3, _⟩ | ⟨r1, rfl⟩ <;>
                    (by_cases t1 : s < m <;> by_cases t2 : m < e <;> by_cases t3 : a < s <;> by_cases t4 : s < mid <;> by_cases t5 : mid < e <;> by_cases t6 : e < b <;> first | (exfalso; omega) |
                      (simp only [slices_symMergeCmpFunc_A, slices_symMergeCmpFunc_A_t, slices_symMergeCmpFunc_A_v0, slices_symMergeCmpFunc_A_v1, slices_symMergeCmpFunc_A_v2, slices_symMergeCmpFunc_A_v3, slices_symMergeCmpFunc_A_v4, slices_symMergeCmpFunc_A_v5, slices_symMergeCmpFunc_A_v6, slices_symMergeCmpFunc_A_v7, slices_symMergeCmpFunc_A_v8, slices_symMergeCmpFunc_A_v9, slices_symMergeCmpFunc_A_v10, slices_symMergeCmpFunc_A_v11, slices_symMergeCmpFunc_A_v12, slices_symMergeCmpFunc_A_v13, slices_symMergeCmpFunc_A_v14, slices_symMergeCmpFunc_A_v15, slices_symMergeCmpFunc_A_v16, slices_symMergeCmpFunc_A_v17, slices_symMergeCmpFunc_A_v18, slices_symMergeCmpFunc_A_v19, slices_symMergeCmpFunc_A_v20, slices_symMergeCmpFunc_A_v21, slices_symMergeCmpFunc_A_v22, slices_symMergeCmpFunc_A_v23, slices_symMergeCmpFunc_A_v24, wma, wbm, d1, d2, hh, w2, w3, w4, dm, e0, w5, Option.getD_some, Option.isSome_some, br_tt, br_ff, Int.ofNat_lt, t1, t2, t3, t4, t5, t6, decide_true, decide_false, hm, p3, q3, r3]) |
                      (simp only [slices_symMergeCmpFunc_A, slices_symMergeCmpFunc_A_t, slices_symMergeCmpFunc_A_v0, slices_symMergeCmpFunc_A_v1, slices_symMergeCmpFunc_A_v2, slices_symMergeCmpFunc_A_v3, slices_symMergeCmpFunc_A_v4, slices_symMergeCmpFunc_A_v5, slices_symMergeCmpFunc_A_v6, slices_symMergeCmpFunc_A_v7, slices_symMergeCmpFunc_A_v8, slices_symMergeCmpFunc_A_v9, slices_symMergeCmpFunc_A_v10, slices_symMergeCmpFunc_A_v11, slices_symMergeCmpFunc_A_v12, slices_symMergeCmpFunc_A_v13, slices_symMergeCmpFunc_A_v14, slices_symMergeCmpFunc_A_v15, slices_symMergeCmpFunc_A_v16, slices_symMergeCmpFunc_A_v17, slices_symMergeCmpFunc_A_v18, slices_symMergeCmpFunc_A_v19, slices_symMergeCmpFunc_A_v20, slices_symMergeCmpFunc_A_v21, slices_symMergeCmpFunc_A_v22, slices_symMergeCmpFunc_A_v23, slices_symMergeCmpFunc_A_v24, wma, wbm, d1, d2, hh, w2, w3, w4, dm, e0, w5, Option.getD_some, Option.isSome_some, br_tt, br_ff, Int.ofNat_lt, t1, t2, t3, t4, t5, t6, decide_true, decide_false, hm, p3, q3]) |
                      (simp only [slices_symMergeCmpFunc_A, slices_symMergeCmpFunc_A_t, slices_symMergeCmpFunc_A_v0, slices_symMergeCmpFunc_A_v1, slices_symMergeCmpFunc_A_v2, slices_symMergeCmpFunc_A_v3, slices_symMergeCmpFunc_A_v4, slices_symMergeCmpFunc_A_v5, slices_symMergeCmpFunc_A_v6, slices_symMergeCmpFunc_A_v7, slices_symMergeCmpFunc_A_v8, slices_symMergeCmpFunc_A_v9, slices_symMergeCmpFunc_A_v10, slices_symMergeCmpFunc_A_v11, slices_symMergeCmpFunc_A_v12, slices_symMergeCmpFunc_A_v13, slices_symMergeCmpFunc_A_v14, slices_symMergeCmpFunc_A_v15, slices_symMergeCmpFunc_A_v16, slices_symMergeCmpFunc_A_v17, slices_symMergeCmpFunc_A_v18, slices_symMergeCmpFunc_A_v19, slices_symMergeCmpFunc_A_v20, slices_symMergeCmpFunc_A_v21, slices_symMergeCmpFunc_A_v22, slices_symMergeCmpFunc_A_v23, slices_symMergeCmpFunc_A_v24, wma, wbm, d1, d2, hh, w2, w3, w4, dm, e0, w5, Option.getD_some, Option.isSome_some, br_tt, br_ff, Int.ofNat_lt, t1, t2, t3, t4, t5, t6, decide_true, decide_false, hm, p3, r3]) |
                      (simp only [slices_symMergeCmpFunc_A, slices_symMergeCmpFunc_A_t, slices_symMergeCmpFunc_A_v0, slices_symMergeCmpFunc_A_v1, slices_symMergeCmpFunc_A_v2, slices_symMergeCmpFunc_A_v3, slices_symMergeCmpFunc_A_v4, slices_symMergeCmpFunc_A_v5, slices_symMergeCmpFunc_A_v6, slices_symMergeCmpFunc_A_v7, slices_symMergeCmpFunc_A_v8, slices_symMergeCmpFunc_A_v9, slices_symMergeCmpFunc_A_v10, slices_symMergeCmpFunc_A_v11, slices_symMergeCmpFunc_A_v12, slices_symMergeCmpFunc_A_v13, slices_symMergeCmpFunc_A_v14, slices_symMergeCmpFunc_A_v15, slices_symMergeCmpFunc_A_v16, slices_symMergeCmpFunc_A_v17, slices_symMergeCmpFunc_A_v18, slices_symMergeCmpFunc_A_v19, slices_symMergeCmpFunc_A_v20, slices_symMergeCmpFunc_A_v21, slices_symMergeCmpFunc_A_v22, slices_symMergeCmpFunc_A_v23, slices_symMergeCmpFunc_A_v24, wma, wbm, d1, d2, hh, w2, w3, w4, dm, e0, w5, Option.getD_some, Option.isSome_some, br_tt, br_ff, Int.ofNat_lt, t1, t2, t3, t4, t5, t6, decide_true, decide_false, hm, q3, r3]) |
                      (simp only [slices_symMergeCmpFunc_A, slices_symMergeCmpFunc_A_t, slices_symMergeCmpFunc_A_v0, slices_symMergeCmpFunc_A_v1, slices_symMergeCmpFunc_A_v2, slices_symMergeCmpFunc_A_v3, slices_symMergeCmpFunc_A_v4, slices_symMergeCmpFunc_A_v5, slices_symMergeCmpFunc_A_v6, slices_symMergeCmpFunc_A_v7, slices_symMergeCmpFunc_A_v8, slices_symMergeCmpFunc_A_v9, slices_symMergeCmpFunc_A_v10, slices_symMergeCmpFunc_A_v11, slices_symMergeCmpFunc_A_v12, slices_symMergeCmpFunc_A_v13, slices_symMergeCmpFunc_A_v14, slices_symMergeCmpFunc_A_v15, slices_symMergeCmpFunc_A_v16, slices_symMergeCmpFunc_A_v17, slices_symMergeCmpFunc_A_v18, slices_symMergeCmpFunc_A_v19, slices_symMergeCmpFunc_A_v20, slices_symMergeCmpFunc_A_v21, slices_symMergeCmpFunc_A_v22, slices_symMergeCmpFunc_A_v23, slices_symMergeCmpFunc_A_v24, wma, wbm, d1, d2, hh, w2, w3, w4, dm, e0, w5, Option.getD_some, Option.isSome_some, br_tt, br_ff, Int.ofNat_lt, t1, t2, t3, t4, t5, t6, decide_true, decide_false, hm, p3]) |
                      (simp only [slices_symMergeCmpFunc_A, slices_symMergeCmpFunc_A_t, slices_symMergeCmpFunc_A_v0, slices_symMergeCmpFunc_A_v1, slices_symMergeCmpFunc_A_v2, slices_symMergeCmpFunc_A_v3, slices_symMergeCmpFunc_A_v4, slices_symMergeCmpFunc_A_v5, slices_symMergeCmpFunc_A_v6, slices_symMergeCmpFunc_A_v7, slices_symMergeCmpFunc_A_v8, slices_symMergeCmpFunc_A_v9, slices_symMergeCmpFunc_A_v10, slices_symMergeCmpFunc_A_v11, slices_symMergeCmpFunc_A_v12, slices_symMergeCmpFunc_A_v13, slices_symMergeCmpFunc_A_v14, slices_symMergeCmpFunc_A_v15, slices_symMergeCmpFunc_A_v16, slices_symMergeCmpFunc_A_v17, slices_symMergeCmpFunc_A_v18, slices_symMergeCmpFunc_A_v19, slices_symMergeCmpFunc_A_v20, slices_symMergeCmpFunc_A_v21, slices_symMergeCmpFunc_A_v22, slices_symMergeCmpFunc_A_v23, slices_symMergeCmpFunc_A_v24, wma, wbm, d1, d2, hh, w2, w3, w4, dm, e0, w5, Option.getD_some, Option.isSome_some, br_tt, br_ff, Int.ofNat_lt, t1, t2, t3, t4, t5, t6, decide_true, decide_false, hm, q3]) |
                      (simp only [slices_symMergeCmpFunc_A, slices_symMergeCmpFunc_A_t, slices_symMergeCmpFunc_A_v0, slices_symMergeCmpFunc_A_v1, slices_symMergeCmpFunc_A_v2, slices_symMergeCmpFunc_A_v3, slices_symMergeCmpFunc_A_v4, slices_symMergeCmpFunc_A_v5, slices_symMergeCmpFunc_A_v6, slices_symMergeCmpFunc_A_v7, slices_symMergeCmpFunc_A_v8, slices_symMergeCmpFunc_A_v9, slices_symMergeCmpFunc_A_v10, slices_symMergeCmpFunc_A_v11, slices_symMergeCmpFunc_A_v12, slices_symMergeCmpFunc_A_v13, slices_symMergeCmpFunc_A_v14, slices_symMergeCmpFunc_A_v15, slices_symMergeCmpFunc_A_v16, slices_symMergeCmpFunc_A_v17, slices_symMergeCmpFunc_A_v18, slices_symMergeCmpFunc_A_v19, slices_symMergeCmpFunc_A_v20, slices_symMergeCmpFunc_A_v21, slices_symMergeCmpFunc_A_v22, slices_symMergeCmpFunc_A_v23, slices_symMergeCmpFunc_A_v24, wma, wbm, d1, d2, hh, w2, w3, w4, dm, e0, w5, Option.getD_some, Option.isSome_some, br_tt, br_ff, Int.ofNat_lt, t1, t2, t3, t4, t5, t6, decide_true, decide_false, hm, r3]) |
                      (simp only [slices_symMergeCmpFunc_A, slices_symMergeCmpFunc_A_t, slices_symMergeCmpFunc_A_v0, slices_symMergeCmpFunc_A_v1, slices_symMergeCmpFunc_A_v2, slices_symMergeCmpFunc_A_v3, slices_symMergeCmpFunc_A_v4, slices_symMergeCmpFunc_A_v5, slices_symMergeCmpFunc_A_v6, slices_symMergeCmpFunc_A_v7, slices_symMergeCmpFunc_A_v8, slices_symMergeCmpFunc_A_v9, slices_symMergeCmpFunc_A_v10, slices_symMergeCmpFunc_A_v11, slices_symMergeCmpFunc_A_v12, slices_symMergeCmpFunc_A_v13, slices_symMergeCmpFunc_A_v14, slices_symMergeCmpFunc_A_v15, slices_symMergeCmpFunc_A_v16, slices_symMergeCmpFunc_A_v17, slices_symMergeCmpFunc_A_v18, slices_symMergeCmpFunc_A_v19, slices_symMergeCmpFunc_A_v20, slices_symMergeCmpFunc_A_v21, slices_symMergeCmpFunc_A_v22, slices_symMergeCmpFunc_A_v23, slices_symMergeCmpFunc_A_v24, wma, wbm, d1, d2, hh, w2, w3, w4, dm, e0, w5, Option.getD_some, Option.isSome_some, br_tt, br_ff, Int.ofNat_lt, t1, t2, t3, t4, t5, t6, decide_true, decide_false, hm]))
                · rw [hlo, hhi] at e0
                  have dm : decide ((m : Int) > (mid : Int)) = false := by simp; omega
                  rcases k1 with ⟨p1, p2, p3, _⟩ | ⟨p1, rfl⟩ <;> rcases k2 with ⟨q1, q2, q3, _⟩ | ⟨q1, rfl⟩ <;> rcases k3 with ⟨r1, r2, r3, _⟩ | ⟨r1, rfl⟩ <;>
                    (by_cases t1 : s < m <;> by_cases t2 : m < e <;> by_cases t3 : a < s <;> by_cases t4 : s < mid <;> by_cases t5 : mid < e <;> by_cases t6 : e < b <;> first | (exfalso; omega) |
                      (simp only [slices_symMergeCmpFunc_A, slices_symMergeCmpFunc_A_t, slices_symMergeCmpFunc_A_v0, slices_symMergeCmpFunc_A_v1, slices_symMergeCmpFunc_A_v2, slices_symMergeCmpFunc_A_v3, slices_symMergeCmpFunc_A_v4, slices_symMergeCmpFunc_A_v5, slices_symMergeCmpFunc_A_v6, slices_symMergeCmpFunc_A_v7, slices_symMergeCmpFunc_A_v8, slices_symMergeCmpFunc_A_v9, slices_symMergeCmpFunc_A_v10, slices_symMergeCmpFunc_A_v11, slices_symMergeCmpFunc_A_v12, slices_symMergeCmpFunc_A_v13, slices_symMergeCmpFunc_A_v14, slices_symMergeCmpFunc_A_v15, slices_symMergeCmpFunc_A_v16, slices_symMergeCmpFunc_A_v17, slices_symMergeCmpFunc_A_v18, slices_symMergeCmpFunc_A_v19, slices_symMergeCmpFunc_A_v20, slices_symMergeCmpFunc_A_v21, slices_symMergeCmpFunc_A_v22, slices_symMergeCmpFunc_A_v23, slices_symMergeCmpFunc_A_v24, wma, wbm, d1, d2, hh, w2, w3, dm, e0, w5, Option.getD_some, Option.isSome_some, br_tt, br_ff, Int.ofNat_lt, t1, t2, t3, t4, t5, t6, decide_true, decide_false, hm, p3, q3, r3]) |
                      (simp only [slices_symMergeCmpFunc_A, slices_symMergeCmpFunc_A_t, slices_symMergeCmpFunc_A_v0, slices_symMergeCmpFunc_A_v1, slices_symMergeCmpFunc_A_v2, slices_symMergeCmpFunc_A_v3, slices_symMergeCmpFunc_A_v4, slices_symMergeCmpFunc_A_v5, slices_symMergeCmpFunc_A_v6, slices_symMergeCmpFunc_A_v7, slices_symMergeCmpFunc_A_v8, slices_symMergeCmpFunc_A_v9, slices_symMergeCmpFunc_A_v10, slices_symMergeCmpFunc_A_v11, slices_symMergeCmpFunc_A_v12, slices_symMergeCmpFunc_A_v13, slices_symMergeCmpFunc_A_v14, slices_symMergeCmpFunc_A_v15, slices_symMergeCmpFunc_A_v16, slices_symMergeCmpFunc_A_v17, slices_symMergeCmpFunc_A_v18, slices_symMergeCmpFunc_A_v19, slices_symMergeCmpFunc_A_v20, slices_symMergeCmpFunc_A_v21, slices_symMergeCmpFunc_A_v22, slices_symMergeCmpFunc_A_v23, slices_symMergeCmpFunc_A_v24, wma, wbm, d1, d2, hh, w2, w3, dm, e0, w5, Option.getD_some, Option.isSome_some, br_tt, br_ff, Int.ofNat_lt, t1, t2, t3, t4, t5, t6, decide_true, decide_false, hm, p3, q3]) |
                      (simp only [slices_symMergeCmpFunc_A, slices_symMergeCmpFunc_A_t, slices_symMergeCmpFunc_A_v0, slices_symMergeCmpFunc_A_v1, slices_symMergeCmpFunc_A_v2, slices_symMergeCmpFunc_A_v3, slices_symMergeCmpFunc_A_v4, slices_symMergeCmpFunc_A_v5, slices_symMergeCmpFunc_A_v6, slices_symMergeCmpFunc_A_v7, slices_symMergeCmpFunc_A_v8, slices_symMergeCmpFunc_A_v9, slices_symMergeCmpFunc_A_v10, slices_symMergeCmpFunc_A_v11, slices_symMergeCmpFunc_A_v12, slices_symMergeCmpFunc_A_v13, slices_symMergeCmpFunc_A_v14, slices_symMergeCmpFunc_A_v15, slices_symMergeCmpFunc_A_v16, slices_symMergeCmpFunc_A_v17, slices_symMergeCmpFunc_A_v18, slices_symMergeCmpFunc_A_v19, slices_symMergeCmpFunc_A_v20, slices_symMergeCmpFunc_A_v21, slices_symMergeCmpFunc_A_v22, slices_symMergeCmpFunc_A_v23, slices_symMergeCmpFunc_A_v24, wma, wbm, d1, d2, hh, w2, w3, dm, e0, w5, Option.getD_some, Option.isSome_some, br_tt, br_ff, Int.ofNat_lt, t1, t2, t3, t4, t5, t6, decide_true, decide_false, hm, p3, r3]) |
                      (simp only [slices_symMergeCmpFunc_A, slices_symMergeCmpFunc_A_t, slices_symMergeCmpFunc_A_v0, slices_symMergeCmpFunc_A_v1, slices_symMergeCmpFunc_A_v2, slices_symMergeCmpFunc_A_v3, slices_symMergeCmpFunc_A_v4, slices_symMergeCmpFunc_A_v5, slices_symMergeCmpFunc_A_v6, slices_symMergeCmpFunc_A_v7, slices_symMergeCmpFunc_A_v8, slices_symMergeCmpFunc_A_v9, slices_symMergeCmpFunc_A_v10, slices_symMergeCmpFunc_A_v11, slices_symMergeCmpFunc_A_v12, slices_symMergeCmpFunc_A_v13, slices_symMergeCmpFunc_A_v14, slices_symMergeCmpFunc_A_v15, slices_symMergeCmpFunc_A_v16, slices_symMergeCmpFunc_A_v17, slices_symMergeCmpFunc_A_v18, slices_symMergeCmpFunc_A_v19, slices_symMergeCmpFunc_A_v20, slices_symMergeCmpFunc_A_v21, slices_symMergeCmpFunc_A_v22, slices_symMergeCmpFunc_A_v23, slices_symMergeCmpFunc_A_v24, wma, wbm, d1, d2, hh, w2, w3, dm, e0, w5, Option.getD_some, Option.isSome_some, br_tt, br_ff, Int.ofNat_lt, t1, t2, t3, t4, t5, t6, decide_true, decide_false, hm, q3, r3]) |
                      (simp only [slices_symMergeCmpFunc_A, slices_symMergeCmpFunc_A_t, slices_symMergeCmpFunc_A_v0, slices_symMergeCmpFunc_A_v1, slices_symMergeCmpFunc_A_v2, slices_symMergeCmpFunc_A_v3, slices_symMergeCmpFunc_A_v4, slices_symMergeCmpFunc_A_v5, slices_symMergeCmpFunc_A_v6, slices_symMergeCmpFunc_A_v7, slices_symMergeCmpFunc_A_v8, slices_symMergeCmpFunc_A_v9, slices_symMergeCmpFunc_A_v10, slices_symMergeCmpFunc_A_v11, slices_symMergeCmpFunc_A_v12, slices_symMergeCmpFunc_A_v13, slices_symMergeCmpFunc_A_v14, slices_symMergeCmpFunc_A_v15, slices_symMergeCmpFunc_A_v16, slices_symMergeCmpFunc_A_v17, slices_symMergeCmpFunc_A_v18, slices_symMergeCmpFunc_A_v19, slices_symMergeCmpFunc_A_v20, slices_symMergeCmpFunc_A_v21, slices_symMergeCmpFunc_A_v22, slices_symMergeCmpFunc_A_v23, slices_symMergeCmpFunc_A_v24, wma, wbm, d1, d2, hh, w2, w3, dm, e0, w5, Option.getD_some, Option.isSome_some, br_tt, br_ff, Int.ofNat_lt, t1, t2, t3, t4, t5, t6, decide_true, decide_false, hm, p3]) |
                      (simp only [slices_symMergeCmpFunc_A, slices_symMergeCmpFunc_A_t, slices_symMergeCmpFunc_A_v0, slices_symMergeCmpFunc_A_v1, slices_symMergeCmpFunc_A_v2, slices_symMergeCmpFunc_A_v3, slices_symMergeCmpFunc_A_v4, slices_symMergeCmpFunc_A_v5, slices_symMergeCmpFunc_A_v6, slices_symMergeCmpFunc_A_v7, slices_symMergeCmpFunc_A_v8, slices_symMergeCmpFunc_A_v9, slices_symMergeCmpFunc_A_v10, slices_symMergeCmpFunc_A_v11, slices_symMergeCmpFunc_A_v12, slices_symMergeCmpFunc_A_v13, slices_symMergeCmpFunc_A_v14, slices_symMergeCmpFunc_A_v15, slices_symMergeCmpFunc_A_v16, slices_symMergeCmpFunc_A_v17, slices_symMergeCmpFunc_A_v18, slices_symMergeCmpFunc_A_v19, slices_symMergeCmpFunc_A_v20, slices_symMergeCmpFunc_A_v21, slices_symMergeCmpFunc_A_v22, slices_symMergeCmpFunc_A_v23, slices_symMergeCmpFunc_A_v24, wma, wbm, d1, d2, hh, w2, w3, dm, e0, w5, Option.getD_some, Option.isSome_some, br_tt, br_ff, Int.ofNat_lt, t1, t2, t3, t4, t5, t6, decide_true, decide_false, hm, q3]) |
                      (simp only [slices_symMergeCmpFunc_A, slices_symMergeCmpFunc_A_t, slices_symMergeCmpFunc_A_v0, slices_symMergeCmpFunc_A_v1, slices_symMergeCmpFunc_A_v2, slices_symMergeCmpFunc_A_v3, slices_symMergeCmpFunc_A_v4, slices_symMergeCmpFunc_A_v5, slices_symMergeCmpFunc_A_v6, slices_symMergeCmpFunc_A_v7, slices_symMergeCmpFunc_A_v8, slices_symMergeCmpFunc_A_v9, slices_symMergeCmpFunc_A_v10, slices_symMergeCmpFunc_A_v11, slices_symMergeCmpFunc_A_v12, slices_symMergeCmpFunc_A_v13, slices_symMergeCmpFunc_A_v14, slices_symMergeCmpFunc_A_v15, slices_symMergeCmpFunc_A_v16, slices_symMergeCmpFunc_A_v17, slices_symMergeCmpFunc_A_v18, slices_symMergeCmpFunc_A_v19, slices_symMergeCmpFunc_A_v20, slices_symMergeCmpFunc_A_v21, slices_symMergeCmpFunc_A_v22, slices_symMergeCmpFunc_A_v23, slices_symMergeCmpFunc_A_v24, wma, wbm, d1, d2, hh, w2, w3, dm, e0, w5, Option.getD_some, Option.isSome_some, br_tt, br_ff, Int.ofNat_lt, t1, t2, t3, t4, t5, t6, decide_true, decide_false, hm, r3]) |
                      (simp only [slices_symMergeCmpFunc_A, slices_symMergeCmpFunc_A_t, slices_symMergeCmpFunc_A_v0, slices_symMergeCmpFunc_A_v1, slices_symMergeCmpFunc_A_v2, slices_symMergeCmpFunc_A_v3, slices_symMergeCmpFunc_A_v4, slices_symMergeCmpFunc_A_v5, slices_symMergeCmpFunc_A_v6, slices_symMergeCmpFunc_A_v7, slices_symMergeCmpFunc_A_v8, slices_symMergeCmpFunc_A_v9, slices_symMergeCmpFunc_A_v10, slices_symMergeCmpFunc_A_v11, slices_symMergeCmpFunc_A_v12, slices_symMergeCmpFunc_A_v13, slices_symMergeCmpFunc_A_v14, slices_symMergeCmpFunc_A_v15, slices_symMergeCmpFunc_A_v16, slices_symMergeCmpFunc_A_v17, slices_symMergeCmpFunc_A_v18, slices_symMergeCmpFunc_A_v19, slices_symMergeCmpFunc_A_v20, slices_symMergeCmpFunc_A_v21, slices_symMergeCmpFunc_A_v22, slices_symMergeCmpFunc_A_v23, slices_symMergeCmpFunc_A_v24, wma, wbm, d1, d2, hh, w2, w3, dm, e0, w5, Option.getD_some, Option.isSome_some, br_tt, br_ff, Int.ofNat_lt, t1, t2, t3, t4, t5, t6, decide_true, decide_false, hm]))
              · rcases k3 with k | k
                · exact k.2.2.2
                · rw [k.2]; exact hl2

theorem stable_A {l r : List Row} (hl : LOk N ok l) (hr : stable c 1000 N l = some r) : slices_stableCmpFunc_A N N (encL l) = some (encL r) ∧ LOk N ok r := by
  unfold stable at hr
  cases h1 : Iter (stIns c N) (0, 20, l) with
  | none => rw [h1] at hr; simp at hr
  | some p =>
    obtain ⟨a, l1⟩ := p
    rw [h1] at hr
    dsimp only at hr
    obtain ⟨e1, ha, _, hl1⟩ := sim_pass hN (ok := ok) 20 (by omega) (p := stIns c N) (F := fun a b l => insSort c a b l) (fun a b l l' h e => by simp only [stIns, h, if_true, e]) (fun a b l h e => by simp only [stIns, h, if_true, e]) (fun a b l h => by simp only [stIns, h, if_false]) (G := fun a b xs => slices_insertionSortCmpFunc_A N a b xs) (fun a b l r hab _ hb hl hr => ins_A hN hc a b (by omega) hb hl hr) (g := slices_stableCmpFunc_A_l0_step N N 20) (fun a b xs => rfl) (a := 0) hl h1 (by omega)
    cases h2 : insSort c a N l1 with
    | none => rw [h2] at hr; simp at hr
    | some l2 =>
      rw [h2] at hr
      dsimp only at hr
      obtain ⟨e2, hl2⟩ := ins_A hN hc a N ha (Nat.le_refl _) hl1 h2
      have e3 : Iter (slices_stableCmpFunc_A_l1_step N N) (((20 : Nat) : Int), encL l2) = some (encL r) ∧ LOk N ok r := by
        refine iter_sim2 (I := fun s => 1 ≤ s.1 ∧ LOk N ok s.2) (J := LOk N ok) (e := fun (s : Nat × List Row) => ((s.1 : Int), encL s.2)) (f := encL) ?_ (s := (20, l2)) ⟨by omega, hl2⟩ hr
        rintro ⟨bs, l⟩ ⟨hb, hl⟩
        dsimp only at hb hl
        by_cases h : bs < N
        · have wb : IntKind.i64.wrap (2 * (bs : Int)) = ((2 * bs : Nat) : Int) := w64 (by omega) (by omega)
          have wb' : IntKind.i64.wrap ((bs : Int) * 2) = ((bs * 2 : Nat) : Int) := w64 (by omega) (by omega)
          cases h3 : Iter (stMrgIn c 1000 bs N) (0, 2 * bs, l) with
          | none => exact go_none (by simp [stMrg, h, h3])
          | some p =>
            obtain ⟨a, l3⟩ := p
            obtain ⟨f1, f2, f3, f4⟩ := sim_pass hN (ok := ok) (2 * bs) (by omega) (p := stMrgIn c 1000 bs N) (F := fun a b l => symM c 1000 a (a + bs) b l) (fun a b l l' h e => by simp only [stMrgIn, h, if_true, e]) (fun a b l h e => by simp only [stMrgIn, h, if_true, e]) (fun a b l h => by simp only [stMrgIn, h, if_false]) (G := fun a b xs => slices_symMergeCmpFunc_A_R 1000 N a (IntKind.i64.wrap (a + (bs : Int))) b xs) (fun a b l r hab hb2 hbN hl hr => by
                have := sym_A hN hc 1000 a (a + bs) b l r (by omega) (by omega) hbN hl hr
                rw [w64 (x := (a : Int) + (bs : Int)) (n := a + bs) (by omega) (by omega)]
                exact this) (g := slices_stableCmpFunc_A_l2_step N N bs) (fun a b xs => by rw [← wb]; rfl) (a := 0) hl (by rw [Nat.zero_add]; exact h3) (by omega)
            rw [Nat.zero_add, ← wb] at f1
            have f1' : Iter (slices_stableCmpFunc_A_l2_step N N bs) ((0 : Int), IntKind.i64.wrap (2 * (bs : Int)), encL l) = some ((a : Int), encL l3) := f1
            have wab : IntKind.i64.wrap ((a : Int) + (bs : Int)) = ((a + bs : Nat) : Int) := w64 (by omega) (by omega)
            by_cases h4 : a + bs < N
            · cases h5 : symM c 1000 a (a + bs) N l3 with
              | none => exact go_none (by simp [stMrg, h, h3, h4, h5])
              | some l4 =>
                obtain ⟨f5, f6⟩ := sym_A hN hc 1000 a (a + bs) N l3 l4 (by omega) h4 (Nat.le_refl _) f4 h5
                refine go_on (s0 := (bs * 2, l4)) (by simp [stMrg, h, h3, h4, h5]) ?_ ⟨by dsimp only; omega, f6⟩
                have q1 : (bs : Int) < (N : Int) := by omega
                have q2 : ((a + bs : Nat) : Int) < (N : Int) := by omega
                simp only [slices_stableCmpFunc_A_l1_step, slices_stableCmpFunc_A_l1_t, slices_stableCmpFunc_A_l1_v0, slices_stableCmpFunc_A_l1_v1, slices_stableCmpFunc_A_l1_v2, slices_stableCmpFunc_A_l1_v3, slices_stableCmpFunc_A_l1_v4, slices_stableCmpFunc_A_l1_v5, f1', q1, q2, decide_true, br_tt, Option.isSome_some, Option.getD_some, wab, f5, wb']
            · refine go_on (s0 := (bs * 2, l3)) (by simp [stMrg, h, h3, h4]) ?_ ⟨by dsimp only; omega, f4⟩
              have q1 : (bs : Int) < (N : Int) := by omega
              have q2 : ¬ ((a + bs : Nat) : Int) < (N : Int) := by omega
              simp only [slices_stableCmpFunc_A_l1_step, slices_stableCmpFunc_A_l1_t, slices_stableCmpFunc_A_l1_v0, slices_stableCmpFunc_A_l1_v1, slices_stableCmpFunc_A_l1_v2, slices_stableCmpFunc_A_l1_v3, slices_stableCmpFunc_A_l1_v4, slices_stableCmpFunc_A_l1_v5, f1', q1, q2, decide_true, decide_false, br_tt, br_ff, Option.isSome_some, Option.getD_some, wab, wb']
        · refine go_end (r0 := l) (by simp [stMrg, h]) ?_ hl
          have q1 : ¬ (bs : Int) < (N : Int) := by omega
          simp only [slices_stableCmpFunc_A_l1_step, slices_stableCmpFunc_A_l1_t, q1, decide_false, br_ff]
      have e1' : Iter (slices_stableCmpFunc_A_l0_step N N 20) ((0 : Int), (20 : Int), encL l) = some ((a : Int), encL l1) := e1
      have e3' : Iter (slices_stableCmpFunc_A_l1_step N N) ((20 : Int), encL l2) = some (encL r) := e3.1
      refine ⟨?_, e3.2⟩
      simp only [slices_stableCmpFunc_A, slices_stableCmpFunc_A_t, slices_stableCmpFunc_A_v0, slices_stableCmpFunc_A_v1, slices_stableCmpFunc_A_v2, e1', e2, e3', Option.isSome_some, Option.getD_some, br_tt]

end

/-- The copy ahead of the sort. -/
theorem copy_A {N : Nat} (hN : N * 24 ≤ 140737488355328) (l : List Row) (hl : l.length = N) (hr : ∀ x, x ∈ l → x.length ≤ 4398046511104) : ∀ (k i : Nat), i + k = N → Iter (tuple_sorted_A_l0_step (encL l) N) (i, (i : Int), encL (l.take i)) = some (N, encL l) := by
  intro k
  induction k with
  | zero =>
    intro i hi
    refine iter_end ?_
    have : ¬ (i : Int) < (N : Int) := by omega
    simp only [tuple_sorted_A_l0_step, tuple_sorted_A_l0_t, this, decide_false, br_ff]
    rw [List.take_of_length_le (by omega), show i = N by omega]
  | succ k ih =>
    intro i hi
    have hil : i < l.length := by omega
    refine iter_step_of (s' := (i + 1, ((i + 1 : Nat) : Int), encL (l.take (i + 1)))) ?_ (ih (i + 1) (by omega))
    have hx : l[i]? = some l[i] := by simp [hil]
    have k1 : (i : Int) < (N : Int) := by omega
    have k2 : (i : Int) < ((encL l).length : Int) := by simp; omega
    have k2' : (i : Int) < (l.length : Int) := by omega
    have k3 : i < (encL l).length := by simpa using hil
    have k4 := hr l[i] (List.getElem_mem hil)
    have k5 : (encL (l.take i)).length = i := by simp; omega
    have k6 : (i + 1) * 24 ≤ 140737488355328 := by omega
    have k7 : i + 1 ≤ 4611686018427387904 := by omega
    have k8 : encL (l.take (i + 1)) = encL (l.take i) ++ [AV.list 3 (l[i].map encV)] := by
      rw [List.take_add_one, hx, encL, List.map_append]; rfl
    simp only [tuple_sorted_A_l0_step, tuple_sorted_A_l0_t, k1, k2, k2', k3, hil, decide_true, br_tt, Int.natCast_nonneg, Bool.and_true, Bool.true_and, Int.toNat_natCast, gR hx, cells_encR, List.getD_cons_zero, sh_encR, toList_encR, List.length_map, k4, k5, beq_self_eq_true, k6, k7, w64 (x := (i : Int) + 1) (n := i + 1) (by omega) (by omega), k8]

theorem sorted_A {N : Nat} (hN : N * 24 ≤ 140737488355328) {c : Row → Row → Int} (hc : ∀ x y : Row, x.length ≤ 4398046511104 → y.length ≤ 4398046511104 → tuple_Compare_pre (x.map encV) (y.map encV) = true ∧ tuple_Compare (x.map encV) (y.map encV) = c x y) (l r : List Row) (hl : l.length = N) (ho : ∀ x, x ∈ l → x.length ≤ 4398046511104) (hr : stable c 1000 N l = some r) :
    tuple_Sort (encL l) = some (encL r) := by
  obtain ⟨e1, e2⟩ := stable_A (N := N) (by omega) (ok := fun x => x.length ≤ 4398046511104) hc ⟨hl, ho⟩ hr
  have e0 := copy_A hN l hl ho N 0 (by omega)
  have e0' : Iter (tuple_sorted_A_l0_step (encL l) (N : Int)) (0, (0 : Int), []) = some (N, encL l) := e0
  have k1 : (encL l).length = N := by simpa using hl
  have k2 : (24 : Int) * (N : Int) ≤ 281474976710656 := by omega
  have k3 : (N : Int) ≤ 4611686018427387904 := by omega
  have k4 : 0 + N ≤ (encL r).length := by simp; exact Nat.le_of_eq e2.len.symm
  have k4' : N ≤ r.length := Nat.le_of_eq e2.len.symm
  have k5 : List.take N (encL r) = encL r := List.take_of_length_le (by simp; exact Nat.le_of_eq e2.len)
  simp only [tuple_Sort, tuple_Sort_t, tuple_sorted_A, tuple_sorted_A_t, tuple_sorted_A_v0, tuple_sorted_A_v1, tuple_sorted_A_v2, tuple_sorted_A_v3, k1, e0', slices_SortStableFunc_A, slices_SortStableFunc_A_t, e1, k2, k3, k4, k4', decide_true, List.length_map, Bool.true_and, Bool.and_true, br_tt, Option.isSome_some, Option.getD_some, List.drop_zero, Nat.zero_add, k5, Int.natCast_nonneg]
  try simp

end Go.Sim.M
