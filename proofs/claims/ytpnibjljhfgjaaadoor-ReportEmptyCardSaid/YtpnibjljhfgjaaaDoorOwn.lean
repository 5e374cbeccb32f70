/- A row that a library function has made becomes a box of the call's own. -/
import Derived.Test.YtpnibjljhfgjaaaDoorLibR
set_option linter.unusedVariables false
set_option linter.unusedSimpArgs false
namespace Go.Sim
open Go.RowKit Go.Proofs

theorem own_new {w w' : World} {A : Nat → Prop} {M : Nat → Option MB} {B : Nat} {H : List Box} (hR : HR w A M B H) (hB : B ≤ w.heap.size) (hbel : Below w.heap.size w w') {e : TypeId} {sz : Nat} {v : Value} {xs : List AV} {news : List Value} {pm : Bool}
    (hown : w'.ownsRow w.heap.size e sz v xs.length news) (hok : ∀ x, x ∈ xs → x.okElem sz = true)
    (hr : ∀ i j, i < xs.length → j < sz → Rel w A (MP M pm) (news.getD (i * sz + j) undef) ((xs.getD i .top).cells.getD j .top)) :
    ∃ A' M', HR w' A' M' B (H ++ [⟨0, sz, e, xs, false, pm⟩]) ∧ Mv w A M w' A' M' ∧ (∀ b, b < w.heap.size → (A' b ↔ A b)) ∧ Rel w' A' M' v (.osl H.length 0 0 xs.length) := by
  have hmv0 : Mv w A M w' A M := ⟨hbel.size, fun b hb _ => hbel.block b hb, fun _ _ h => h, fun _ _ h _ => h, MExt.refl M, .of_new hbel fun _ _ h => .inl h⟩
  have hn : M H.length = none := hR.none_of_length (Nat.le_refl _)
  obtain ⟨hlen, h⟩ := hown
  rcases h with ⟨rfl, h0⟩ | ⟨g, cap, cur, rfl, hg, hh, hle, hcm, hcs, htk⟩
  · have : xs = [] := List.eq_nil_of_length_eq_zero h0
    subst this
    obtain ⟨k1, k2, k3⟩ := (hR.grow hbel).virt sz e pm
    exact ⟨A, _, k1, hmv0.trans k2, fun _ _ => Iff.rfl, k3 none⟩
  · have hgl : g < w'.heap.size := by
      rcases Nat.lt_or_ge g w'.heap.size with h | h
      · exact h
      · rw [Array.getElem?_eq_none h] at hh; simp at hh
    have hext := mext_put hn ⟨g, 0, sz, cap, e⟩
    have hA : ∀ b, b < w.heap.size → (A b ∨ b = g) → A b := fun b hb h => by
      rcases h with h | h
      · exact h
      · omega
    have hw : ∀ b, b < w.heap.size → ¬ A b → w'.heap[b]? = w.heap[b]? := fun b hb _ => hbel.block b hb
    have hcase : ∀ i m1, MPut M H.length ⟨g, 0, sz, cap, e⟩ i = some m1 → (i = H.length ∧ m1 = ⟨g, 0, sz, cap, e⟩) ∨ (i ≠ H.length ∧ M i = some m1) := fun i m1 h1 => by
      by_cases hi : i = H.length
      · subst hi; simp [MPut] at h1; exact .inl ⟨rfl, h1.symm⟩
      · exact .inr ⟨hi, by simpa [MPut, hi] using h1⟩
    have hlow : ∀ i m1, M i = some m1 → 0 < m1.cap → m1.b < w.heap.size := fun i m1 h1 h0 => by
      obtain ⟨bx, _, g2⟩ := hR.box i m1 h1
      exact g2.lt h0
    refine ⟨fun b => A b ∨ b = g, MPut M H.length ⟨g, 0, sz, cap, e⟩, ⟨fun i m1 h1 => ?_, fun i i' m1 m2 h1 h2 c1 c2 he => ?_, fun b hb => ?_⟩, ⟨hbel.size, hw, hA, fun _ _ h _ => .inl h, hext, .of_new hbel fun i m1 h1 => ?_⟩, fun b hb => ⟨hA b hb, .inl⟩, .osl _ H.length 0 0 xs.length ⟨g, 0, sz, cap, e⟩ (by simp [MPut]) (Nat.le_refl _) rfl fun _ => ⟨by simpa using hle, some ⟨g, 0, none⟩, by simp, fun _ => by simp⟩⟩
    · rcases hcase i m1 h1 with ⟨rfl, rfl⟩ | ⟨hi, hm⟩
      · refine ⟨⟨0, sz, e, xs, false, pm⟩, by simp, rfl, rfl, rfl, hcm, hle, hok, fun _ => Nat.le_trans hB hg, fun _ => hgl, fun _ => ⟨cur, hh, hcs, fun i j hi hj => ?_⟩, fun _ => ⟨fun _ => .inr rfl, fun _ => rfl⟩⟩
        have hk : i * sz + j < xs.length * sz := idx_lt hi hj
        have hk2 : i * sz + j < cur.size := by
          rw [hcs]; exact Nat.lt_of_lt_of_le hk (Nat.mul_le_mul_right _ hle)
        have e1 : news.getD (i * sz + j) undef = cur.getD (i * sz + j) undef := by
          rw [← htk]; simp [List.getD_eq_getElem?_getD, List.getElem?_take, hk, hk2]
        have := hr i j hi hj
        rw [e1] at this
        exact this.mono hw hbel.size hA (mext_mp hext pm)
      · obtain ⟨bx, g1, g2⟩ := hR.box i m1 hm
        have hlt : i < H.length := by
          rcases Nat.lt_or_ge i H.length with h' | h'
          · exact h'
          · rw [List.getElem?_eq_none h'] at g1; simp at g1
        refine ⟨bx, by rw [List.getElem?_append_left hlt]; exact g1, g2.mono (fun h0 => hbel.block _ (g2.lt h0)) hw hbel.size hA (fun h0 => ?_) hext⟩
        have hb := g2.lt h0
        exact (g2.guard h0).trans ⟨.inl, hA _ hb⟩
    · rcases hcase i m1 h1 with ⟨rfl, rfl⟩ | ⟨hi, hm⟩ <;> rcases hcase i' m2 h2 with ⟨rfl, rfl⟩ | ⟨hi', hm'⟩
      · rfl
      · have := hlow i' m2 hm' c2
        simp only at he; omega
      · have := hlow i m1 hm c1
        simp only at he; omega
      · exact hR.inj i i' m1 m2 hm hm' c1 c2 he
    · rcases hb with hb | rfl
      · exact Nat.lt_of_lt_of_le (hR.lt b hb) hbel.size
      · exact hgl
    · rcases hcase i m1 h1 with ⟨rfl, rfl⟩ | ⟨hi, hm⟩
      · exact .inr hg
      · exact .inl hm
end Go.Sim
