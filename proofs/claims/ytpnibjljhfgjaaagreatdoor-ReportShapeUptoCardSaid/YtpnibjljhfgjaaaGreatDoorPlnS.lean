/- Sizes of tables. -/
import Derived.Test.YtpnibjljhfgjaaaGreatDoorPlnZ
set_option linter.unusedVariables false
set_option linter.unusedSectionVars false
set_option linter.unusedSimpArgs false
set_option maxRecDepth 100000
namespace Go.Sim.M
open Go.RowKit Go.Lib

def tot : List Sx → Nat
  | [] => 0
  | s :: l => s.length + tot l
def leL : List Nat → List Nat → Prop
  | [], [] => True
  | a :: l, b :: m => a ≤ b ∧ leL l m
  | _, _ => False
def leS : List Sx → List Nat → Prop
  | [], [] => True
  | a :: l, b :: m => a.length ≤ b ∧ leS l m
  | _, _ => False

theorem leL_sum : ∀ a b, leL a b → a.sum ≤ b.sum
  | [], [], _ => Nat.le_refl _
  | a :: l, b :: m, h => by have := leL_sum l m h.2; have := h.1; simp only [List.sum_cons]; omega
  | [], _ :: _, h => h.elim
  | _ :: _, [], h => h.elim
theorem leL_mem : ∀ a b, leL a b → ∀ x, x ∈ a → x ≤ b.sum
  | [], [], _, x, hx => by simp at hx
  | a :: l, b :: m, h, x, hx => by
    have := h.1
    simp only [List.sum_cons]
    rcases List.mem_cons.1 hx with rfl | hx
    · omega
    · have := leL_mem l m h.2 x hx; omega
  | [], _ :: _, h, _, _ => h.elim
  | _ :: _, [], h, _, _ => h.elim
theorem leL_step : ∀ ws r B, leL ws B → leS r B → leL (stepW ws r) B
  | [], [], [], _, _ => trivial
  | w :: ws, s :: r, b :: B, h, h' => by
    refine ⟨?_, leL_step ws r B h.2 h'.2⟩
    have := h.1; have := h'.1
    show max w s.length ≤ b
    omega
  | [], _ :: _, [], _, h => h.elim
  | _ :: _, _, [], h, _ => h.elim
  | [], _, _ :: _, h, _ => h.elim
  | _ :: _, [], _ :: _, _, h => h.elim
theorem leL_zero : ∀ B : List Nat, leL (List.replicate B.length 0) B
  | [] => trivial
  | b :: B => ⟨Nat.zero_le _, leL_zero B⟩
theorem leL_fold : ∀ (all : List (List Sx)) ws B, leL ws B → (∀ r, r ∈ all → leS r B) → leL (all.foldl stepW ws) B
  | [], ws, B, h, _ => h
  | r :: l, ws, B, h, hr => leL_fold l _ B (leL_step ws r B h (hr r (by simp))) fun q hq => hr q (by simp [hq])
theorem leS_append : ∀ a b A B, leS a A → leS b B → leS (a ++ b) (A ++ B)
  | [], b, [], B, _, h => h
  | x :: a, b, y :: A, B, h, h' => ⟨h.1, leS_append a b A B h.2 h'⟩
  | [], _, _ :: _, _, h, _ => h.elim
  | _ :: _, _, [], _, h, _ => h.elim

theorem tot_le : ∀ (l : List Sx) (ws : List Nat), l.length = ws.length → (∀ (i : Nat) (h : i < l.length) (h' : i < ws.length), l[i].length ≤ ws[i]) → tot l ≤ ws.sum
  | [], [], _, _ => Nat.le_refl _
  | s :: l, w :: ws, hl, h => by
    have h0 := h 0 (by simp) (by simp)
    have ih := tot_le l ws (by simpa using hl) fun i hi hi' => h (i + 1) (by simp; omega) (by simp; omega)
    simp only [List.getElem_cons_zero] at h0
    simp only [tot, List.sum_cons]; omega
  | [], _ :: _, h, _ => by simp at h
  | _ :: _, [], h, _ => by simp at h

theorem joinTail_len (sep : Sx) : ∀ l, (joinTail sep l).length = tot l + sep.length * l.length
  | [] => rfl
  | s :: l => by
    rw [joinTail_cons, List.length_append, List.length_append, joinTail_len sep l, List.length_cons, tot, Nat.mul_add]; omega
theorem join_len (sep : Sx) (l : List Sx) : (join l sep).length ≤ tot l + sep.length * l.length := by
  cases l with
  | nil => simp [join_nil]
  | cons s l => rw [join_cons, List.length_append, joinTail_len, List.length_cons, tot, Nat.mul_add]; omega

theorem ln_len (ws : List Nat) (r : List Sx) (hf : Fit ws r) : (lnTxt ws r).length ≤ ws.sum + 3 * ws.length + 1 := by
  have h := join_len [32, 124, 32] (padRow ws r)
  have hp := padRow_len ws r hf.1
  have t : tot (padRow ws r) ≤ ws.sum := tot_le _ _ (by rw [hp, hf.1]) fun i h1 h2 => by
    rw [padRow_get ws r hf.1 i (by omega) h1]
    have b := hf.2 i (by omega) h2
    split
    · rw [pd_len _ _ b]; exact Nat.le_refl _
    · exact b
  have hl := hf.1
  simp only [List.length_cons, List.length_nil] at h
  simp only [lnTxt, List.length_append, List.length_cons, List.length_nil]
  omega
theorem mk_tot : ∀ ws : List Nat, tot (ws.map mk) = ws.sum
  | [] => rfl
  | w :: ws => by simp only [List.map_cons, tot, mk_len, mk_tot ws, List.sum_cons]
theorem mkTxt_len (ws : List Nat) : (mkTxt ws).length ≤ ws.sum + 3 * ws.length + 1 := by
  have h := join_len [45, 43, 45] (ws.map mk)
  simp only [List.length_cons, List.length_nil, mk_tot, List.length_map] at h
  simp only [mkTxt, List.length_append, List.length_cons, List.length_nil]
  omega
theorem rowsTxt_len (ws : List Nat) : ∀ rows : List (List Sx), (∀ r, r ∈ rows → Fit ws r) → (rowsTxt ws rows).length ≤ rows.length * (ws.sum + 3 * ws.length + 1)
  | [], _ => by simp [rowsTxt]
  | r :: l, h => by
    have h1 := ln_len ws r (h r (by simp))
    have h2 := rowsTxt_len ws l fun q hq => h q (by simp [hq])
    rw [rowsTxt, List.length_append, List.length_cons, Nat.add_mul]; omega

/-- A table's text is not long. -/
theorem tab_len (head : List Sx) (rest : List (List Sx)) (B : List Nat) (hh : leS head B) (hr : ∀ r, r ∈ rest → leS r B) (hl : ∀ r, r ∈ head :: rest → r.length = B.length) :
    (tabTxt head rest (widthsOf (head :: rest) B.length)).length ≤ (rest.length + 2) * (B.sum + 3 * B.length + 1) := by
  have hall : ∀ r, r ∈ head :: rest → leS r B := fun r h => by
    rcases List.mem_cons.1 h with rfl | h
    · exact hh
    · exact hr r h
  have hw := leL_fold (head :: rest) _ B (leL_zero B) hall
  have hs := leL_sum _ _ hw
  have hfit := fold_fit (head :: rest) (List.replicate B.length 0) B.length hl (by simp)
  have hwl := fold_len (head :: rest) (List.replicate B.length 0) B.length hl (by simp)
  change (widthsOf (head :: rest) B.length).sum ≤ _ at hs
  change ∀ r, r ∈ _ → Fit (widthsOf (head :: rest) B.length) r at hfit
  change (widthsOf (head :: rest) B.length).length = _ at hwl
  generalize widthsOf (head :: rest) B.length = ws at *
  have h1 := ln_len ws head (hfit head (by simp))
  have h2 := mkTxt_len ws
  have h3 := rowsTxt_len ws rest fun r hq => hfit r (by simp [hq])
  have h4 : rest.length * (ws.sum + 3 * ws.length + 1) ≤ rest.length * (B.sum + 3 * B.length + 1) := Nat.mul_le_mul_left _ (by omega)
  rw [tabTxt, List.length_append, List.length_append, Nat.add_mul]
  omega
theorem tab_widths (head : List Sx) (rest : List (List Sx)) (B : List Nat) (hh : leS head B) (hr : ∀ r, r ∈ rest → leS r B) : ∀ w, w ∈ widthsOf (head :: rest) B.length → w ≤ B.sum := by
  have hall : ∀ r, r ∈ head :: rest → leS r B := fun r h => by
    rcases List.mem_cons.1 h with rfl | h
    · exact hh
    · exact hr r h
  exact leL_mem _ _ (leL_fold (head :: rest) _ B (leL_zero B) hall)

theorem leS_names : ∀ (cs : List Col), leS (namesOf cs) (cs.map fun c => c.name.length + 410)
  | [] => trivial
  | c :: cs => ⟨Nat.le_add_right _ _, leS_names cs⟩
theorem leS_map {α : Type} (g : Nat → Sx) (hg : ∀ i, (g i).length ≤ 410) : ∀ (cs : List Col) (l : List Nat), l.length = cs.length → leS (l.map g) (cs.map fun c => c.name.length + 410)
  | [], [], _ => trivial
  | c :: cs, i :: l, h => ⟨Nat.le_trans (hg i) (Nat.le_add_left _ _), leS_map (α := α) g hg cs l (by simpa using h)⟩
  | [], _ :: _, h => by simp at h
  | _ :: _, [], h => by simp at h
theorem leS_vals (cs : List Col) (row : Row) (hw : row.wf) : leS (vals row cs.length) (cs.map fun c => c.name.length + 410) :=
  leS_map (α := Unit) (cellAt row) (cellAt_len row hw.2) cs (List.range cs.length) (by simp)
end Go.Sim.M
