/- Tables have a line for each row: where the line feeds of a table's text stand. -/
import Derived.Test.YtpnibjljhfgjaaaGreatDoorPlnI
set_option linter.unusedVariables false
set_option linter.unusedSectionVars false
set_option linter.unusedSimpArgs false
set_option maxRecDepth 100000
namespace Go.Sim.M
open Go.RowKit Go.Lib

/-! Texts without a line feed. -/
abbrev NoLf (s : Sx) : Prop := (10 : UInt8) ∉ s
theorem noLf_nil : NoLf [] := fun h => by cases h
theorem noLf_app {a b : Sx} (ha : NoLf a) (hb : NoLf b) : NoLf (a ++ b) := fun h => (List.mem_append.1 h).elim ha hb
theorem noLf_cnt {s : Sx} (h : NoLf s) : s.count 10 = 0 := List.count_eq_zero.2 h

theorem digit_no : ∀ m : Nat, m < 10 → UInt8.ofNat (48 + m) ≠ 10 := by decide
theorem dtail_no : ∀ n : Nat, NoLf (dtail n) := by
  intro n
  induction n using Nat.strongRecOn with
  | ind n ih =>
    unfold dtail
    split
    · exact noLf_nil
    · refine noLf_app (ih (n / 10) (by omega)) ?_
      have := digit_no (n % 10) (by omega)
      intro h
      exact this (List.mem_singleton.1 h).symm
theorem dec_no (n : Nat) : NoLf (decDigits n) := by
  rw [dec_eq]
  intro h
  rcases List.mem_cons.1 h with h | h
  · exact digit_no (lead n) (lead_lt n) h.symm
  · exact dtail_no n h
theorem itoa_no (n : Int) : NoLf (itoa n) := by
  unfold itoa
  split
  · intro h
    rcases List.mem_cons.1 h with h | h
    · exact absurd h (by decide)
    · exact dec_no _ h
  · exact dec_no _
theorem pTxt_no (f t : Int) : NoLf (pTxt f t) := by
  unfold pTxt
  split
  · refine noLf_app (noLf_app (noLf_app (noLf_app (by decide) (itoa_no _)) (by decide)) ?_) (by decide)
    split
    · decide
    · exact itoa_no _
  · exact noLf_nil

/-! Literals. -/
theorem pr_loop (s : Sx) (hs : s.length ≤ maxLen) : ∀ (k n : Nat), n + k = s.length → ∃ y, Iter (value_printable_l0_step s ((s.length : Nat) : Int)) ((n : Nat) : Int) = some y ∧ (br y.1 y.2.1 true = true → NoLf (s.drop n))
  | 0, n, hk => by
    obtain rfl : n = s.length := by omega
    refine ⟨(false, false, ()), iter_end ?_, fun _ => by rw [List.drop_length]; exact noLf_nil⟩
    have h' : ¬ ((s.length : Nat) : Int) < ((s.length : Nat) : Int) := by omega
    simp [value_printable_l0_step, value_printable_l0_t, br_if, h']
  | k + 1, n, hk => by
    have h : n < s.length := by omega
    have h' : (n : Int) < (s.length : Int) := by omega
    have gd : s.getD n 0 = s[n] := by simp [List.getD_eq_getElem?_getD, h]
    have st : value_printable_l0_step s ((s.length : Nat) : Int) ((n : Nat) : Int) = if ((s[n].toNat : Nat) : Int) < 32 then some (.inr (true, false, ())) else if ((s[n].toNat : Nat) : Int) > 126 then some (.inr (true, false, ())) else some (.inl ((n + 1 : Nat) : Int)) := by
      simp only [value_printable_l0_step, value_printable_l0_t, br_if, h', wrap_nat (show n + 1 ≤ maxLen by omega), Int.toNat_natCast, gd]
      simp only [decide_true, Bool.and_true, decide_eq_true_eq, show (0 : Int) ≤ (n : Int) by omega, if_true]
    by_cases h1 : ((s[n].toNat : Nat) : Int) < 32
    · rw [if_pos h1] at st
      exact ⟨_, iter_end st, fun e => by simp [br_if] at e⟩
    · rw [if_neg h1] at st
      by_cases h2 : ((s[n].toNat : Nat) : Int) > 126
      · rw [if_pos h2] at st
        exact ⟨_, iter_end st, fun e => by simp [br_if] at e⟩
      · rw [if_neg h2] at st
        obtain ⟨y, hy, hp⟩ := pr_loop s hs k (n + 1) (by omega)
        refine ⟨y, by rw [iter_step st]; exact hy, fun e => ?_⟩
        rw [drop_cons h]
        intro hm
        rcases List.mem_cons.1 hm with hm | hm
        · rw [← hm] at h1; exact h1 (by decide)
        · exact hp e hm
theorem print_no (s : Sx) (hs : s.length ≤ maxLen) : ∃ b, value_printable s = some b ∧ (b = true → NoLf s) := by
  obtain ⟨y, hy, hp⟩ := pr_loop s hs s.length 0 (by omega)
  refine ⟨br y.1 y.2.1 true, ?_, fun h => by simpa using hp h⟩
  unfold value_printable value_printable_t
  have hy : Iter (value_printable_l0_step s ((s.length : Nat) : Int)) 0 = some y := hy
  rw [hy]; simp only [Option.isSome_some, br_tt, Option.getD_some, br_some]

theorem flat_no : ∀ t : Sx, NoLf t → NoLf (t.flatMap qb)
  | [], _ => noLf_nil
  | c :: t, h => by
    rw [List.flatMap_cons]
    refine noLf_app ?_ (flat_no t fun hm => h (List.mem_cons_of_mem _ hm))
    unfold qb
    split
    · decide
    · intro hm; exact h (by rw [List.mem_singleton.1 hm]; exact List.mem_cons_self ..)

theorem literal_no (k i : Int) (t : Sx) (hl : t.length ≤ maxLen) : ∃ s, value_Literal k i t = some s ∧ NoLf s := by
  obtain ⟨p, hp, hno⟩ := print_no t hl
  obtain ⟨b, h1, h2, h3⟩ := valid_both k i t hl
  have hv : value_Valid k i t = some (vB p k i t) := by
    unfold value_Valid value_Valid_t; rw [hp]; simp only [Option.isSome_some, br_tt, Option.getD_some, br_some]; rfl
  have hb : b = vB p k i t := by rw [h1] at hv; simpa using hv
  unfold value_Literal value_Literal_t value_Literal_v0
  rw [h1]
  simp only [Option.isSome_some, br_tt, Option.getD_some]
  cases b with
  | false => exact ⟨[], rfl, noLf_nil⟩
  | true =>
    cases h3 rfl with
    | null g1 g2 g3 => subst g1 g2 g3; exact ⟨_, rfl, by decide⟩
    | int g1 g2 g3 g4 =>
      subst g1 g2
      have e : (decide (-9223372036854775808 ≤ i) && decide (i ≤ 9223372036854775807)) = true := by simp; omega
      rw [e]
      exact ⟨_, rfl, itoa_no i⟩
    | text g1 g2 g3 =>
      subst g1 g2
      have hc := count_le [39] (by simp) _ t (Nat.le_refl _)
      have hq := qb_len t
      have e1 : (decide (t.length < 4294967281) && decide (t.length + count t [39] * 2 ≤ 140737488355328)) = true := by simp; omega
      have e2 : decide (1 + (t.flatMap qb).length ≤ 4611686018427387904) = true := decide_eq_true (by omega)
      have e3 : decide (([(39 : UInt8)] ++ t.flatMap qb).length + 1 ≤ 4611686018427387904) = true := decide_eq_true (by simp only [List.length_append, List.length_cons, List.length_nil]; omega)
      have ht : NoLf t := hno (by
        have : vB p 2 0 t = p := by simp [vB, br_if, g3]; cases p <;> simp <;> omega
        rw [this] at hb; exact hb.symm)
      rw [e1, repl_quote, e2, e3]
      exact ⟨_, rfl, noLf_app (noLf_app (by decide) (flat_no t ht)) (by decide)⟩
    | bool g1 g2 g3 => subst g1 g2; rcases g3 with rfl | rfl <;> exact ⟨_, rfl, by decide⟩
theorem lit_no (v : Val) (hl : v.t.length ≤ maxLen) : NoLf (lit v) := by
  obtain ⟨s, h1, h2⟩ := literal_no v.k v.i v.t hl
  unfold lit; rw [h1]; exact h2

/-! Tables. -/
def NoLfs (l : List Sx) : Prop := ∀ s, s ∈ l → NoLf s
theorem noLfs_app {a b : List Sx} (ha : NoLfs a) (hb : NoLfs b) : NoLfs (a ++ b) := fun s h => (List.mem_append.1 h).elim (ha s) (hb s)
theorem joinTail_no (sep : Sx) (hs : NoLf sep) : ∀ l, NoLfs l → NoLf (joinTail sep l)
  | [], _ => noLf_nil
  | x :: l, h => by
    rw [joinTail_cons]
    exact noLf_app (noLf_app hs (h x (List.mem_cons_self ..))) (joinTail_no sep hs l fun s hm => h s (List.mem_cons_of_mem _ hm))
theorem join_no (sep : Sx) (hs : NoLf sep) (l : List Sx) (h : NoLfs l) : NoLf (join l sep) := by
  match l, h with
  | [], _ => exact noLf_nil
  | x :: l, h =>
    rw [join_cons]
    exact noLf_app (h x (List.mem_cons_self ..)) (joinTail_no sep hs l fun s hm => h s (List.mem_cons_of_mem _ hm))
theorem rep_no (c : UInt8) (hc : c ≠ 10) : ∀ n, NoLf (repeatL [c] n)
  | 0 => noLf_nil
  | n + 1 => by
    simp only [repeatL]
    refine noLf_app ?_ (rep_no c hc n)
    intro h; exact hc (List.mem_singleton.1 h).symm
theorem pd_no (w : Nat) (s : Sx) (h : NoLf s) : NoLf (pd w s) := noLf_app h (rep_no 32 (by decide) _)
theorem zip_no : ∀ (ws : List Nat) (r : List Sx), NoLfs r → NoLfs (List.zipWith pd ws r)
  | [], _, _ => fun s h => by simp at h
  | _ :: _, [], _ => fun s h => by simp at h
  | w :: ws, x :: r, h => fun s hm => by
    rw [List.zipWith_cons_cons] at hm
    rcases List.mem_cons.1 hm with rfl | hm
    · exact pd_no w x (h x (List.mem_cons_self ..))
    · exact zip_no ws r (fun s hm => h s (List.mem_cons_of_mem _ hm)) s hm
theorem padRow_no (ws : List Nat) (r : List Sx) (h : NoLfs r) : NoLfs (padRow ws r) :=
  noLfs_app (fun s hm => zip_no ws r h s (List.mem_of_mem_take hm)) (fun s hm => h s (List.mem_of_mem_drop hm))
theorem ln_cnt (ws : List Nat) (r : List Sx) (h : NoLfs r) : (lnTxt ws r).count 10 = 1 := by
  unfold lnTxt
  rw [List.count_append, noLf_cnt (join_no _ (by decide) _ (padRow_no ws r h))]; rfl
theorem mk_cnt (ws : List Nat) : (mkTxt ws).count 10 = 1 := by
  unfold mkTxt
  rw [List.count_append, noLf_cnt (join_no _ (by decide) _ fun s hm => ?_)]; rfl
  obtain ⟨w, _, rfl⟩ := List.mem_map.1 hm
  exact rep_no 45 (by decide) w
theorem rows_cnt (ws : List Nat) : ∀ rows : List (List Sx), (∀ r, r ∈ rows → NoLfs r) → (rowsTxt ws rows).count 10 = rows.length
  | [], _ => rfl
  | r :: rows, h => by
    have := rows_cnt ws rows fun x hx => h x (List.mem_cons_of_mem _ hx)
    simp only [rowsTxt, List.count_append, ln_cnt ws r (h r (List.mem_cons_self ..)), this, List.length_cons]; omega
theorem tab_cnt (head : List Sx) (rows : List (List Sx)) (ws : List Nat) (hh : NoLfs head) (hr : ∀ r, r ∈ rows → NoLfs r) : (tabTxt head rows ws).count 10 = rows.length + 2 := by
  unfold tabTxt
  rw [List.count_append, List.count_append, ln_cnt ws head hh, mk_cnt, rows_cnt ws rows hr]; omega
/-- Ends with a line feed. -/
def EndLf (s : Sx) : Prop := ∃ a, s = a ++ [10]
theorem endLf_app (a : Sx) {b : Sx} (h : EndLf b) : EndLf (a ++ b) := by
  obtain ⟨c, rfl⟩ := h
  exact ⟨a ++ c, by rw [List.append_assoc]⟩
theorem rows_end (ws : List Nat) : ∀ (rows : List (List Sx)) (a : Sx), EndLf a → EndLf (a ++ rowsTxt ws rows)
  | [], a, h => by simpa [rowsTxt] using h
  | r :: rows, a, h => by
    simp only [rowsTxt]
    rw [← List.append_assoc]
    exact rows_end ws rows _ (endLf_app a ⟨_, rfl⟩)
theorem tab_end (head : List Sx) (rows : List (List Sx)) (ws : List Nat) : EndLf (tabTxt head rows ws) := by
  unfold tabTxt
  exact rows_end ws rows _ (endLf_app _ ⟨_, rfl⟩)

/-! Rows. -/
theorem cellAt_no (row : Row) (hw : ∀ v, v ∈ row → v.wf) (i : Nat) : NoLf (cellAt row i) := by
  unfold cellAt
  split
  · rename_i v hv
    exact lit_no v (hw v (List.mem_of_getElem? hv)).2.2
  · exact noLf_nil
theorem vals_no (row : Row) (hw : ∀ v, v ∈ row → v.wf) (n : Nat) : NoLfs (vals row n) := fun s hm => by
  obtain ⟨i, _, rfl⟩ := List.mem_map.1 hm
  exact cellAt_no row hw i
theorem one_no {s : Sx} (h : NoLf s) : NoLfs [s] := fun x hx => by rw [List.mem_singleton.1 hx]; exact h
theorem rowF_no (tm : Bool) (N : Nat) (x : Fct) (hx : x.wf) : NoLfs (rowF tm N x) := by
  unfold rowF
  refine noLfs_app (vals_no x.row hx.1.2 N) ?_
  cases tm with
  | true => exact one_no (pTxt_no _ _)
  | false => exact fun s h => by simp at h
theorem headF_no (tm : Bool) (cs : List Col) (hn : ∀ c, c ∈ cs → NoLf c.name) : NoLfs (headF tm cs) := by
  unfold headF
  refine noLfs_app (fun s hm => ?_) ?_
  · obtain ⟨c, hc, rfl⟩ := List.mem_map.1 hm
    exact hn c hc
  · cases tm with
    | true => exact one_no (by decide)
    | false => exact fun s h => by simp at h
theorem rowV_no (N : Nat) (x : Ver) (hx : x.wf) : NoLfs (rowV N x) := by
  unfold rowV
  refine noLfs_app (noLfs_app (one_no (itoa_no _)) (vals_no x.row hx.2.1.2 N)) fun s hm => ?_
  simp only [List.mem_cons, List.not_mem_nil, or_false] at hm
  rcases hm with rfl | rfl | rfl | rfl
  · exact pTxt_no _ _
  · exact pTxt_no _ _
  · exact itoa_no _
  · split
    · decide
    · exact itoa_no _
theorem headV_no (cs : List Col) (hn : ∀ c, c ∈ cs → NoLf c.name) : NoLfs (headV cs) := by
  unfold headV
  refine noLfs_app (noLfs_app (one_no (by decide)) fun s hm => ?_) fun s hm => ?_
  · obtain ⟨c, hc, rfl⟩ := List.mem_map.1 hm
    exact hn c hc
  · simp only [List.mem_cons, List.not_mem_nil, or_false] at hm
    rcases hm with rfl | rfl | rfl | rfl <;> decide

/-! lines. -/
theorem lines_loop (s : Sx) (hs : s.length ≤ 70368744177664) : ∀ (k n c : Nat), n + k = s.length → c ≤ n → Iter (law55_lines_l0_step s ((s.length : Nat) : Int)) (((c : Nat) : Int), ((n : Nat) : Int)) = some ((c + (s.drop n).count 10 : Nat) : Int)
  | 0, n, c, hk, hc => by
    obtain rfl : n = s.length := by omega
    refine iter_end ?_
    have h' : ¬ ((s.length : Nat) : Int) < ((s.length : Nat) : Int) := by omega
    simp [law55_lines_l0_step, law55_lines_l0_t, br_if, h']
  | k + 1, n, c, hk, hc => by
    have h : n < s.length := by omega
    have h' : (n : Int) < (s.length : Int) := by omega
    have gd : s.getD n 0 = s[n] := by simp [List.getD_eq_getElem?_getD, h]
    have w1 := wrap_nat (n := n) (show n + 1 ≤ maxLen by unfold maxLen; omega)
    have w2 := wrap_nat (n := c) (show c + 1 ≤ maxLen by unfold maxLen; omega)
    have b : (((s[n].toNat : Nat) : Int) == 10) = decide (s[n] = 10) := by
      by_cases e : s[n] = 10
      · rw [e]; rfl
      · have : s[n].toNat ≠ 10 := fun h => e (by rw [← UInt8.ofNat_toNat (x := s[n]), h]; rfl)
        simp [e]; omega
    have st : law55_lines_l0_step s ((s.length : Nat) : Int) (((c : Nat) : Int), ((n : Nat) : Int)) = if s[n] = 10 then some (.inl (((c + 1 : Nat) : Int), ((n + 1 : Nat) : Int))) else some (.inl (((c : Nat) : Int), ((n + 1 : Nat) : Int))) := by
      simp only [law55_lines_l0_step, law55_lines_l0_t, br_if, h', w1, w2, Int.toNat_natCast, gd, b]
      simp only [decide_true, Bool.and_true, decide_eq_true_eq, show (0 : Int) ≤ (n : Int) by omega, if_true]
    rw [drop_cons h, List.count_cons]
    by_cases e : s[n] = 10
    · rw [if_pos e] at st
      rw [iter_step st, lines_loop s hs k (n + 1) (c + 1) (by omega) (by omega)]
      simp [e]; omega
    · rw [if_neg e] at st
      rw [iter_step st, lines_loop s hs k (n + 1) c (by omega) (by omega)]
      simp [e]
theorem lines_ok (s : Sx) (hs : s.length ≤ 70368744177664) (he : EndLf s) : law55_lines s = some (((s.count 10 : Nat) : Int), true) := by
  have hl := lines_loop s hs s.length 0 0 (by omega) (by omega)
  rw [List.drop_zero, Nat.zero_add] at hl
  have hl : Iter (law55_lines_l0_step s ((s.length : Nat) : Int)) (0, 0) = some ((s.count 10 : Nat) : Int) := hl
  obtain ⟨a, rfl⟩ := he
  have hlen : (a ++ [(10 : UInt8)]).length = a.length + 1 := by simp
  have w : IntKind.i64.wrap (((a.length + 1 : Nat) : Int) - 1) = ((a.length : Nat) : Int) := by rw [hlen] at hs; rw [wrap_i64 (by omega) (by omega)]; omega
  have gd : (a ++ [(10 : UInt8)]).getD a.length 0 = 10 := by simp [List.getD_eq_getElem?_getD]
  have ne : (!(a ++ [(10 : UInt8)]) == []) = true := by cases a <;> rfl
  unfold law55_lines law55_lines_t
  rw [hl, ne, hlen, w, Int.toNat_natCast, gd]
  have d1 : (0 : Int) ≤ ((a.length : Nat) : Int) := by omega
  have d2 : ((a.length : Nat) : Int) < ((a.length + 1 : Nat) : Int) := by omega
  rw [decide_eq_true d1, decide_eq_true d2]
  rfl
end Go.Sim.M
