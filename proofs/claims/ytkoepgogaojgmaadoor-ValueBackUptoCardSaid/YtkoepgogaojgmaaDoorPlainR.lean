/- The law of reading back: a literal reads as its value, and what is read is written as it was. -/
import Derived.Test.YtkoepgogaojgmaaDoorPlainK
set_option linter.unusedVariables false
set_option linter.unusedSimpArgs false
set_option maxRecDepth 100000
namespace Go.Sim.M
open Go.RowKit Go.Lib

theorem digit_toNat {m : Nat} (h : m < 10) : (UInt8.ofNat (48 + m)).toNat = 48 + m := by
  simp [UInt8.toNat_ofNat']; omega

theorem digit_isD {m : Nat} (h : m < 10) : isD (UInt8.ofNat (48 + m)) = true := by
  unfold isD; rw [digit_toNat h]; simp; omega

theorem stepD_small {n : Int} {m : Nat} (h : m < 10) (hn : n * 10 + m ≤ 1125899906842624) : stepD n (UInt8.ofNat (48 + m)) = n * 10 + m := by
  unfold stepD; rw [digit_toNat h, if_neg (by omega)]; omega

theorem dec_all (n : Nat) : (decDigits n).all isD = true := by
  induction n using Nat.strongRecOn with
  | _ n ih =>
    rw [decDigits]
    split
    · rename_i h; rw [List.all_cons, digit_isD h]; rfl
    · rename_i h
      rw [List.all_append, ih (n / 10) (by omega), List.all_cons, digit_isD (Nat.mod_lt n (by omega))]; rfl

theorem dec_fold (n : Nat) (hn : n ≤ 1125899906842624) : foldV (decDigits n) = n := by
  induction n using Nat.strongRecOn with
  | _ n ih =>
    rw [decDigits]
    split
    · rename_i h
      show stepD 0 _ = _
      rw [stepD_small h (by omega)]; omega
    · rename_i h
      have ih := ih (n / 10) (by omega) (by omega)
      unfold foldV at ih ⊢
      rw [List.foldl_append, ih]
      show stepD _ _ = _
      rw [stepD_small (Nat.mod_lt n (by omega)) (by omega)]; omega

theorem isD_digit {c : UInt8} (h : isD c = true) : UInt8.ofNat (48 + (c.toNat - 48)) = c := by
  have := isD_range h
  rw [show 48 + (c.toNat - 48) = c.toNat by omega]; simp

/-- Digits without a leading zero are the decimal numeral of what they read as. -/
theorem fold_dec : ∀ (m : Nat) (d : List UInt8), d.length = m → d ≠ [] → d.all isD = true → (d.getD 0 0 ≠ 48 ∨ d.length = 1) → foldV d ≤ 1125899906842624 → decDigits (foldV d).toNat = d
  | 0, d, hm, hne, _, _, _ => (hne (List.length_eq_zero_iff.1 hm)).elim
  | m + 1, d, hm, hne, ha, hz, hf => by
    rcases List.eq_nil_or_concat d with rfl | ⟨u, c, rfl⟩
    · exact (hne rfl).elim
    · rw [List.concat_eq_append] at *
      rw [List.all_append, Bool.and_eq_true] at ha
      have hc : isD c = true := by simpa using ha.2
      have hr := isD_range hc
      by_cases hu : u = []
      · subst hu
        have e : foldV ([] ++ [c]) = ((c.toNat - 48 : Nat) : Int) := by
          show stepD 0 c = _
          unfold stepD; rw [if_neg (by omega)]; omega
        rw [e, Int.toNat_natCast, decDigits, dif_pos (by omega), isD_digit hc]; rfl
      · have hz' : u.getD 0 0 ≠ 48 := by
          rcases hz with hz | hz
          · cases u with
            | nil => exact (hu rfl).elim
            | cons x u => exact hz
          · have := List.length_pos_iff.2 hu
            simp only [List.length_append, List.length_cons, List.length_nil] at hz; omega
        have hpos : 1 ≤ foldV u := by
          cases u with
          | nil => exact (hu rfl).elim
          | cons x u => exact fold_lead ha.1 hz'
        have e : foldV (u ++ [c]) = stepD (foldV u) c := by unfold foldV; rw [List.foldl_append]; rfl
        have e2 : foldV (u ++ [c]) = foldV u * 10 + ((c.toNat : Int) - 48) := by
          rw [e] at hf ⊢
          unfold stepD at hf ⊢
          split at hf
          · omega
          · rename_i hh; rw [if_neg hh]
        have hfu : foldV u ≤ 1125899906842624 := by rw [e2] at hf; omega
        have ih := fold_dec m u (by simp only [List.length_append, List.length_cons, List.length_nil] at hm; omega) hu ha.1 (.inl hz') hfu
        obtain ⟨v, hv⟩ : ∃ v : Nat, foldV u = v := ⟨(foldV u).toNat, by omega⟩
        rw [hv] at ih e2 hpos
        rw [Int.toNat_natCast] at ih
        have et : (foldV (u ++ [c])).toNat = v * 10 + (c.toNat - 48) := by rw [e2]; omega
        rw [et, decDigits, dif_neg (by omega)]
        have q : (v * 10 + (c.toNat - 48)) / 10 = v := by omega
        have r : (v * 10 + (c.toNat - 48)) % 10 = c.toNat - 48 := by omega
        rw [q, r, ih, isD_digit hc]

theorem lead_zero (n : Nat) (h : lead n = 0) : n = 0 := by
  induction n using Nat.strongRecOn with
  | _ n ih =>
    rw [lead] at h
    split at h
    · exact h
    · have := ih (n / 10) (by omega) h; omega

theorem digit_ne {m : Nat} (h : m < 10) (hm : m ≠ 0) : UInt8.ofNat (48 + m) ≠ 48 := fun e => by
  have := congrArg UInt8.toNat e
  rw [digit_toNat h] at this
  have : (48 : UInt8).toNat = 48 := rfl
  omega

/-- A numeral reads as its number. -/
theorem num_dec (n : Nat) (neg : Bool) (hn : n ≤ 1125899906842624) (hz : neg = true → n ≠ 0) : numV (decDigits n) neg = (1, br neg (-(n : Int)) n, [], 0) := by
  unfold numV
  rw [dec_all, dec_fold n hn]
  have e1 : (decDigits n == []) = false := by rw [dec_eq]; rfl
  have e2 : (decide ((decDigits n).getD 0 0 = 48) && (neg || decide (1 < (decDigits n).length))) = false := by
    rw [dec_eq]
    by_cases h0 : lead n = 0
    · have h1 := lead_zero n h0
      subst h1
      have : neg = false := by cases neg with | false => rfl | true => exact (hz rfl rfl).elim
      subst this
      have : dtail 0 = [] := by rw [dtail, dif_pos (by omega)]
      rw [this]; simp
    · have := digit_ne (lead_lt n) h0
      have e : decide ((UInt8.ofNat (48 + lead n) :: dtail n).getD 0 0 = 48) = false := decide_eq_false this
      rw [e]; rfl
  rw [e1, e2, decide_eq_false (show ¬ (n : Int) > 1125899906842624 by omega)]
  rfl

theorem dec_head (n : Nat) : ∃ m r, m < 10 ∧ decDigits n = UInt8.ofNat (48 + m) :: r := ⟨lead n, dtail n, lead_lt n, dec_eq n⟩

theorem digit_ne_of {m : Nat} (h : m < 10) {c : UInt8} (hc : c.toNat < 48 ∨ 57 < c.toNat) : UInt8.ofNat (48 + m) ≠ c := fun e => by
  have := congrArg UInt8.toNat e
  rw [digit_toNat h] at this; omega

theorem words_ne {b : UInt8} {r : List UInt8} (h1 : b ≠ 78) (h2 : b ≠ 84) (h3 : b ≠ 70) : ((b :: r) == wNULL) = false ∧ ((b :: r) == wTRUE) = false ∧ ((b :: r) == wFALSE) = false := by
  refine ⟨?_, ?_, ?_⟩ <;> simp [wNULL, wTRUE, wFALSE, h1, h2, h3]

theorem parseV_rest {b : UInt8} {r : List UInt8} (h1 : b ≠ 78) (h2 : b ≠ 84) (h3 : b ≠ 70) : parseV (b :: r) = restV (b :: r) := by
  obtain ⟨e1, e2, e3⟩ := words_ne (r := r) h1 h2 h3
  unfold parseV; rw [e1, e2, e3]; rfl

theorem parse_lit {k i : Int} {t : List UInt8} (hv : VForm k i t) : parseV (litV k i t) = (k, i, t, 0) := by
  cases hv with
  | null h1 h2 h3 => subst h1 h2 h3; rfl
  | bool h1 h2 h3 => subst h1 h2; rcases h3 with rfl | rfl <;> rfl
  | text h1 h2 h3 h4 =>
    subst h1 h2
    show parseV (quoteV t) = _
    have e : quoteV t = 39 :: (t.flatMap qb ++ [39]) := rfl
    obtain ⟨u1, u2⟩ := unq_quote t
    rw [e, parseV_rest (by decide) (by decide) (by decide)]
    simp only [restV, if_true, List.getLast?_append, List.getLast?_singleton, Option.some_or, List.dropLast_concat]
    unfold textV
    rw [u1, u2, ← unq_all _ u1, u2, h4, decide_eq_true h3]; rfl
  | int h1 h2 h3 h4 =>
    subst h1 h2
    show parseV (itoa i) = _
    unfold itoa
    by_cases hn : i < 0
    · rw [if_pos hn, parseV_rest (by decide) (by decide) (by decide)]
      show numV (decDigits i.natAbs) true = _
      rw [num_dec _ _ (by omega) (fun _ => by omega)]
      simp only [br_tt]
      rw [show -((i.natAbs : Nat) : Int) = i by omega]
    · rw [if_neg hn]
      obtain ⟨m, r, hm, hd⟩ := dec_head i.toNat
      have e39 : UInt8.ofNat (48 + m) ≠ 39 := digit_ne_of hm (.inl (by decide))
      have e45 : UInt8.ofNat (48 + m) ≠ 45 := digit_ne_of hm (.inl (by decide))
      have key := num_dec i.toNat false (by omega) (fun h => by simp at h)
      rw [hd] at key ⊢
      rw [parseV_rest (digit_ne_of hm (.inr (by decide))) (digit_ne_of hm (.inr (by decide))) (digit_ne_of hm (.inr (by decide)))]
      simp only [restV, if_neg e39, if_neg e45]
      rw [key]
      simp only [br_ff]
      rw [show ((i.toNat : Nat) : Int) = i by omega]

/-- What comes of reading: an error, and then nothing; or a value whose literal was read. -/
def Back (s : List UInt8) (p : Int × Int × List UInt8 × Int) : Prop := (p.2.2.2 ≠ 0 ∧ p.1 = 0 ∧ p.2.1 = 0 ∧ p.2.2.1 = []) ∨ (p.2.2.2 = 0 ∧ value_Valid p.1 p.2.1 p.2.2.1 = true ∧ litV p.1 p.2.1 p.2.2.1 = s)

theorem back_err (s : List UInt8) {e : Int} (h : e ≠ 0) : Back s (errV e) := .inl ⟨h, rfl, rfl, rfl⟩

theorem valid_text {t : List UInt8} (h : t.length ≤ 200) (ha : t.all okb = true) : value_Valid 2 0 t = true := by
  have e : decide ((t.length : Int) ≤ 200) = true := decide_eq_true (by omega)
  unfold value_Valid; rw [e, pp_pre (le200 e), pp_eq (le200 e), ha]; rfl
theorem valid_int {n : Int} (h1 : -1125899906842624 ≤ n) (h2 : n ≤ 1125899906842624) : value_Valid 1 n [] = true := by
  unfold value_Valid; rw [decide_eq_true h1, decide_eq_true h2]; rfl

theorem back_text (u : List UInt8) : Back (39 :: (u ++ [39])) (textV u) := by
  unfold textV
  cases ha : u.all okb with
  | false => exact back_err _ (by decide)
  | true =>
    cases hu : unqOk u with
    | false => exact back_err _ (by decide)
    | true =>
      simp only [Bool.and_true, br_tt]
      by_cases hl : (unq u).length ≤ 200
      · rw [decide_eq_true hl]
        refine .inr ⟨rfl, valid_text hl (by show (unq u).all okb = true; rw [unq_all u hu]; exact ha), ?_⟩
        show quoteV (unq u) = _
        unfold quoteV; rw [quote_unq u hu]; rfl
      · rw [decide_eq_false hl]; exact back_err _ (by decide)

theorem back_num (d : List UInt8) (neg : Bool) : Back (br neg (45 :: d) d) (numV d neg) := by
  unfold numV
  cases hd : d == [] with
  | true => exact back_err _ (by decide)
  | false =>
    have hne : d ≠ [] := by simpa using hd
    cases hz : (decide (d.getD 0 0 = 48) && (neg || decide (1 < d.length))) with
    | true => exact back_err _ (by decide)
    | false =>
      cases ha : d.all isD with
      | false => exact back_err _ (by decide)
      | true =>
        cases hf : decide (foldV d > 1125899906842624) with
        | true => exact back_err _ (by decide)
        | false =>
          have hf := of_decide_eq_false hf
          have hr := fold_range d 0 ha ⟨by decide, by decide⟩
          have hr : 0 ≤ foldV d := hr.1
          have hlead : d.getD 0 0 ≠ 48 ∨ d.length = 1 := by
            by_cases g : d.getD 0 0 = 48
            · right
              rw [decide_eq_true g] at hz
              have := List.length_pos_iff.2 hne
              cases neg <;> simp at hz
              omega
            · exact .inl g
          have hdec := fold_dec d.length d rfl hne ha hlead (by omega)
          cases neg with
          | false =>
            refine .inr ⟨rfl, valid_int (by simp only [br_tt, br_ff]; omega) (by simp only [br_tt, br_ff]; omega), ?_⟩
            show itoa (foldV d) = d
            unfold itoa; rw [if_neg (by omega), hdec]
          | true =>
            have hg : d.getD 0 0 ≠ 48 := fun g => by rw [decide_eq_true g] at hz; simp at hz
            have hpos : 1 ≤ foldV d := by
              match d, hne with
              | c :: r, _ => exact fold_lead ha hg
            refine .inr ⟨rfl, valid_int (by simp only [br_tt, br_ff]; omega) (by simp only [br_tt, br_ff]; omega), ?_⟩
            show itoa (-(foldV d)) = 45 :: d
            unfold itoa; rw [if_pos (by omega), show (-(foldV d)).natAbs = (foldV d).toNat by omega, hdec]

theorem back_rest (s : List UInt8) : Back s (restV s) := by
  match s with
  | [] => exact back_err _ (by decide)
  | b :: r =>
    by_cases hq : b = 39
    · subst hq
      rcases List.eq_nil_or_concat r with rfl | ⟨u, x, rfl⟩
      · exact back_err _ (by decide)
      · rw [List.concat_eq_append]
        simp only [restV, if_true, List.getLast?_append, List.getLast?_singleton, Option.some_or, List.dropLast_concat]
        by_cases hx : x = 39
        · subst hx; rw [if_pos rfl]; exact back_text u
        · rw [if_neg hx]; exact back_err _ (by decide)
    · by_cases hm : b = 45
      · subst hm; exact back_num r true
      · simp only [restV, if_neg hq, if_neg hm]; exact back_num (b :: r) false

theorem back_parse (s : List UInt8) : Back s (parseV s) := by
  unfold parseV
  cases h0 : s == wNULL with
  | true => have := beq_iff_eq.1 h0; subst this; exact .inr ⟨rfl, rfl, rfl⟩
  | false =>
    cases h1 : s == wTRUE with
    | true => have := beq_iff_eq.1 h1; subst this; exact .inr ⟨rfl, rfl, rfl⟩
    | false =>
      cases h2 : s == wFALSE with
      | true => have := beq_iff_eq.1 h2; subst this; exact .inr ⟨rfl, rfl, rfl⟩
      | false => exact back_rest s

theorem dec_len : ∀ (k n : Nat), n < 10 ^ (k + 1) → (decDigits n).length ≤ k + 1
  | 0, n, h => by
    rw [decDigits, dif_pos (by simpa using h)]; simp
  | k + 1, n, h => by
    rw [decDigits]
    split
    · simp
    · have := dec_len k (n / 10) (by
        apply Nat.div_lt_of_lt_mul
        rw [Nat.pow_succ] at h; omega)
      simp only [List.length_append, List.length_cons, List.length_nil]; omega

theorem lit_len {k i : Int} {t : List UInt8} (hv : VForm k i t) : (litV k i t).length ≤ big := by
  unfold big
  cases hv with
  | null h1 h2 h3 => subst h1 h2 h3; show 4 ≤ _; omega
  | bool h1 h2 h3 => subst h1 h2; rcases h3 with rfl | rfl <;> decide
  | text h1 h2 h3 h4 =>
    subst h1 h2
    show (quoteV t).length ≤ _
    have := qb_len t
    unfold quoteV
    simp only [List.length_append, List.length_cons, List.length_nil]; omega
  | int h1 h2 h3 h4 =>
    subst h1 h2
    show (itoa i).length ≤ _
    unfold itoa
    by_cases hn : i < 0
    · rw [if_pos hn]
      have := dec_len 16 i.natAbs (by omega)
      simp only [List.length_cons]; omega
    · rw [if_neg hn]
      have := dec_len 16 i.toNat (by omega)
      omega

section
variable (k i : Int) (t s : List UInt8)

theorem back_tail (h : s.length ≤ big) :
    (br (value_Parse_pre s) (br ((value_Parse s).snd.snd.snd != 0) (br ((value_Parse s).fst == 0 && ((value_Parse s).snd.fst == 0 && ((value_Parse s).snd.snd.fst == [] && true))) true false)
      (br (value_Valid_pre (value_Parse s).fst (value_Parse s).snd.fst (value_Parse s).snd.snd.fst) (br (value_Valid (value_Parse s).fst (value_Parse s).snd.fst (value_Parse s).snd.snd.fst)
        (br (value_Literal_pre (value_Parse s).fst (value_Parse s).snd.fst (value_Parse s).snd.snd.fst) (br (value_Literal (value_Parse s).fst (value_Parse s).snd.fst (value_Parse s).snd.snd.fst == s) true false) false) false) false)) false) = true ∧
    (br (value_Parse_pre s) (br ((value_Parse s).snd.snd.snd != 0) (br ((value_Parse s).fst == 0 && ((value_Parse s).snd.fst == 0 && ((value_Parse s).snd.snd.fst == [] && true))) true true)
      (br (value_Valid_pre (value_Parse s).fst (value_Parse s).snd.fst (value_Parse s).snd.snd.fst) (br (value_Valid (value_Parse s).fst (value_Parse s).snd.fst (value_Parse s).snd.snd.fst)
        (br (value_Literal_pre (value_Parse s).fst (value_Parse s).snd.fst (value_Parse s).snd.snd.fst) (br (value_Literal (value_Parse s).fst (value_Parse s).snd.fst (value_Parse s).snd.snd.fst == s) true true) false) true) false)) false) = true := by
  obtain ⟨p, v⟩ := parse_eq s h
  rw [p, v]
  rcases back_parse s with ⟨h0, h1, h2, h3⟩ | ⟨h0, h1, h2⟩
  · have e : ((parseV s).snd.snd.snd != 0) = true := by simpa using h0
    rw [e, h1, h2, h3]; exact ⟨rfl, rfl⟩
  · have e : ((parseV s).snd.snd.snd != 0) = false := by simpa using h0
    obtain ⟨q, w⟩ := literal_valid h1
    rw [e, valid_pre, h1, q, w, h2]
    simp [br]

theorem back_both (h : s.length ≤ big) : law07_ValueBack_pre k i t s = true ∧ law07_ValueBack k i t s = true := by
  obtain ⟨b1, b2⟩ := back_tail s h
  unfold law07_ValueBack_pre law07_ValueBack
  rw [b1, b2, valid_pre]
  cases hv : value_Valid k i t with
  | false => exact ⟨rfl, rfl⟩
  | true =>
    have hf := valid_form hv
    obtain ⟨q, w⟩ := literal_valid hv
    obtain ⟨p, v⟩ := parse_eq _ (lit_len hf)
    rw [q, w, p, v, parse_lit hf]
    simp [br]
theorem back_pre (h : s.length ≤ big) : law07_ValueBack_pre k i t s = true := (back_both k i t s h).1
theorem back (h : s.length ≤ big) : law07_ValueBack k i t s = true := (back_both k i t s h).2
end
end Go.Sim.M
