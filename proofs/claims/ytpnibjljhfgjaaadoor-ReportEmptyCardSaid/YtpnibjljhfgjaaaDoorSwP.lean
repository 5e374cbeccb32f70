/- The edges of two lists of periods, sorted; and what a sweep over them gives: the span of the wanted instants. -/
import Derived.Test.YtpnibjljhfgjaaaDoorSwG
import Derived.Test.YtpnibjljhfgjaaaDoorTxt
set_option linter.unusedVariables false
set_option linter.unusedSectionVars false
set_option linter.unusedSimpArgs false
set_option maxRecDepth 100000
namespace Go.Sim.M
open Go.RowKit Go.Lib Go.Sort

def encP (p : Per) : AV := .agg [.int .i64 p.1, .int .i64 p.2]
def encEd (e : Edg) : AV := .agg [.int .i64 e.1, .int .i64 e.2.1, .int .i64 e.2.2]

theorem pvalid_eq (p : Per) : period_Valid p.1 p.2 = pv p := by
  unfold period_Valid pv
  rw [br_if, br_if]
  by_cases h1 : 0 ≤ p.1 <;> by_cases h2 : p.1 < p.2 <;> simp [h1, h2]

theorem edgesOf_app (x y : Int) : ∀ a b, edgesOf x y (a ++ b) = edgesOf x y a ++ edgesOf x y b
  | [], b => rfl
  | p :: a, b => by
    simp only [List.cons_append, edgesOf, edgesOf_app x y a b]
    split <;> rfl

theorem edges_snoc (x y : Int) (l : List Per) (n : Nat) (h : n < l.length) : edgesOf x y (l.take (n + 1)) = edgesOf x y (l.take n) ++ (if pv l[n] = true then [(l[n].1, x, y), (l[n].2, -x, -y)] else []) := by
  rw [List.take_add_one, List.getElem?_eq_getElem h]
  show edgesOf x y (l.take n ++ [l[n]]) = _
  rw [edgesOf_app]
  rfl

theorem edges0_loop (B : List AV) (l : List Per) (hl : l.length ≤ 1073741824) : ∀ (k n : Nat), n + k = l.length →
    Iter (span_edges_l0_step B (l.map encP) ((l.length : Nat) : Int)) ((edgesOf 1 0 (l.take n)).length, ((n : Nat) : Int), (edgesOf 1 0 (l.take n)).map encEd) = some ((edgesOf 1 0 l).length, (edgesOf 1 0 l).map encEd)
  | 0, n, hk => by
    obtain rfl : n = l.length := by omega
    rw [List.take_of_length_le (Nat.le_refl _)]
    refine iter_end ?_
    unfold span_edges_l0_step
    simp only
    unfold span_edges_l0_t
    rw [decide_eq_false (by omega : ¬ ((l.length : Nat) : Int) < ((l.length : Nat) : Int))]
    rfl
  | k + 1, n, hk => by
    have h1 : n < l.length := by omega
    have hle := edges_len 1 0 (l.take n)
    have htl : (l.take n).length ≤ n := by rw [List.length_take]; omega
    have d1 : ((n : Nat) : Int) < ((l.length : Nat) : Int) := by omega
    have d2 : (0 : Int) ≤ ((n : Nat) : Int) := by omega
    have d3 : ((edgesOf 1 0 (l.take n)).length + 2) * 24 ≤ 140737488355328 := by omega
    have d4 : (edgesOf 1 0 (l.take n)).length + 2 ≤ 4611686018427387904 := by omega
    have d5 : ((edgesOf 1 0 (l.take n)).length == (edgesOf 1 0 (l.take n)).length) = true := by simp
    have gf : (l.map encP).getD n .top = encP l[n] := getD_map _ _ _ h1
    have c0 : ((encP l[n]).cells.getD 0 .top).toInt = l[n].1 := rfl
    have c1 : ((encP l[n]).cells.getD 1 .top).toInt = l[n].2 := rfl
    have sh : ((encP l[n]).cells.length == (2 : Nat) && hasShs [Sh.int IntKind.i64, Sh.int IntKind.i64] (encP l[n]).cells (0 : Nat)) = true := rfl
    have st : span_edges_l0_step B (l.map encP) ((l.length : Nat) : Int) ((edgesOf 1 0 (l.take n)).length, ((n : Nat) : Int), (edgesOf 1 0 (l.take n)).map encEd) =
        some (.inl ((edgesOf 1 0 (l.take (n + 1))).length, ((n + 1 : Nat) : Int), (edgesOf 1 0 (l.take (n + 1))).map encEd)) := by
      rw [edges_snoc 1 0 l n h1]
      unfold span_edges_l0_step
      simp only
      unfold span_edges_l0_t
      rw [Int.toNat_natCast, gf, sh, c0, c1, pvalid_eq, List.length_map, List.length_map, decide_eq_true d1, decide_eq_true d2, decide_eq_true h1, decide_eq_true d3, decide_eq_true d4, d5, wrap_nat (show n + 1 ≤ maxLen by unfold maxLen; omega)]
      cases pv l[n] with
      | true => simp only [if_true, List.length_append, List.map_append]; rfl
      | false => simp only [Bool.false_eq_true, if_false, List.append_nil]; rfl
    rw [iter_step st]
    exact edges0_loop B l hl k (n + 1) (by omega)

theorem edges1_loop (E0 : List Edg) (l : List Per) (hl : l.length ≤ 1073741824) (hE : E0.length ≤ 2147483648) : ∀ (k n : Nat), n + k = l.length →
    Iter (span_edges_l1_step (l.map encP) ((l.length : Nat) : Int)) ((E0 ++ edgesOf 0 1 (l.take n)).length, ((n : Nat) : Int), (E0 ++ edgesOf 0 1 (l.take n)).map encEd) = some ((E0 ++ edgesOf 0 1 l).length, (E0 ++ edgesOf 0 1 l).map encEd)
  | 0, n, hk => by
    obtain rfl : n = l.length := by omega
    rw [List.take_of_length_le (Nat.le_refl _)]
    refine iter_end ?_
    unfold span_edges_l1_step
    simp only
    unfold span_edges_l1_t
    rw [decide_eq_false (by omega : ¬ ((l.length : Nat) : Int) < ((l.length : Nat) : Int))]
    rfl
  | k + 1, n, hk => by
    have h1 : n < l.length := by omega
    have hle := edges_len 0 1 (l.take n)
    have htl : (l.take n).length ≤ n := by rw [List.length_take]; omega
    have hll : (E0 ++ edgesOf 0 1 (l.take n)).length = E0.length + (edgesOf 0 1 (l.take n)).length := List.length_append
    have d1 : ((n : Nat) : Int) < ((l.length : Nat) : Int) := by omega
    have d2 : (0 : Int) ≤ ((n : Nat) : Int) := by omega
    have d3 : ((E0 ++ edgesOf 0 1 (l.take n)).length + 2) * 24 ≤ 140737488355328 := by omega
    have d4 : (E0 ++ edgesOf 0 1 (l.take n)).length + 2 ≤ 4611686018427387904 := by omega
    have d5 : ((E0 ++ edgesOf 0 1 (l.take n)).length == (E0 ++ edgesOf 0 1 (l.take n)).length) = true := by simp
    have gf : (l.map encP).getD n .top = encP l[n] := getD_map _ _ _ h1
    have c0 : ((encP l[n]).cells.getD 0 .top).toInt = l[n].1 := rfl
    have c1 : ((encP l[n]).cells.getD 1 .top).toInt = l[n].2 := rfl
    have sh : ((encP l[n]).cells.length == (2 : Nat) && hasShs [Sh.int IntKind.i64, Sh.int IntKind.i64] (encP l[n]).cells (0 : Nat)) = true := rfl
    have st : span_edges_l1_step (l.map encP) ((l.length : Nat) : Int) ((E0 ++ edgesOf 0 1 (l.take n)).length, ((n : Nat) : Int), (E0 ++ edgesOf 0 1 (l.take n)).map encEd) =
        some (.inl ((E0 ++ edgesOf 0 1 (l.take (n + 1))).length, ((n + 1 : Nat) : Int), (E0 ++ edgesOf 0 1 (l.take (n + 1))).map encEd)) := by
      rw [edges_snoc 0 1 l n h1, ← List.append_assoc]
      unfold span_edges_l1_step
      simp only
      unfold span_edges_l1_t
      rw [Int.toNat_natCast, gf, sh, c0, c1, pvalid_eq, List.length_map, List.length_map, decide_eq_true d1, decide_eq_true d2, decide_eq_true h1, decide_eq_true d3, decide_eq_true d4, d5, wrap_nat (show n + 1 ≤ maxLen by unfold maxLen; omega)]
      cases pv l[n] with
      | true => rw [if_pos rfl, List.length_append (bs := [(l[n].1, 0, 1), (l[n].2, -0, -1)]), List.map_append (l₂ := [(l[n].1, 0, 1), (l[n].2, -0, -1)])]; rfl
      | false => rw [if_neg (by simp), List.append_nil]; rfl
    rw [iter_step st]
    exact edges1_loop E0 l hl hE k (n + 1) (by omega)

/-! Sorting. -/
def toE (e : Edg) : Edge := (Fin.ofNat 1099511627777 e.1.toNat, e.2.1, e.2.2)
def ofE (x : Edge) : Edg := ((x.1.val : Int), x.2.1, x.2.2)
theorem ofE_toE {e : Edg} (h1 : 0 ≤ e.1) (h2 : e.1 ≤ 1099511627776) : ofE (toE e) = e := by
  have : e.1.toNat % 1099511627777 = e.1.toNat := Nat.mod_eq_of_lt (by omega)
  simp only [ofE, toE, Fin.ofNat, this, Int.toNat_of_nonneg h1]

theorem srtE_ok (E : List Edg) (h : ∀ e, e ∈ E → 0 ≤ e.1 ∧ e.1 ≤ 1099511627776) : (E.map encEd).all isEdge = true ∧ ∃ S : List Edg, srtE (E.map encEd) = S.map encEd ∧ S.Perm E ∧ S.Pairwise fun x y => x.1 ≤ y.1 := by
  refine ⟨?_, (pdqL cmpE (E.map toE)).map ofE, ?_, ?_, ?_⟩
  · rw [List.all_eq_true]
    intro x hx
    obtain ⟨e, he, rfl⟩ := List.mem_map.1 hx
    have := h e he
    show (decide _ && decide _) = true
    rw [decide_eq_true this.1, decide_eq_true this.2]; rfl
  · unfold srtE
    have e1 : (E.map encEd).map decE = E.map toE := by rw [List.map_map]; rfl
    rw [e1, List.map_map]; rfl
  · have hp := ((pdqL_perm cmpE swoE (E.map toE)).1).map ofE
    have e2 : (E.map toE).map ofE = E := by
      rw [List.map_map]
      conv => rhs; rw [← List.map_id E]
      refine List.map_congr_left fun e he => ?_
      exact ofE_toE (h e he).1 (h e he).2
    rwa [e2] at hp
  · rw [List.pairwise_map]
    refine (pdqL_sorted cmpE swoE (E.map toE)).imp fun {x y} hxy => ?_
    show ((x.1.val : Nat) : Int) ≤ ((y.1.val : Nat) : Int)
    unfold cmpE at hxy
    omega

/-- The sorted edges of two lists. -/
theorem edges_ok (a b : List Per) (ha : a.length ≤ 1073741824) (hb : b.length ≤ 1073741824) :
    ∃ S : List Edg, span_edges (a.map encP) (b.map encP) = some (S.map encEd) ∧ S.Perm (edgesOf 1 0 a ++ edgesOf 0 1 b) ∧ S.Pairwise fun x y => x.1 ≤ y.1 := by
  have l1 := edges_len 1 0 a
  have l2 := edges_len 0 1 b
  have hll : (edgesOf 1 0 a ++ edgesOf 0 1 b).length = (edgesOf 1 0 a).length + (edgesOf 0 1 b).length := List.length_append
  obtain ⟨hall, S, hS, hp, hs⟩ := srtE_ok (edgesOf 1 0 a ++ edgesOf 0 1 b) (fun e he => by
    rcases List.mem_append.1 he with he | he
    · exact edges_rng 1 0 a e he
    · exact edges_rng 0 1 b e he)
  refine ⟨S, ?_, hp, hs⟩
  have h0 := edges0_loop (b.map encP) a ha a.length 0 (by omega)
  rw [List.take_zero] at h0
  have h1 := edges1_loop (edgesOf 1 0 a) b hb (by omega) b.length 0 (by omega)
  rw [List.take_zero] at h1
  have h0 : Iter (span_edges_l0_step (b.map encP) (a.map encP) (((a.map encP).length : Nat) : Int)) (0, 0, []) = some ((edgesOf 1 0 a).length, (edgesOf 1 0 a).map encEd) := by rw [List.length_map]; exact h0
  have v4 : span_edges_v4 (a.map encP) (b.map encP) = ((edgesOf 1 0 a).length, (edgesOf 1 0 a).map encEd) := by unfold span_edges_v4; rw [h0]; rfl
  have v3 : span_edges_v3 (a.map encP) (b.map encP) = some ((edgesOf 1 0 a ++ edgesOf 0 1 b).length, (edgesOf 1 0 a ++ edgesOf 0 1 b).map encEd) := by
    unfold span_edges_v3; rw [v4, List.length_map]
    have e : edgesOf 1 0 a ++ edgesOf 0 1 [] = edgesOf 1 0 a := List.append_nil _
    rw [e] at h1
    exact h1
  have v2 : span_edges_v2 (a.map encP) (b.map encP) = ((edgesOf 1 0 a ++ edgesOf 0 1 b).length, (edgesOf 1 0 a ++ edgesOf 0 1 b).map encEd) := by unfold span_edges_v2; rw [v3]; rfl
  have v0 : span_edges_v0 (a.map encP) (b.map encP) = (edgesOf 1 0 a ++ edgesOf 0 1 b).length := by unfold span_edges_v0; rw [v2]
  have v1 : span_edges_v1 (a.map encP) (b.map encP) = (edgesOf 1 0 a ++ edgesOf 0 1 b).map encEd := by unfold span_edges_v1; rw [v2]
  have hSl : S.length = (edgesOf 1 0 a ++ edgesOf 0 1 b).length := hp.length_eq
  have d1 : (edgesOf 1 0 a ++ edgesOf 0 1 b).length < 4611686018427387904 := by omega
  have d2 : 0 + (edgesOf 1 0 a ++ edgesOf 0 1 b).length ≤ (S.map encEd).length := by rw [List.length_map, hSl]; omega
  have d3 : (edgesOf 1 0 a ++ edgesOf 0 1 b).length.beq (edgesOf 1 0 a ++ edgesOf 0 1 b).length = true := Nat.beq_refl _
  have tk : List.take (edgesOf 1 0 a ++ edgesOf 0 1 b).length (List.drop 0 (S.map encEd)) = S.map encEd := by rw [List.drop_zero, List.take_of_length_le (by rw [List.length_map, hSl]; exact Nat.le_refl _)]
  unfold span_edges span_edges_t
  rw [h0, v3, v0, v1, hall, hS, tk, List.length_map, d3, decide_eq_true d1, decide_eq_true d2]
  rfl

theorem last_snoc (out : List Per) (h : out ≠ []) : out = out.dropLast ++ [out[out.length - 1]'(by have := List.length_pos_iff.2 h; omega)] := by
  have := List.dropLast_concat_getLast h
  rw [List.getLast_eq_getElem] at this
  exact this.symm

/-! The sweep. -/
section
variable (S : List Edg) (hS1 : ∀ e, e ∈ S → 0 ≤ e.1 ∧ e.1 ≤ 1099511627776) (hS2 : ∀ e, e ∈ S → (-1 ≤ e.2.1 ∧ e.2.1 ≤ 1) ∧ (-1 ≤ e.2.2 ∧ e.2.2 ≤ 1)) (hS3 : S.Pairwise fun x y => x.1 ≤ y.1) (hS4 : S.length ≤ 8589934592)

theorem sum_bnd (g : Edg → Int) : ∀ l : List Edg, (∀ e, e ∈ l → -1 ≤ g e ∧ g e ≤ 1) → -(l.length : Int) ≤ sumAll g l ∧ sumAll g l ≤ l.length
  | [], _ => by simp [sumAll]
  | e :: l, h => by
    have := sum_bnd g l fun x hx => h x (List.mem_cons_of_mem _ hx)
    have := h e (List.mem_cons_self ..)
    simp only [sumAll, List.length_cons]; omega
theorem sum_snoc (g : Edg → Int) (n : Nat) (h : n < S.length) : sumAll g (S.take (n + 1)) = sumAll g (S.take n) + g S[n] := by
  rw [List.take_add_one, List.getElem?_eq_getElem h]
  show sumAll g (S.take n ++ [S[n]]) = _
  rw [sumAll_append]; simp [sumAll]

include hS1 hS2 hS3 hS4
theorem inner_loop (on : Nat) (at' : Int) (ox : List AV) : ∀ (k i : Nat), i + k = S.length → ∃ j : Nat, i ≤ j ∧ j ≤ S.length ∧
    Iter (swG_l1_step (S.map encEd) on at') (sumAll (·.2.1) (S.take i), sumAll (·.2.2) (S.take i), ((i : Nat) : Int), ox) = some (sumAll (·.2.1) (S.take j), sumAll (·.2.2) (S.take j), ((j : Nat) : Int), ox) ∧
    (∀ (m : Nat) (h : m < S.length), i ≤ m → m < j → S[m].1 = at') ∧ ∀ (h : j < S.length), S[j].1 ≠ at'
  | 0, i, hk => by
    obtain rfl : i = S.length := by omega
    refine ⟨S.length, Nat.le_refl _, Nat.le_refl _, iter_end ?_, fun m _ h1 h2 => by omega, fun h => absurd h (Nat.lt_irrefl _)⟩
    unfold swG_l1_step
    simp only
    unfold swG_l1_t
    rw [List.length_map, decide_eq_false (by omega : ¬ ((S.length : Nat) : Int) < ((S.length : Nat) : Int))]
    rfl
  | k + 1, i, hk => by
    have h1 : i < S.length := by omega
    have d1 : ((i : Nat) : Int) < ((S.length : Nat) : Int) := by omega
    have d2 : (0 : Int) ≤ ((i : Nat) : Int) := by omega
    have gf : (S.map encEd).getD i .top = encEd S[i] := getD_map _ _ _ h1
    have c0 : ((encEd S[i]).cells.getD 0 .top).toInt = S[i].1 := rfl
    have c1 : ((encEd S[i]).cells.getD 1 .top).toInt = S[i].2.1 := rfl
    have c2 : ((encEd S[i]).cells.getD 2 .top).toInt = S[i].2.2 := rfl
    have s0 : hasSh1 (Sh.int IntKind.i64) ((encEd S[i]).cells.getD 0 .top) = true := rfl
    have s1 : hasSh1 (Sh.int IntKind.i64) ((encEd S[i]).cells.getD 1 .top) = true := rfl
    have s2 : hasSh1 (Sh.int IntKind.i64) ((encEd S[i]).cells.getD 2 .top) = true := rfl
    have v0 : swG_l1_v0 (S.map encEd) ((i : Nat) : Int) = true := by unfold swG_l1_v0; rw [List.length_map, decide_eq_true d1, decide_eq_true d2]; rfl
    by_cases he : S[i].1 = at'
    · have hb := hS2 S[i] (List.getElem_mem h1)
      have b1 := sum_bnd (·.2.1) (S.take i) fun e he => (hS2 e (List.mem_of_mem_take he)).1
      have b2 := sum_bnd (·.2.2) (S.take i) fun e he => (hS2 e (List.mem_of_mem_take he)).2
      have hl : (S.take i).length = i := by rw [List.length_take]; omega
      rw [hl] at b1 b2
      have b3 := sum_snoc S (·.2.1) i h1
      have b4 := sum_snoc S (·.2.2) i h1
      have w1 : IntKind.i64.wrap (sumAll (·.2.1) (S.take i) + S[i].2.1) = sumAll (·.2.1) (S.take (i + 1)) := by rw [b3]; exact wrap_i64 (by omega) (by omega)
      have w2 : IntKind.i64.wrap (sumAll (·.2.2) (S.take i) + S[i].2.2) = sumAll (·.2.2) (S.take (i + 1)) := by rw [b4]; exact wrap_i64 (by omega) (by omega)
      have st : swG_l1_step (S.map encEd) on at' (sumAll (·.2.1) (S.take i), sumAll (·.2.2) (S.take i), ((i : Nat) : Int), ox) = some (.inl (sumAll (·.2.1) (S.take (i + 1)), sumAll (·.2.2) (S.take (i + 1)), ((i + 1 : Nat) : Int), ox)) := by
        unfold swG_l1_step
        simp only
        unfold swG_l1_t
        have e1 : (S[i].1 == at') = true := by simp [he]
        rw [v0, Int.toNat_natCast, gf, s0, s1, s2, c0, c1, c2, List.length_map, decide_eq_true d1, decide_eq_true h1, e1, w1, w2, wrap_nat (show i + 1 ≤ maxLen by unfold maxLen; omega)]
        rfl
      obtain ⟨j, j1, j2, j3, j4, j5⟩ := inner_loop on at' ox k (i + 1) (by omega)
      refine ⟨j, by omega, j2, by rw [iter_step st]; exact j3, fun m hm h2 h3 => ?_, j5⟩
      rcases Nat.eq_or_lt_of_le h2 with rfl | h2
      · exact he
      · exact j4 m hm h2 h3
    · refine ⟨i, Nat.le_refl _, by omega, iter_end ?_, fun m _ h2 h3 => by omega, fun _ => he⟩
      unfold swG_l1_step
      simp only
      unfold swG_l1_t
      have e1 : (S[i].1 == at') = false := by simp [he]
      rw [v0, Int.toNat_natCast, gf, s0, c0, List.length_map, decide_eq_true d1, decide_eq_true h1, e1]
      rfl
omit hS1 hS2 hS3 hS4

/-- The head of a round of the sweep. -/
def SwI (K : Int → Bool) (s : Nat × Int × Int × Int × Int × List AV) : Prop :=
  ∃ (out : List Per) (i : Nat) (at' : Int), s = (out.length, sumAll (·.2.1) (S.take i), sumAll (·.2.2) (S.take i), ((i : Nat) : Int), at', out.map encP) ∧ 0 ≤ at' ∧ at' ≤ 1099511627776 ∧ i ≤ S.length ∧
    (∀ (m : Nat) (h : m < S.length), m < i → S[m].1 < at') ∧ (∀ (m : Nat) (h : m < S.length), i ≤ m → at' ≤ S[m].1) ∧ OutOk out at' K ∧ (out.length : Int) ≤ at'

include hS1 hS2 hS3 hS4
set_option maxHeartbeats 4000000 in
theorem sweep_round (keep : Bool → Bool → Bool) (a b : List Per) (hp : S.Perm (edgesOf 1 0 a ++ edgesOf 0 1 b)) (s : Nat × Int × Int × Int × Int × List AV) (hs : SwI S (fun t => keep (inL a t) (inL b t)) s) :
    (∃ s', swG_l0_step keep (S.map encEd) s = some (.inl s') ∧ SwI S (fun t => keep (inL a t) (inL b t)) s' ∧ (1099511627776 - s'.2.2.2.2.1).toNat < (1099511627776 - s.2.2.2.2.1).toNat) ∨
    ∃ r, swG_l0_step keep (S.map encEd) s = some (.inr r) ∧ ∃ out : List Per, r = (out.length, out.map encP) ∧ OutOk out 1099511627776 (fun t => keep (inL a t) (inL b t)) := by
  obtain ⟨out, i, at', rfl, hat0, hatF, hi, hlo, hhi, hok, hol⟩ := hs
  by_cases hF : at' < 1099511627776
  · left
    obtain ⟨j, j1, j2, j3, j4, j5⟩ := inner_loop S hS1 hS2 hS3 hS4 out.length at' (out.map encP) (S.length - i) i (by omega)
    have hloj : ∀ (m : Nat) (h : m < S.length), m < j → S[m].1 ≤ at' := fun m h hm => by
      by_cases hmi : m < i
      · have := hlo m h hmi; omega
      · have := j4 m h (by omega) hm; omega
    have hhij : ∀ (m : Nat) (h : m < S.length), j ≤ m → at' < S[m].1 := fun m h hm => by
      have hj : j < S.length := by omega
      have h1 := hhi j hj (by omega)
      have h2 := j5 hj
      have h3 : S[j].1 ≤ S[m].1 := by
        rcases Nat.eq_or_lt_of_le hm with rfl | hm
        · exact Int.le_refl _
        · exact List.pairwise_iff_getElem.1 hS3 j m hj h hm
      omega
    -- the next instant
    obtain ⟨nx, hnx⟩ : ∃ nx : Int, nx = if h : j < S.length then S[j].1 else 1099511627776 := ⟨_, rfl⟩
    have hnx1 : at' < nx := by
      rw [hnx]; split
      · rename_i h; exact hhij j h (Nat.le_refl _)
      · exact hF
    have hnx2 : nx ≤ 1099511627776 := by
      rw [hnx]; split
      · rename_i h; exact (hS1 _ (List.getElem_mem h)).2
      · exact Int.le_refl _
    have hnx3 : ∀ (m : Nat) (h : m < S.length), j ≤ m → nx ≤ S[m].1 := fun m h hm => by
      have hj : j < S.length := by omega
      rw [hnx, dif_pos hj]
      rcases Nat.eq_or_lt_of_le hm with rfl | hm
      · exact Int.le_refl _
      · exact List.pairwise_iff_getElem.1 hS3 j m hj h hm
    have hsum : ∀ (g : Edg → Int) (t : Int), at' ≤ t → t < nx → sumAll g (S.take j) = sumBy g t S := fun g t ht1 ht2 => by
      conv => rhs; rw [← List.take_append_drop j S]
      rw [sumBy_append, sumBy_all, sumBy_none]
      · omega
      · intro e he
        obtain ⟨m, hm, rfl⟩ := List.mem_iff_getElem.1 he
        rw [List.getElem_drop]
        have := hnx3 (j + m) (by rw [List.length_drop] at hm; omega) (by omega)
        omega
      · intro e he
        obtain ⟨m, hm, rfl⟩ := List.mem_iff_getElem.1 he
        rw [List.getElem_take]
        rw [List.length_take] at hm
        have := hloj m (by omega) (by omega)
        omega
    have hcnt : ∀ t, at' ≤ t → t < nx → decide (sumAll (·.2.1) (S.take j) > 0) = inL a t ∧ decide (sumAll (·.2.2) (S.take j) > 0) = inL b t := fun t ht1 ht2 => by
      rw [hsum _ t ht1 ht2, hsum _ t ht1 ht2, sumBy_perm _ t hp, sumBy_perm _ t hp, sumBy_append, sumBy_append, sum_edges1, sum_edges1', sum_edges2, sum_edges2', Int.add_zero, Int.zero_add, cntP_pos, cntP_pos]
      exact ⟨rfl, rfl⟩
    obtain ⟨kv, hkv⟩ : ∃ kv : Bool, kv = keep (decide (sumAll (·.2.1) (S.take j) > 0)) (decide (sumAll (·.2.2) (S.take j) > 0)) := ⟨_, rfl⟩
    have hK : ∀ t, at' ≤ t → t < nx → keep (inL a t) (inL b t) = kv := fun t ht1 ht2 => by
      rw [hkv, (hcnt t ht1 ht2).1, (hcnt t ht1 ht2).2]
    -- the definitions
    have v10 : swG_l0_v10 keep (S.map encEd) out.length (sumAll (·.2.1) (S.take i)) (sumAll (·.2.2) (S.take i)) ((i : Nat) : Int) at' (out.map encP) = (sumAll (·.2.1) (S.take j), sumAll (·.2.2) (S.take j), ((j : Nat) : Int), out.map encP) := by unfold swG_l0_v10; rw [j3]; rfl
    have v8 : swG_l0_v8 keep (S.map encEd) out.length (sumAll (·.2.1) (S.take i)) (sumAll (·.2.2) (S.take i)) ((i : Nat) : Int) at' (out.map encP) = sumAll (·.2.1) (S.take j) := by unfold swG_l0_v8; rw [v10]
    have v9 : swG_l0_v9 keep (S.map encEd) out.length (sumAll (·.2.1) (S.take i)) (sumAll (·.2.2) (S.take i)) ((i : Nat) : Int) at' (out.map encP) = (sumAll (·.2.2) (S.take j), ((j : Nat) : Int), out.map encP) := by unfold swG_l0_v9; rw [v10]
    have v7 : swG_l0_v7 keep (S.map encEd) out.length (sumAll (·.2.1) (S.take i)) (sumAll (·.2.2) (S.take i)) ((i : Nat) : Int) at' (out.map encP) = sumAll (·.2.2) (S.take j) := by unfold swG_l0_v7; rw [v9]
    have v6 : swG_l0_v6 keep (S.map encEd) out.length (sumAll (·.2.1) (S.take i)) (sumAll (·.2.2) (S.take i)) ((i : Nat) : Int) at' (out.map encP) = (((j : Nat) : Int), out.map encP) := by unfold swG_l0_v6; rw [v9]
    have v1 : swG_l0_v1 keep (S.map encEd) out.length (sumAll (·.2.1) (S.take i)) (sumAll (·.2.2) (S.take i)) ((i : Nat) : Int) at' (out.map encP) = out.map encP := by unfold swG_l0_v1; rw [v6]
    have v3 : swG_l0_v3 keep (S.map encEd) out.length (sumAll (·.2.1) (S.take i)) (sumAll (·.2.2) (S.take i)) ((i : Nat) : Int) at' (out.map encP) = ((j : Nat) : Int) := by unfold swG_l0_v3; rw [v6]
    have v2 : swG_l0_v2 keep (S.map encEd) out.length (sumAll (·.2.1) (S.take i)) (sumAll (·.2.2) (S.take i)) ((i : Nat) : Int) at' (out.map encP) = kv := by unfold swG_l0_v2; rw [v8, v7, ← hkv]
    have v0 : swG_l0_v0 keep (S.map encEd) out.length (sumAll (·.2.1) (S.take i)) (sumAll (·.2.2) (S.take i)) ((i : Nat) : Int) at' (out.map encP) = decide (swG_l0_v11 keep out.length < out.length) := by unfold swG_l0_v0; rw [v1, List.length_map]
    have v5 : swG_l0_v5 keep (S.map encEd) out.length (sumAll (·.2.1) (S.take i)) (sumAll (·.2.2) (S.take i)) ((i : Nat) : Int) at' (out.map encP) = decide (j < S.length) := by
      unfold swG_l0_v5; rw [v3, List.length_map]
      by_cases h : j < S.length
      · rw [decide_eq_true h, decide_eq_true (by omega)]
      · rw [decide_eq_false h, decide_eq_false (by omega)]
    have hol2 : (out.length + 1) * 16 ≤ 140737488355328 := by omega
    have hol3 : out.length + 1 ≤ 4611686018427387904 := by omega
    have e1 : (out.length == out.length) = true := by simp
    have dF : decide (at' < 1099511627776) = true := decide_eq_true hF
    have dj : decide ((0 : Int) ≤ ((j : Nat) : Int)) = true := decide_eq_true (by omega)
    have hnxj : ∀ h : j < S.length, (((S.map encEd).getD j .top).cells.getD 0 .top).toInt = nx := fun h => by
      rw [getD_map _ _ _ h, hnx, dif_pos h]; rfl
    have shj : ∀ h : j < S.length, hasSh1 (Sh.int IntKind.i64) (((S.map encEd).getD j .top).cells.getD 0 .top) = true := fun h => by
      rw [getD_map _ _ _ h]; rfl
    -- a new state keeps the invariant
    have fin : ∀ out' : List Per, OutOk out' nx (fun t => keep (inL a t) (inL b t)) → (out'.length : Int) ≤ nx → SwI S (fun t => keep (inL a t) (inL b t)) (out'.length, sumAll (·.2.1) (S.take j), sumAll (·.2.2) (S.take j), ((j : Nat) : Int), nx, out'.map encP) := fun out' ho hl =>
      ⟨out', j, nx, rfl, by omega, hnx2, j2, fun m h hm => by have := hloj m h hm; omega, fun m h hm => hnx3 m h hm, ho, hl⟩
    have mu : (1099511627776 - nx).toNat < (1099511627776 - at').toNat := by omega
    cases kv with
    | false =>
      refine ⟨(out.length, sumAll (·.2.1) (S.take j), sumAll (·.2.2) (S.take j), ((j : Nat) : Int), nx, out.map encP), ?_, fin out (hok.skip (by omega) hK) (by omega), mu⟩
      unfold swG_l0_step
      simp only
      unfold swG_l0_t
      rw [v1, v2, v3, v5, v7, v8, j3, dF, dj, Int.toNat_natCast, List.length_map]
      by_cases hj : j < S.length
      · rw [decide_eq_true hj, shj hj, hnxj hj]; rfl
      · rw [decide_eq_false hj]
        have : nx = 1099511627776 := by rw [hnx, dif_neg hj]
        rw [this]; rfl
    | true =>
      by_cases hne : out = []
      · have hadd := hok.add hat0 hnx1 hnx2 hK (fun p hp => by rw [hne] at hp; cases hp)
        refine ⟨((out ++ [(at', nx)]).length, sumAll (·.2.1) (S.take j), sumAll (·.2.2) (S.take j), ((j : Nat) : Int), nx, (out ++ [(at', nx)]).map encP), ?_, fin _ hadd (by rw [List.length_append, List.length_singleton]; omega), mu⟩
        have dl : decide (((out.length : Nat) : Int) > 0) = false := by rw [hne]; rfl
        unfold swG_l0_step
        simp only
        unfold swG_l0_t
        rw [v1, v2, v3, v5, v7, v8, j3, dF, dj, Int.toNat_natCast, List.length_map, List.length_map, dl, e1, decide_eq_true hol2, decide_eq_true hol3]
        by_cases hj : j < S.length
        · rw [decide_eq_true hj, shj hj, hnxj hj, List.map_append, List.length_append]; rfl
        · rw [decide_eq_false hj]
          have : nx = 1099511627776 := by rw [hnx, dif_neg hj]
          rw [this, List.map_append, List.length_append]; rfl
      · have hpos := List.length_pos_iff.2 hne
        have w1 : IntKind.i64.wrap (((out.length : Nat) : Int) - 1) = ((out.length - 1 : Nat) : Int) := by rw [wrap_i64 (by omega) (by omega)]; omega
        have v11 : swG_l0_v11 keep out.length = out.length - 1 := by unfold swG_l0_v11; rw [w1, Int.toNat_natCast]; omega
        have v4 : swG_l0_v4 keep out.length = true := by
          unfold swG_l0_v4; rw [w1, decide_eq_true (by omega), decide_eq_true (by omega)]; rfl
        have dl : decide (((out.length : Nat) : Int) > 0) = true := decide_eq_true (by omega)
        have dv : decide (out.length - 1 < out.length) = true := decide_eq_true (by omega)
        have hlt : out.length - 1 < out.length := by omega
        have gl : (out.map encP).getD (out.length - 1) .top = encP out[out.length - 1] := getD_map _ _ _ hlt
        have cl : ((encP out[out.length - 1]).cells.getD 1 .top).toInt = out[out.length - 1].2 := rfl
        have sl : hasSh1 (Sh.int IntKind.i64) ((encP out[out.length - 1]).cells.getD 1 .top) = true := rfl
        have hsn := last_snoc out hne
        by_cases hl : out[out.length - 1].2 = at'
        · have hext := OutOk.ext (o := out.dropLast) (p := out[out.length - 1]) (by rw [← hsn]; exact hok) hl hnx1 hnx2 hK
          have hlen : (out.dropLast ++ [(out[out.length - 1].1, nx)]).length = out.length := by rw [List.length_append, List.length_dropLast, List.length_singleton]; omega
          have hset : (out.map encP).set (out.length - 1) (AV.agg (List.take 1 (encP out[out.length - 1]).cells ++ [AV.int IntKind.i64 nx] ++ List.drop 2 (encP out[out.length - 1]).cells)) = (out.dropLast ++ [(out[out.length - 1].1, nx)]).map encP := by
            have e2 : AV.agg (List.take 1 (encP out[out.length - 1]).cells ++ [AV.int IntKind.i64 nx] ++ List.drop 2 (encP out[out.length - 1]).cells) = encP (out[out.length - 1].1, nx) := rfl
            rw [e2, ← List.map_set]
            congr 1
            have e3 : out.set (out.length - 1) (out[out.length - 1].1, nx) = (out.dropLast ++ [out[out.length - 1]]).set (out.length - 1) (out[out.length - 1].1, nx) := congrArg (fun l => List.set l (out.length - 1) (out[out.length - 1].1, nx)) hsn
            rw [e3, List.set_append_right _ _ (by rw [List.length_dropLast]; exact Nat.le_refl _), List.length_dropLast, Nat.sub_self]; rfl
          refine ⟨((out.dropLast ++ [(out[out.length - 1].1, nx)]).length, sumAll (·.2.1) (S.take j), sumAll (·.2.2) (S.take j), ((j : Nat) : Int), nx, (out.dropLast ++ [(out[out.length - 1].1, nx)]).map encP), ?_, fin _ hext (by rw [hlen]; omega), mu⟩
          have e4 : (out[out.length - 1].2 == at') = true := by simp [hl]
          unfold swG_l0_step
          simp only
          unfold swG_l0_t
          rw [v0, v1, v2, v3, v4, v5, v7, v8, v11, j3, dF, dj, Int.toNat_natCast, List.length_map, gl, cl, sl, dl, dv, e4]
          by_cases hj : j < S.length
          · rw [decide_eq_true hj, shj hj, hnxj hj, hset, hlen]; rfl
          · rw [decide_eq_false hj]
            have : nx = 1099511627776 := by rw [hnx, dif_neg hj]
            rw [this] at hset hlen ⊢
            rw [hset, hlen]; rfl
        · have hadd := hok.add hat0 hnx1 hnx2 hK (fun p hp => by
            rw [hsn] at hp
            rcases List.mem_append.1 hp with hp | hp
            · have h1 := hok.span.2
              rw [hsn] at h1
              have := (List.pairwise_append.1 h1).2.2 p hp _ (List.mem_singleton.2 rfl)
              have h2 := hok.low _ (List.getElem_mem hlt)
              have h3 := pv_iff.1 (hok.span.1 _ (List.getElem_mem hlt))
              omega
            · rw [List.mem_singleton.1 hp]; exact hl)
          refine ⟨((out ++ [(at', nx)]).length, sumAll (·.2.1) (S.take j), sumAll (·.2.2) (S.take j), ((j : Nat) : Int), nx, (out ++ [(at', nx)]).map encP), ?_, fin _ hadd (by rw [List.length_append, List.length_singleton]; omega), mu⟩
          have e4 : (out[out.length - 1].2 == at') = false := by simp [hl]
          unfold swG_l0_step
          simp only
          unfold swG_l0_t
          rw [v0, v1, v2, v3, v4, v5, v7, v8, v11, j3, dF, dj, Int.toNat_natCast, List.length_map, List.length_map, gl, cl, sl, dl, dv, e4, e1, decide_eq_true hol2, decide_eq_true hol3]
          by_cases hj : j < S.length
          · rw [decide_eq_true hj, shj hj, hnxj hj, List.map_append, List.length_append]; rfl
          · rw [decide_eq_false hj]
            have : nx = 1099511627776 := by rw [hnx, dif_neg hj]
            rw [this, List.map_append, List.length_append]; rfl
  · right
    have : at' = 1099511627776 := by omega
    subst this
    refine ⟨(out.length, out.map encP), ?_, out, rfl, hok⟩
    unfold swG_l0_step
    simp only
    unfold swG_l0_t
    rw [decide_eq_false hF]
    rfl
end

theorem edges_sgn1 : ∀ (l : List Per) (e : Edg), e ∈ edgesOf 1 0 l → (-1 ≤ e.2.1 ∧ e.2.1 ≤ 1) ∧ (-1 ≤ e.2.2 ∧ e.2.2 ≤ 1)
  | [], e, h => by cases h
  | p :: l, e, h => by
    unfold edgesOf at h
    split at h
    · rcases List.mem_cons.1 h with rfl | h
      · simp
      · rcases List.mem_cons.1 h with rfl | h
        · simp
        · exact edges_sgn1 l e h
    · exact edges_sgn1 l e h
theorem edges_sgn2 : ∀ (l : List Per) (e : Edg), e ∈ edgesOf 0 1 l → (-1 ≤ e.2.1 ∧ e.2.1 ≤ 1) ∧ (-1 ≤ e.2.2 ∧ e.2.2 ≤ 1)
  | [], e, h => by cases h
  | p :: l, e, h => by
    unfold edgesOf at h
    split at h
    · rcases List.mem_cons.1 h with rfl | h
      · simp
      · rcases List.mem_cons.1 h with rfl | h
        · simp
        · exact edges_sgn2 l e h
    · exact edges_sgn2 l e h

/-- WHAT THE SWEEP GIVES. -/
theorem swG_ok (keep : Bool → Bool → Bool) (a b : List Per) (ha : a.length ≤ 1073741824) (hb : b.length ≤ 1073741824) :
    ∃ r : List Per, swG keep (a.map encP) (b.map encP) = some (r.map encP) ∧ IsSpan r ∧ ∀ t, inL r t = (decide (0 ≤ t) && (decide (t < 1099511627776) && keep (inL a t) (inL b t))) := by
  obtain ⟨S, hS, hp, hs3⟩ := edges_ok a b ha hb
  have l1 := edges_len 1 0 a
  have l2 := edges_len 0 1 b
  have hSl : S.length = (edgesOf 1 0 a ++ edgesOf 0 1 b).length := hp.length_eq
  rw [List.length_append] at hSl
  have hmem : ∀ e, e ∈ S → e ∈ edgesOf 1 0 a ∨ e ∈ edgesOf 0 1 b := fun e he => List.mem_append.1 (hp.mem_iff.1 he)
  have hs1 : ∀ e, e ∈ S → 0 ≤ e.1 ∧ e.1 ≤ 1099511627776 := fun e he => (hmem e he).elim (edges_rng 1 0 a e) (edges_rng 0 1 b e)
  have hs2 : ∀ e, e ∈ S → (-1 ≤ e.2.1 ∧ e.2.1 ≤ 1) ∧ (-1 ≤ e.2.2 ∧ e.2.2 ≤ 1) := fun e he => (hmem e he).elim (edges_sgn1 a e) (edges_sgn2 b e)
  obtain ⟨r, hr, out, rfl, hok⟩ := iter_inv (SwI S (fun t => keep (inL a t) (inL b t))) (fun s => (1099511627776 - s.2.2.2.2.1).toNat) (fun r => ∃ out : List Per, r = (out.length, out.map encP) ∧ OutOk out 1099511627776 (fun t => keep (inL a t) (inL b t)))
    (sweep_round S hs1 hs2 hs3 (by omega) keep a b hp) (0, 0, 0, 0, 0, []) ⟨[], 0, 0, rfl, Int.le_refl _, by omega, Nat.zero_le _, fun m _ h => by omega, fun m h _ => (hs1 _ (List.getElem_mem h)).1, outOk_nil _, by simp⟩
  refine ⟨out, ?_, hok.span, hok.done⟩
  have v3 : swG_v3 keep (a.map encP) (b.map encP) = some (out.length, out.map encP) := by unfold swG_v3; rw [hS]; exact hr
  have v2 : swG_v2 keep (a.map encP) (b.map encP) = (out.length, out.map encP) := by unfold swG_v2; rw [v3]; rfl
  have v0 : swG_v0 keep (a.map encP) (b.map encP) = out.length := by unfold swG_v0; rw [v2]
  have v1 : swG_v1 keep (a.map encP) (b.map encP) = out.map encP := by unfold swG_v1; rw [v2]
  have d1 : 0 + out.length ≤ out.length := by omega
  unfold swG swG_t
  rw [hS, v3, v0, v1, List.length_map, decide_eq_true d1, List.drop_zero, List.take_of_length_le (by rw [List.length_map]; exact Nat.le_refl _)]
  rfl

theorem sweep_I_eq (a b : List AV) : span_sweep_I a b = swG span_Intersect_1 a b := rfl
theorem sweep_S_eq (a b : List AV) : span_sweep_S a b = swG span_Subtract_1 a b := rfl

theorem intersect_ok (a b : List Per) (ha : a.length ≤ 1073741824) (hb : b.length ≤ 1073741824) :
    ∃ r : List Per, span_Intersect (a.map encP) (b.map encP) = some (r.map encP) ∧ IsSpan r ∧ ∀ t, inL r t = (inL a t && inL b t) := by
  obtain ⟨r, h1, h2, h3⟩ := swG_ok span_Intersect_1 a b ha hb
  refine ⟨r, ?_, h2, fun t => ?_⟩
  · unfold span_Intersect span_Intersect_t
    rw [sweep_I_eq, h1]; rfl
  · rw [h3 t]
    cases hc : inL a t with
    | false => simp [span_Intersect_1, br_if]
    | true => have := inL_rng hc; simp [span_Intersect_1, br_if, this]
theorem subtract_ok (a b : List Per) (ha : a.length ≤ 1073741824) (hb : b.length ≤ 1073741824) :
    ∃ r : List Per, span_Subtract (a.map encP) (b.map encP) = some (r.map encP) ∧ IsSpan r ∧ ∀ t, inL r t = (inL a t && !inL b t) := by
  obtain ⟨r, h1, h2, h3⟩ := swG_ok span_Subtract_1 a b ha hb
  refine ⟨r, ?_, h2, fun t => ?_⟩
  · unfold span_Subtract span_Subtract_t
    rw [sweep_S_eq, h1]; rfl
  · rw [h3 t]
    cases hc : inL a t with
    | false => simp [span_Subtract_1, br_if]
    | true => have := inL_rng hc; simp [span_Subtract_1, br_if, this]
theorem covers_ok (a b : List Per) (ha : a.length ≤ 1073741824) (hb : b.length ≤ 1073741824) : ∃ c : Bool, span_Covers (a.map encP) (b.map encP) = some c ∧ (c = true ↔ ∀ t, inL b t = true → inL a t = true) := by
  obtain ⟨r, h1, h2, h3⟩ := subtract_ok b a hb ha
  refine ⟨((r.length : Nat) : Int) == 0, ?_, ?_⟩
  · unfold span_Covers span_Covers_t
    rw [h1]; simp only [Option.isSome_some, Option.getD_some, br_tt, List.length_map]
  · rw [beq_iff_eq]
    constructor
    · intro h t ht
      have : r = [] := List.eq_nil_of_length_eq_zero (by omega)
      have h4 := h3 t
      rw [this, ht] at h4
      cases hc : inL a t with
      | true => rfl
      | false => rw [hc] at h4; cases h4
    · intro h
      cases r with
      | nil => rfl
      | cons p r =>
        have hp := h2.1 p (List.mem_cons_self ..)
        have h4 : inL (p :: r) p.1 = true := inL_iff.2 ⟨p, List.mem_cons_self .., hp, Int.le_refl _, (pv_iff.1 hp).2.1⟩
        rw [h3] at h4
        simp only [Bool.and_eq_true, Bool.not_eq_true'] at h4
        rw [h _ h4.1] at h4
        cases h4.2
end Go.Sim.M
