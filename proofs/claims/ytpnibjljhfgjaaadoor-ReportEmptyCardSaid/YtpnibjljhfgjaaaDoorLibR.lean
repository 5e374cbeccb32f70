/- Contracts of library functions, as the executor takes them: out of the shelf. -/
import Derived.Test.YtpnibjljhfgjaaaDoorSimT
import Derived.Test.YtpnibjljhfgjaaaDoorShelf
import Derived.ChangeAgain
set_option linter.unusedVariables false
set_option linter.unusedSimpArgs false
set_option linter.unnecessarySimpa false
namespace Go.Sim
open Go.RowKit Go.Proofs

/-- What stays true of a world: its first blocks have their shape, and the table of powers of ten lies there. -/
structure Inv0 (P : Program) (w : World) : Prop where
  sh : w.ShapedOpen P
  low : P.low ≤ w.heap.size
  tab : Lib.TabIs P w "internal/strconv.uint64pow10" .u64 Lib.pow10Tab

theorem keptBut_of_below {P : Program} {w w' : World} (h : Below w.heap.size w w') (hl : P.low ≤ w.heap.size) : w.keptBut w' fun p => w.heap.size ≤ p.block := by
  refine ⟨h.os, h.output, fun i hi => ?_⟩
  rw [h.block i hi]
  cases hw : w.heap[i]? with
  | none => rfl
  | some o => cases o <;> first | rfl | exact ⟨rfl, rfl, rfl, fun _ _ => rfl⟩ | exact .inr ⟨rfl, rfl⟩

theorem inv0Ok (P : Program) (p : Nat) : InvOk ⟨Inv0 P, p⟩ := ⟨fun w w' h hb => ⟨h.sh.keptBut (keptBut_of_below (P := P) hb h.low) fun p hp => Nat.le_trans h.low hp, Nat.le_trans h.low hb.size, by
  have ht := h.tab
  unfold Lib.TabIs World.var? at ht ⊢
  cases hg : P.globalNamed "internal/strconv.uint64pow10" with
  | none => rw [hg] at ht; simp at ht
  | some g =>
    rw [hg] at ht
    simp only [Option.bind_some] at ht ⊢
    have : g < w.heap.size := by
      rcases Nat.lt_or_ge g w.heap.size with h' | h'
      · exact h'
      · rw [Array.getElem?_eq_none h'] at ht; simp at ht
    rw [hb.block g this]; exact ht⟩⟩

theorem str_eta (t : ByteArray) {s : List UInt8} (h : t.data.toList = s) : t = ⟨s.toArray⟩ := by
  subst h; rfl

theorem rc1 {w : World} {A : Nat → Prop} {M : Nat → Option MB} {vs : List Value} {x : AV} (h : RC w A M vs [x]) : ∃ v, vs = [v] ∧ Rel w A M v x := by
  obtain ⟨h1, h2⟩ := h
  match vs, h1 with
  | [v], _ => exact ⟨v, rfl, by simpa using h2 0 (by simp)⟩

theorem rc2 {w : World} {A : Nat → Prop} {M : Nat → Option MB} {vs : List Value} {x y : AV} (h : RC w A M vs [x, y]) : ∃ v u, vs = [v, u] ∧ Rel w A M v x ∧ Rel w A M u y := by
  obtain ⟨h1, h2⟩ := h
  match vs, h1 with
  | [v, u], _ => exact ⟨v, u, rfl, by simpa using h2 0 (by simp), by simpa using h2 1 (by simp)⟩

theorem rc3 {w : World} {A : Nat → Prop} {M : Nat → Option MB} {vs : List Value} {x y z : AV} (h : RC w A M vs [x, y, z]) : ∃ v u t, vs = [v, u, t] ∧ Rel w A M v x ∧ Rel w A M u y ∧ Rel w A M t z := by
  obtain ⟨h1, h2⟩ := h
  match vs, h1 with
  | [v, u, t], _ => exact ⟨v, u, t, rfl, by simpa using h2 0 (by simp), by simpa using h2 1 (by simp), by simpa using h2 2 (by simp)⟩

theorem enters_of {P : Program} {f : FuncId} {fn : Func} (hf : P.funcs[f]? = some fn) (hb : fn.body.isSome = true) (hn : (fn.name == "runtime.NumGoroutine") = false) : Enters P f :=
  ⟨fn, hf, by cases h : fn.body <;> simp_all, hn⟩

theorem below_grow {w : World} {k : Nat} {os : Array Obj} : Below w.heap.size w (Sort.grow (w.drewN k) os) := by
  refine ⟨rfl, rfl, rfl, ?_, fun i hi => ?_⟩
  · show w.heap.size ≤ (w.heap ++ os).size
    simp
  · show (w.heap ++ os)[i]? = _
    rw [Array.getElem?_append, if_pos hi]

theorem mxTryd : Tryd.prog.follows .mixedOrders = true := by kernel_rfl

abbrev ITryd : IV := ⟨Inv0 Tryd.prog, 0⟩

def strings_ReplaceAll_o : List AV → Option (Bool × AV)
  | [.str a, .str b, .str c] => some (decide (a.length < 4294967281) && (decide (1 ≤ b.length) && decide (a.length + Lib.count a b * c.length ≤ 140737488355328)), .str (Lib.replaceAll a b c))
  | _ => none
theorem strings_ReplaceAll_c : OcOk Tryd.prog ITryd 48 strings_ReplaceAll_o := fun xs r h => by
  unfold strings_ReplaceAll_o at h; split at h
  · rename_i a b c
    simp only [Option.some.injEq, Prod.mk.injEq, decide_eq_true_eq, Bool.and_eq_true] at h; obtain ⟨⟨g1, g2, g3⟩, rfl⟩ := h
    refine ⟨enters_of Tryd.func48 rfl (by kernel_rfl), fun w A vs hI hA hrc => ?_⟩
    obtain ⟨v, u, z, rfl, h1, h2, h3⟩ := rc3 hrc
    obtain ⟨s, rfl, rfl⟩ := h1.str_inv
    obtain ⟨t, rfl, rfl⟩ := h2.str_inv
    obtain ⟨n, rfl, rfl⟩ := h3.str_inv
    refine (Tryd.strings_ReplaceAll_shaped s t n w hI.sh (by simpa using g1) (by simpa using g2) (by simpa [Lib.countB] using g3)).mono ?_
    rintro e w' ⟨rfl, hb⟩
    exact ⟨_, rfl, hb, .str _⟩
  · simp at h

def strconv_Itoa_o : List AV → Option (Bool × AV)
  | [.int .i64 n] => some (decide (-9223372036854775808 ≤ n) && decide (n ≤ 9223372036854775807), .str (Lib.itoa n))
  | _ => none
theorem strconv_Itoa_c : OcOk Tryd.prog ITryd 20 strconv_Itoa_o := fun xs r h => by
  unfold strconv_Itoa_o at h; split at h
  · rename_i n
    simp only [Option.some.injEq, Prod.mk.injEq, decide_eq_true_eq, Bool.and_eq_true] at h; obtain ⟨⟨g1, g2⟩, rfl⟩ := h
    refine ⟨enters_of Tryd.func20 rfl (by kernel_rfl), fun w A vs hI hA hrc => ?_⟩
    obtain ⟨v, rfl, h1⟩ := rc1 hrc
    obtain rfl := h1.int_inv
    refine (Tryd.strconv_Itoa n g1 g2 w hI.tab).mono ?_
    rintro e w' ⟨rfl, k, os, rfl⟩
    exact ⟨_, rfl, below_grow, .str _⟩
  · simp at h

def AV.isStr : AV → Bool
  | .str _ => true
  | _ => false

def strings_Join_o : List AV → Option (Bool × AV)
  | [.list 1 xs, .str sep] => some (xs.all AV.isStr && (decide (xs.length ≤ 140737488355328) && decide ((Lib.join (xs.map AV.toStr) sep).length ≤ 140737488355328)), .str (Lib.join (xs.map AV.toStr) sep))
  | _ => none

theorem str_of {w : World} {A : Nat → Prop} {M : Nat → Option MB} {v : Value} {x : AV} (h : Rel w A M v x) (hx : x.isStr = true) : v = .string ⟨x.toStr.toArray⟩ := by
  cases x <;> first | (simp [AV.isStr] at hx; done) | skip
  obtain ⟨t, rfl, ht⟩ := h.str_inv
  rw [str_eta t ht]; rfl

theorem strings_Join_c : OcOk Tryd.prog ITryd 31 strings_Join_o := fun xs r h => by
  unfold strings_Join_o at h; split at h
  · rename_i xs sep
    simp only [Option.some.injEq, Prod.mk.injEq, decide_eq_true_eq, Bool.and_eq_true] at h; obtain ⟨⟨g1, g2, g3⟩, rfl⟩ := h
    refine ⟨enters_of Tryd.func31 rfl (by kernel_rfl), fun w A vs hI hA hrc => ?_⟩
    obtain ⟨v, u, rfl, h1, h2⟩ := rc2 hrc
    obtain ⟨t, rfl, ht⟩ := h2.str_inv
    cases h1 with
    | list0 a cap sz =>
      refine (Tryd.strings_Join_none a cap t w).mono ?_
      rintro e w' ⟨rfl, rfl⟩
      exact ⟨_, rfl, Below.refl _ _, .str _⟩
    | list b off cap sz xs val ha hb hne hcap hsz hc hr =>
      have hall := List.all_eq_true.1 g1
      have hstr : ∀ i, i < xs.length → (xs.getD i .top).isStr = true := fun i hi => hall _ (getD_mem hi)
      have hval : ∀ i, i < xs.length → val i 0 = .string ⟨(xs.getD i .top).toStr.toArray⟩ := fun i hi => by
        have h1 := hr i 0 hi (by omega)
        have h2 := hstr i hi
        have e : (xs.getD i .top).cells.getD 0 .top = xs.getD i .top := by
          revert h2; cases xs.getD i .top <;> intro h2 <;> first | rfl | (simp [AV.isStr] at h2)
        rw [e] at h1
        exact str_of h1 h2
      have em : ((xs.map fun x => (⟨x.toStr.toArray⟩ : ByteArray)).map (·.data.toList)) = xs.map AV.toStr := by simp [Function.comp_def]
      have el : (xs.map fun x => (⟨x.toStr.toArray⟩ : ByteArray)).length = xs.length := by simp
      have := Tryd.strings_Join b off cap (xs.map fun x => (⟨x.toStr.toArray⟩ : ByteArray)) t w (fun j x hj => by
        have hlt : j < xs.length := by
          rcases Nat.lt_or_ge j xs.length with h' | h'
          · exact h'
          · rw [List.getElem?_eq_none (by simpa using h')] at hj; simp at hj
        have hx : x = ⟨(xs.getD j .top).toStr.toArray⟩ := by
          simp only [List.getElem?_map, List.getElem?_eq_getElem hlt, Option.map_some, Option.some.injEq] at hj
          rw [← hj]; simp [List.getD_eq_getElem?_getD, hlt]
        have := hc j 0 hlt (by omega)
        rw [hval j hlt] at this
        rw [hx]; simpa using this) hb (by rw [el]; exact g2) (by rw [el]; exact hcap) (by rw [em, ht]; exact g3)
      rw [el] at this
      refine this.mono ?_
      rintro e w' ⟨rfl, hbel⟩
      rw [em, ht]
      exact ⟨_, rfl, hbel, .str _⟩
  · simp at h
def strings_Repeat_o : List AV → Option (Bool × AV)
  | [.str a, .int .i64 n] => some (decide (0 ≤ n) && (decide (n ≤ 4611686018427387904) && decide (a.length * n.toNat ≤ 140737488355328)), .str (Lib.repeatL a n.toNat))
  | _ => none
theorem strings_Repeat_c : OcOk Tryd.prog ITryd 40 strings_Repeat_o := fun xs r h => by
  unfold strings_Repeat_o at h; split at h
  · rename_i a n
    simp only [Option.some.injEq, Prod.mk.injEq, decide_eq_true_eq, Bool.and_eq_true] at h; obtain ⟨⟨g1, g2, g3⟩, rfl⟩ := h
    refine ⟨enters_of Tryd.func40 rfl (by kernel_rfl), fun w A vs hI hA hrc => ?_⟩
    obtain ⟨v, u, rfl, h1, h2⟩ := rc2 hrc
    obtain ⟨s, rfl, rfl⟩ := h1.str_inv
    obtain rfl := h2.int_inv
    obtain ⟨k, rfl⟩ := Int.eq_ofNat_of_zero_le g1
    refine (Tryd.strings_Repeat s k w (by omega) (by simpa using g3)).mono ?_
    rintro e w' ⟨rfl, hb⟩
    exact ⟨_, rfl, hb, .str _⟩
  · simp at h
end Go.Sim
