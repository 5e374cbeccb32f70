/- report.padded of nothing at no width. -/
import Derived.Test.YtpnibjljhfgjaaaDoorPad
set_option linter.unusedVariables false
set_option linter.unusedSimpArgs false
namespace Go.Proofs
open Go.RowKit Go.Sim

/-- A builder in block b that holds nothing and has no buffer. -/
def Pad.NB (B b : Nat) (w w' : World) : Prop :=
  w'.heap[b]? = some (.cells #[.pointer (some ⟨b, 0, none⟩), .slice none 0 0] 50 (0, 0)) ∧ (∀ k, k ≠ b → w'.heap[k]? = w.heap[k]?) ∧ w'.heap.size = w.heap.size ∧ Below B w w'

theorem Pad.nb_set {B b : Nat} {w : World} {cs : Array Value} (hB : B ≤ b) (hh : w.heap[b]? = some (.cells cs 50 (0, 0))) (i : Nat) (v : Value) (he : cs.setIfInBounds i v = #[.pointer (some ⟨b, 0, none⟩), .slice none 0 0]) : Pad.NB B b w (w.setCell ⟨b, i, none⟩ v) := by
  rw [setCell_eq_setRow w b i cs _ _ _ hh, he]
  exact ⟨setRow_heap w b cs _ _ _ hh, fun k hk => setRow_other w b k _ hk, by simp [World.setRow], rfl, rfl, rfl, by simp [World.setRow], fun k hk => setRow_other w b k _ (by omega)⟩

theorem Pad.cc {B b : Nat} (hB : B ≤ b) (w : World) (p : Value) (hh : w.heap[b]? = some (.cells #[p, .slice none 0 0] 50 (0, 0))) (hp : p = .pointer none ∨ p = .pointer (some ⟨b, 0, none⟩)) :
    Calls Tryd.prog 29 #[.pointer (some ⟨b, 0, none⟩)] w fun e w' => e = .returned (.tuple #[]) ∧ Pad.NB B b w w' := by
  rcases hp with rfl | rfl
  · refine (Tryd.copyCheck_fresh b 1 (by omega) w (by simp [World.cell?, hh]) (by simp [World.shape?, hh]) (Lib.frozen_of_heap hh 0)).mono ?_
    rintro e w' ⟨rfl, rfl⟩
    exact ⟨rfl, Pad.nb_set hB hh 0 _ rfl⟩
  · refine (Tryd.copyCheck_used b w (by simp [World.cell?, hh])).mono ?_
    rintro e w' ⟨rfl, rfl⟩
    exact ⟨rfl, hh, fun _ _ => rfl, rfl, Below.refl _ _⟩

set_option maxHeartbeats 4000000 in
set_option maxRecDepth 1000000 in
theorem Pad.ws_empty {B b : Nat} (hB : B ≤ b) (w : World) (p : Value) (hh : w.heap[b]? = some (.cells #[p, .slice none 0 0] 50 (0, 0))) (hp : p = .pointer none ∨ p = .pointer (some ⟨b, 0, none⟩)) (s : ByteArray) (hs : s.size = 0) :
    Calls Tryd.prog 39 #[.pointer (some ⟨b, 0, none⟩), .string s] w fun e w' => (∃ v, e = .returned v) ∧ Pad.NB B b w w' := by
  have tb : Tryd.prog.underlying 48 = some (.slice 5) := by kernel_rfl
  have ts : Tryd.prog.underlying 9 = some .string := by kernel_rfl
  have hi : (Tryd.prog.info? 5).isSome = true := by kernel_rfl
  obtain ⟨i, hi⟩ := Option.isSome_iff_exists.1 hi
  have hap : ∀ ty W, (Builtin.append_ #[48, 9] ty #[.slice none 0 0, .string s]).run Tryd.prog W = .ok (.slice none 0 0) W := fun ty W => run_append_zero_string (w := W) tb ts hi none 0 0 (Nat.le_refl _) s hs
  have hcc := Pad.cc hB w p hh hp
  go_enter Tryd.func39, Tryd.ntmps39
  go_wp2_with (go_at_call 1; skip)
  refine hcc.mono ?_
  rintro e W1 ⟨rfl, n1, n2, n3, n4⟩
  have c1 : W1.cell? ⟨b, 1, none⟩ = some (.slice none 0 0) := by simp [World.cell?, n1]
  have f1 := Lib.frozen_of_heap n1 1
  have hst := Pad.nb_set (B := B) hB n1 1 (.slice none 0 0) rfl
  go_wp2
  go_ret2
  obtain ⟨m1, m2, m3, m4⟩ := hst
  exact ⟨⟨_, rfl⟩, m1, fun k hk => (m2 k hk).trans (n2 k hk), m3.trans n3, n4.trans m4⟩

set_option maxHeartbeats 1000000 in
set_option maxRecDepth 1000000 in
theorem Tryd.padded_empty (w : World) :
    Calls Tryd.prog 38 #[.string ⟨#[]⟩, .int .i64 0] w fun e w' => e = .returned (.string ⟨#[]⟩) ∧ Below w.heap.size w w' := by
  go_enter Tryd.func38, Tryd.ntmps38
  go_wp2
  go_loopw [6] (fun v wr => v = .int .i64 0 ∧ wr.heap[w.heap.size]? = some (.cells #[.pointer none, .slice none 0 0] 50 (0, 0)) ∧ wr.heap[w.heap.size + 1]? = some (.stringIter ⟨#[]⟩ 0) ∧ Below w.heap.size w wr) (fun _ wr => 0)
  case atStart =>
    refine ⟨rfl, ?_, ?_, ((Below.refl _ w).alloc (Nat.le_refl _) _).alloc (by simp) _⟩
    · show ((w.alloc (.cells #[.pointer none, .slice none 0 0] 50)).alloc (.stringIter ⟨#[]⟩ 0)).heap[w.heap.size]? = _
      rw [Lib.alloc_old _ _ _ (by simp)]; exact heap_alloc_new w _
    · have := World.iter_heap (w.alloc (.cells #[.pointer none, .slice none 0 0] 50)) ⟨#[]⟩ 0
      simpa using this
  case round =>
    obtain ⟨rfl, hh, hit, hbw⟩ := hrel
    have hnx : ∀ ty, (Instr.next (.pointer (some ⟨w.heap.size + 1, 0, none⟩)) true ty).run Tryd.prog wr = _ := fun ty => Lib.run_next_end_at wr (w.heap.size + 1) ⟨#[]⟩ 0 ty hit (by decide)
    go_wp2_with (go_at_call 3; skip)
    refine (Pad.ws_empty (B := w.heap.size) (Nat.le_refl _) wr _ hh (.inl rfl) _ rfl).mono ?_
    rintro e W1 ⟨⟨v, rfl⟩, n1, n2, n3, n4⟩
    go_wp2_with (go_at_call 4; skip)
    refine (Tryd.strings_Repeat_zero ⟨#[32]⟩ W1).mono ?_
    rintro e W2 ⟨rfl, rfl⟩
    go_wp2_with (go_at_call 5; skip)
    refine (Pad.ws_empty (B := w.heap.size) (Nat.le_refl _) W2 _ n1 (.inr rfl) ⟨#[]⟩ rfl).mono ?_
    rintro e W3 ⟨⟨v3, rfl⟩, m1, m2, m3, m4⟩
    go_wp2_with (go_at_call 0; skip)
    refine (Tryd.builder_string_nil w.heap.size W3 (by simp [World.cell?, m1])).mono ?_
    rintro e W4 ⟨rfl, rfl⟩
    go_wp2
    go_ret
    exact ⟨rfl, ((hbw.trans n4).trans m4).drew⟩
end Go.Proofs

namespace Go.Sim
open Go.RowKit Go.Proofs

def report_padded_o : List AV → Option (Bool × AV)
  | [.str s, .int .i64 n] => some (decide ((s.length : Int) ≤ n) && decide (n ≤ 140737488355328), .str (s ++ Lib.repeatL [32] (n.toNat - s.length)))
  | _ => none

theorem report_padded_c : OcOk Tryd.prog ITryd 38 report_padded_o := fun xs r h => by
  unfold report_padded_o at h; split at h
  · rename_i a n
    simp only [Option.some.injEq, Prod.mk.injEq, decide_eq_true_eq, Bool.and_eq_true] at h; obtain ⟨⟨g1, g2⟩, rfl⟩ := h
    refine ⟨enters_of Tryd.func38 rfl (by kernel_rfl), fun w A vs hI hA hrc => ?_⟩
    obtain ⟨v, u, rfl, h1, h2⟩ := rc2 hrc
    obtain ⟨s, rfl, rfl⟩ := h1.str_inv
    obtain rfl := h2.int_inv
    obtain ⟨k, rfl⟩ := Int.eq_ofNat_of_zero_le (show 0 ≤ n by omega)
    have hl : s.data.toList.length = s.size := by simp
    rw [hl] at g1 ⊢
    rcases Nat.eq_zero_or_pos k with rfl | hk
    · have hs0 : s = ⟨#[]⟩ := by
        have : s.size = 0 := by omega
        obtain ⟨⟨l⟩⟩ := s
        have : l = [] := List.eq_nil_of_length_eq_zero this
        subst this; rfl
      subst hs0
      refine (Tryd.padded_empty w).mono ?_
      rintro e w' ⟨rfl, hb⟩
      exact ⟨_, rfl, hb, .str _⟩
    · refine (Tryd.padded_walk s k w hI (by omega) (by omega) hk).mono ?_
      rintro e w' ⟨rfl, hb⟩
      exact ⟨_, rfl, hb, .str _⟩
  · simp at h
end Go.Sim
