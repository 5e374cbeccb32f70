/- report.padded: a word followed by blanks: walked by hand, for the executor knows no range over a string; the builder's writes by their contracts. -/
import Derived.Test.YtpnibjljhfgjaaaDoorK1
import Derived.BigCall
import Derived.Lib.OthersKept
import Derived.Deep.LoopGhost
set_option linter.unusedVariables false
set_option linter.unusedSimpArgs false
namespace Go.Sim
open Go.RowKit Go.Proofs

abbrev freshB : Box := ⟨0, 2, 50, [.agg [.nilptr, .nils]], false, true⟩
abbrev usedB (u n : Nat) : Box := ⟨0, 2, 50, [.agg [.own 0 0 0 0, .osl 1 u 0 n]], false, false⟩
abbrev bytesB (u : Nat) (s : List UInt8) : Box := ⟨u, 1, 5, M.byteAVs s, false, true⟩

theorem ws_fresh (s : List UInt8) (h : s.length ≤ 140737488355328) : GoodM Tryd.prog ITryd 39 [.own 0 0 0 0, .str s] [freshB] (.tuple [.int .i64 s.length, .top]) [usedB 0 s.length, bytesB 0 s] := by
  have e1 : M.strings_Builder_WriteString_F s = some ((s.length : Int), s.length, M.byteAVs s) := by
    unfold M.strings_Builder_WriteString_F M.strings_Builder_WriteString_F_t
    have h1 : decide ((M.byteAVs s).length * 1 ≤ 140737488355328) = true := by rw [byteAVs_length]; simpa using h
    have h2 : decide ((M.byteAVs s).length ≤ 4611686018427387904) = true := by rw [byteAVs_length]; simp; omega
    rw [h1, h2, byteAVs_length]; rfl
  refine M.strings_Builder_WriteString_F_c _ _ _ _ ?_
  have e : M.strings_Builder_WriteString_F_o [.own 0 0 0 0, .str s] [freshB] = some ((M.strings_Builder_WriteString_F s).isSome, (AV.tuple [AV.int .i64 ((M.strings_Builder_WriteString_F s).getD (0, 0, [])).1, AV.top], ([⟨0, 2, 50, [AV.agg [AV.own 0 0 0 0, AV.osl 1 0 0 ((M.strings_Builder_WriteString_F s).getD (0, 0, [])).2.1]], false, false⟩, ⟨0, 1, 5, ((M.strings_Builder_WriteString_F s).getD (0, 0, [])).2.2, false, true⟩] : List Box))) := rfl
  rw [e, e1]; rfl

theorem ws_used (a s : List UInt8) (h : a.length + s.length ≤ 140737488355328) : GoodM Tryd.prog ITryd 39 [.own 0 0 0 0, .str s] [usedB 0 a.length, bytesB 0 a] (.tuple [.int .i64 s.length, .top]) [usedB 1 (a ++ s).length, bytesB 1 (a ++ s)] := by
  have e1 : M.strings_Builder_WriteString_U0 s a.length (M.byteAVs a) = some ((s.length : Int), (a ++ s).length, M.byteAVs (a ++ s)) := by
    unfold M.strings_Builder_WriteString_U0 M.strings_Builder_WriteString_U0_t
    have h0 : (a.length == (M.byteAVs a).length) = true := by rw [byteAVs_length]; simp
    have h1 : decide ((a.length + (M.byteAVs s).length) * 1 ≤ 140737488355328) = true := by rw [byteAVs_length]; simpa using h
    have h2 : decide (a.length + (M.byteAVs s).length ≤ 4611686018427387904) = true := by rw [byteAVs_length]; simp; omega
    rw [h0, h1, h2, byteAVs_length, byteAVs_append, List.length_append]; rfl
  refine M.strings_Builder_WriteString_U0_c _ _ _ _ ?_
  have e : M.strings_Builder_WriteString_U0_o [.own 0 0 0 0, .str s] [usedB 0 a.length, bytesB 0 a] = some ((M.strings_Builder_WriteString_U0 s a.length (M.byteAVs a)).isSome, (AV.tuple [AV.int .i64 ((M.strings_Builder_WriteString_U0 s a.length (M.byteAVs a)).getD (0, 0, [])).1, AV.top], ([⟨0, 2, 50, [AV.agg [AV.own 0 0 0 0, AV.osl 1 1 0 ((M.strings_Builder_WriteString_U0 s a.length (M.byteAVs a)).getD (0, 0, [])).2.1]], false, false⟩, ⟨1, 1, 5, ((M.strings_Builder_WriteString_U0 s a.length (M.byteAVs a)).getD (0, 0, [])).2.2, false, true⟩] : List Box))) := rfl
  rw [e, e1]; rfl

/-- A builder of the call's own in block b that holds 'acc'; block k is none of its blocks, and nobody else reads it. -/
def IsB (B b k : Nat) (acc : List UInt8) (w : World) : Prop :=
  ∃ A M H, HR w A M B H ∧ (∃ m, M 0 = some m ∧ m.b = b) ∧ A k ∧ (∀ id m, M id = some m → 0 < m.cap → m.b ≠ k) ∧ ((H = [freshB] ∧ acc = []) ∨ H = [usedB 0 acc.length, bytesB 0 acc])

theorem isB_start (w : World) (o : Obj) : IsB w.heap.size w.heap.size (w.heap.size + 1) [] ((w.alloc (.cells #[.pointer none, .slice none 0 0] 50)).alloc o) := by
  have h0 : HR w (fun _ => False) noBox w.heap.size [freshB] := ⟨fun id m h => by simp [noBox] at h, fun id id' m m' h => by simp [noBox] at h, fun b h => h.elim⟩
  obtain ⟨s1, s2, s3, s4, s5⟩ := alloc_step (nid := 0) (bx := freshB) (c := #[.pointer none, .slice none 0 0]) (cap := 1) h0 (Nat.le_refl _) rfl rfl (by unfold maxLen; omega) rfl (by simp)
    (fun x hx => by simp only [List.mem_singleton] at hx; subst hx; rfl)
    (fun i j hi hj => by
      have hi0 : i = 0 := by simpa using hi
      subst hi0
      match j, hj with
      | 0, _ => exact .nilptr
      | 1, _ => exact .nils)
  have hM : ∀ id m, MPut noBox 0 ⟨w.heap.size, 0, 2, 1, 50⟩ id = some m → id = 0 ∧ m = ⟨w.heap.size, 0, 2, 1, 50⟩ := fun id m h => by
    by_cases hi : id = 0
    · subst hi; simp [MPut] at h; exact ⟨rfl, h.symm⟩
    · simp [MPut, hi, noBox] at h
  refine ⟨fun b => b = w.heap.size ∨ b = w.heap.size + 1, _, [freshB], ⟨fun id m h => ?_, fun id id' m m' h h' _ _ _ => by rw [(hM id m h).1, (hM id' m' h').1], fun b hb => by
    rcases hb with rfl | rfl <;> simp <;> omega⟩, ⟨_, s5, rfl⟩, .inr rfl, fun id m h h0 => by rw [(hM id m h).2]; simp, .inl ⟨rfl, rfl⟩⟩
  obtain ⟨rfl, rfl⟩ := hM id m h
  obtain ⟨bx, g1, g2⟩ := s4.box _ _ s5
  simp only [List.getElem?_cons_zero, Option.some.injEq] at g1
  subst g1
  refine ⟨freshB, rfl, g2.ver, g2.sz, g2.ty, g2.capm, g2.fits, g2.ok, g2.low, fun h0 => by simp; omega, fun h0 => ?_, fun h0 => ⟨fun _ => .inl rfl, fun _ => rfl⟩⟩
  obtain ⟨c, k1, k2, k3⟩ := g2.cells h0
  refine ⟨c, ?_, k2, fun i j hi hj => (k3 i j hi hj).flat ?_⟩
  · rw [Lib.alloc_old _ _ _ (g2.lt h0)]; exact k1
  · have hi0 : i = 0 := by simpa using hi
    subst hi0
    match j, hj with
    | 0, _ => rfl
    | 1, _ => rfl

/-- The block that is none of the builder's turns. -/
theorem IsB.other {B b k : Nat} {acc : List UInt8} {w w' : World} (h : IsB B b k acc w) (hs : w'.heap.size = w.heap.size) (ho : ∀ i, i ≠ k → w'.heap[i]? = w.heap[i]?) : IsB B b k acc w' := by
  obtain ⟨A, MM, H, hR, hm, hk, hne, hF⟩ := h
  have hw : ∀ i, i < w.heap.size → ¬ A i → w'.heap[i]? = w.heap[i]? := fun i _ hi => ho i fun e => hi (e ▸ hk)
  refine ⟨A, MM, H, ⟨fun id m hid => ?_, hR.inj, fun i hi => by rw [hs]; exact hR.lt i hi⟩, hm, hk, hne, hF⟩
  obtain ⟨bx, g1, g2⟩ := hR.box id m hid
  exact ⟨bx, g1, g2.mono (fun h0 => ho _ (hne id m hid h0)) hw (by omega) (fun _ _ h => h) g2.guard (MExt.refl _)⟩

/-- A write to it. -/
theorem isB_write {w0 w : World} (hI : ITryd.inv w0) (hB : Below w0.heap.size w0 w) {b k : Nat} {acc : List UInt8} (h : IsB w0.heap.size b k acc w) (s : ByteArray) (hlen : acc.length + s.data.toList.length ≤ 140737488355328) :
    Calls Tryd.prog 39 #[.pointer (some ⟨b, 0, none⟩), .string s] w fun e w' => (∃ v, e = .returned v) ∧ Below w0.heap.size w0 w' ∧ IsB w0.heap.size b k (acc ++ s.data.toList) w' ∧ w'.heap[k]? = w.heap[k]? := by
  obtain ⟨A, MM, H, hR, ⟨m, hm, rfl⟩, hk, hne, hF⟩ := h
  obtain ⟨bx, g1, g2⟩ := hR.box 0 m hm
  have hver : m.ver = 0 := by
    have := g2.ver
    rcases hF with ⟨rfl, _⟩ | rfl <;> simp only [List.getElem?_cons_zero, Option.some.injEq] at g1 <;> subst g1 <;> exact this.symm
  have hrc : RC w A MM [.pointer (some ⟨m.b, 0, none⟩), .string s] [.own 0 0 0 0, .str s.data.toList] := ⟨rfl, fun i hi => by
    match i, hi with
    | 0, _ => exact .own _ 0 0 0 0 m hm (by omega) rfl (fun _ => by simp)
    | 1, _ => exact .str s⟩
  have hkl := hR.lt k hk
  have fin : ∀ (H' : List Box) (r : AV) (u : Nat), GoodM Tryd.prog ITryd 39 [.own 0 0 0 0, .str s.data.toList] H r H' → H' = [usedB u (acc ++ s.data.toList).length, bytesB u (acc ++ s.data.toList)] → (0 < H.length) →
      Calls Tryd.prog 39 #[.pointer (some ⟨m.b, 0, none⟩), .string s] w fun e w' => (∃ v, e = .returned v) ∧ Below w0.heap.size w0 w' ∧ IsB w0.heap.size m.b k (acc ++ s.data.toList) w' ∧ w'.heap[k]? = w.heap[k]? := fun H' r u hg hH' hpos => by
    subst hH'
    refine (hg.2 w0 w A MM _ hI hB hR hrc).mono ?_
    rintro e w' ⟨v, A', M', rfl, hB', hA', hev, hR', hr⟩
    have hkeep : w'.heap[k]? = w.heap[k]? := hev.keep k hkl (.inr fun id m' h1 h2 => hne id m' h1 h2)
    have hAk : A' k := hev.more k hkl hk fun id m' h1 h2 => hne id m' h1 h2
    have hne' : ∀ id m', M' id = some m' → 0 < m'.cap → m'.b ≠ k := fun id m' h1 h2 => by
      rcases hev.src id m' h1 h2 with ⟨i, m1, q1, q2, q3⟩ | h3
      · rw [q3]; exact hne i m1 q1 q2
      · intro e; simp only at h3; omega
    obtain ⟨m', hm', hmm⟩ := hev.ids 0 m hpos hm
    obtain ⟨bx', q1, q2⟩ := hR'.box 0 m' hm'
    have hv' : m'.ver = 0 := by
      have := q2.ver
      simp only [List.getElem?_cons_zero, Option.some.injEq] at q1
      subst q1; exact this.symm
    have hmm' : m' = m := by
      rcases hmm with h | h
      · exact h
      · omega
    subst hmm'
    obtain ⟨M2, n1, _, n3, n4⟩ := hR'.norm (pin := 1) (ids := [0, 1]) (H' := [usedB 0 (acc ++ s.data.toList).length, bytesB 0 (acc ++ s.data.toList)]) rfl rfl (by simp [normH, normF, posOf, renBox, ren, rens, renBoxOk, renOk, rensOk, Nat.blt, Nat.ble])
    refine ⟨⟨v, rfl⟩, hB', ⟨A', M2, _, n1, ⟨m', n3 0 m' (by omega) hm', rfl⟩, hAk, fun id m2 h1 h2 => ?_, .inr rfl⟩, hkeep⟩
    obtain ⟨i, m3, p1, p2, p3⟩ := n4 id m2 h1
    rw [p2]
    exact hne' i m3 p1 (by omega)
  rcases hF with ⟨rfl, rfl⟩ | rfl
  · exact fin _ _ 0 (ws_fresh s.data.toList (by simpa using hlen)) (by simp) (by simp)
  · exact fin _ _ 1 (ws_used acc s.data.toList hlen) rfl (by simp)

/-- Its text. -/
theorem isB_string {w0 w : World} (hI : ITryd.inv w0) (hB : Below w0.heap.size w0 w) {b k : Nat} {acc : List UInt8} (h : IsB w0.heap.size b k acc w) (hne : acc ≠ []) :
    Calls Tryd.prog 18 #[.pointer (some ⟨b, 0, none⟩)] w fun e w' => e = .returned (.string ⟨acc.toArray⟩) ∧ Below w0.heap.size w0 w' := by
  obtain ⟨A, MM, H, hR, ⟨m, hm, rfl⟩, hk, hne', hF⟩ := h
  rcases hF with ⟨_, rfl⟩ | rfl
  · exact absurd rfl hne
  obtain ⟨bx, g1, g2⟩ := hR.box 0 m hm
  have hver : m.ver = 0 := by
    have := g2.ver
    simp only [List.getElem?_cons_zero, Option.some.injEq] at g1
    subst g1; exact this.symm
  have hrc : RC w A MM [.pointer (some ⟨m.b, 0, none⟩)] [.own 0 0 0 0] := ⟨rfl, fun i hi => by
    match i, hi with
    | 0, _ => exact .own _ 0 0 0 0 m hm (by omega) rfl (fun _ => by simp)⟩
  have hg := builder_String_c [.own 0 0 0 0] [usedB 0 acc.length, bytesB 0 acc] (.str (M.strOf (M.byteAVs acc))) _ (show _ = some (true, AV.str (M.strOf (M.byteAVs acc)), _) from by
    simp only [builder_String_o, Nat.beq_eq_true_eq, Nat.beq_refl, Bool.and_self, byteAVs_length, isBytes_byteAVs]
    have : acc.length ≠ 0 := fun e => hne (List.eq_nil_of_length_eq_zero e)
    simp [this]; rfl)
  refine (hg.2 w0 w A MM _ hI hB hR hrc).mono ?_
  rintro e w' ⟨v, A', M', rfl, hB', _, _, _, hr⟩
  rw [strOf_byteAVs] at hr
  obtain ⟨t, rfl, ht⟩ := hr.str_inv
  exact ⟨by rw [str_eta t ht], hB'⟩
end Go.Sim

namespace Go.Proofs
open Go.RowKit Go.Sim

theorem Pad.width_pos (s : ByteArray) (pos : Nat) (h : pos < s.size) : 1 ≤ (Utf8.decode s pos).2 := by
  by_cases ha : (s[pos]'h).toNat < 128
  · rw [decode_ascii s pos h ha]
    exact Nat.le_refl _
  · exact (decode_high s pos h (by omega)).2

set_option maxHeartbeats 4000000 in
set_option maxRecDepth 1000000 in
theorem Tryd.padded_walk (s : ByteArray) (n : Nat) (w : World) (hI : ITryd.inv w) (hs : s.size ≤ n) (hn : n ≤ 140737488355328) (h0 : 0 < n) :
    Calls Tryd.prog 38 #[.string s, .int .i64 n] w fun e w' => e = .returned (.string ⟨(s.data.toList ++ Lib.repeatL [32] (n - s.size)).toArray⟩) ∧ Below w.heap.size w w' := by
  have hsub : wrap64 ((n : Int) - (s.size : Int)) = (n : Int) - (s.size : Int) := by unfold wrap64; omega
  go_enter Tryd.func38, Tryd.ntmps38
  go_wp2
  go_loopw [6] (fun v wr => ∃ (p pos : Nat), v = .int .i64 p ∧ p ≤ pos ∧ IsB w.heap.size w.heap.size (w.heap.size + 1) (s.data.toList.take p) wr ∧ wr.heap[w.heap.size + 1]? = some (.stringIter s pos) ∧ Below w.heap.size w wr ∧ p ≤ s.size) (fun _ wr => s.size - wr.iterPos (w.heap.size + 1))
  case atStart =>
    refine ⟨0, 0, rfl, Nat.le_refl _, isB_start w _, ?_, ((Below.refl _ w).alloc (Nat.le_refl _) _).alloc (by simp) _, Nat.zero_le _⟩
    have := World.iter_heap (w.alloc (.cells #[.pointer none, .slice none 0 0] 50)) s 0
    simpa using this
  case round =>
    obtain ⟨p, pos, rfl, hpp, hB, hit, hbw, hps⟩ := hrel
    have hsz : w.heap.size + 1 < wr.heap.size := (Array.getElem?_eq_some_iff.1 hit).1
    by_cases hp : pos < s.size
    · have hnx : ∀ ty, (Instr.next (.pointer (some ⟨w.heap.size + 1, 0, none⟩)) true ty).run Tryd.prog wr = _ := fun ty => Lib.run_next_any_at wr (w.heap.size + 1) s pos ty hit hp
      have hwd := Pad.width_pos s pos hp
      have hit2 := Lib.iterAt_heap wr (w.heap.size + 1) s pos (pos + (Utf8.decode s pos).2) hit
      have hbw2 := Lib.below_iterAt hbw (k := w.heap.size + 1) (by omega) s (pos + (Utf8.decode s pos).2)
      have hB2 : IsB w.heap.size w.heap.size (w.heap.size + 1) (s.data.toList.take p) (wr.iterAt (w.heap.size + 1) s (pos + (Utf8.decode s pos).2)) := hB.other (by rw [Lib.iterAt_size]) (fun i hi => Lib.iterAt_other wr _ _ _ _ hi)
      have hext : (s.extract p pos).data.toList = (s.data.toList.take pos).drop p := by simp [List.drop_take]
      have htk : s.data.toList.take p ++ (s.extract p pos).data.toList = s.data.toList.take pos := by
        rw [hext]
        conv => rhs; rw [← List.take_append_drop p (s.data.toList.take pos)]
        rw [List.take_take, Nat.min_eq_left hpp]
      have hlen : (s.data.toList.take p).length + (s.extract p pos).data.toList.length ≤ 140737488355328 := by
        have := congrArg List.length htk
        simp only [List.length_append, List.length_take] at this ⊢
        have : s.data.toList.length = s.size := by simp
        omega
      have hsl := fun (wx : World) => run_slice_string (P := Tryd.prog) (w := wx) 9 s .i64 .i64 (p : Int) (pos : Int) (by kernel_rfl) (by omega) (by omega) (by omega)
      simp only [Int.toNat_natCast] at hsl
      go_wp2_with (go_at_call 4; skip)
      refine (isB_write hI hbw2 hB2 (s.extract p pos) hlen).mono ?_
      rintro e W1 ⟨⟨v, rfl⟩, hb1, h1, k1⟩
      rw [htk] at h1
      go_wp2
      go_roundw
      case rel =>
        refine ⟨pos, pos + (Utf8.decode s pos).2, rfl, by omega, h1, by rw [k1]; exact hit2, hb1, by omega⟩
      case measure =>
        simp only [World.iterPos, k1, hit2, hit]
        omega
    · have hnx : ∀ ty, (Instr.next (.pointer (some ⟨w.heap.size + 1, 0, none⟩)) true ty).run Tryd.prog wr = _ := fun ty => Lib.run_next_end_at wr (w.heap.size + 1) s pos ty hit hp
      have hsl : s.data.toList.length = s.size := by simp
      have hext : (s.extract p s.size).data.toList = s.data.toList.drop p := by
        simp
        rw [List.take_of_length_le (by simp)]
      have htk : s.data.toList.take p ++ (s.extract p s.size).data.toList = s.data.toList := by
        rw [hext, List.take_append_drop]
      have hlen : (s.data.toList.take p).length + (s.extract p s.size).data.toList.length ≤ 140737488355328 := by
        have := congrArg List.length htk
        rw [List.length_append] at this
        omega
      have hrep : (Lib.repeatL [32] (n - s.size)).length = n - s.size := by
        rw [Lib.repeatL_length]; simp
      go_wp2_with (go_at_call 3; skip)
      refine (isB_write hI hbw hB (s.extract p s.size) hlen).mono ?_
      rintro e W1 ⟨⟨v, rfl⟩, hb1, h1, k1⟩
      rw [htk] at h1
      go_wp2_with (go_at_call 4; skip)
      rw [show ((n : Int) - (s.size : Int)) = ((n - s.size : Nat) : Int) by omega]
      have hr32 : (⟨#[32]⟩ : ByteArray).size * (n - s.size) ≤ 140737488355328 := by
        have : (⟨#[32]⟩ : ByteArray).size = 1 := rfl
        rw [this]; omega
      refine (Tryd.strings_Repeat ⟨#[32]⟩ (n - s.size) W1 (by omega) hr32).mono ?_
      rintro e W2 ⟨rfl, hb2⟩
      have h2 : IsB w.heap.size w.heap.size (w.heap.size + 1) s.data.toList W2 := by
        obtain ⟨A, MM, H, hR, hm, hk, hne, hF⟩ := h1
        exact ⟨A, MM, H, hR.grow hb2, hm, hk, hne, hF⟩
      have hb2' : Below w.heap.size w W2 := hb1.trans (hb2.mono hb1.size)
      go_wp2_with (go_at_call 5; skip)
      refine (isB_write hI hb2' h2 ⟨(Lib.repeatL [32] (n - s.size)).toArray⟩ (by simp [hrep]; omega)).mono ?_
      rintro e W3 ⟨⟨v3, rfl⟩, hb3, h3, k3⟩
      go_wp2_with (go_at_call 0; skip)
      refine (isB_string hI hb3 h3 (by
        intro e
        have := congrArg List.length e
        simp only [List.length_append, hsl, List.toList_toArray, hrep, List.length_nil] at this
        omega)).mono ?_
      rintro e W4 ⟨rfl, hb4⟩
      go_wp2
      go_ret
      exact ⟨by simp, hb4⟩
end Go.Proofs
