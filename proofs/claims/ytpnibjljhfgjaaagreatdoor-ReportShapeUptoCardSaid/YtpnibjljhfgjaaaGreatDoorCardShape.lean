/- For every input the law bitemporal/bitemporallaw55.ReportShape returns true, and its arguments read behind the call as they read before. Condition: the library's five listed tables hold what their own initialisers lay, which the card ties to the program's text. Where the arguments are of bulk at most 1048576. -/
import Derived.Test.YtpnibjljhfgjaaaGreatDoorDoorZ
import Derived.Test.YtpnibjljhfgjaaaGreatDoorPlnM
set_option maxRecDepth 10000
set_option linter.unusedVariables false
set_option linter.unusedSimpArgs false
namespace Go.Proofs.YtpnibjljhfgjaaaGreatDoor.reportShape
open Go.ChangeShapes Go.WideShapes Go.ChangeAt Go.RowKit Go.Sim

theorem contract (H : Type) (enc : TypeId × Value → H) (W : World) (base : Nat) (args : Array Value) (ds gs : List (DataW H)) (before : List MemPlace)
    (hval : ∀ (j : Nat) t v, Tryz.f7.params[j]? = some t → args[j]? = some v → Value.okWide Tryz.prog W .any base t v)
    (hW : DataW.Whole enc Tryz.prog Tryz.f7.params.toList Rows.reportShapeSpec.vars false W args.toList ds gs before) (hL : laidMetH Tryz.prog Rows.reportShapeUptoRow.laid W) (hsh : W.ShapedOpen Tryz.prog) (hbulk : Rows.uptoBulkAll (ds ++ gs) ≤ 1048576) :
    Calls Tryz.prog 7 args W fun e W' => ∃ v, e = .returned v ∧ Rows.reportShapeSpec.post enc Tryz.prog Tryz.f7 false true false false W args v W' := by
  have hW' := hW
  obtain ⟨p, q, hA0, hV, rfl, hfz, hnd⟩ := hW
  have hA : DataW.TrodAll enc Tryz.prog W 0 (fun _ => true) true Tryz.f7.params.toList args.toList ds p := hA0
  have hAk := hA
  rw [Tryz.params7] at hA hval
  obtain ⟨v0, vs0, d0, ds0, p0, q0, hargs, rfl, rfl, h0, r0⟩ := trodAll_cons hA
  obtain ⟨v1, vs1, d1, ds1, p1, q1, rfl, rfl, rfl, h1, r1⟩ := trodAll_cons r0
  obtain ⟨rfl, rfl, rfl⟩ := trodAll_nil r1
  obtain rfl : args = #[v0, v1] := by cases args; simp_all
  obtain ⟨rfl, rfl⟩ := trodVars_none hV
  obtain ⟨a0, rr0, b0, w0⟩ := open_res (hval 0 25 v0 rfl rfl) h0
  obtain ⟨a1, rr1, b1, w1⟩ := open_vers (hval 1 41 v1 rfl rfl) h1
  clear hA0
  have hbulk : ((.agg [.list 3 (a0.c.map M.encC), .list 3 (a0.fs.map M.encF), .int .i64 a0.n, .int .i64 a0.tm]) : AV).wt + (.list 9 (a1.map M.encW) : AV).wt ≤ 1048576 := by
    rw [List.append_nil, bulkAll_sum] at hbulk
    simp only [List.map_cons, List.map_nil, List.sum_cons, List.sum_nil] at hbulk
    have := b0 _ meas_bulk
    have := b1 _ meas_bulk
    omega
  have hI : ITryz W := inv_of rfl (by kernel_rfl) hL hsh
  have hpl := M.law_shp a0 a1 w0 w1 hbulk
  have hg : Sim.Good Tryz.prog ITryz 7 [(.agg [.list 3 (a0.c.map M.encC), .list 3 (a0.fs.map M.encF), .int .i64 a0.n, .int .i64 a0.tm]), .list 9 (a1.map M.encW)] (.bool true) := M.law55_ReportShape_c _ _ (by
    show some (_, AV.bool _) = _
    rw [hpl]; rfl)
  have hrc : RC W (fun _ => False) noBox [v0, v1] [(.agg [.list 3 (a0.c.map M.encC), .list 3 (a0.fs.map M.encF), .int .i64 a0.n, .int .i64 a0.tm]), .list 9 (a1.map M.encW)] := by
    refine ⟨rfl, fun i hi => ?_⟩
    match i, hi with
    | 0, _ => exact rr0
    | 1, _ => exact rr1
  refine (hg.2 W (fun _ => False) _ hI (fun _ h => h.elim) hrc).mono fun e W' ⟨v, he, hb, hr⟩ => ?_
  subst he
  obtain rfl := hr.bool_inv
  exact ⟨_, rfl, post_true rfl hW' ⟨rfl, rfl, rfl⟩ rfl Tryz.underlying4 (by simpa using TrodAll_below laidTryz hb (by kernel_rfl) hAk) hb⟩

noncomputable def wit : Array Value := #[.agg #[.slice none 0 0, .slice none 0 0, .int .i64 0, .int .i64 0], .slice none 0 0]

theorem laid_met (os : Os) : laidMet Tryz.prog Rows.reportShapeUptoRow.laid ((laidWorld Tryz.prog Rows.reportShapeUptoRow.laid os).forCall (fun _ _ => 0) ⟨#[], wit, []⟩).memory :=
  laidMet_of_run3 8 (by kernel_rfl) (by kernel_rfl) (by kernel_rfl)
theorem reads (os : Os) {H : Type} (enc : TypeId × Value → H) : ∃ places, DataW.whole enc Tryz.prog ((laidWorld Tryz.prog Rows.reportShapeUptoRow.laid os).forCall (fun _ _ => 0) ⟨#[], wit, []⟩).memory Tryz.f7.params.toList Rows.reportShapeSpec.vars false wit.toList 8 = some ([.agg [.nil, .nil, .lit (.int .i64 0), .lit (.int .i64 0)], .nil], [], places) :=
  ⟨[], by kernel_rfl⟩

set_option maxRecDepth 100000 in
theorem lifted (os : Os) (started : os.Started) (H : Type) (enc : TypeId × Value → H) (F : Stop.Interp) :
    ReturnsInHanded {} Tryz.checked os 7 .any ((Rows.OpenSpec.upto Rows.reportShapeSpec).preRow enc Tryz.prog Tryz.f7 Rows.reportShapeUptoRow.domain false Rows.reportShapeUptoRow.laid) (((Rows.OpenSpec.upto Rows.reportShapeSpec).at F).post enc Tryz.prog Tryz.f7 false true false false) := by
  obtain ⟨places, hx⟩ := reads os enc
  refine returnsInHanded_of_row (C := Tryz.checked) (s := Rows.OpenSpec.upto Rows.reportShapeSpec) ownTryz started (by kernel_rfl) Tryz.func7
    (witness_row_at (enc := enc) (C := Tryz.checked) false (laidWorld Tryz.prog Rows.reportShapeUptoRow.laid os) wit rfl (by kernel_rfl) (by kernel_rfl) (by kernel_rfl)
      (OpenSpec.preRow_of_cond 8 hx (by kernel_rfl) (fun k hk => by cases hk; kernel_rfl) (by kernel_rfl) (laid_met os))) ?_
  intro W base args ds gs before hval hW _ hcond _ hL hsh _
  exact contract H enc W base args ds gs before hval hW hL hsh (of_decide_eq_true (hcond _ rfl))

theorem said : Rows.ReportShapeUptoSaid :=
  OpenClaim.holds_of_cond 7 Tryz.f7 rfl rfl rfl rfl rfl rfl rfl ⟨rfl, rfl, rfl, rfl, rfl⟩ rfl rfl rfl rfl rfl (by kernel_rfl) Tryz.func7 (by kernel_rfl)
    (of_decide_eq_true (by kernel_rfl)) (by unfold Func.isWrapper; first | (rw [if_pos (by decide +kernel)]; kernel_rfl) | (rw [if_neg (by decide +kernel)]; exact ⟨rfl, rfl⟩))
    (fun os started H enc _ F => by rw [OpenClaim.pre_eq_preRow]; exact lifted os started H enc F)

theorem plain (f : FuncId) (fn : Func) (hf : Tryz.pinned.checked.prog.funcNamed "bitemporal/bitemporallaw55.ReportShape" = some f) (hfn : Tryz.pinned.checked.prog.funcs[f]? = some fn) :
    false = Tryz.pinned.checked.prog.looks [] ∧ ∀ (j : Nat) t, fn.params[j]? = some t → Tryz.pinned.checked.prog.wantsStandIn t = false := by
  obtain rfl : f = 7 := Option.some.inj ((show Tryz.prog.funcNamed "bitemporal/bitemporallaw55.ReportShape" = some 7 by kernel_rfl).symm.trans hf) |>.symm
  obtain rfl : fn = Tryz.f7 := (Option.some.inj (Tryz.func7.symm.trans hfn)).symm
  refine ⟨by kernel_rfl, fun j t ht => ?_⟩
  rw [Tryz.params7] at ht
  have hm := Array.mem_of_getElem? ht
  have : ([25, 41] : List Nat).all (fun t => !(Tryz.prog.wantsStandIn t)) = true := by kernel_rfl
  have := List.all_eq_true.1 this t (by simpa using hm)
  show Tryz.prog.wantsStandIn t = false
  simpa using this

/-- THE CARD. -/
theorem card : Rows.ReportShapeUptoCardSaid :=
  Claim7.holds_tied_plain_at .later [] _ _ _ _ said (fun _ h => by cases h) (by kernel_rfl) (fun _ h => by cases h) reportShapeUpto_row_tie rfl ⟨rfl, rfl⟩ (by kernel_rfl) rfl plain (by kernel_rfl)
end Go.Proofs.YtpnibjljhfgjaaaGreatDoor.reportShape
