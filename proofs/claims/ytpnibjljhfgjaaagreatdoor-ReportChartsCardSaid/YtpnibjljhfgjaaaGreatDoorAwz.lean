/- The chapter's examples: awake() gives true. -/
import Derived.Test.YtpnibjljhfgjaaaGreatDoorKB
set_option linter.unusedVariables false
set_option maxRecDepth 100000
namespace Go.Sim.M
open Go.RowKit Go.Proofs

/-- Functions that write into their caller's boxes, or hand one back. -/
def mmA (g : FuncId) : Bool := ([27, 28, 55, 39, 94, 105, 113] : List Nat).contains g

noncomputable def EA0 : Env := ((({ E0 with ls := lsOf [59], fuel := 1000 } : Env).with 54 report_padded_o).withM 53 slices_Clone_o).withM 67 slices_Grow_o
theorem EA0_ok : OrcOk Tryz.prog ITryz EA0 := ((OrcOk.with (E := { E0 with ls := lsOf [59], fuel := 1000 }) E0_ok report_padded_c).withM slices_Clone_c).withM slices_Grow_c

noncomputable def EAd : Env := { Env.deep Tryz.prog mmA EA0 12 with pin := 0 }

theorem awake_x : XF Tryz.prog EAd Tryz.f10 (Tryz.f10.body.getD .skip) [] = some (.bool true) := by kernel_rfl

def awake_o : List AV → Option (Bool × AV)
  | [] => some (true, .bool true)
  | _ => none
theorem awake_c : OcOk Tryz.prog ITryz 10 awake_o := fun xs r h => by
  unfold awake_o at h; split at h
  · simp only [Option.some.injEq, Prod.mk.injEq, true_and] at h; subst h
    have hd := orcOk_deep mxTryz mmA (inv0Ok Tryz.prog 0) EA0_ok (fun _ => rfl) 12
    exact good_pin (p := 0) (good_XF mxTryz (inv0Ok Tryz.prog _) rfl (orcOk_pin hd) Tryz.func10 rfl (by kernel_rfl) (loOk_none fun _ => rfl) awake_x)
  · simp at h
end Go.Sim.M
