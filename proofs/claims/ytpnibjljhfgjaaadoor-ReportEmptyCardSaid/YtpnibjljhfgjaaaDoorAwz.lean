/- The chapter's examples: awake() gives true. -/
import Derived.Test.YtpnibjljhfgjaaaDoorPad0
import Derived.Test.YtpnibjljhfgjaaaDoorCloneM
set_option linter.unusedVariables false
set_option maxRecDepth 100000
namespace Go.Sim.M
open Go.RowKit Go.Proofs

/-- Functions that write into their caller's boxes, or hand one back. -/
def mmA (g : FuncId) : Bool := ([23, 24, 39, 15, 52, 64, 75] : List Nat).contains g

noncomputable def EA0 : Env := ((({ E0 with ls := lsOf [32], fuel := 1000 } : Env).with 38 report_padded_o).withM 37 slices_Clone_o)
theorem EA0_ok : OrcOk Tryd.prog ITryd EA0 := (OrcOk.with (E := { E0 with ls := lsOf [32], fuel := 1000 }) E0_ok report_padded_c).withM slices_Clone_c

noncomputable def EAd : Env := { Env.deep Tryd.prog mmA EA0 12 with pin := 0 }

theorem awake_x : XF Tryd.prog EAd Tryd.f7 (Tryd.f7.body.getD .skip) [] = some (.bool true) := by kernel_rfl

def awake_o : List AV → Option (Bool × AV)
  | [] => some (true, .bool true)
  | _ => none
theorem awake_c : OcOk Tryd.prog ITryd 7 awake_o := fun xs r h => by
  unfold awake_o at h; split at h
  · simp only [Option.some.injEq, Prod.mk.injEq, true_and] at h; subst h
    have hd := orcOk_deep mxTryd mmA (inv0Ok Tryd.prog 0) EA0_ok (fun _ => rfl) 12
    exact good_pin (p := 0) (good_XF mxTryd (inv0Ok Tryd.prog _) rfl (orcOk_pin hd) Tryd.func7 rfl (by kernel_rfl) (loOk_none fun _ => rfl) awake_x)
  · simp at h
end Go.Sim.M
