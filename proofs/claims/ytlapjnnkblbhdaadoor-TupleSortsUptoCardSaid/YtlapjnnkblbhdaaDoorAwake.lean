/- The law package's own closed examples, run by the kernel. -/
import Derived.Test.YtlapjnnkblbhdaaDoorLib0
set_option linter.unusedVariables false
set_option linter.unusedSimpArgs false
set_option maxRecDepth 100000
namespace Go.Sim.M
open Go.RowKit Go.Proofs
def awakeM (g : Nat) : Bool := g == 55 || g == 71 || g == 79 || g == 80 || g == 87 || g == 96
theorem awake_x : XF Tryd.prog (Env.deep Tryd.prog awakeM { E0 with ls := lsOf [22] } 12) Tryd.f14 (Tryd.f14.body.getD .skip) [] = some (.bool true) := by kernel_rfl
def awake_o : List AV → Option (Bool × AV)
  | [] => some (true, .bool true)
  | _ => none
theorem awake_c : OcOk Tryd.prog ITryd 14 awake_o := fun xs r h => by
  unfold awake_o at h; split at h
  · simp only [Option.some.injEq, Prod.mk.injEq, true_and] at h; subst h
    have h0 : OrcOk Tryd.prog ITryd { E0 with ls := lsOf [22] } := ⟨fun g xs r h => E0_ok.1 g xs r h, fun g xs H r H' h => E0_ok.2 g xs H r H' h⟩
    have hd := orcOk_deep mxTryd awakeM (inv0Ok Tryd.prog 0) h0 (fun _ => rfl) 12
    exact good_pin (p := 0) (good_XF mxTryd (inv0Ok Tryd.prog _) rfl (orcOk_pin hd) Tryd.func14 rfl (by kernel_rfl) (loOk_none fun _ => rfl) awake_x)
  · simp at h
end Go.Sim.M
