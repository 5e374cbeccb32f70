/- Functions of the program, as the executor found them: printed by program, checked by the kernel. -/
import Derived.Test.YtkoepgogaojgmaaDoorAwake
set_option linter.unusedVariables false
set_option linter.unusedSimpArgs false
set_option maxRecDepth 100000
namespace Go.Sim.M
open Go.RowKit Go.Proofs

/- 1 nodes -/
def value_least2 (l0 : Int) (l1 : Int) : Int := (if Go.Sim.M.value_normal l1 < if Go.Sim.M.value_normal l0 < (2 : Int) then Go.Sim.M.value_normal l0 else (2 : Int) then Go.Sim.M.value_normal l1 else if Go.Sim.M.value_normal l0 < (2 : Int) then Go.Sim.M.value_normal l0 else (2 : Int))
theorem value_least2_x (l0 : Int) (l1 : Int) : XF Tryd.prog E1a Tryd.f60 (Tryd.f60.body.getD .skip) [AV.list (1 : Nat) [AV.int IntKind.i64 l0, AV.int IntKind.i64 l1]] = some (.int .i64 (value_least2 l0 l1)) :=
  (show _ = some (AV.int IntKind.i64 (if Go.Sim.M.value_normal l1 < if Go.Sim.M.value_normal l0 < (2 : Int) then Go.Sim.M.value_normal l0 else (2 : Int) then Go.Sim.M.value_normal l1 else if Go.Sim.M.value_normal l0 < (2 : Int) then Go.Sim.M.value_normal l0 else (2 : Int))) by kernel_rfl).trans (by unfold value_least2; repeat' (first | rfl | refine br_map (f := fun (p : Int) => some (.int .i64 p : AV)) ?_ ?_))
def value_least2_o : List AV → Option (Bool × AV)
  | [AV.list (1 : Nat) [AV.int IntKind.i64 l0, AV.int IntKind.i64 l1]] => some (true, .int .i64 (value_least2 l0 l1))
  | _ => none
theorem value_least2_c : OcOk Tryd.prog ITryd 60 value_least2_o := fun xs r h => by
  unfold value_least2_o at h; split at h
  · simp only [Option.some.injEq, Prod.mk.injEq, true_and] at h; subst h
    exact good_XF mxTryd (inv0Ok _) E1a_ok Tryd.func60 rfl (by kernel_rfl) (loOk_none fun _ _ _ => rfl) (value_least2_x ..)
  · simp at h

/- 1 nodes -/
def value_Not (a : Int) : Int := (IntKind.i64.wrap ((2 : Int) - Go.Sim.M.value_normal a))
theorem value_Not_x (a : Int) : XF Tryd.prog E1a Tryd.f33 (Tryd.f33.body.getD .skip) [AV.int IntKind.i64 a] = some (.int .i64 (value_Not a)) :=
  (show _ = some (AV.int IntKind.i64 (IntKind.i64.wrap ((2 : Int) - Go.Sim.M.value_normal a))) by kernel_rfl).trans (by unfold value_Not; repeat' (first | rfl | refine br_map (f := fun (p : Int) => some (.int .i64 p : AV)) ?_ ?_))
def value_Not_o : List AV → Option (Bool × AV)
  | [AV.int IntKind.i64 a] => some (true, .int .i64 (value_Not a))
  | _ => none
theorem value_Not_c : OcOk Tryd.prog ITryd 33 value_Not_o := fun xs r h => by
  unfold value_Not_o at h; split at h
  · simp only [Option.some.injEq, Prod.mk.injEq, true_and] at h; subst h
    exact good_XF mxTryd (inv0Ok _) E1a_ok Tryd.func33 rfl (by kernel_rfl) (loOk_none fun _ _ _ => rfl) (value_Not_x ..)
  · simp at h

/- 5 nodes -/
def value_Truth (v_k : Int) (v_i : Int) (v_t : List UInt8) : Int := (br (v_k == (3 : Int) && (v_i == (1 : Int) && (v_t == [] && true))) ((2 : Int)) (br (v_k == (3 : Int) && (v_i == (0 : Int) && (v_t == [] && true))) ((0 : Int)) ((1 : Int))))
theorem value_Truth_x (v_k : Int) (v_i : Int) (v_t : List UInt8) : XF Tryd.prog E1a Tryd.f37 (Tryd.f37.body.getD .skip) [AV.agg [AV.int IntKind.i64 v_k, AV.int IntKind.i64 v_i, AV.str v_t]] = some (.int .i64 (value_Truth v_k v_i v_t)) :=
  (show _ = br (v_k == (3 : Int) && (v_i == (1 : Int) && (v_t == [] && true))) (some (AV.int IntKind.i64 (2 : Int))) (br (v_k == (3 : Int) && (v_i == (0 : Int) && (v_t == [] && true))) (some (AV.int IntKind.i64 (0 : Int))) (some (AV.int IntKind.i64 (1 : Int)))) by kernel_rfl).trans (by unfold value_Truth; repeat' (first | rfl | refine br_map (f := fun (p : Int) => some (.int .i64 p : AV)) ?_ ?_))
def value_Truth_o : List AV → Option (Bool × AV)
  | [AV.agg [AV.int IntKind.i64 v_k, AV.int IntKind.i64 v_i, AV.str v_t]] => some (true, .int .i64 (value_Truth v_k v_i v_t))
  | _ => none
theorem value_Truth_c : OcOk Tryd.prog ITryd 37 value_Truth_o := fun xs r h => by
  unfold value_Truth_o at h; split at h
  · simp only [Option.some.injEq, Prod.mk.injEq, true_and] at h; subst h
    exact good_XF mxTryd (inv0Ok _) E1a_ok Tryd.func37 rfl (by kernel_rfl) (loOk_none fun _ _ _ => rfl) (value_Truth_x ..)
  · simp at h

/- 5 nodes -/
def ref07_Truth (v_k : Int) (v_i : Int) (v_t : List UInt8) : Int := (br (v_k == (3 : Int) && (v_i == (1 : Int) && (v_t == [] && true))) ((2 : Int)) (br (v_k == (3 : Int) && (v_i == (0 : Int) && (v_t == [] && true))) ((0 : Int)) ((1 : Int))))
theorem ref07_Truth_x (v_k : Int) (v_i : Int) (v_t : List UInt8) : XF Tryd.prog E1a Tryd.f38 (Tryd.f38.body.getD .skip) [AV.agg [AV.int IntKind.i64 v_k, AV.int IntKind.i64 v_i, AV.str v_t]] = some (.int .i64 (ref07_Truth v_k v_i v_t)) :=
  (show _ = br (v_k == (3 : Int) && (v_i == (1 : Int) && (v_t == [] && true))) (some (AV.int IntKind.i64 (2 : Int))) (br (v_k == (3 : Int) && (v_i == (0 : Int) && (v_t == [] && true))) (some (AV.int IntKind.i64 (0 : Int))) (some (AV.int IntKind.i64 (1 : Int)))) by kernel_rfl).trans (by unfold ref07_Truth; repeat' (first | rfl | refine br_map (f := fun (p : Int) => some (.int .i64 p : AV)) ?_ ?_))
def ref07_Truth_o : List AV → Option (Bool × AV)
  | [AV.agg [AV.int IntKind.i64 v_k, AV.int IntKind.i64 v_i, AV.str v_t]] => some (true, .int .i64 (ref07_Truth v_k v_i v_t))
  | _ => none
theorem ref07_Truth_c : OcOk Tryd.prog ITryd 38 ref07_Truth_o := fun xs r h => by
  unfold ref07_Truth_o at h; split at h
  · simp only [Option.some.injEq, Prod.mk.injEq, true_and] at h; subst h
    exact good_XF mxTryd (inv0Ok _) E1a_ok Tryd.func38 rfl (by kernel_rfl) (loOk_none fun _ _ _ => rfl) (ref07_Truth_x ..)
  · simp at h

/- 3 nodes -/
def value_Of (t : Int) : Int × Int × List UInt8 := (br (Go.Sim.M.value_normal t == (1 : Int)) ((0 : Int), (0 : Int), []) ((Go.Sim.M.value_Bool (Go.Sim.M.value_normal t == (2 : Int))).fst, (Go.Sim.M.value_Bool (Go.Sim.M.value_normal t == (2 : Int))).snd.fst, (Go.Sim.M.value_Bool (Go.Sim.M.value_normal t == (2 : Int))).snd.snd))
theorem value_Of_x (t : Int) : XF Tryd.prog E1a Tryd.f39 (Tryd.f39.body.getD .skip) [AV.int IntKind.i64 t] = some (.agg [.int .i64 (value_Of t).1, .int .i64 (value_Of t).2.1, .str (value_Of t).2.2]) :=
  (show _ = br (Go.Sim.M.value_normal t == (1 : Int)) (some (AV.agg [AV.int IntKind.i64 (0 : Int), AV.int IntKind.i64 (0 : Int), AV.str []])) (some (AV.agg [AV.int IntKind.i64 (Go.Sim.M.value_Bool (Go.Sim.M.value_normal t == (2 : Int))).fst, AV.int IntKind.i64 (Go.Sim.M.value_Bool (Go.Sim.M.value_normal t == (2 : Int))).snd.fst, AV.str (Go.Sim.M.value_Bool (Go.Sim.M.value_normal t == (2 : Int))).snd.snd])) by kernel_rfl).trans (by unfold value_Of; repeat' (first | rfl | refine br_map (f := fun (p : Int × Int × List UInt8) => some (.agg [.int .i64 p.1, .int .i64 p.2.1, .str p.2.2] : AV)) ?_ ?_))
def value_Of_o : List AV → Option (Bool × AV)
  | [AV.int IntKind.i64 t] => some (true, .agg [.int .i64 (value_Of t).1, .int .i64 (value_Of t).2.1, .str (value_Of t).2.2])
  | _ => none
theorem value_Of_c : OcOk Tryd.prog ITryd 39 value_Of_o := fun xs r h => by
  unfold value_Of_o at h; split at h
  · simp only [Option.some.injEq, Prod.mk.injEq, true_and] at h; subst h
    exact good_XF mxTryd (inv0Ok _) E1a_ok Tryd.func39 rfl (by kernel_rfl) (loOk_none fun _ _ _ => rfl) (value_Of_x ..)
  · simp at h

/- 5 nodes -/
def ref07_Of (t : Int) : Int × Int × List UInt8 := (br (t == (2 : Int)) ((Go.Sim.M.ref07_Bool (t == (2 : Int))).fst, (Go.Sim.M.ref07_Bool (t == (2 : Int))).snd.fst, (Go.Sim.M.ref07_Bool (t == (2 : Int))).snd.snd) (br (t == (0 : Int)) ((Go.Sim.M.ref07_Bool (t == (2 : Int))).fst, (Go.Sim.M.ref07_Bool (t == (2 : Int))).snd.fst, (Go.Sim.M.ref07_Bool (t == (2 : Int))).snd.snd) ((0 : Int), (0 : Int), [])))
theorem ref07_Of_x (t : Int) : XF Tryd.prog E1a Tryd.f40 (Tryd.f40.body.getD .skip) [AV.int IntKind.i64 t] = some (.agg [.int .i64 (ref07_Of t).1, .int .i64 (ref07_Of t).2.1, .str (ref07_Of t).2.2]) :=
  (show _ = br (t == (2 : Int)) (some (AV.agg [AV.int IntKind.i64 (Go.Sim.M.ref07_Bool (t == (2 : Int))).fst, AV.int IntKind.i64 (Go.Sim.M.ref07_Bool (t == (2 : Int))).snd.fst, AV.str (Go.Sim.M.ref07_Bool (t == (2 : Int))).snd.snd])) (br (t == (0 : Int)) (some (AV.agg [AV.int IntKind.i64 (Go.Sim.M.ref07_Bool (t == (2 : Int))).fst, AV.int IntKind.i64 (Go.Sim.M.ref07_Bool (t == (2 : Int))).snd.fst, AV.str (Go.Sim.M.ref07_Bool (t == (2 : Int))).snd.snd])) (some (AV.agg [AV.int IntKind.i64 (0 : Int), AV.int IntKind.i64 (0 : Int), AV.str []]))) by kernel_rfl).trans (by unfold ref07_Of; repeat' (first | rfl | refine br_map (f := fun (p : Int × Int × List UInt8) => some (.agg [.int .i64 p.1, .int .i64 p.2.1, .str p.2.2] : AV)) ?_ ?_))
def ref07_Of_o : List AV → Option (Bool × AV)
  | [AV.int IntKind.i64 t] => some (true, .agg [.int .i64 (ref07_Of t).1, .int .i64 (ref07_Of t).2.1, .str (ref07_Of t).2.2])
  | _ => none
theorem ref07_Of_c : OcOk Tryd.prog ITryd 40 ref07_Of_o := fun xs r h => by
  unfold ref07_Of_o at h; split at h
  · simp only [Option.some.injEq, Prod.mk.injEq, true_and] at h; subst h
    exact good_XF mxTryd (inv0Ok _) E1a_ok Tryd.func40 rfl (by kernel_rfl) (loOk_none fun _ _ _ => rfl) (ref07_Of_x ..)
  · simp at h


def E2 : Env := ((((((E1a.with 60 value_least2_o).with 33 value_Not_o).with 37 value_Truth_o).with 38 ref07_Truth_o).with 39 value_Of_o).with 40 ref07_Of_o)
theorem E2_ok : OrcOk Tryd.prog ITryd E2 := ((((((E1a_ok.with value_least2_c).with value_Not_c).with value_Truth_c).with ref07_Truth_c).with value_Of_c).with ref07_Of_c)
end Go.Sim.M
