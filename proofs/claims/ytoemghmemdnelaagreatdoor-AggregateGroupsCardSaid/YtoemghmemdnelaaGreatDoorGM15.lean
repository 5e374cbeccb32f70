/- Part 15 of the proof of the law. -/
import Derived.Test.YtoemghmemdnelaaGreatDoorGM14
set_option linter.unusedVariables false
set_option linter.unusedSimpArgs false
set_option maxRecDepth 100000
noncomputable section
namespace Go.Sim.M
open Go.RowKit Go.Proofs
noncomputable def EAf:Env:={ Env.deep P0 mmA EA0 3 with pin:=0,ls:=lsOf [] }
theorem xPp:xSk P0 (xS1.at 0) EAf:=xnt (xg5 xSt mmA (xSu P0 0) xyU (fun _=>rfl) 3)
noncomputable def xE2:List AV->Option (Bool×AV):=fun xs=>match XF P0 EAf Tryz.f37 (Tryz.f37.body.getD .skip) xs with
 | some r=>some (true,r)
 | none=>none
theorem xOE:OcOk P0 xS1 37 xE2:=fun xs r h=>by
 unfold xE2 at h;split at h
 case h_2=>simp at h
 rename_i r0 hr;simp only [z6,zb,true_and] at h;subst h;exact xdT (p:=0) (xf4 xSt (xSu P0 _) rfl xPp Tryz.func37 rfl (by kernel_rfl) (xhc fun _=>rfl) hr)
noncomputable def EAp:Env:={ Env.deep P0 mmA { EA0 with ls:=lsOf [1000035] } 5 with pin:=0 }
theorem xPq:xSk P0 (xS1.at 0) EAp:=xnt (xg5 xSt mmA (xSu P0 0) (E:={ EA0 with ls:=lsOf [1000035] }) xyU (fun _=>rfl) 5)
noncomputable def xFb:List AV->Option (Bool×AV):=fun xs=>match XF P0 EAp Tryz.f21 (Tryz.f21.body.getD .skip) xs with
 | some r=>some (true,r)
 | none=>none
theorem xOU:OcOk P0 xS1 21 xFb:=fun xs r h=>by
 unfold xFb at h;split at h
 case h_2=>simp at h
 rename_i r0 hr;simp only [z6,zb,true_and] at h;subst h;exact xdT (p:=0) (xf4 xSt (xSu P0 _) rfl xPq Tryz.func21 rfl (by kernel_rfl) (xhc fun _=>rfl) hr)
noncomputable def EAv:Env:=(EAu.with 37 xE2).with 21 xFb
theorem xPs:xSk P0 xS1 EAv:=(xPr.with xOE).with xOU
noncomputable def EAe:Env:={ Env.deep P0 mmA EAv 14 with pin:=0 }
theorem xOq:XF P0 EAe Tryz.f11 (Tryz.f11.body.getD .skip) []=some (.bool true):=by kernel_rfl
def xEY:List AV->Option (Bool×AV)
 | []=>some (true,.bool true)
 | _=>none
theorem xOp:OcOk P0 xS1 11 xEY:=fun xs r h=>by
 unfold xEY at h;split at h
 . simp only [z6,zb,true_and] at h;subst h;have hd:=xg5 xSt mmA (xSu P0 0) xPs (fun _=>rfl) 14
   exact xdT (p:=0) (xf4 xSt (xSu P0 _) rfl (xnt hd) Tryz.func11 rfl (by kernel_rfl) (xhc fun _=>rfl) xOq)
 . simp at h
end Go.Sim.M
namespace Go.Sim.M
open Go.IntKind (i64 u64 u8)
open Go.RowKit Go.Proofs
def EKAg:Env:=(((xLf.E.with 30 xzd).with 13 xys).with 15 xws).with 11 xEY
theorem xOa:xSk P0 xS1 EKAg:=(((xLf.ok.with xDD).with xyr).with xBX).with xOp
def xjc (c a b l:LA):=xAf ((xfI c a b l).getD ([],[])).fst ((xfI c a b l).getD ([],[])).snd ((xrY c a b l).getD ([],[])).fst ((xrY c a b l).getD ([],[])).snd
def xj3 {T:Type} (c a b l:LA) (δ:T) (κ:Bool->T):T:=br ((xtX c a b l).isSome) (br (!(xtX c a b l).getD false) (κ (true)) (br ((xfI c a b l).isSome) (br ((xrY c a b l).isSome) (br ((xjc c a b l).isSome) (br ((xjc c a b l).getD false) (κ (true)) (κ (false))) δ) δ) δ)) δ
def xmv (c a b l:LA):=xj3 c a b l none some
def xzK:LA->Option (Bool×AV):=fnO (u3 (xTl (u2 (uL 1) (uL 3))) (uL 1) (uL 2)) (fun ((c,a,_),b,l,_) _=>xj3 c a b l) (fun _ p=>AV.bool p) false
theorem xzJ:OcOk P0 xS1 3 xzK:=fnC xOa Tryz.func3 25 0 [] [] lk0
end Go.Sim.M
