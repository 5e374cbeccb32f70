/- Part 15 of the proof of the law. -/
import Derived.Test.YtoemghmemdnelaaGreatDoorMN14
set_option linter.unusedVariables false
set_option linter.unusedSimpArgs false
set_option maxRecDepth 100000
noncomputable section
namespace Go.Sim.M
open Go.RowKit Go.Proofs
noncomputable def EAf:Env:={ Env.deep P0 mmA EA0 3 with pin:=0,ls:=lsOf [] }
theorem xPF:xSB P0 (xTh.at 0) EAf:=xnB (xg6 xSK mmA (xSL P0 0) xy1 (fun _=>rfl) 3)
noncomputable def xFc:List AV->Option (Bool×AV):=fun xs=>match XF P0 EAf Tryz.f37 (Tryz.f37.body.getD .skip) xs with
 | some r=>some (true,r)
 | none=>none
theorem xOT:OcOk P0 xTh 37 xFc:=fun xs r h=>by
 unfold xFc at h;split at h
 case h_2=>simp at h
 rename_i r0 hr;simp only [z6,zb,true_and] at h;subst h;exact xdT (p:=0) (xf4 xSK (xSL P0 _) rfl xPF Tryz.func37 rfl (by kernel_rfl) (xhj fun _=>rfl) hr)
noncomputable def EAp:Env:={ Env.deep P0 mmA { EA0 with ls:=lsOf [1000035] } 5 with pin:=0 }
theorem xPG:xSB P0 (xTh.at 0) EAp:=xnB (xg6 xSK mmA (xSL P0 0) (E:={ EA0 with ls:=lsOf [1000035] }) xy1 (fun _=>rfl) 5)
noncomputable def xFm:List AV->Option (Bool×AV):=fun xs=>match XF P0 EAp Tryz.f21 (Tryz.f21.body.getD .skip) xs with
 | some r=>some (true,r)
 | none=>none
theorem xO9:OcOk P0 xTh 21 xFm:=fun xs r h=>by
 unfold xFm at h;split at h
 case h_2=>simp at h
 rename_i r0 hr;simp only [z6,zb,true_and] at h;subst h;exact xdT (p:=0) (xf4 xSK (xSL P0 _) rfl xPG Tryz.func21 rfl (by kernel_rfl) (xhj fun _=>rfl) hr)
noncomputable def EAv:Env:=(EAu.with 37 xFc).with 21 xFm
theorem xPI:xSB P0 xTh EAv:=(xPH.with xOT).with xO9
noncomputable def EAe:Env:={ Env.deep P0 mmA EAv 14 with pin:=0 }
theorem xOE:XF P0 EAe Tryz.f11 (Tryz.f11.body.getD .skip) []=some (.bool true):=by kernel_rfl
def xE7:List AV->Option (Bool×AV)
 | []=>some (true,.bool true)
 | _=>none
theorem xOD:OcOk P0 xTh 11 xE7:=fun xs r h=>by
 unfold xE7 at h;split at h
 . simp only [z6,zb,true_and] at h;subst h;have hd:=xg6 xSK mmA (xSL P0 0) xPI (fun _=>rfl) 14
   exact xdT (p:=0) (xf4 xSK (xSL P0 _) rfl (xnB hd) Tryz.func11 rfl (by kernel_rfl) (xhj fun _=>rfl) xOE)
 . simp at h
end Go.Sim.M
namespace Go.Sim.M
open Go.IntKind (i64 u64 u8)
open Go.RowKit Go.Proofs
def EKAg:Env:=(((xLr.E.with 30 xzl).with 13 xyB).with 15 xwD).with 11 xE7
theorem xOn:xSB P0 xTh EKAg:=(((xLr.ok.with xDN).with xyA).with xB6).with xOD
def xhh (d a b c:LA) (t:Int):=xjc ((xdt d a b c).getD ([],[])).fst ((xdt d a b c).getD ([],[])).snd t
def xhi (b a c d:LA) (t:Int):=xg9 ((xjc b a t).getD ([],[])).fst ((xjc b a t).getD ([],[])).snd c d
def xhf (d a b c:LA) (t:Int):=(xhh d a b c t).getD ([],[])
def xhg (d a b c:LA) (t:Int):=(xhi d a b c t).getD ([],[])
def xhe (d a b c:LA) (t:Int):=xyj (xhf d a b c t).fst (xhf d a b c t).snd (xhg d a b c t).fst (xhg d a b c t).snd
def xh2 {T:Type} (d a b c:LA) (t:Int) (δ:T) (κ:Bool->T):T:=br ((xt9 d a b c).isSome) (br (!(xt9 d a b c).getD false) (κ (true)) (br (decide (t<0)) (κ (true)) (br (decide (t>=1099511627776)) (κ (true)) (br ((xdt d a b c).isSome) (br ((xpo ((xdt d a b c).getD ([],[])).snd).isSome) (br ((xpo ((xdt d a b c).getD ([],[])).snd).getD false) (br ((xhh d a b c t).isSome) (br ((xjc d a t).isSome) (br ((xhi d a b c t).isSome) (br ((xhe d a b c t).isSome) (br ((xhe d a b c t).getD false) (κ (true)) (κ (false))) δ) δ) δ) δ) (κ (false))) δ) δ)))) δ
def xjl (d a b c:LA) (t:Int):=xh2 d a b c t none some
def xya:LA->Option (Bool×AV):=fnO (u3 (xTC (u2 (uL 1) (uL 3))) (xTC (u2 (uL 1) (uL 2))) uI) (fun ((d,a,_),(b,c,_),t,_) _=>xh2 d a b c t) (fun _ p=>AV.bool p) false
theorem xw9:OcOk P0 xTh 6 xya:=fnC xOn Tryz.func6 50 0 [] [] lk0
end Go.Sim.M
