/- Part 15 of the proof of the law. -/
import Derived.Test.YtoemghmemdnelaaGreatDoorMM14
set_option linter.unusedVariables false
set_option linter.unusedSimpArgs false
set_option maxRecDepth 100000
noncomputable section
namespace Go.Sim.M
open Go.RowKit Go.Proofs
def vA (n:Int):AV:=.agg [.int .i64 1,.int .i64 n,.str []]
def nA:AV:=.agg [.int .i64 0,.int .i64 0,.str []]
def fA (a b:Int) (r:List Int):AV:=.agg [.list 3 (r.map vA),.int .i64 a,.int .i64 b]
def agA (o a:Int):AV:=.agg [.int .i64 o,.int .i64 a]
def itsA (l:List Int):AV:=.list 1 (l.map (AV.int .i64))
def bGi:AV:=.list 3 [fA 0 4 [1,1,5],fA 4 6 [1,2,12],fA 6 9 [1,1,7],fA 2 3 [2,1,1]]
def bGo:AV:=.list 3 [fA 0 4 [1,1,5],fA 6 9 [1,1,7],fA 4 6 [1,2,12],fA 2 3 [2,1,1]]
theorem xRo:XF P0 EAd Tryz.f44 (Tryz.f44.body.getD .skip) [bGi]=some bGo:=by kernel_rfl
theorem xRn:OcOk P0 xTo 44 (ptO [bGi] bGo):=xBn (xz4 Tryz.func44 rfl (by kernel_rfl) xRo)
def bCi:AV:=.list 3 [fA 0 2 [1],fA 2 3 [2],fA 3 4 [1],fA 4 6 [2],fA 6 9 [1],fA 9 1099511627776 [0]]
def bCo:AV:=.list 3 [fA 9 1099511627776 [0],fA 0 2 [1],fA 3 4 [1],fA 6 9 [1],fA 2 3 [2],fA 4 6 [2]]
theorem xRm:XF P0 EAd Tryz.f44 (Tryz.f44.body.getD .skip) [bCi]=some bCo:=by kernel_rfl
theorem xRl:OcOk P0 xTo 44 (ptO [bCi] bCo):=xBn (xz4 Tryz.func44 rfl (by kernel_rfl) xRm)
def bRi:AV:=.list 3 [fA 0 6 [1,5],fA 4 9 [1,7],fA 2 3 [2,1]]
def bRo:AV:=.list 3 [fA 0 6 [1,5],fA 4 9 [1,7],fA 2 3 [2,1]]
theorem xRs:XF P0 EAd Tryz.f44 (Tryz.f44.body.getD .skip) [bRi]=some bRo:=by kernel_rfl
theorem xRr:OcOk P0 xTo 44 (ptO [bRi] bRo):=xBn (xz4 Tryz.func44 rfl (by kernel_rfl) xRs)
def bMi:AV:=.list 3 [fA 0 2 [5],fA 2 4 [5],fA 4 5 [7],fA 5 8 [7],fA 8 11 [7],.agg [.list 3 [nA],.int .i64 11,.int .i64 1099511627776]]
def bMo:AV:=.list 3 [.agg [.list 3 [nA],.int .i64 11,.int .i64 1099511627776],fA 0 4 [5],fA 4 11 [7]]
theorem xRq:XF P0 EAd Tryz.f44 (Tryz.f44.body.getD .skip) [bMi]=some bMo:=by kernel_rfl
theorem xRp:OcOk P0 xTo 44 (ptO [bMi] bMo):=xBn (xz4 Tryz.func44 rfl (by kernel_rfl) xRq)
noncomputable def EAt:Env:=((((EAs).with 44 (ptO [bGi] bGo)).with 44 (ptO [bCi] bCo)).with 44 (ptO [bRi] bRo)).with 44 (ptO [bMi] bMo)
theorem xK1:xSI P0 xTo EAt:=((((xK0).with xRn).with xRl).with xRr).with xRp
noncomputable def EAtd:Env:={ Env.deep P0 mmA EAt 14 with pin:=0 }
theorem xBk {f:FuncId} {fn:Func} {q:List AV} {r:AV} (hf:P0.funcs[f]?=some fn) (hb:fn.body.isSome=true) (J:(fn.name == "runtime.NumGoroutine")=false) (h:XF P0 EAtd fn (fn.body.getD .skip) q=some r):Good P0 xTo f q r :=
 xdU (p:=0) (xf6 xSR (xSS P0 _) rfl (xnA (xg6 xSR mmA (xSS P0 0) xK1 (fun _=>rfl) 14)) hf hb J (xhd fun _=>rfl) h)
def relA:AV:=.agg [itsA [1,1],bRi]
def relM:AV:=.agg [itsA [1,1],.list 3 [fA 0 8 [1,5],fA 4 11 [1,7],fA 2 5 [2,1]]]
theorem xRy:XF P0 EAtd Tryz.f13 (Tryz.f13.body.getD .skip) [relA,itsA [0],.list 2 [agA 1 (-1),agA 2 1]]=some (.agg [itsA [1,1,1],bGo]):=by kernel_rfl
theorem xRw:OcOk P0 xTo 13 (ptO [relA,itsA [0],.list 2 [agA 1 (-1),agA 2 1]] (.agg [itsA [1,1,1],bGo])):=xBn (xBk Tryz.func13 rfl (by kernel_rfl) xRy)
theorem xRv:XF P0 EAtd Tryz.f13 (Tryz.f13.body.getD .skip) [relA,.nils,.list 2 [agA 1 (-1)]]=some (.agg [itsA [1],bCo]):=by kernel_rfl
theorem xRu:OcOk P0 xTo 13 (ptO [relA,.nils,.list 2 [agA 1 (-1)]] (.agg [itsA [1],bCo])):=xBn (xBk Tryz.func13 rfl (by kernel_rfl) xRv)
theorem xRA:XF P0 EAtd Tryz.f13 (Tryz.f13.body.getD .skip) [relM,.nils,.list 2 [agA 4 1]]=some (.agg [itsA [1],bMo]):=by kernel_rfl
theorem xRz:OcOk P0 xTo 13 (ptO [relM,.nils,.list 2 [agA 4 1]] (.agg [itsA [1],bMo])):=xBn (xBk Tryz.func13 rfl (by kernel_rfl) xRA)
noncomputable def EAu:Env:=(((EAt).with 13 (ptO [relA,itsA [0],.list 2 [agA 1 (-1),agA 2 1]] (.agg [itsA [1,1,1],bGo]))).with 13 (ptO [relA,.nils,.list 2 [agA 1 (-1)]] (.agg [itsA [1],bCo]))).with 13 (ptO [relM,.nils,.list 2 [agA 4 1]] (.agg [itsA [1],bMo]))
theorem xPR:xSI P0 xTo EAu:=(((xK1).with xRw).with xRu).with xRz
noncomputable def EAf:Env:={ Env.deep P0 mmA EA0 3 with pin:=0,ls:=lsOf [] }
theorem xPP:xSI P0 (xTo.at 0) EAf:=xnA (xg6 xSR mmA (xSS P0 0) xy7 (fun _=>rfl) 3)
noncomputable def xFh:List AV->Option (Bool×AV):=fun xs=>match XF P0 EAf Tryz.f37 (Tryz.f37.body.getD .skip) xs with
 | some r=>some (true,r)
 | none=>none
theorem xOx:OcOk P0 xTo 37 xFh:=fun xs r h=>by
 unfold xFh at h;split at h
 case h_2=>simp at h
 rename_i r0 hr;simp only [z6,zb,true_and] at h;subst h;exact xdU (p:=0) (xf6 xSR (xSS P0 _) rfl xPP Tryz.func37 rfl (by kernel_rfl) (xhd fun _=>rfl) hr)
noncomputable def EAp:Env:={ Env.deep P0 mmA { EA0 with ls:=lsOf [1000035] } 5 with pin:=0 }
theorem xPQ:xSI P0 (xTo.at 0) EAp:=xnA (xg6 xSR mmA (xSS P0 0) (E:={ EA0 with ls:=lsOf [1000035] }) xy7 (fun _=>rfl) 5)
noncomputable def xFq:List AV->Option (Bool×AV):=fun xs=>match XF P0 EAp Tryz.f21 (Tryz.f21.body.getD .skip) xs with
 | some r=>some (true,r)
 | none=>none
theorem xPj:OcOk P0 xTo 21 xFq:=fun xs r h=>by
 unfold xFq at h;split at h
 case h_2=>simp at h
 rename_i r0 hr;simp only [z6,zb,true_and] at h;subst h;exact xdU (p:=0) (xf6 xSR (xSS P0 _) rfl xPQ Tryz.func21 rfl (by kernel_rfl) (xhd fun _=>rfl) hr)
noncomputable def EAv:Env:=(EAu.with 37 xFh).with 21 xFq
theorem xPS:xSI P0 xTo EAv:=(xPR.with xOx).with xPj
noncomputable def EAe:Env:={ Env.deep P0 mmA EAv 14 with pin:=0 }
theorem xON:XF P0 EAe Tryz.f11 (Tryz.f11.body.getD .skip) []=some (.bool true):=by kernel_rfl
def xFc:List AV->Option (Bool×AV)
 | []=>some (true,.bool true)
 | _=>none
theorem xOM:OcOk P0 xTo 11 xFc:=fun xs r h=>by
 unfold xFc at h;split at h
 . simp only [z6,zb,true_and] at h;subst h;have hd:=xg6 xSR mmA (xSS P0 0) xPS (fun _=>rfl) 14
   exact xdU (p:=0) (xf6 xSR (xSS P0 _) rfl (xnA hd) Tryz.func11 rfl (by kernel_rfl) (xhd fun _=>rfl) xON)
 . simp at h
end Go.Sim.M
namespace Go.Sim.M
open Go.IntKind (i64 u64 u8)
open Go.RowKit Go.Proofs
def EKAg:Env:=(((xLv.E.with 30 xzr).with 13 xyH).with 15 xwI).with 11 xFc
theorem xOw:xSI P0 xTo EKAg:=(((xLv.ok.with xDS).with xyG).with xCc).with xOM
def xj7 (c b l:LA) (a:Int):=xAu ((xi9 c b l a).getD ([],[])).fst ((xi9 c b l a).getD ([],[])).snd ((xqw c b l a).getD ([],[])).fst ((xqw c b l a).getD ([],[])).snd
def xlv {T:Type} (c a l:LA) (b:Int) (δ:T) (κ:Bool->T):T:=br ((xp6 c a [] l).isSome) (br (!(xp6 c a [] l).getD false) (κ (true)) (br ((xi9 c a l b).isSome) (br ((xqw c a l b).isSome) (br ((xj7 c a l b).isSome) (br ((xj7 c a l b).getD false) (κ (true)) (κ (false))) δ) δ) δ)) δ
def xnL (c b l:LA) (a:Int):=xlv c b l a none some
def xAj:LA->Option (Bool×AV):=fnO (u3 (xTJ (u2 (uL 1) (uL 3))) (uL 2) uI) (fun ((c,b,_),l,a,_) _=>xlv c b l a) (fun _ p=>AV.bool p) false
theorem xAi:OcOk P0 xTo 4 xAj:=fnC xOw Tryz.func4 24 0 [] [] lk0
end Go.Sim.M
