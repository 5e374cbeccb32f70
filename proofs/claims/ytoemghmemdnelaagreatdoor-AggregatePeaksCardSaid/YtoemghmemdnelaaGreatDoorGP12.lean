/- Part 12 of the proof of the law. -/
import Derived.Test.YtoemghmemdnelaaGreatDoorGP11
import Derived.WalkKit
import Derived.Lib.Walk
import Derived.StillTailTactics
set_option linter.unusedVariables false
set_option linter.unusedSimpArgs false
noncomputable section
set_option maxRecDepth 100000
namespace Go.Sim.M
def cmpI (x y:Int):Int:=if x<y then -1 else if y<x then 1 else 0
def orI (x y:Int):Int:=if x=0 then y else x
end Go.Sim.M
namespace Go.Sim.M
abbrev TyS:Type:=Fin 1099511627777×Int
def intsS (x:TyS):List Int:=[(x.1.val:Int),x.2]
def cmpS (x y:TyS):Int:=(x.1.val:Int) - (y.1.val:Int)
end Go.Sim.M
namespace Go.Proofs
open Go.RowKit Go.Sim Go.Sim.M Go.Sort
set_option maxHeartbeats 1000000 in
theorem Tryz.walkS (a b a' b' r:Int) (hr:IntKind.i64.wrap (a - a')=r) (W:World):Calls Tryz.prog 81 #[.agg #[.int .i64 a,.int .i64 b],.agg #[.int .i64 a',.int .i64 b']] W fun e w'=>e=.returned (.int .i64 r)∧∃ q os',w'=Sort.grow (W.drewN q) os':=by
 go_enter Tryz.func81,Tryz.ntmps81
 go_wp2
 go_ret
 subst hr
 exact ⟨rfl,0,_,by rw [alloc_eq_grow,alloc_eq_grow,grow_grow];rfl⟩
end Go.Proofs
namespace Go.Sim.M
open Go.RowKit Go.Proofs Go.Sort
def isS:AV→Bool
 | .agg [.int .i64 a,.int .i64 _]=>decide (0≤a)&&decide (a≤1099511627776)
 | _=>false
def decS:AV→TyS
 | .agg [.int _ a,.int _ b]=>(Fin.ofNat 1099511627777 a.toNat,b)
 | _=>default
noncomputable def srtS (xs:List AV):List AV:=(pdqL cmpS (xs.map decS)).map (encI intsS)
theorem xln {x:AV} (h:isS x=true):encI intsS (decS x)=x:=by
 unfold isS at h
 split at h
 · rename_i a b
   simp only [Bool.and_eq_true,decide_eq_true_eq] at h
   have:a.toNat % 1099511627777=a.toNat:=Nat.mod_eq_of_lt (by omega)
   simp only [decS,encI,intsS,List.map_cons,List.map_nil,Fin.ofNat,this,Int.toNat_of_nonneg h.1]
 · simp at h
theorem xkN {xs:List AV} (h:xs.all isS=true):(xs.map decS).map (encI intsS)=xs:=by
 rw [List.map_map]
 conv=>rhs;rw [←List.map_id xs]
 refine List.map_congr_left fun x hx=>?_
 exact xln (List.all_eq_true.1 h x hx)
theorem ltS (x y:TyS):ltOf cmpS x y=decide (x.1.val<y.1.val):=by
 unfold ltOf cmpS
 by_cases h:x.1.val<y.1.val
 · rw [decide_eq_true h,decide_eq_true (by omega)]
 · rw [decide_eq_false h,decide_eq_false (by omega)]
theorem swoS:SWO (ltOf cmpS) where
 irrefl x:=by rw [ltS];simp
 trans x y z h1 h2:=by rw [ltS] at *;simp at *;omega
 ntrans x y z h1 h2:=by rw [ltS] at *;simp at *;omega
noncomputable def xha:List AV→List Box→Option (Bool×AV×List Box)
 | [.osl (.b 0) ver 0 n,.func g []],[⟨ver',2,ty,xs,false,true⟩]=>match Nat.beq g 81&&Nat.beq ty 86 with
  | true=>some (Nat.beq ver ver'&&(Nat.beq n xs.length&&(decide (n<4611686018427387904)&&xs.all isS)),.tuple [],[⟨ver',2,86,srtS xs,false,true⟩])
  | false=>none
 | _,_=>none
theorem xmk:OmOk Tryz.prog ITryz 80 xha:=fun ass H r H' h=>by
 unfold xha at h
 split at h
 · rename_i ver n g ver' ty xs
   split at h
   case h_2=>simp at h
   rename_i hg
   simp only [Bool.and_eq_true] at hg
   obtain rfl:=Nat.eq_of_beq_eq_true hg.1
   obtain rfl:=Nat.eq_of_beq_eq_true hg.2
   simp only [Option.some.injEq,Prod.mk.injEq,Bool.and_eq_true,decide_eq_true_eq] at h
   obtain ⟨⟨h1,h2,h3,h4⟩,rfl,rfl⟩:=h
   obtain rfl:=Nat.eq_of_beq_eq_true h1
   obtain rfl:=Nat.eq_of_beq_eq_true h2
   have hti:∃ ti,tinfo Tryz.prog 86=some ti∧ti.sz=2∧ti.agg=true:=by
    have h:(match tinfo Tryz.prog 86 with|some ti=>(ti.sz==2)&&ti.agg|none=>false)=true:=by kernel_rfl
    split at h
    · rename_i ti hti
      simp only [Bool.and_eq_true,beq_iff_eq] at h
      exact ⟨ti,hti,h.1,h.2⟩
    · simp at h
   obtain ⟨ti,hti,hz,ha⟩:=hti
   have hgd:=xh1 (P:=Tryz.prog) (Inv:=ITryz) Tryz.srl80 2 (by decide) (fun w=>by rw [←ha];exact xcJ hti w) (fun w=>by rw [←hz];exact xaX hti w)
    intsS (fun _=>rfl) cmpS swoS 81 (xbF Tryz.func80 rfl (by kernel_rfl)) (xeV (xbF Tryz.func81 rfl (by kernel_rfl)))
    (fun x y W=>Tryz.walkS _ _ _ _ (cmpS x y) (by
     have:=x.1.isLt
     have:=y.1.isLt
     unfold cmpS
     exact xga (by omega) (by omega)) W)
    ver 86 rfl (xs.map decS) (by simpa using h3)
   rw [List.length_map,xkN h4] at hgd
   exact hgd
 · simp at h
end Go.Sim.M
namespace Go.Sim.M
abbrev TyP:Type:=Int×Int
def cmpP (x y:TyP):Int:=orI (cmpI x.1 y.1) (cmpI x.2 y.2)
end Go.Sim.M

end
noncomputable section
namespace Go.Sim.M
open Go.RowKit Go.Proofs
noncomputable def E1:Env:=EKA3.withM 80 xha
theorem xmH:OrcOk Tryz.prog ITryz E1:=xlS.withM xmk
end Go.Sim.M
end
noncomputable section
set_option maxRecDepth 100000
namespace Go.Sim.M
open Go.IntKind (i64 u64 u8)
open Go.RowKit Go.Proofs
abbrev xkD:Env:=E1
theorem xkE:OrcOk Tryz.prog ITryz xkD:=xmH
abbrev xkF:Env:=xkD
theorem xkG:OrcOk Tryz.prog ITryz xkF:=xkE
abbrev EKP1:Env:=xkF
theorem xlU:OrcOk Tryz.prog ITryz EKP1:=xkG
end Go.Sim.M
end
