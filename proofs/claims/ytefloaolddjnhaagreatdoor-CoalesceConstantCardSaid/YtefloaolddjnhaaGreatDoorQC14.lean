/- Part 14 of the proof: SrtE, E1, KP1, KP2, Lset, KP3, KP4, KP5, KV, KQ, KR1, KJ, KR2, KR3, Awz, KA, KL. -/
import Derived.Test.YtefloaolddjnhaaGreatDoorQC13
import Derived.StillTailTactics
set_option linter.unusedVariables false
set_option linter.unusedSimpArgs false
set_option linter.unnecessarySimpa false
set_option linter.unusedSectionVars false
noncomputable section
set_option maxRecDepth 100000
namespace Go.Sim.M
def cmpI (x y:Int):Int:=if x<y then -1 else if y<x then 1 else 0
def orI (x y:Int):Int:=if x=0 then y else x
end Go.Sim.M
namespace Go.Proofs
open Go.RowKit Go.Sim Go.Sim.M Go.Sort Go.Lib
theorem Tryz.cmp_walk (x y:Int) (w:World):Calls Tryz.prog 54 #[.int .i64 x,.int .i64 y] w fun e w'=>e=.returned (.int .i64 (cmpI x y))∧w'=w:=by
 unfold cmpI
 go_enter Tryz.func54,Tryz.ntmps54
 go_wp2
 all_goals (go_ret;exact ⟨rfl,rfl⟩)
theorem Tryz.or_walk (x y:Int) (b off c:Nat) (w:World) (h0:w.cell? ⟨b,off,none⟩=some (.int .i64 x)) (h1:w.cell? ⟨b,off+1,none⟩=some (.int .i64 y)):Calls Tryz.prog 71 #[.slice (some ⟨b,off,none⟩) 2 c] w fun e w'=>e=.returned (.int .i64 (orI x y))∧w'=w:=by
 unfold orI
 by_cases hx:x=0
 · subst hx
   rw [if_pos rfl]
   by_cases hy:y=0
   · subst hy
     go_enter Tryz.func71,Tryz.ntmps71
     go_wp2
     refine wp_loop_rounds 3 ?_
     rw [rounds_succ]
     go_wp2
     rw [rounds_succ]
     go_wp2
     rw [rounds_succ]
     go_wp2
     go_ret
     exact ⟨rfl,rfl⟩
   · have hy':(y != 0)=true:=by simpa using hy
     go_enter Tryz.func71,Tryz.ntmps71
     go_wp2
     refine wp_loop_rounds 3 ?_
     rw [rounds_succ]
     go_wp2
     rw [rounds_succ]
     go_wp2
     go_ret
     exact ⟨rfl,rfl⟩
 · have hx':(x != 0)=true:=by simpa using hx
   rw [if_neg hx]
   go_enter Tryz.func71,Tryz.ntmps71
   go_wp2
   refine wp_loop_rounds 3 ?_
   rw [rounds_succ]
   go_wp2
   go_ret
   exact ⟨rfl,rfl⟩
theorem fill2I (u1 u2:Int):Instr.fill (fun i=>some (i*1,1)) ((Array.range (2*1)).map (fun x=>(Value.int .i64 0).cells[x % (Value.int .i64 0).cells.size]!)) [(0,.int .i64 u1),(1,.int .i64 u2)]=some #[.int .i64 u1,.int .i64 u2]:=by
 simp [Instr.fill,Array.range,Value.cells]
 apply Array.ext
 · simp
 · intro i h1 h2
   rcases i with _|_|i
   · simp
   · simp
   · simp at h2;omega
set_option maxHeartbeats 2000000 in
theorem Tryz.levels2_walk (a b c d:Int) (w:World):Calls Tryz.prog 70 #[.agg #[.int .i64 a,.int .i64 b],.agg #[.int .i64 c,.int .i64 d]] w fun e w'=>e=.returned (.int .i64 (orI (cmpI a c) (cmpI b d)))∧∃ q os',w'=Sort.grow (w.drewN q) os':=by
 go_enter Tryz.func70,Tryz.ntmps70
 go_wp2_with (go_at_call 54;skip)
 have g0:(w.alloc (.cells #[.int .i64 a,.int .i64 b] 31)).heap[w.heap.size]?=some (.cells #[.int .i64 a,.int .i64 b] 31 (0,0)):=heap_alloc_new w _
 have g1:((w.alloc (.cells #[.int .i64 a,.int .i64 b] 31)).alloc (.cells #[.int .i64 c,.int .i64 d] 31)).heap[w.heap.size+1]?=some (.cells #[.int .i64 c,.int .i64 d] 31 (0,0)):=by
  have:=heap_alloc_new (w.alloc (.cells #[.int .i64 a,.int .i64 b] 31)) (.cells #[.int .i64 c,.int .i64 d] 31)
  have e:(w.alloc (.cells #[.int .i64 a,.int .i64 b] 31)).heap.size=w.heap.size+1:=by simp
  rwa [e] at this
 have f0:((w.alloc (.cells #[.int .i64 a,.int .i64 b] 31)).alloc (.cells #[.int .i64 c,.int .i64 d] 31)).cell? ⟨w.heap.size,0,none⟩=some (.int .i64 a):=by
  rw [World.cell?_alloc_past _ _ _ (by simp)];simp only [World.cell?,g0];rfl
 have f1:((w.alloc (.cells #[.int .i64 a,.int .i64 b] 31)).alloc (.cells #[.int .i64 c,.int .i64 d] 31)).cell? ⟨w.heap.size,1,none⟩=some (.int .i64 b):=by
  rw [World.cell?_alloc_past _ _ _ (by simp)];simp only [World.cell?,g0];rfl
 have f2:((w.alloc (.cells #[.int .i64 a,.int .i64 b] 31)).alloc (.cells #[.int .i64 c,.int .i64 d] 31)).cell? ⟨w.heap.size+1,0,none⟩=some (.int .i64 c):=by
  simp only [World.cell?,g1];rfl
 have f3:((w.alloc (.cells #[.int .i64 a,.int .i64 b] 31)).alloc (.cells #[.int .i64 c,.int .i64 d] 31)).cell? ⟨w.heap.size+1,1,none⟩=some (.int .i64 d):=by
  simp only [World.cell?,g1];rfl
 have f4:∃ q os',((w.alloc (.cells #[.int .i64 a,.int .i64 b] 31)).alloc (.cells #[.int .i64 c,.int .i64 d] 31))=Sort.grow (w.drewN q) os':=⟨0,_,by rw [alloc_eq_grow,alloc_eq_grow,grow_grow];rfl⟩
 generalize ((w.alloc (.cells #[.int .i64 a,.int .i64 b] 31)).alloc (.cells #[.int .i64 c,.int .i64 d] 31))=W2 at f0 f1 f2 f3 f4 ⊢
 refine wp_region_still_tail 10 (by kernel_rfl) (by kernel_rfl) ?_
 simp only [List.take_succ_cons,List.take_zero,List.drop_succ_cons,List.drop_zero]
 change wpStill _ _ (World.drew W2) _ _ _
 have f0':W2.drew.cell? ⟨w.heap.size,0,none⟩=some (.int .i64 a):=f0
 have f1':W2.drew.cell? ⟨w.heap.size,1,none⟩=some (.int .i64 b):=f1
 have f2':W2.drew.cell? ⟨w.heap.size+1,0,none⟩=some (.int .i64 c):=f2
 have f3':W2.drew.cell? ⟨w.heap.size+1,1,none⟩=some (.int .i64 d):=f3
 have f4':∃ q os',W2.drew=Sort.grow (w.drewN q) os':=by obtain ⟨q,os',e⟩:=f4;exact ⟨q+1,os',by rw [e];rfl⟩
 iterate 4 still_step
 still_call (Tryz.cmp_walk _ _ _)
 iterate 4 still_step
 still_call (Tryz.cmp_walk _ _ _)
 refine wpStill_nil ?_
 change wpList _ _ _ _ _ (World.drew W2)
 generalize World.drew W2=W at f0' f1' f2' f3' f4' ⊢
 generalize hu1:cmpI a c=u1
 generalize hu2:cmpI b d=u2
 obtain ⟨ie,q1,q2,q3⟩:∃ ie,Tryz.prog.info? 3=some ie∧ie.zero=some (.int .i64 0)∧ie.size=1:=⟨(Tryz.prog.info? 3).get (by kernel_rfl),(Option.some_get _).symm,by kernel_rfl,by kernel_rfl⟩
 refine wpList_buildSlice rfl 28 3 2 _ rfl #[.int .i64 u1,.int .i64 u2] ie (.int .i64 0) (by kernel_rfl) q1 q2 (by rw [q3];decide) (by rw [q3];decide) (by rw [q3];refine Eq.trans (congrArg _ ?_) (fill2I u1 u2);simp [Act.eval]) ?_
 simp only [Act.put]
 go_wp2_with fail
 have g2:(W.alloc (.cells #[.int .i64 u1,.int .i64 u2] 3)).heap[W.heap.size]?=some (.cells #[.int .i64 u1,.int .i64 u2] 3 (0,0)):=heap_alloc_new W _
 refine (Tryz.or_walk u1 u2 W.heap.size 0 2 (W.alloc (.cells #[.int .i64 u1,.int .i64 u2] 3)) (by simp only [World.cell?,g2];rfl) (by simp only [World.cell?,g2];rfl)).mono ?_
 rintro e w' ⟨rfl,rfl⟩
 go_wp2
 go_ret
 obtain ⟨q,os',hq⟩:=f4'
 exact ⟨by rw [hu1,hu2];rfl,q,_,by rw [hq,alloc_eq_grow,grow_grow]⟩
end Go.Proofs
namespace Go.Sim.M
abbrev TyE:Type:=Fin 1099511627777×Int×Int
def intsE (x:TyE):List Int:=[(x.1.val:Int),x.2.1,x.2.2]
def cmpE (x y:TyE):Int:=(x.1.val:Int) - (y.1.val:Int)
end Go.Sim.M
namespace Go.Proofs
open Go.RowKit Go.Sim Go.Sim.M Go.Sort
set_option maxHeartbeats 1000000 in
theorem Tryz.walkE (a b c a' b' c' r:Int) (hr:IntKind.i64.wrap (a - a')=r) (W:World):Calls Tryz.prog 130 #[.agg #[.int .i64 a,.int .i64 b,.int .i64 c],.agg #[.int .i64 a',.int .i64 b',.int .i64 c']] W fun e w'=>e=.returned (.int .i64 r)∧∃ q os',w'=Sort.grow (W.drewN q) os':=by
 go_enter Tryz.func130,Tryz.ntmps130
 go_wp2
 go_ret
 subst hr
 exact ⟨rfl,0,_,by rw [alloc_eq_grow,alloc_eq_grow,grow_grow];rfl⟩
end Go.Proofs
namespace Go.Sim.M
open Go.RowKit Go.Proofs Go.Sort
def isE:AV→Bool
 | .agg [.int .i64 a,.int .i64 _,.int .i64 _]=>decide (0≤a)&&decide (a≤1099511627776)
 | _=>false
def decE:AV→TyE
 | .agg [.int _ a,.int _ b,.int _ c]=>(Fin.ofNat 1099511627777 a.toNat,b,c)
 | _=>default
noncomputable def srtE (xs:List AV):List AV:=(pdqL cmpE (xs.map decE)).map (encI intsE)
theorem xvW {x:AV} (h:isE x=true):encI intsE (decE x)=x:=by
 unfold isE at h
 split at h
 · rename_i a b c
   simp only [Bool.and_eq_true,decide_eq_true_eq] at h
   have:a.toNat % 1099511627777=a.toNat:=Nat.mod_eq_of_lt (by omega)
   simp only [decE,encI,intsE,List.map_cons,List.map_nil,Fin.ofNat,this,Int.toNat_of_nonneg h.1]
 · simp at h
theorem xvy {xs:List AV} (h:xs.all isE=true):(xs.map decE).map (encI intsE)=xs:=by
 rw [List.map_map]
 conv=>rhs;rw [←List.map_id xs]
 refine List.map_congr_left fun x hx=>?_
 exact xvW (List.all_eq_true.1 h x hx)
theorem ltE (x y:TyE):ltOf cmpE x y=decide (x.1.val<y.1.val):=by
 unfold ltOf cmpE
 by_cases h:x.1.val<y.1.val
 · rw [decide_eq_true h,decide_eq_true (by omega)]
 · rw [decide_eq_false h,decide_eq_false (by omega)]
theorem swoE:SWO (ltOf cmpE) where
 irrefl x:=by rw [ltE];simp
 trans x y z h1 h2:=by rw [ltE] at *;simp at *;omega
 ntrans x y z h1 h2:=by rw [ltE] at *;simp at *;omega
noncomputable def xpr:List AV→List Box→Option (Bool×AV×List Box)
 | [.osl (.b 0) ver 0 n,.func g []],[⟨ver',3,ty,xs,false,true⟩]=>match Nat.beq g 130&&Nat.beq ty 117 with
  | true=>some (Nat.beq ver ver'&&(Nat.beq n xs.length&&(decide (n<4611686018427387904)&&xs.all isE)),.tuple [],[⟨ver',3,117,srtE xs,false,true⟩])
  | false=>none
 | _,_=>none
theorem xzb:OmOk Tryz.prog ITryz 129 xpr:=fun ass H r H' h=>by
 unfold xpr at h
 split at h
 · rename_i ver n g ver' ty xs
   split at h
   case h_2=>simp at h
   rename_i hg
   simp only [Bool.and_eq_true] at hg
   obtain rfl:=Nat.eq_of_beq_eq_true hg.1
   obtain rfl:=Nat.eq_of_beq_eq_true hg.2
   simp only [Option.some.injEq,Prod.mk.injEq,Bool.and_eq_true,decide_eq_true_eq] at h
   obtain ⟨⟨h1,h2,h3,h4⟩,rfl,rfl⟩:=h
   obtain rfl:=Nat.eq_of_beq_eq_true h1
   obtain rfl:=Nat.eq_of_beq_eq_true h2
   have hti:∃ ti,tinfo Tryz.prog 117=some ti∧ti.sz=3∧ti.agg=true:=by
    have h:(match tinfo Tryz.prog 117 with|some ti=>(ti.sz==3)&&ti.agg|none=>false)=true:=by kernel_rfl
    split at h
    · rename_i ti hti
      simp only [Bool.and_eq_true,beq_iff_eq] at h
      exact ⟨ti,hti,h.1,h.2⟩
    · simp at h
   obtain ⟨ti,hti,hz,ha⟩:=hti
   have hgd:=xjc (P:=Tryz.prog) (Inv:=ITryz) Tryz.srl129 3 (by decide) (fun w=>by rw [←ha];exact xgD hti w) (fun w=>by rw [←hz];exact xc5 hti w)
    intsE (fun _=>rfl) cmpE swoE 130 (xcM Tryz.func129 rfl (by kernel_rfl)) (xgh (xcM Tryz.func130 rfl (by kernel_rfl)))
    (fun x y W=>Tryz.walkE _ _ _ _ _ _ (cmpE x y) (by
     have:=x.1.isLt
     have:=y.1.isLt
     unfold cmpE
     exact xiE (by omega) (by omega)) W)
    ver 117 rfl (xs.map decE) (by simpa using h3)
   rw [List.length_map,xvy h4] at hgd
   exact hgd
 · simp at h
end Go.Sim.M
namespace Go.Sim.M
abbrev TyS:Type:=Fin 1099511627777×Int
def intsS (x:TyS):List Int:=[(x.1.val:Int),x.2]
def cmpS (x y:TyS):Int:=(x.1.val:Int) - (y.1.val:Int)
end Go.Sim.M
namespace Go.Proofs
open Go.RowKit Go.Sim Go.Sim.M Go.Sort
set_option maxHeartbeats 1000000 in
theorem Tryz.walkS (a b a' b' r:Int) (hr:IntKind.i64.wrap (a - a')=r) (W:World):Calls Tryz.prog 96 #[.agg #[.int .i64 a,.int .i64 b],.agg #[.int .i64 a',.int .i64 b']] W fun e w'=>e=.returned (.int .i64 r)∧∃ q os',w'=Sort.grow (W.drewN q) os':=by
 go_enter Tryz.func96,Tryz.ntmps96
 go_wp2
 go_ret
 subst hr
 exact ⟨rfl,0,_,by rw [alloc_eq_grow,alloc_eq_grow,grow_grow];rfl⟩
end Go.Proofs
namespace Go.Sim.M
open Go.RowKit Go.Proofs Go.Sort
def isS:AV→Bool
 | .agg [.int .i64 a,.int .i64 _]=>decide (0≤a)&&decide (a≤1099511627776)
 | _=>false
def decS:AV→TyS
 | .agg [.int _ a,.int _ b]=>(Fin.ofNat 1099511627777 a.toNat,b)
 | _=>default
noncomputable def srtS (xs:List AV):List AV:=(pdqL cmpS (xs.map decS)).map (encI intsS)
theorem xvZ {x:AV} (h:isS x=true):encI intsS (decS x)=x:=by
 unfold isS at h
 split at h
 · rename_i a b
   simp only [Bool.and_eq_true,decide_eq_true_eq] at h
   have:a.toNat % 1099511627777=a.toNat:=Nat.mod_eq_of_lt (by omega)
   simp only [decS,encI,intsS,List.map_cons,List.map_nil,Fin.ofNat,this,Int.toNat_of_nonneg h.1]
 · simp at h
theorem xvu {xs:List AV} (h:xs.all isS=true):(xs.map decS).map (encI intsS)=xs:=by
 rw [List.map_map]
 conv=>rhs;rw [←List.map_id xs]
 refine List.map_congr_left fun x hx=>?_
 exact xvZ (List.all_eq_true.1 h x hx)
theorem ltS (x y:TyS):ltOf cmpS x y=decide (x.1.val<y.1.val):=by
 unfold ltOf cmpS
 by_cases h:x.1.val<y.1.val
 · rw [decide_eq_true h,decide_eq_true (by omega)]
 · rw [decide_eq_false h,decide_eq_false (by omega)]
theorem swoS:SWO (ltOf cmpS) where
 irrefl x:=by rw [ltS];simp
 trans x y z h1 h2:=by rw [ltS] at *;simp at *;omega
 ntrans x y z h1 h2:=by rw [ltS] at *;simp at *;omega
noncomputable def xpw:List AV→List Box→Option (Bool×AV×List Box)
 | [.osl (.b 0) ver 0 n,.func g []],[⟨ver',2,ty,xs,false,true⟩]=>match Nat.beq g 96&&Nat.beq ty 75 with
  | true=>some (Nat.beq ver ver'&&(Nat.beq n xs.length&&(decide (n<4611686018427387904)&&xs.all isS)),.tuple [],[⟨ver',2,75,srtS xs,false,true⟩])
  | false=>none
 | _,_=>none
theorem xza:OmOk Tryz.prog ITryz 95 xpw:=fun ass H r H' h=>by
 unfold xpw at h
 split at h
 · rename_i ver n g ver' ty xs
   split at h
   case h_2=>simp at h
   rename_i hg
   simp only [Bool.and_eq_true] at hg
   obtain rfl:=Nat.eq_of_beq_eq_true hg.1
   obtain rfl:=Nat.eq_of_beq_eq_true hg.2
   simp only [Option.some.injEq,Prod.mk.injEq,Bool.and_eq_true,decide_eq_true_eq] at h
   obtain ⟨⟨h1,h2,h3,h4⟩,rfl,rfl⟩:=h
   obtain rfl:=Nat.eq_of_beq_eq_true h1
   obtain rfl:=Nat.eq_of_beq_eq_true h2
   have hti:∃ ti,tinfo Tryz.prog 75=some ti∧ti.sz=2∧ti.agg=true:=by
    have h:(match tinfo Tryz.prog 75 with|some ti=>(ti.sz==2)&&ti.agg|none=>false)=true:=by kernel_rfl
    split at h
    · rename_i ti hti
      simp only [Bool.and_eq_true,beq_iff_eq] at h
      exact ⟨ti,hti,h.1,h.2⟩
    · simp at h
   obtain ⟨ti,hti,hz,ha⟩:=hti
   have hgd:=xjc (P:=Tryz.prog) (Inv:=ITryz) Tryz.srl95 2 (by decide) (fun w=>by rw [←ha];exact xgD hti w) (fun w=>by rw [←hz];exact xc5 hti w)
    intsS (fun _=>rfl) cmpS swoS 96 (xcM Tryz.func95 rfl (by kernel_rfl)) (xgh (xcM Tryz.func96 rfl (by kernel_rfl)))
    (fun x y W=>Tryz.walkS _ _ _ _ (cmpS x y) (by
     have:=x.1.isLt
     have:=y.1.isLt
     unfold cmpS
     exact xiE (by omega) (by omega)) W)
    ver 75 rfl (xs.map decS) (by simpa using h3)
   rw [List.length_map,xvu h4] at hgd
   exact hgd
 · simp at h
end Go.Sim.M
namespace Go.Sim.M
abbrev TyP:Type:=Int×Int
def intsP (x:TyP):List Int:=[x.1,x.2]
def cmpP (x y:TyP):Int:=orI (cmpI x.1 y.1) (cmpI x.2 y.2)
end Go.Sim.M
namespace Go.Sim.M
open Go.RowKit Go.Proofs Go.Sort
def isP:AV→Bool
 | .agg [.int .i64 _,.int .i64 _]=>true
 | _=>false
def decP:AV→TyP
 | .agg [.int _ a,.int _ b]=>(a,b)
 | _=>default
noncomputable def srtP (xs:List AV):List AV:=(pdqL cmpP (xs.map decP)).map (encI intsP)
theorem xwf {x:AV} (h:isP x=true):encI intsP (decP x)=x:=by
 unfold isP at h
 split at h
 · rfl
 · simp at h
theorem xu7 {xs:List AV} (h:xs.all isP=true):(xs.map decP).map (encI intsP)=xs:=by
 rw [List.map_map]
 conv=>rhs;rw [←List.map_id xs]
 refine List.map_congr_left fun x hx=>?_
 exact xwf (List.all_eq_true.1 h x hx)
theorem ltP (x y:TyP):ltOf cmpP x y=decide (x.1<y.1∨x.1=y.1∧x.2<y.2):=by
 unfold ltOf cmpP orI cmpI
 by_cases h:x.1<y.1∨x.1=y.1∧x.2<y.2
 · rw [decide_eq_true h]
   simp only [decide_eq_true_eq]
   rcases h with h|⟨h,h'⟩
   · simp [h]
   · simp [h,h']
 · rw [decide_eq_false h]
   simp only [decide_eq_false_iff_not]
   have h1:¬ x.1<y.1:=fun e=>h (.inl e)
   by_cases h2:y.1<x.1
   · simp [h1,h2]
   · have h3:x.1=y.1:=by omega
     have h4:¬ x.2<y.2:=fun e=>h (.inr ⟨h3,e⟩)
     by_cases h5:y.2<x.2
     · simp [h1,h2,h4,h5]
     · simp [h1,h2,h4,h5]
theorem swoP:SWO (ltOf cmpP) where
 irrefl x:=by rw [ltP];simp
 trans x y z h1 h2:=by rw [ltP] at *;simp only [decide_eq_true_eq] at *;omega
 ntrans x y z h1 h2:=by rw [ltP] at *;simp only [decide_eq_true_eq,decide_eq_false_iff_not] at *;omega
noncomputable def xpa:List AV→List Box→Option (Bool×AV×List Box)
 | [.osl (.b 0) ver 0 n,.func g []],[⟨ver',2,ty,xs,false,true⟩]=>match Nat.beq g 70&&Nat.beq ty 31 with
  | true=>some (Nat.beq ver ver'&&(Nat.beq n xs.length&&(decide (n<4611686018427387904)&&xs.all isP)),.tuple [],[⟨ver',2,31,srtP xs,false,true⟩])
  | false=>none
 | _,_=>none
theorem xyT:OmOk Tryz.prog ITryz 69 xpa:=fun ass H r H' h=>by
 unfold xpa at h
 split at h
 · rename_i ver n g ver' ty xs
   split at h
   case h_2=>simp at h
   rename_i hg
   simp only [Bool.and_eq_true] at hg
   obtain rfl:=Nat.eq_of_beq_eq_true hg.1
   obtain rfl:=Nat.eq_of_beq_eq_true hg.2
   simp only [Option.some.injEq,Prod.mk.injEq,Bool.and_eq_true,decide_eq_true_eq] at h
   obtain ⟨⟨h1,h2,h3,h4⟩,rfl,rfl⟩:=h
   obtain rfl:=Nat.eq_of_beq_eq_true h1
   obtain rfl:=Nat.eq_of_beq_eq_true h2
   have hti:∃ ti,tinfo Tryz.prog 31=some ti∧ti.sz=2∧ti.agg=true:=by
    have h:(match tinfo Tryz.prog 31 with|some ti=>(ti.sz==2)&&ti.agg|none=>false)=true:=by kernel_rfl
    split at h
    · rename_i ti hti
      simp only [Bool.and_eq_true,beq_iff_eq] at h
      exact ⟨ti,hti,h.1,h.2⟩
    · simp at h
   obtain ⟨ti,hti,hz,ha⟩:=hti
   have hgd:=xjc (P:=Tryz.prog) (Inv:=ITryz) Tryz.srl69 2 (by decide) (fun w=>by rw [←ha];exact xgD hti w) (fun w=>by rw [←hz];exact xc5 hti w)
    intsP (fun _=>rfl) cmpP swoP 70 (xcM Tryz.func69 rfl (by kernel_rfl)) (xgh (xcM Tryz.func70 rfl (by kernel_rfl)))
    (fun x y W=>Tryz.levels2_walk _ _ _ _ W)
    ver 31 rfl (xs.map decP) (by simpa using h3)
   rw [List.length_map,xu7 h4] at hgd
   exact hgd
 · simp at h
end Go.Sim.M
namespace Go.Sim.M
open Go.RowKit Go.Proofs Go.Sort
def isI:AV→Bool
 | .int .i64 _=>true
 | _=>false
noncomputable def srtI (xs:List AV):List AV:=(pdqL cmpI (xs.map AV.toInt)).map (AV.int .i64)
theorem xtQ {xs:List AV} (h:xs.all isI=true):(xs.map AV.toInt).map (AV.int .i64)=xs:=by
 rw [List.map_map]
 conv=>rhs;rw [←List.map_id xs]
 refine List.map_congr_left fun x hx=>?_
 have:=List.all_eq_true.1 h x hx
 unfold isI at this
 split at this
 · rfl
 · simp at this
theorem ltI (x y:Int):ltOf cmpI x y=decide (x<y):=by
 unfold ltOf cmpI
 by_cases h:x<y
 · simp [h]
 · by_cases h2:y<x<;>simp [h,h2]
theorem swoI:SWO (ltOf cmpI) where
 irrefl x:=by rw [ltI];simp
 trans x y z h1 h2:=by rw [ltI] at *;simp at *;omega
 ntrans x y z h1 h2:=by rw [ltI] at *;simp at *;omega
noncomputable def xpo:List AV→List Box→Option (Bool×AV×List Box)
 | [.osl (.b 0) ver 0 n,.func g []],[⟨ver',1,ty,xs,false,true⟩]=>match Nat.beq g 54&&Nat.beq ty 3 with
  | true=>some (Nat.beq ver ver'&&(Nat.beq n xs.length&&(decide (n<4611686018427387904)&&xs.all isI)),.tuple [],[⟨ver',1,3,srtI xs,false,true⟩])
  | false=>none
 | _,_=>none
theorem xzg:OmOk Tryz.prog ITryz 53 xpo:=fun ass H r H' h=>by
 unfold xpo at h
 split at h
 · rename_i ver n g ver' ty xs
   split at h
   case h_2=>simp at h
   rename_i hg
   simp only [Bool.and_eq_true] at hg
   obtain rfl:=Nat.eq_of_beq_eq_true hg.1
   obtain rfl:=Nat.eq_of_beq_eq_true hg.2
   simp only [Option.some.injEq,Prod.mk.injEq,Bool.and_eq_true,decide_eq_true_eq] at h
   obtain ⟨⟨h1,h2,h3,h4⟩,rfl,rfl⟩:=h
   obtain rfl:=Nat.eq_of_beq_eq_true h1
   obtain rfl:=Nat.eq_of_beq_eq_true h2
   have hgd:=xpn (P:=Tryz.prog) (Inv:=ITryz) Tryz.srl53 cmpI swoI 54 (xcM Tryz.func53 rfl (by kernel_rfl)) (xgh (xcM Tryz.func54 rfl (by kernel_rfl)))
    (fun x y W=>(Tryz.cmp_walk x y W).mono fun e w' ⟨h1,h2⟩=>⟨h1,0,#[],by rw [h2];exact (grow_empty _).symm⟩)
    ver 3 rfl (xs.map AV.toInt) (by simpa using h3)
   rw [List.length_map,xtQ h4] at hgd
   exact hgd
 · simp at h
end Go.Sim.M
end
noncomputable section
namespace Go.Sim.M
open Go.RowKit Go.Proofs
noncomputable def E1:Env:=(((EKG.withM 129 xpr).withM 95 xpw).withM 69 xpa).withM 53 xpo
theorem xzT:OrcOk Tryz.prog ITryz E1:=(((xzR.withM xzb).withM xza).withM xyT).withM xzg
end Go.Sim.M
end
noncomputable section
set_option maxRecDepth 100000
namespace Go.Sim.M
open Go.IntKind (i64 u64 u8)
open Go.RowKit Go.Proofs
abbrev xvm:Env:=E1
theorem xuA:OrcOk Tryz.prog ITryz xvm:=xzT
abbrev xtE:Env:=xvm
theorem xul:OrcOk Tryz.prog ITryz xtE:=xuA
abbrev xuy:Env:=xtE
theorem xvl:OrcOk Tryz.prog ITryz xuy:=xul
abbrev EKP1:Env:=xuy
theorem xmx:OrcOk Tryz.prog ITryz EKP1:=xvl
end Go.Sim.M
end
noncomputable section
set_option maxRecDepth 100000
namespace Go.Sim.M
open Go.IntKind (i64 u64 u8)
open Go.RowKit Go.Proofs
def xe7:Env:=EKP1.fn 71 5 (lsOf []) (lpsOf [])
theorem xnW:OrcOk Tryz.prog (ITryz.at 5) xe7:=xmx.fn
theorem xlm:LoOk Tryz.prog (ITryz.at xe7.pin) xe7 (loopAt Tryz.f68 1):=xa0 (by kernel_rfl)
def xh3 {T:Type} (o n:Int) (f g:Nat) (k p m j:Int) (i l d h a:Nat) (b:LA) (e:Nat) (c:LA) (δ:T) (κl:(Int×Int×Nat×Nat×Nat×Nat×Nat×LA×Nat×LA)→T) (κr:(Int×Nat×Nat×Nat×Nat×LA×Nat×LA×Nat)→T):T:=br (decide (m<p)) (br (a==f) (br (a==f) (br (a==f&&(decide (g<b.length)&&hasSh1 (Sh.int .i64) ((b.getD g .top).cells.getD 0 .top))) (br (e==h&&(d==c.length&&(decide ((d+1)*16≤140737488355328)&&decide (d+1≤4611686018427387904)))) (κl (i64.wrap (m+1),j,i,l,d+1,h+1,a,List.take i b,h+1,c++[AV.agg [AV.int .i64 ((b.getD g .top).cells.getD 0 .top).toInt,AV.int .i64 o]])) δ) δ) δ) δ) (κr (j,l,i,h,d,b,a,c,e))
def xea (m n:Int) (e f:Nat) (k o:Int):(Int×Int×Nat×Nat×Nat×Nat×Nat×LA×Nat×LA)→Option ((Int×Int×Nat×Nat×Nat×Nat×Nat×LA×Nat×LA)⊕(Int×Nat×Nat×Nat×Nat×LA×Nat×LA×Nat)):=fun (q,g,h,i,j,l,a,b,c,d)=>xh3 m n e f k o q g h i j l a b c d none (fun s=>some (.inl s)) (fun p=>some (.inr p))
def xen (m n:Int) (e f:Nat) (k o:Int):(Int×Int×Nat×Nat×Nat×Nat×Nat×LA×Nat×LA)→LA×List Box:=fun (p,g,h,i,j,l,a,b,c,d)=>([AV.int .i64 m,AV.int .i64 n,AV.own 0 0 0 0,AV.own 1 0 0 0,AV.own 2 0 0 0,AV.own 3 e f 0,AV.int .i64 k,AV.int .i64 o,AV.int .i64 p],[⟨0,1,3,[AV.int .i64 g],false,true⟩,⟨0,1,84,[AV.osl 3 i 0 h],false,false⟩,⟨0,1,53,[AV.osl 4 l 0 j],false,false⟩,⟨a,2,86,b,false,true⟩,⟨c,2,31,d,false,true⟩])
def xdF (c n:Int) (a b:Nat) (k d:Int):(Int×Nat×Nat×Nat×Nat×LA×Nat×LA×Nat)→LR:=fun p=>(.leaf (.exit 2) [AV.int .i64 c,AV.int .i64 n,AV.own 0 0 0 0,AV.own 1 0 0 0,AV.own 2 0 0 0,AV.own 3 a b 0,AV.int .i64 k] [⟨0,1,3,[AV.int .i64 p.1],false,true⟩,⟨0,1,84,[AV.osl 3 p.2.1 0 p.2.2.1],false,false⟩,⟨0,1,53,[AV.osl 4 p.2.2.2.1 0 p.2.2.2.2.1],false,false⟩,⟨p.2.2.2.2.2.2.1,2,86,p.2.2.2.2.2.1,false,true⟩,⟨p.2.2.2.2.2.2.2.2,2,31,p.2.2.2.2.2.2.2.1,false,true⟩])
abbrev xoW (a:LA) (H:List Box):=XR Tryz.prog xe7 [0,1,2,3,4,7,8,37,38] [0,1,2,3,4,7,8] [(3,0,0)] (loopAt Tryz.f68 1) a H
theorem xo2 (c n:Int) (a b:Nat) (k d:Int) (s:Int×Int×Nat×Nat×Nat×Nat×Nat×LA×Nat×LA):Enc (encR (xen c n a b k d) (xdF c n a b k d)) (xea c n a b k d s) (xoW (xen c n a b k d s).1 (xen c n a b k d s).2):=by
 obtain ⟨q,i,j,l,m,o,e,f,g,h⟩:=s
 refine eV (xh3 c n a b k d q i j l m o e f g h none (fun s=>some (encR (xen c n a b k d) (xdF c n a b k d) (.inl s))) (fun p=>some (encR (xen c n a b k d) (xdF c n a b k d) (.inr p)))) (by kernel_rfl) ?_;unfold xea xh3;repeat' first|exact eN|exact eS rfl|apply eB
def xhq:Lp:=lpOf [0,1,2,3,4,7,8,37,38] [0,1,2,3,4,7,8] [(3,0,0)] (pCons (pInt .i64) (pCons (pInt .i64) (pCons (pOwn 0 0 0 0) (pCons (pOwn 1 0 0 0) (pCons (pOwn 2 0 0 0) (pCons (pOwnV 3 0) (pCons (pInt .i64) (pCons (pInt .i64) (pCons (pInt .i64) pNil))))))))) (pCons (pBox 0 1 3 false true (pCons (pInt .i64) pNil)) (pCons (pBox 0 1 84 false false (pCons (pOslV 3 0) pNil)) (pCons (pBox 0 1 53 false false (pCons (pOslV 4 0) pNil)) (pCons (pBoxV 2 86 false true pAny) (pCons (pBoxV 2 31 false true pAny) pNil))))) fun (g,(n,(_,(_,(_,((e,f),(k,(h,(p,_))))))))) ((i,_),(((j,l),_),(((m,o),_),((a,b),((c,d),_)))))=>((Iter (xea g n e f k h) (p,i,l,j,o,m,a,b,c,d)).isSome,xdF g n e f k h ((Iter (xea g n e f k h) (p,i,l,j,o,m,a,b,c,d)).getD (0,0,0,0,0,[],0,[],0)))
theorem xjm:LoopOk Tryz.prog (ITryz.at xe7.pin) xe7.nt (loopAt Tryz.f68 1) xhq:=xcB fun t u w v=>by
 obtain ⟨g,⟨n,⟨_,⟨_,⟨_,⟨⟨a,b⟩,⟨k,⟨h,⟨q,_⟩⟩⟩⟩⟩⟩⟩⟩⟩:=t
 obtain ⟨⟨i,_⟩,⟨⟨⟨j,l⟩,_⟩,⟨⟨⟨m,o⟩,_⟩,⟨⟨c,d⟩,⟨⟨e,f⟩,_⟩⟩⟩⟩⟩:=u
 obtain ⟨r,rfl⟩:=Prod.mk.inj v
 exact xa3 mxTryz (inv0Ok Tryz.prog _) rfl xnW xlm (xen g n a b k h) (xdF g n a b k h) (fun p=>by simp only [xdF,LR.eval];first|(simp;done)|(repeat' split<;>simp)) (xo2 g n a b k h) (s:=(q,i,l,j,o,m,c,d,e,f)) (xaq r)
def xe9:Env:=EKP1.fn 71 5 (lsOf []) (lpsOf [(7,xhq)])
theorem xn5:OrcOk Tryz.prog (ITryz.at 5) xe9:=xmx.fn
theorem xlj:LoOk Tryz.prog (ITryz.at xe9.pin) xe9 (loopAt Tryz.f68 0):=xce (ls:=[loopAt Tryz.f68 1]) (by kernel_rfl) (lkC xjm lkN)
def xbD (a:Nat):Nat:=0+(i64.wrap ((↑a:Int) - 1)).toNat
def xet (n b:Int) (c d:Nat) (a:LA):Int:=if i64.wrap (b - n)<((a.getD (xbD c) .top).cells.getD 1 .top).toInt then i64.wrap (b - n) else ((a.getD (xbD c) .top).cells.getD 1 .top).toInt
def xjj (j n d:Int) (c g h i a:Nat) (b:LA) (e:Nat) (f:LA):=Iter (xea j n g (xbD c) (xet n d c a b) (xet n d c a b)) (0,d,c,g,h,i,a,List.take c b,e,f)
def xg5 (j n e:Int) (f g h i a:Nat) (b:LA) (c:Nat) (d:LA):=(xjj j n e f g h i a b c d).getD (0,0,0,0,0,[],0,[],0)
def xjd (j n e:Int) (f g h i a:Nat) (b:LA) (c:Nat) (d:LA):=(xg5 j n e f g h i a b c d).snd
def xfU (j n e:Int) (f g h i a:Nat) (b:LA) (c:Nat) (d:LA):=(xjd j n e f g h i a b c d).fst
def xjl (j n e:Int) (f g h i a:Nat) (b:LA) (c:Nat) (d:LA):=(xjd j n e f g h i a b c d).snd
def xfx (j n e:Int) (f g h i a:Nat) (b:LA) (c:Nat) (d:LA):=(xjl j n e f g h i a b c d).fst
def xgT (j n e:Int) (f g h i a:Nat) (b:LA) (c:Nat) (d:LA):=(xjl j n e f g h i a b c d).snd
def xfR (j n e:Int) (f g h i a:Nat) (b:LA) (c:Nat) (d:LA):=i64.wrap ((↑(xfx j n e f g h i a b c d):Int) - 1)
def xg6 (j n e:Int) (f g h i a:Nat) (b:LA) (c:Nat) (d:LA):=(xgT j n e f g h i a b c d).snd
def xji (j n e:Int) (f g h i a:Nat) (b:LA) (c:Nat) (d:LA):=(xg6 j n e f g h i a b c d).snd
def xhl (j n e:Int) (f g h i a:Nat) (b:LA) (c:Nat) (d:LA):=(xji j n e f g h i a b c d).fst
def xjE (j n e:Int) (f g h i a:Nat) (b:LA) (c:Nat) (d:LA):=(xji j n e f g h i a b c d).snd
def xd3 (j n f:Int) (g e h i a:Nat) (b:LA) (c:Nat) (d:LA):=(xjE j n f g e h i a b c d).fst==e
def xjU (j n f:Int) (e g h i a:Nat) (b:LA) (c:Nat) (d:LA):=decide (xbD e<(xhl j n f e g h i a b c d).length)
def xf1 (j n f:Int) (e g h i a:Nat) (b:LA) (c:Nat) (d:LA):=((xhl j n f e g h i a b c d).getD (xbD e) .top).cells
def xf2 (j n e:Int) (f g h i a:Nat) (b:LA) (c:Nat) (d:LA):=(xjE j n e f g h i a b c d).snd
def xeV (j n f:Int) (e g h i a:Nat) (b:LA) (c:Nat) (d:LA):=(xhl j n f e g h i a b c d).set (xbD e) (AV.agg (List.take 1 (xf1 j n f e g h i a b c d)++[AV.int .i64 (i64.wrap (((xf1 j n f e g h i a b c d).getD 1 .top).toInt - xet n f e a b))]++List.drop 2 (xf1 j n f e g h i a b c d)))
def xhX {T:Type} (j n g:Int) (f e h i a:Nat) (b:LA) (c:Nat) (d:LA) (δ:T) (κl:(Int×Nat×Nat×Nat×Nat×Nat×LA×Nat×LA)→T) (κr:(Int×Nat×Nat×Nat×Nat×LA×Nat×LA×Nat)→T):T:=br (decide (g>n)) (br (a==e) (br (a==e&&(decide (0≤i64.wrap ((↑f:Int) - 1))&&decide (i64.wrap ((↑f:Int) - 1)<(↑f:Int)))) (br (a==e) (br (a==e) (br (a==e&&(decide (xbD f<b.length)&&hasSh1 (Sh.int .i64) ((b.getD (xbD f) .top).cells.getD 1 .top))) (br ((xjj j n g f e h i a b c d).isSome) (br (xd3 j n g f e h i a b c d) (br (xd3 j n g f e h i a b c d) (br (xd3 j n g f e h i a b c d&&(xjU j n g f e h i a b c d&&hasSh1 (Sh.int .i64) ((xf1 j n g f e h i a b c d).getD 1 .top))) (br (xd3 j n g f e h i a b c d) (br (xd3 j n g f e h i a b c d) (br (xd3 j n g f e h i a b c d&&xjU j n g f e h i a b c d) (br (e==e) (br (e==e) (br (e==e&&(decide (xbD f<(xeV j n g f e h i a b c d).length)&&hasSh1 (Sh.int .i64) (((xeV j n g f e h i a b c d).getD (xbD f) .top).cells.getD 1 .top))) (br ((((xeV j n g f e h i a b c d).getD (xbD f) .top).cells.getD 1 .top).toInt==0) (br (e==xfU j n g f e h i a b c d) (br (e==xfU j n g f e h i a b c d&&(decide (0≤xfR j n g f e h i a b c d)&&decide (xfR j n g f e h i a b c d≤(↑(xfx j n g f e h i a b c d):Int))&&true)) (κl (i64.wrap ((xg5 j n g f e h i a b c d).fst - xet n g f a b),(xfR j n g f e h i a b c d).toNat - 0,xfU j n g f e h i a b c d,(xg6 j n g f e h i a b c d).fst,(xgT j n g f e h i a b c d).fst,e,List.take ((xfR j n g f e h i a b c d).toNat - 0) (xeV j n g f e h i a b c d),(xf2 j n g f e h i a b c d).snd,(xf2 j n g f e h i a b c d).fst)) δ) δ) (κl (i64.wrap ((xg5 j n g f e h i a b c d).fst - xet n g f a b),xfx j n g f e h i a b c d,xfU j n g f e h i a b c d,(xg6 j n g f e h i a b c d).fst,(xgT j n g f e h i a b c d).fst,e,List.take (xfx j n g f e h i a b c d) (xeV j n g f e h i a b c d),(xf2 j n g f e h i a b c d).snd,(xf2 j n g f e h i a b c d).fst))) δ) δ) δ) δ) δ) δ) δ) δ) δ) δ) δ) δ) δ) δ) δ) (κr (g,e,f,i,h,b,a,d,c))
def xdl (j n:Int):(Int×Nat×Nat×Nat×Nat×Nat×LA×Nat×LA)→Option ((Int×Nat×Nat×Nat×Nat×Nat×LA×Nat×LA)⊕(Int×Nat×Nat×Nat×Nat×LA×Nat×LA×Nat)):=fun (e,f,g,h,i,a,b,c,d)=>xhX j n e f g h i a b c d none (fun s=>some (.inl s)) (fun p=>some (.inr p))
def xej (j n:Int):(Int×Nat×Nat×Nat×Nat×Nat×LA×Nat×LA)→LA×List Box:=fun (e,f,g,h,i,a,b,c,d)=>([AV.int .i64 j,AV.int .i64 n,AV.own 0 0 0 0,AV.own 1 0 0 0,AV.own 2 0 0 0],[⟨0,1,3,[AV.int .i64 e],false,true⟩,⟨0,1,84,[AV.osl 3 g 0 f],false,false⟩,⟨0,1,53,[AV.osl 4 i 0 h],false,false⟩,⟨a,2,86,b,false,true⟩,⟨c,2,31,d,false,true⟩])
def xdA (a n:Int):(Int×Nat×Nat×Nat×Nat×LA×Nat×LA×Nat)→LR:=fun p=>(.leaf (.exit 0) [] [⟨0,1,3,[AV.int .i64 p.1],false,true⟩,⟨0,1,84,[AV.osl 3 p.2.1 0 p.2.2.1],false,false⟩,⟨0,1,53,[AV.osl 4 p.2.2.2.1 0 p.2.2.2.2.1],false,false⟩,⟨p.2.2.2.2.2.2.1,2,86,p.2.2.2.2.2.1,false,true⟩,⟨p.2.2.2.2.2.2.2.2,2,31,p.2.2.2.2.2.2.2.1,false,true⟩])
abbrev xoi (a:LA) (H:List Box):=XR Tryz.prog xe9 [0,1,2,3,4] [] [(3,0,0)] (loopAt Tryz.f68 0) a H
theorem xol (a n:Int) (s:Int×Nat×Nat×Nat×Nat×Nat×LA×Nat×LA):Enc (encR (xej a n) (xdA a n)) (xdl a n s) (xoi (xej a n s).1 (xej a n s).2):=by
 obtain ⟨f,g,h,i,j,b,c,d,e⟩:=s
 refine eV (xhX a n f g h i j b c d e none (fun s=>some (encR (xej a n) (xdA a n) (.inl s))) (fun p=>some (encR (xej a n) (xdA a n) (.inr p)))) (by kernel_rfl) ?_;unfold xdl xhX;repeat' first|exact eN|exact eS rfl|apply eB
def xjT:Lp:=lpOf [0,1,2,3,4] [] [(3,0,0)] (pCons (pInt .i64) (pCons (pInt .i64) (pCons (pOwn 0 0 0 0) (pCons (pOwn 1 0 0 0) (pCons (pOwn 2 0 0 0) pNil))))) (pCons (pBox 0 1 3 false true (pCons (pInt .i64) pNil)) (pCons (pBox 0 1 84 false false (pCons (pOslV 3 0) pNil)) (pCons (pBox 0 1 53 false false (pCons (pOslV 4 0) pNil)) (pCons (pBoxV 2 86 false true pAny) (pCons (pBoxV 2 31 false true pAny) pNil))))) fun (e,(n,(_,(_,(_,_))))) ((f,_),(((g,h),_),(((i,j),_),((a,b),((c,d),_)))))=>((Iter (xdl e n) (f,h,g,j,i,a,b,c,d)).isSome,xdA e n ((Iter (xdl e n) (f,h,g,j,i,a,b,c,d)).getD (0,0,0,0,0,[],0,[],0)))
theorem xnd:LoopOk Tryz.prog (ITryz.at xe9.pin) xe9.nt (loopAt Tryz.f68 0) xjT:=xcB fun l m q o=>by
 obtain ⟨e,⟨n,⟨_,⟨_,⟨_,_⟩⟩⟩⟩⟩:=l
 obtain ⟨⟨f,_⟩,⟨⟨⟨g,h⟩,_⟩,⟨⟨⟨i,j⟩,_⟩,⟨⟨a,b⟩,⟨⟨c,d⟩,_⟩⟩⟩⟩⟩:=m
 obtain ⟨k,rfl⟩:=Prod.mk.inj o
 exact xa3 mxTryz (inv0Ok Tryz.prog _) rfl xn5 xlj (xej e n) (xdA e n) (fun p=>by simp only [xdA,LR.eval];first|(simp;done)|(repeat' split<;>simp)) (xol e n) (s:=(f,h,g,j,i,a,b,c,d)) (xaq k)
def xf6:Env:=EKP1.fn 71 5 (lsOf []) (lpsOf [(7,xhq),(3,xjT)])
theorem xnV:OrcOk Tryz.prog (ITryz.at 5) xf6:=xmx.fn
theorem xmj:LoOk Tryz.prog (ITryz.at xf6.pin) xf6 (Tryz.f68.body.getD .skip):=xce (ls:=[loopAt Tryz.f68 0,loopAt Tryz.f68 1]) (by kernel_rfl) (lkC xnd (lkC xjm lkN))
def xk6 (a n h:Int) (b c:Nat) (d e:LA):=Iter (xdl a n) (n,b+1,1,c,0,1,List.take (b+1) (d++[AV.agg [AV.int .i64 a,AV.int .i64 (i64.wrap (n - h))]]),0,e)
def xkR (a n h:Int) (b c:Nat) (d e:LA):=Iter (xdl a n) (h,b,0,c,0,0,List.take b d,0,e)
def xkV (a n h:Int) (b c:Nat) (d e:LA):=(xk6 a n h b c d e).getD (0,0,0,0,0,[],0,[],0)
def xkT (a n h:Int) (b c:Nat) (d e:LA):=(xkR a n h b c d e).getD (0,0,0,0,0,[],0,[],0)
def xlV (a n h:Int) (b c:Nat) (d e:LA):=(xkV a n h b c d e).snd
def xkO (a n h:Int) (b c:Nat) (d e:LA):=(xkT a n h b c d e).snd
def xlW (a n h:Int) (b c:Nat) (d e:LA):=(xlV a n h b c d e).snd
def xkS (a n h:Int) (b c:Nat) (d e:LA):=(xkO a n h b c d e).snd
def xlO (a n h:Int) (b c:Nat) (d e:LA):=(xlW a n h b c d e).snd
def xk9 (a n h:Int) (b c:Nat) (d e:LA):=(xkS a n h b c d e).snd
def xlM (a n h:Int) (b c:Nat) (d e:LA):=(xlO a n h b c d e).snd
def xk8 (a n h:Int) (b c:Nat) (d e:LA):=(xk9 a n h b c d e).snd
def xlF (a n h:Int) (b c:Nat) (d e:LA):=(xlM a n h b c d e).snd
def xlS (a n h:Int) (b c:Nat) (d e:LA):=(xk8 a n h b c d e).snd
def xlT (a n h:Int) (b c:Nat) (d e:LA):=(xlF a n h b c d e).snd
def xlI (a n h:Int) (b c:Nat) (d e:LA):=(xlS a n h b c d e).snd
def xlZ (a n h:Int) (b c:Nat) (d e:LA):=(xlT a n h b c d e).snd
def xlX (a n h:Int) (b c:Nat) (d e:LA):=(xlI a n h b c d e).snd
def xj1 {T:Type} (a n h:Int) (b d:Nat) (c e:LA) (δ:T) (κ:Int×Nat×Nat×Nat×Nat×LA×Nat×LA×Nat→T):T:=br (decide (n>h)) (br (b==c.length&&(decide ((b+1)*16≤140737488355328)&&decide (b+1≤4611686018427387904))) (br ((xk6 a n h b d c e).isSome) (κ ((xkV a n h b d c e).fst,(xlV a n h b d c e).fst,(xlW a n h b d c e).fst,(xlO a n h b d c e).fst,(xlM a n h b d c e).fst,(xlF a n h b d c e).fst,(xlT a n h b d c e).fst,(xlZ a n h b d c e).fst,(xlZ a n h b d c e).snd)) δ) δ) (br ((xkR a n h b d c e).isSome) (κ ((xkT a n h b d c e).fst,(xkO a n h b d c e).fst,(xkS a n h b d c e).fst,(xk9 a n h b d c e).fst,(xk8 a n h b d c e).fst,(xlS a n h b d c e).fst,(xlI a n h b d c e).fst,(xlX a n h b d c e).fst,(xlX a n h b d c e).snd)) δ)
def xjs (a n h:Int) (b c:Nat) (d e:LA):Option (Int×Nat×Nat×Nat×Nat×LA×Nat×LA×Nat):=xj1 a n h b c d e none some
theorem xqz (a n h:Int) (b c:Nat) (d e:LA):Enc (fun (p:Int×Nat×Nat×Nat×Nat×LA×Nat×LA×Nat)=>(((AV.tuple [],([⟨0,1,3,[AV.int .i64 p.1],false,true⟩,⟨0,1,84,[AV.osl 3 p.2.1 0 p.2.2.1],false,false⟩,⟨0,1,53,[AV.osl 4 p.2.2.2.1 0 p.2.2.2.2.1],false,false⟩,⟨p.2.2.2.2.2.2.1,2,86,p.2.2.2.2.2.1,false,true⟩,⟨p.2.2.2.2.2.2.2.2,2,31,p.2.2.2.2.2.2.2.1,false,true⟩]:List Box))):(AV×List Box))) (xjs a n h b c d e) (XFM Tryz.prog xf6 Tryz.f68 (Tryz.f68.body.getD .skip) [AV.int .i64 a,AV.int .i64 n,AV.own (0:Id) 0 0 0,AV.own (1:Id) 0 0 0,AV.own (2:Id) 0 0 0] [{ ver:=0,sz:=1,ty:=(3:TypeId),xs:=[AV.int .i64 h],frz:=false,pm:=true },{ ver:=0,sz:=1,ty:=(84:TypeId),xs:=[AV.osl (3:Id) 0 0 b],frz:=false,pm:=false },{ ver:=0,sz:=1,ty:=(53:TypeId),xs:=[AV.osl (4:Id) 0 0 c],frz:=false,pm:=false },{ ver:=0,sz:=2,ty:=(86:TypeId),xs:=d,frz:=false,pm:=true },{ ver:=0,sz:=2,ty:=(31:TypeId),xs:=e,frz:=false,pm:=true }]):=by
 refine eV (xj1 a n h b c d e none (fun (p:Int×Nat×Nat×Nat×Nat×LA×Nat×LA×Nat)=>some (((AV.tuple [],([⟨0,1,3,[AV.int .i64 p.1],false,true⟩,⟨0,1,84,[AV.osl 3 p.2.1 0 p.2.2.1],false,false⟩,⟨0,1,53,[AV.osl 4 p.2.2.2.1 0 p.2.2.2.2.1],false,false⟩,⟨p.2.2.2.2.2.2.1,2,86,p.2.2.2.2.2.1,false,true⟩,⟨p.2.2.2.2.2.2.2.2,2,31,p.2.2.2.2.2.2.2.1,false,true⟩]:List Box))):(AV×List Box)))) (by kernel_rfl) ?_;unfold xjs xj1;repeat' first|exact eN|exact eS rfl|apply eB
end Go.Sim.M
end
noncomputable section
set_option maxRecDepth 100000
namespace Go.Sim
open Go.RowKit
theorem GoodM.aged {P:Program} {Inv:IV} {f:FuncId} {args:List AV} {H:List Box} {x0:AV} {v3 v4 k3 k4 t0 t1 t2 t3 t4 s3 s4:Nat} {xs3 xs4:List AV} (hlen:H.length=5) (hz3:∀ bx,H[3]?=some bx→bx.ver=0) (hz4:∀ bx,H[4]?=some bx→bx.ver=0)
  (p0:isC t0=false) (p1:isC t1=false) (p2:isC t2=false) (p3:isC t3=false) (p4:isC t4=false)
  (h:GoodM P Inv f args H (.tuple []) [⟨0,1,t0,[x0],false,true⟩,⟨0,1,t1,[.osl (.b 3) v3 0 k3],false,false⟩,⟨0,1,t2,[.osl (.b 4) v4 0 k4],false,false⟩,⟨v3,s3,t3,xs3,false,true⟩,⟨v4,s4,t4,xs4,false,true⟩]) :
  GoodM P Inv f args H (.tuple []) [⟨0,1,t0,[x0],false,true⟩,⟨0,1,t1,[.osl (.b 3) 1 0 k3],false,false⟩,⟨0,1,t2,[.osl (.b 4) 1 0 k4],false,false⟩,⟨1,s3,t3,xs3,false,true⟩,⟨1,s4,t4,xs4,false,true⟩]:=by
 refine ⟨h.1,fun w0 w A M vs hI hB hR hrc=>(h.2 w0 w A M vs hI hB hR hrc).mono ?_⟩
 rintro e w' ⟨u,A',M',rfl,h1,h2,h3,h4,h5⟩
 let M'':Id→Option MB:=fun id=>if id=.b 3∨id=.b 4 then (M' id).map fun m=>⟨m.b,1,m.sz,m.cap,m.ty⟩ else M' id
 have e3:∀ m,M' (.b 3)=some m→M'' (.b 3)=some ⟨m.b,1,m.sz,m.cap,m.ty⟩:=fun m hm=>by simp [M'',hm]
 have e4:∀ m,M' (.b 4)=some m→M'' (.b 4)=some ⟨m.b,1,m.sz,m.cap,m.ty⟩:=fun m hm=>by
  show (if (Id.b 4=.b 3∨Id.b 4=.b 4) then _ else _)=_
  rw [if_pos (.inr rfl),hm];rfl
 have eo:∀ id,id≠.b 3→id≠.b 4→M'' id=M' id:=fun id g1 g2=>by
  show (if _ then _ else _)=_
  rw [if_neg (fun e=>e.elim g1 g2)]
 have hsrc:∀ id m1,M'' id=some m1→∃ m0,M' id=some m0∧m1.b=m0.b∧m1.cap=m0.cap∧m1.sz=m0.sz∧m1.ty=m0.ty:=fun id m1 hm1=>by
  by_cases g3:id=.b 3
  · subst g3
    cases hm:M' (.b 3) with
    | none=>simp [M'',hm] at hm1
    | some m=>rw [e3 m hm] at hm1;simp only [Option.some.injEq] at hm1;subst hm1;exact ⟨m,rfl,rfl,rfl,rfl,rfl⟩
  · by_cases g4:id=.b 4
    · subst g4
      cases hm:M' (.b 4) with
      | none =>
       have:M'' (.b 4)=none:=by
        show (if (Id.b 4=.b 3∨Id.b 4=.b 4) then _ else _)=_
        rw [if_pos (.inr rfl),hm];rfl
       rw [this] at hm1;cases hm1
      | some m=>rw [e4 m hm] at hm1;simp only [Option.some.injEq] at hm1;subst hm1;exact ⟨m,rfl,rfl,rfl,rfl,rfl⟩
    · rw [eo id g3 g4] at hm1
      exact ⟨m1,hm1,rfl,rfl,rfl,rfl⟩
 have hosl:∀ (n v k:Nat) (c:Value) (m:MB),M' (.b n)=some m→M'' (.b n)=some ⟨m.b,1,m.sz,m.cap,m.ty⟩→v=m.ver→Rel w' A' M' c (.osl (.b n) v 0 k)→Rel w' A' M'' c (.osl (.b n) 1 0 k):=fun n v k c m hm hm'' hv hr=>by
  obtain ⟨m0,g1,g2,g3,g4⟩:=Rel.osl_inv hr
  rw [hm] at g1
  simp only [Option.some.injEq] at g1
  subst g1
  exact .osl c (.b n) 1 0 k _ hm'' (Nat.le_refl _) g3 fun _=>g4 hv
 have hbox:∀ (n:Nat) (bx:Box) (m:MB),[⟨0,1,t0,[x0],false,true⟩,⟨0,1,t1,[.osl (.b 3) v3 0 k3],false,false⟩,⟨0,1,t2,[.osl (.b 4) v4 0 k4],false,false⟩,⟨v3,s3,t3,xs3,false,true⟩,⟨v4,s4,t4,xs4,false,true⟩][n]?=some bx→M' (.b n)=some m→BoxAt w' A' M' w0.heap.size (.b n) m bx:=fun n bx m hn hm=>by
  obtain ⟨bx',g1,g2⟩:=h4.box _ m hm
  rw [xdt,hn] at g1
  simp only [Option.some.injEq] at g1
  subst g1
  exact g2
 have hpure:∀ (id:Id) (bx:Box) (m:MB) (v:Nat),isC bx.ty=false→bx.pm=true→BoxAt w' A' M' w0.heap.size id m bx→BoxAt w' A' M'' w0.heap.size id ⟨m.b,v,m.sz,m.cap,m.ty⟩ ⟨v,bx.sz,bx.ty,bx.xs,bx.frz,bx.pm⟩:=fun id bx m v hpl hp g=>by
  have hnm:isMapT m.ty=false:=g.nomap (xbB hpl)
  refine ⟨rfl,g.sz,g.ty,g.capm,g.fits,g.ok,g.low,g.lt,fun h0=>?_,g.guard⟩
  obtain ⟨c,c1,c2,c3⟩:=g.cells h0
  refine ⟨c,.of hnm (c1.plain hnm),c2,fun i j hi hj=>?_⟩
  have:=c3 i j hi hj
  rw [xaX hpl,xbS hpl,hp] at this
  rw [xaX hpl,xbS (bx:=⟨v,bx.sz,bx.ty,bx.xs,bx.frz,bx.pm⟩) hpl]
  show Rel w' A' (MP M'' bx.pm) _ _
  rw [hp]
  exact this
 have hvar:∀ (n n2 v k t:Nat) (m m2:MB),isC t=false→n≠3→n≠4→BoxAt w' A' M' w0.heap.size (.b n) m ⟨0,1,t,[.osl (.b n2) v 0 k],false,false⟩→M' (.b n2)=some m2→M'' (.b n2)=some ⟨m2.b,1,m2.sz,m2.cap,m2.ty⟩→v=m2.ver →
   BoxAt w' A' M'' w0.heap.size (.b n) m ⟨0,1,t,[.osl (.b n2) 1 0 k],false,false⟩:=fun n n2 v k t m m2 hpl _ _ g hm2 hm2'' hv=>by
  have hnm:isMapT m.ty=false:=g.nomap (xbB hpl)
  have hsz:m.sz=1:=g.sz.symm
  refine ⟨g.ver,g.sz,g.ty,g.capm,g.fits,fun y hy=>?_,g.low,g.lt,fun h0=>?_,g.guard⟩
  · simp only [List.mem_singleton] at hy
    subst hy
    rw [hsz];rfl
  · obtain ⟨c,c1,c2,c3⟩:=g.cells h0
    refine ⟨c,.of hnm (c1.plain hnm),c2,fun i j hi hj=>?_⟩
    have hi0:i=0:=by simpa using hi
    have hj0:j=0:=by omega
    subst hi0 hj0
    have:=c3 0 0 (by simp) hj
    rw [xaX hpl,xbS hpl] at this
    rw [xaX hpl,xbS (bx:=⟨0,1,t,[.osl (.b n2) 1 0 k],false,false⟩) hpl]
    exact hosl n2 v k _ m2 hm2 hm2'' hv this
 have hm3:∀ m,M (.b 3)=some m→m.ver=0:=fun m hm=>by
  obtain ⟨bx,g1,g2⟩:=hR.box _ m hm
  rw [←g2.ver]
  exact hz3 bx g1
 have hm4:∀ m,M (.b 4)=some m→m.ver=0:=fun m hm=>by
  obtain ⟨bx,g1,g2⟩:=hR.box _ m hm
  rw [←g2.ver]
  exact hz4 bx g1
 have hver3:∀ m,M' (.b 3)=some m→v3=m.ver:=fun m hm=>(hbox 3 _ m rfl hm).ver
 have hver4:∀ m,M' (.b 4)=some m→v4=m.ver:=fun m hm=>(hbox 4 _ m rfl hm).ver
 have hrow:∀ n i j m,M' (.r n i j)=some m→BoxAt w' A' M' w0.heap.size (.r n i j) m tombB∧n<5:=fun n i j m hm=>by
  obtain ⟨bx,g1,g2⟩:=h4.box _ m hm
  obtain ⟨b0,q1,_⟩:=xi4 g1
  have hn:n<5:=by
   have:=xdU q1
   simpa using this
  have hp:isC b0.ty=false:=by
   match n,hn with
   | 0,_=>simp only [List.getElem?_cons_zero,Option.some.injEq] at q1;subst q1;exact p0
   | 1,_=>simp only [List.getElem?_cons_zero,List.getElem?_cons_succ,Option.some.injEq] at q1;subst q1;exact p1
   | 2,_=>simp only [List.getElem?_cons_zero,List.getElem?_cons_succ,Option.some.injEq] at q1;subst q1;exact p2
   | 3,_=>simp only [List.getElem?_cons_zero,List.getElem?_cons_succ,Option.some.injEq] at q1;subst q1;exact p3
   | 4,_=>simp only [List.getElem?_cons_zero,List.getElem?_cons_succ,Option.some.injEq] at q1;subst q1;exact p4
  rw [xdn q1 hp] at g1
  simp only [Option.some.injEq] at g1
  subst g1
  exact ⟨g2,hn⟩
 have hR':HR w' A' M'' w0.heap.size [⟨0,1,t0,[x0],false,true⟩,⟨0,1,t1,[.osl (.b 3) 1 0 k3],false,false⟩,⟨0,1,t2,[.osl (.b 4) 1 0 k4],false,false⟩,⟨1,s3,t3,xs3,false,true⟩,⟨1,s4,t4,xs4,false,true⟩]:=by
  refine ⟨fun id m1 hm1=>?_,fun id id' m1 m2 k1 k2 c1 c2 he=>?_,h4.lt⟩
  · obtain ⟨m0,g1,g2,g3,g4,g5⟩:=hsrc id m1 hm1
    cases id with
    | r n i j =>
     rw [eo (.r n i j) (fun e=>by cases e) (fun e=>by cases e),g1] at hm1
     simp only [Option.some.injEq] at hm1
     subst hm1
     obtain ⟨q1,q2⟩:=hrow n i j _ g1
     refine ⟨tombB,?_,?_⟩
     · match n,q2 with
       | 0,_=>exact xdn rfl p0
       | 1,_=>exact xdn rfl p1
       | 2,_=>exact xdn rfl p2
       | 3,_=>exact xdn rfl p3
       | 4,_=>exact xdn rfl p4
     · have hv:tombB.ver=m0.ver:=q1.ver
       have:=hpure (.r n i j) tombB m0 m0.ver rfl rfl q1
       exact ⟨q1.ver,this.sz,this.ty,this.capm,this.fits,this.ok,this.low,this.lt,this.cells,this.guard⟩
    | b n =>
     have hn:n<5:=by
      obtain ⟨bx,q1,_⟩:=h4.box _ m0 g1
      have:=xdU q1
      simpa using this
     match n,hn with
     | 0,_ =>
      rw [eo (.b 0) (fun e=>by cases e) (fun e=>by cases e),g1] at hm1
      simp only [Option.some.injEq] at hm1
      subst hm1
      have q:=hbox 0 _ m0 rfl g1
      have:=hpure (.b 0) _ m0 m0.ver p0 rfl q
      exact ⟨⟨0,1,t0,[x0],false,true⟩,rfl,q.ver,this.sz,this.ty,this.capm,this.fits,this.ok,this.low,this.lt,this.cells,this.guard⟩
     | 1,_ =>
      rw [eo (.b 1) (fun e=>by cases e) (fun e=>by cases e),g1] at hm1
      simp only [Option.some.injEq] at hm1
      subst hm1
      have q:=hbox 1 _ m0 rfl g1
      have hc:0<m0.cap:=Nat.lt_of_lt_of_le Nat.zero_lt_one q.fits
      obtain ⟨c,c1,c2,c3⟩:=q.cells hc
      have hr:=c3 0 0 (by simp) (by rw [←q.sz];exact Nat.zero_lt_one)
      rw [xaX p1,xbS (bx:=⟨0,1,t1,[.osl (.b 3) v3 0 k3],false,false⟩) p1] at hr
      have hr:Rel w' A' M' _ (.osl (.b 3) v3 0 k3):=hr
      obtain ⟨m3,a1,_⟩:=Rel.osl_inv hr
      exact ⟨_,rfl,hvar 1 3 v3 k3 t1 m0 m3 p1 (by decide) (by decide) q a1 (e3 m3 a1) (hver3 m3 a1)⟩
     | 2,_ =>
      rw [eo (.b 2) (fun e=>by cases e) (fun e=>by cases e),g1] at hm1
      simp only [Option.some.injEq] at hm1
      subst hm1
      have q:=hbox 2 _ m0 rfl g1
      have hc:0<m0.cap:=Nat.lt_of_lt_of_le Nat.zero_lt_one q.fits
      obtain ⟨c,c1,c2,c3⟩:=q.cells hc
      have hr:=c3 0 0 (by simp) (by rw [←q.sz];exact Nat.zero_lt_one)
      rw [xaX p2,xbS (bx:=⟨0,1,t2,[.osl (.b 4) v4 0 k4],false,false⟩) p2] at hr
      have hr:Rel w' A' M' _ (.osl (.b 4) v4 0 k4):=hr
      obtain ⟨m4,a1,_⟩:=Rel.osl_inv hr
      exact ⟨_,rfl,hvar 2 4 v4 k4 t2 m0 m4 p2 (by decide) (by decide) q a1 (e4 m4 a1) (hver4 m4 a1)⟩
     | 3,_ =>
      rw [e3 m0 g1] at hm1
      simp only [Option.some.injEq] at hm1
      subst hm1
      exact ⟨_,rfl,hpure (.b 3) _ m0 1 p3 rfl (hbox 3 _ m0 rfl g1)⟩
     | 4,_ =>
      rw [e4 m0 g1] at hm1
      simp only [Option.some.injEq] at hm1
      subst hm1
      exact ⟨_,rfl,hpure (.b 4) _ m0 1 p4 rfl (hbox 4 _ m0 rfl g1)⟩
  · obtain ⟨n1,a1,a2,a3,_⟩:=hsrc id m1 k1
    obtain ⟨n2,b1,b2,b3,_⟩:=hsrc id' m2 k2
    exact h4.inj id id' n1 n2 a1 b1 (by omega) (by omega) (by rw [←a2,←b2,he])
 refine ⟨u,A',M'',rfl,h1,h2,⟨h3.size,h3.keep,h3.less,h3.more,fun id m hid hm=>?_,fun id m1 hm1 h0=>?_⟩,hR',?_⟩
 · obtain ⟨m',g1,g2⟩:=h3.ids id m hid hm
   by_cases q3:id=.b 3
   · subst q3
     exact ⟨_,e3 m' g1,.inr (by have:m.ver=0:=hm3 m hm;show m.ver<1;omega)⟩
   · by_cases q4:id=.b 4
     · subst q4
       exact ⟨_,e4 m' g1,.inr (by have:m.ver=0:=hm4 m hm;show m.ver<1;omega)⟩
     · exact ⟨m',by rw [eo id q3 q4];exact g1,g2⟩
 · obtain ⟨m0,g1,g2,g3,_⟩:=hsrc id m1 hm1
   rw [g2]
   exact h3.src id m0 g1 (by omega)
 · obtain ⟨vs',rfl,q1,_⟩:=h5.tuple_inv
   exact .tuple vs' [] q1 (by simp)
namespace M
open Go.Proofs
noncomputable def set2 (at0 n h:Int) (ns no:Nat) (sx ox:List AV):Option (Int×Nat×Nat×List AV×List AV):=(xjs at0 n h ns no sx ox).bind fun p =>
 br (Nat.beq p.2.1 p.2.2.2.2.2.2.1&&Nat.beq p.2.2.2.1 p.2.2.2.2.2.2.2.2) (some (p.1,p.2.2.1,p.2.2.2.2.1,p.2.2.2.2.2.1,p.2.2.2.2.2.2.2.1)) none
noncomputable def xvc:List AV→List Box→Option (Bool×AV×List Box):=omOf (sCons (sEq (pInt IntKind.i64)) (sCons (sEq (pInt IntKind.i64)) (sCons (sEq (pOwn 0 0 0 0)) (sCons (sEq (pOwn 1 0 0 0)) (sCons (sEq (pOwn 2 0 0 0)) sNil)))))
 (pCons (pBox 0 1 3 false true (pCons (pInt IntKind.i64) pNil)) (pCons (pBox 0 1 84 false false (pCons (pOsl 3 0 0) pNil)) (pCons (pBox 0 1 53 false false (pCons (pOsl 4 0 0) pNil)) (pCons (pBox 0 2 86 false true pAny) (pCons (pBox 0 2 31 false true pAny) pNil)))))
 fun (at0,(n,(_,(_,(_,_))))) ((h,_),((ns,_),((no,_),(sx,(ox,_)))))=>((set2 at0 n h ns no sx ox).isSome,(.tuple [],[⟨0,1,3,[.int .i64 ((set2 at0 n h ns no sx ox).getD (0,0,0,[],[])).1],false,true⟩,⟨0,1,84,[.osl (.b 3) 1 0 ((set2 at0 n h ns no sx ox).getD (0,0,0,[],[])).2.1],false,false⟩,⟨0,1,53,[.osl (.b 4) 1 0 ((set2 at0 n h ns no sx ox).getD (0,0,0,[],[])).2.2.1],false,false⟩,⟨1,2,86,((set2 at0 n h ns no sx ox).getD (0,0,0,[],[])).2.2.2.1,false,true⟩,⟨1,2,31,((set2 at0 n h ns no sx ox).getD (0,0,0,[],[])).2.2.2.2,false,true⟩]))
theorem xzz:OmOk Tryz.prog ITryz 68 xvc:=xgN fun vv bb rr hh' hh=>by
 obtain ⟨at0,⟨n,⟨_,⟨_,⟨_,_⟩⟩⟩⟩⟩:=vv
 obtain ⟨⟨h,_⟩,⟨⟨ns,_⟩,⟨⟨no,_⟩,⟨sx,⟨ox,_⟩⟩⟩⟩⟩:=bb
 obtain ⟨hh1,hh2⟩:=Prod.mk.inj hh
 cases hs:xjs at0 n h ns no sx ox with
 | none=>rw [show set2 at0 n h ns no sx ox=none by unfold set2;rw [hs];rfl] at hh1;simp at hh1
 | some p =>
  have hs2:set2 at0 n h ns no sx ox=br (Nat.beq p.2.1 p.2.2.2.2.2.2.1&&Nat.beq p.2.2.2.1 p.2.2.2.2.2.2.2.2) (some (p.1,p.2.2.1,p.2.2.2.2.1,p.2.2.2.2.2.1,p.2.2.2.2.2.2.2.1)) none:=by unfold set2;rw [hs];rfl
  cases ht:Nat.beq p.2.1 p.2.2.2.2.2.2.1&&Nat.beq p.2.2.2.1 p.2.2.2.2.2.2.2.2 with
  | false=>rw [hs2,ht] at hh1;simp [br] at hh1
  | true =>
   rw [ht] at hs2
   have hs3:set2 at0 n h ns no sx ox=some (p.1,p.2.2.1,p.2.2.2.2.1,p.2.2.2.2.2.1,p.2.2.2.2.2.2.2.1):=hs2
   rw [hs3] at hh2
   simp only [Option.getD_some] at hh2
   simp only [Bool.and_eq_true] at ht
   have e1:=Nat.eq_of_beq_eq_true ht.1
   have e2:=Nat.eq_of_beq_eq_true ht.2
   have hx:=xqz at0 n h ns no sx ox p hs
   have hg:GoodM Tryz.prog ITryz 68 _ _ _ _:=xfi (p:=xf6.pin) (xfM mxTryz (inv0Ok Tryz.prog _) rfl xnV rfl Tryz.func68 rfl (by kernel_rfl) xmj hx)
   rw [←e1,←e2] at hg
   have hg2:=GoodM.aged rfl (fun bx hb=>by simp only [List.getElem?_cons_zero,List.getElem?_cons_succ,Option.some.injEq] at hb;subst hb;rfl) (fun bx hb=>by simp only [List.getElem?_cons_zero,List.getElem?_cons_succ,Option.some.injEq] at hb;subst hb;rfl) rfl rfl rfl rfl rfl hg
   obtain ⟨rfl,rfl⟩:=Prod.mk.inj hh2
   exact hg2
noncomputable def ESet:Env:=EKP1.withM 68 xvc
theorem xy6:OrcOk Tryz.prog ITryz ESet:=xmx.withM xzz
end M
end Go.Sim
end
noncomputable section
set_option maxRecDepth 100000
namespace Go.Sim.M
open Go.IntKind (i64 u64 u8)
open Go.RowKit Go.Proofs
abbrev xtB:Env:=ESet
theorem xtD:OrcOk Tryz.prog ITryz xtB:=xy6
abbrev xvg:Env:=xtB
theorem xum:OrcOk Tryz.prog ITryz xvg:=xtD
abbrev EKP3:Env:=xvg
theorem xzl:OrcOk Tryz.prog ITryz EKP3:=xum
end Go.Sim.M
end
noncomputable section
set_option maxRecDepth 100000
namespace Go.Sim.M
open Go.IntKind (i64 u64 u8)
open Go.RowKit Go.Proofs
abbrev xuT:Env:=EKP3
theorem xuE:OrcOk Tryz.prog ITryz xuT:=xzl
abbrev xtP:Env:=xuT
theorem xtX:OrcOk Tryz.prog ITryz xtP:=xuE
abbrev xvt:Env:=xtP
theorem xvA:OrcOk Tryz.prog ITryz xvt:=xtX
abbrev xvC:Env:=xvt
theorem xuO:OrcOk Tryz.prog ITryz xvC:=xvA
abbrev EKP4:Env:=xvC
theorem xyW:OrcOk Tryz.prog ITryz EKP4:=xuO
end Go.Sim.M
end
noncomputable section
set_option maxRecDepth 100000
namespace Go.Sim.M
open Go.IntKind (i64 u64 u8)
open Go.RowKit Go.Proofs
abbrev xve:Env:=EKP4
theorem xuc:OrcOk Tryz.prog ITryz xve:=xyW
abbrev xuI:Env:=xve
theorem xu0:OrcOk Tryz.prog ITryz xuI:=xuc
abbrev xvv:Env:=xuI
theorem xvs:OrcOk Tryz.prog ITryz xvv:=xu0
abbrev xtU:Env:=xvv
theorem xvH:OrcOk Tryz.prog ITryz xtU:=xvs
abbrev EKP5:Env:=xtU
theorem xm4:OrcOk Tryz.prog ITryz EKP5:=xvH
end Go.Sim.M
end
noncomputable section
set_option maxRecDepth 100000
namespace Go.Sim.M
open Go.IntKind (i64 u64 u8)
open Go.RowKit Go.Proofs
def xbm:Env:=EKP5.fn 53 1 (lsOf [40]) (lpsOf [])
theorem xgQ:OrcOk Tryz.prog (ITryz.at 1) xbm:=xm4.fn
theorem xf3:LoOk Tryz.prog (ITryz.at xbm.pin) xbm (loopAt Tryz.f157 1):=xa0 (by kernel_rfl)
def xcT (a:Nat) (j:Int):=decide (0≤i64.wrap (j - 1))&&decide (i64.wrap (j - 1)<(↑a:Int))
def xaM (j:Int):Nat:=0+(i64.wrap (j - 1)).toNat
def xc0 (a:Nat) (j:Int):=decide (0≤j)&&decide (j<(↑a:Int))
def xek (j:Int) (a:LA):=decide (0+j.toNat<a.length)
def xem (j:Int) (a:LA):=decide (xaM j<a.length)&&hasSh1 (Sh.list 3) ((a.getD (xaM j) .top).cells.getD 0 .top)
def xel (j:Int) (a:LA):=xek j a&&hasSh1 (Sh.list 3) ((a.getD (0+j.toNat) .top).cells.getD 0 .top)
def xc6 {T:Type} (d:Nat) (a b i j:Int) (c:LA) (δ:T) (κl:(Int×LA)→T) (κr:(LA)→T):T:=br (decide (j>a)) (br (xc0 d j) (br (xel j c) (br (xcT d j) (br (xem j c) (br ((xb9 ((c.getD (0+j.toNat) .top).cells.getD 0 .top).toList ((c.getD (xaM j) .top).cells.getD 0 .top).toList).isSome) (br (decide ((xb9 ((c.getD (0+j.toNat) .top).cells.getD 0 .top).toList ((c.getD (xaM j) .top).cells.getD 0 .top).toList).getD 0<0)) (br (xcT d j) (br (xem j c) (br (xc0 d j) (br (xel j c) (br (xc0 d j) (br (xek j c) (br (xcT d j) (br (decide (xaM j<(c.set (0+j.toNat) (AV.list 3 ((c.getD (xaM j) .top).cells.getD 0 .top).toList)).length)) (κl (i64.wrap (j - 1),(c.set (0+j.toNat) (AV.list 3 ((c.getD (xaM j) .top).cells.getD 0 .top).toList)).set (xaM j) (AV.list 3 ((c.getD (0+j.toNat) .top).cells.getD 0 .top).toList))) δ) δ) δ) δ) δ) δ) δ) δ) (κr (c))) δ) δ) δ) δ) δ) (κr (c))
def xaP (d:Nat) (a b i:Int):(Int×LA)→Option ((Int×LA)⊕(LA)):=fun (j,c)=>xc6 d a b i j c none (fun s=>some (.inl s)) (fun p=>some (.inr p))
def xbf (d:Nat) (a b i:Int):(Int×LA)→LA×List Box:=fun (j,c)=>([AV.osl 0 0 0 d,AV.int .i64 a,AV.int .i64 b,AV.func 88 [],AV.int .i64 i,AV.int .i64 j],[⟨0,1,40,c,false,true⟩])
def xa6 (c:Nat) (a b i:Int):(LA)→LR:=fun p=>(.leaf (.exit 2) [AV.osl 0 0 0 c,AV.int .i64 a,AV.int .i64 b,AV.func 88 [],AV.int .i64 i] [⟨0,1,40,p,false,true⟩])
abbrev xgZ (a:LA) (H:List Box):=XR Tryz.prog xbm [0,1,2,3,8,9] [0,1,2,3,8] [] (loopAt Tryz.f157 1) a H
theorem xg4 (c:Nat) (a b i:Int) (s:Int×LA):Enc (encR (xbf c a b i) (xa6 c a b i)) (xaP c a b i s) (xgZ (xbf c a b i s).1 (xbf c a b i s).2):=by
 obtain ⟨j,d⟩:=s
 refine eV (xc6 c a b i j d none (fun s=>some (encR (xbf c a b i) (xa6 c a b i) (.inl s))) (fun p=>some (encR (xbf c a b i) (xa6 c a b i) (.inr p)))) (by kernel_rfl) ?_;unfold xaP xc6;repeat' first|exact eN|exact eS rfl|apply eB
def xc1:Lp:=lpOf [0,1,2,3,8,9] [0,1,2,3,8] [] (pCons (pOsl 0 0 0) (pCons (pInt .i64) (pCons (pInt .i64) (pCons (pFunc 88 pNil) (pCons (pInt .i64) (pCons (pInt .i64) pNil)))))) (pCons (pBox 0 1 40 false true pAny) pNil) fun (c,(a,(b,(_,(i,(j,_)))))) (d,_)=>((Iter (xaP c a b i) (j,d)).isSome,xa6 c a b i ((Iter (xaP c a b i) (j,d)).getD []))
theorem xee:LoopOk Tryz.prog (ITryz.at xbm.pin) xbm.nt (loopAt Tryz.f157 1) xc1:=xcB fun f g k h=>by
 obtain ⟨c,⟨a,⟨b,⟨_,⟨i,⟨j,_⟩⟩⟩⟩⟩⟩:=f
 obtain ⟨d,_⟩:=g
 obtain ⟨e,rfl⟩:=Prod.mk.inj h
 exact xa3 mxTryz (inv0Ok Tryz.prog _) rfl xgQ xf3 (xbf c a b i) (xa6 c a b i) (fun p=>by simp only [xa6,LR.eval];first|(simp;done)|(repeat' split<;>simp)) (xg4 c a b i) (s:=(j,d)) (xaq e)
def xbk:Env:=EKP5.fn 53 1 (lsOf [40]) (lpsOf [(4,xc1)])
theorem xgR:OrcOk Tryz.prog (ITryz.at 1) xbk:=xm4.fn
theorem xfT:LoOk Tryz.prog (ITryz.at xbk.pin) xbk (loopAt Tryz.f157 0):=xce (ls:=[loopAt Tryz.f157 1]) (by kernel_rfl) (lkC xee lkN)
def xc3 {T:Type} (d:Nat) (a b i:Int) (c:LA) (δ:T) (κl:(Int×LA)→T) (κr:(LA)→T):T:=br (decide (i<b)) (br ((Iter (xaP d a b i) (i,c)).isSome) (κl (i64.wrap (i+1),(Iter (xaP d a b i) (i,c)).getD [])) δ) (κr (c))
def xaQ (d:Nat) (a b:Int):(Int×LA)→Option ((Int×LA)⊕(LA)):=fun (i,c)=>xc3 d a b i c none (fun s=>some (.inl s)) (fun p=>some (.inr p))
def xbg (d:Nat) (a b:Int):(Int×LA)→LA×List Box:=fun (i,c)=>([AV.osl 0 0 0 d,AV.int .i64 a,AV.int .i64 b,AV.func 88 [],AV.int .i64 i],[⟨0,1,40,c,false,true⟩])
def xa7 (c:Nat) (a b:Int):(LA)→LR:=fun p=>(.leaf (.exit 0) [] [⟨0,1,40,p,false,true⟩])
abbrev xgY (a:LA) (H:List Box):=XR Tryz.prog xbk [0,1,2,3,8] [] [] (loopAt Tryz.f157 0) a H
theorem xgV (c:Nat) (a b:Int) (s:Int×LA):Enc (encR (xbg c a b) (xa7 c a b)) (xaQ c a b s) (xgY (xbg c a b s).1 (xbg c a b s).2):=by
 obtain ⟨i,d⟩:=s
 refine eV (xc3 c a b i d none (fun s=>some (encR (xbg c a b) (xa7 c a b) (.inl s))) (fun p=>some (encR (xbg c a b) (xa7 c a b) (.inr p)))) (by kernel_rfl) ?_;unfold xaQ xc3;repeat' first|exact eN|exact eS rfl|apply eB
def xep:Lp:=lpOf [0,1,2,3,8] [] [] (pCons (pOsl 0 0 0) (pCons (pInt .i64) (pCons (pInt .i64) (pCons (pFunc 88 pNil) (pCons (pInt .i64) pNil))))) (pCons (pBox 0 1 40 false true pAny) pNil) fun (c,(a,(b,(_,(i,_))))) (d,_)=>((Iter (xaQ c a b) (i,d)).isSome,xa7 c a b ((Iter (xaQ c a b) (i,d)).getD []))
theorem xgk:LoopOk Tryz.prog (ITryz.at xbk.pin) xbk.nt (loopAt Tryz.f157 0) xep:=xcB fun f g j h=>by
 obtain ⟨c,⟨a,⟨b,⟨_,⟨i,_⟩⟩⟩⟩⟩:=f
 obtain ⟨d,_⟩:=g
 obtain ⟨e,rfl⟩:=Prod.mk.inj h
 exact xa3 mxTryz (inv0Ok Tryz.prog _) rfl xgR xfT (xbg c a b) (xa7 c a b) (fun p=>by simp only [xa7,LR.eval];first|(simp;done)|(repeat' split<;>simp)) (xgV c a b) (s:=(i,d)) (xaq e)
def xbT:Env:=EKP5.fn 53 1 (lsOf [40]) (lpsOf [(4,xc1),(1,xep)])
theorem xgE:OrcOk Tryz.prog (ITryz.at 1) xbT:=xm4.fn
theorem xgb:LoOk Tryz.prog (ITryz.at xbT.pin) xbT (Tryz.f157.body.getD .skip):=xce (ls:=[loopAt Tryz.f157 0,loopAt Tryz.f157 1]) (by kernel_rfl) (lkC xgk (lkC xee lkN))
def xct {T:Type} (n:Nat) (a b:Int) (c:LA) (δ:T) (κ:LA→T):T:=br ((Iter (xaQ n a b) (i64.wrap (a+1),c)).isSome) (κ ((Iter (xaQ n a b) (i64.wrap (a+1),c)).getD [])) δ
def xaL (n:Nat) (a b:Int) (c:LA):Option (LA):=xct n a b c none some
theorem xhI (n:Nat) (a b:Int) (xs:LA):Enc (fun (p:LA)=>(((AV.tuple [],([⟨0,1,40,p,false,true⟩]:List Box))):(AV×List Box))) (xaL n a b xs) (XFM Tryz.prog xbT Tryz.f157 (Tryz.f157.body.getD .skip) [AV.osl (0:Id) 0 0 n,AV.int .i64 a,AV.int .i64 b,AV.func (88:FuncId) []] [{ ver:=0,sz:=1,ty:=(40:TypeId),xs:=xs,frz:=false,pm:=true }]):=by
 refine eV (xct n a b xs none (fun (p:LA)=>some (((AV.tuple [],([⟨0,1,40,p,false,true⟩]:List Box))):(AV×List Box)))) (by kernel_rfl) ?_;unfold xaL xct;repeat' first|exact eN|exact eS rfl|apply eB
def xe6:LA→List Box→Option (Bool×AV×List Box):=omOf (sCons (sEq (pOsl 0 0 0)) (sCons (sEq (pInt .i64)) (sCons (sEq (pInt .i64)) (sCons (sEq (pFunc (88:FuncId) pNil)) sNil)))) (pCons (pBox 0 1 (40:TypeId) false true pAny) pNil) fun (n,(a,(b,(_,_)))) (c,_)=>((xaL n a b c).isSome,((AV.tuple [],([⟨0,1,40,((xaL n a b c).getD []),false,true⟩]:List Box))))
theorem xhE:OmOk Tryz.prog ITryz 157 (xe6):=xgN fun f g j i h=>by
 obtain ⟨n,⟨a,⟨b,⟨_,_⟩⟩⟩⟩:=f
 obtain ⟨k,_⟩:=g
 obtain ⟨c,e⟩:=Prod.mk.inj h
 refine xfi (p:=xbT.pin) (xfM mxTryz (inv0Ok Tryz.prog _) rfl xgE rfl Tryz.func157 rfl (by kernel_rfl) xgb ((xhI _ _ _ _ _ (xaq (d:=[]) c)).trans ?_))
 exact congrArg some e
def xqr:Env:=EKP5.withM 157 xe6
theorem xn9:OrcOk Tryz.prog ITryz xqr:=xm4.withM xhE
def xbR:Env:=xqr.fn 38 1 (lsOf [40]) (lpsOf [])
theorem xhH:OrcOk Tryz.prog (ITryz.at 1) xbR:=xn9.fn
theorem xgl:LoOk Tryz.prog (ITryz.at xbR.pin) xbR (loopAt Tryz.f187 0):=xa0 (by kernel_rfl)
def xe5 (a i:Int) (b:LA):=decide (0+(i64.wrap (a+i)).toNat<b.length)
def xe1 (a:Nat) (b i:Int):=decide (0≤i64.wrap (b+i))&&decide (i64.wrap (b+i)<(↑a:Int))
def xe4 (b:Nat) (a i:Int):=decide (0≤i64.wrap (a+i))&&decide (i64.wrap (a+i)<(↑b:Int))
def xb7 (b i:Int):Nat:=0+(i64.wrap (b+i)).toNat
def xe2 (a b i:Int) (c:LA):=c.set (0+(i64.wrap (a+i)).toNat) (AV.list 3 ((c.getD (xb7 b i) .top).cells.getD 0 .top).toList)
def xdw {T:Type} (d:Nat) (a b n i:Int) (c:LA) (δ:T) (κl:(Int×LA)→T) (κr:(LA)→T):T:=br (decide (i<n)) (br (xe1 d b i) (br (decide (xb7 b i<c.length)&&hasSh1 (Sh.list 3) ((c.getD (xb7 b i) .top).cells.getD 0 .top)) (br (xe4 d a i) (br (xe5 a i c&&hasSh1 (Sh.list 3) ((c.getD (0+(i64.wrap (a+i)).toNat) .top).cells.getD 0 .top)) (br (xe4 d a i) (br (xe5 a i c) (br (xe1 d b i) (br (decide (xb7 b i<(xe2 a b i c).length)) (κl (i64.wrap (i+1),(xe2 a b i c).set (xb7 b i) (AV.list 3 ((c.getD (0+(i64.wrap (a+i)).toNat) .top).cells.getD 0 .top).toList))) δ) δ) δ) δ) δ) δ) δ) δ) (κr (c))
def xa1 (d:Nat) (a b n:Int):(Int×LA)→Option ((Int×LA)⊕(LA)):=fun (i,c)=>xdw d a b n i c none (fun s=>some (.inl s)) (fun p=>some (.inr p))
def xbz (d:Nat) (a b n:Int):(Int×LA)→LA×List Box:=fun (i,c)=>([AV.osl 0 0 0 d,AV.int .i64 a,AV.int .i64 b,AV.int .i64 n,AV.int .i64 i],[⟨0,1,40,c,false,true⟩])
def xbn (c:Nat) (a b n:Int):(LA)→LR:=fun p=>(.leaf (.exit 0) [] [⟨0,1,40,p,false,true⟩])
abbrev xhZ (a:LA) (H:List Box):=XR Tryz.prog xbR [0,1,2,3,10] [] [] (loopAt Tryz.f187 0) a H
theorem xh2 (c:Nat) (a b n:Int) (s:Int×LA):Enc (encR (xbz c a b n) (xbn c a b n)) (xa1 c a b n s) (xhZ (xbz c a b n s).1 (xbz c a b n s).2):=by
 obtain ⟨i,d⟩:=s
 refine eV (xdw c a b n i d none (fun s=>some (encR (xbz c a b n) (xbn c a b n) (.inl s))) (fun p=>some (encR (xbz c a b n) (xbn c a b n) (.inr p)))) (by kernel_rfl) ?_;unfold xa1 xdw;repeat' first|exact eN|exact eS rfl|apply eB
def xe3:Lp:=lpOf [0,1,2,3,10] [] [] (pCons (pOsl 0 0 0) (pCons (pInt .i64) (pCons (pInt .i64) (pCons (pInt .i64) (pCons (pInt .i64) pNil))))) (pCons (pBox 0 1 40 false true pAny) pNil) fun (c,(a,(b,(n,(i,_))))) (d,_)=>((Iter (xa1 c a b n) (i,d)).isSome,xbn c a b n ((Iter (xa1 c a b n) (i,d)).getD []))
theorem xhs:LoopOk Tryz.prog (ITryz.at xbR.pin) xbR.nt (loopAt Tryz.f187 0) xe3:=xcB fun f g j h=>by
 obtain ⟨c,⟨a,⟨b,⟨n,⟨i,_⟩⟩⟩⟩⟩:=f
 obtain ⟨d,_⟩:=g
 obtain ⟨e,rfl⟩:=Prod.mk.inj h
 exact xa3 mxTryz (inv0Ok Tryz.prog _) rfl xhH xgl (xbz c a b n) (xbn c a b n) (fun p=>by simp only [xbn,LR.eval];first|(simp;done)|(repeat' split<;>simp)) (xh2 c a b n) (s:=(i,d)) (xaq e)
def xcn:Env:=xqr.fn 38 1 (lsOf [40]) (lpsOf [(1,xe3)])
theorem xhG:OrcOk Tryz.prog (ITryz.at 1) xcn:=xn9.fn
theorem xgx:LoOk Tryz.prog (ITryz.at xcn.pin) xcn (Tryz.f187.body.getD .skip):=xce (ls:=[loopAt Tryz.f187 0]) (by kernel_rfl) (lkC xhs lkN)
def xc7 {T:Type} (n:Nat) (a b k:Int) (c:LA) (δ:T) (κ:LA→T):T:=br ((Iter (xa1 n a b k) (0,c)).isSome) (κ ((Iter (xa1 n a b k) (0,c)).getD [])) δ
def xaK (n:Nat) (a b k:Int) (c:LA):Option (LA):=xc7 n a b k c none some
theorem xi0 (n:Nat) (a b k:Int) (xs:LA):Enc (fun (p:LA)=>(((AV.tuple [],([⟨0,1,40,p,false,true⟩]:List Box))):(AV×List Box))) (xaK n a b k xs) (XFM Tryz.prog xcn Tryz.f187 (Tryz.f187.body.getD .skip) [AV.osl (0:Id) 0 0 n,AV.int .i64 a,AV.int .i64 b,AV.int .i64 k,AV.func (88:FuncId) []] [{ ver:=0,sz:=1,ty:=(40:TypeId),xs:=xs,frz:=false,pm:=true }]):=by
 refine eV (xc7 n a b k xs none (fun (p:LA)=>some (((AV.tuple [],([⟨0,1,40,p,false,true⟩]:List Box))):(AV×List Box)))) (by kernel_rfl) ?_;unfold xaK xc7;repeat' first|exact eN|exact eS rfl|apply eB
def xfL:LA→List Box→Option (Bool×AV×List Box):=omOf (sCons (sEq (pOsl 0 0 0)) (sCons (sEq (pInt .i64)) (sCons (sEq (pInt .i64)) (sCons (sEq (pInt .i64)) (sCons (sEq (pFunc (88:FuncId) pNil)) sNil))))) (pCons (pBox 0 1 (40:TypeId) false true pAny) pNil) fun (n,(a,(b,(k,(_,_))))) (c,_)=>((xaK n a b k c).isSome,((AV.tuple [],([⟨0,1,40,((xaK n a b k c).getD []),false,true⟩]:List Box))))
theorem xiX:OmOk Tryz.prog ITryz 187 (xfL):=xgN fun f g j i h=>by
 obtain ⟨n,⟨a,⟨b,⟨k,⟨_,_⟩⟩⟩⟩⟩:=f
 obtain ⟨l,_⟩:=g
 obtain ⟨c,e⟩:=Prod.mk.inj h
 refine xfi (p:=xcn.pin) (xfM mxTryz (inv0Ok Tryz.prog _) rfl xhG rfl Tryz.func187 rfl (by kernel_rfl) xgx ((xi0 _ _ _ _ _ _ (xaq (d:=[]) c)).trans ?_))
 exact congrArg some e
def xqq:Env:=xqr.withM 187 xfL
theorem xnR:OrcOk Tryz.prog ITryz xqq:=xn9.withM xiX
def xci:Env:=xqq.fn 58 1 (lsOf [40]) (lpsOf [])
theorem xiw:OrcOk Tryz.prog (ITryz.at 1) xci:=xnR.fn
theorem xg8:LoOk Tryz.prog (ITryz.at xci.pin) xci (loopAt Tryz.f176 0):=xa0 (by kernel_rfl)
def xef {T:Type} (b:Nat) (m i j:Int) (a:LA) (δ:T) (κl:(Int×Int×LA)→T) (κr:(Int×LA)→T):T:=br (i != j) (br (decide (i>j)) (br ((xaK b (i64.wrap (m - i)) m j a).isSome) (κl (i64.wrap (i - j),j,(xaK b (i64.wrap (m - i)) m j a).getD [])) δ) (br ((xaK b (i64.wrap (m - i)) (i64.wrap (i64.wrap (m+j) - i)) i a).isSome) (κl (i,i64.wrap (j - i),(xaK b (i64.wrap (m - i)) (i64.wrap (i64.wrap (m+j) - i)) i a).getD [])) δ)) (κr (i,a))
def xbA (b:Nat) (m:Int):(Int×Int×LA)→Option ((Int×Int×LA)⊕(Int×LA)):=fun (i,j,a)=>xef b m i j a none (fun s=>some (.inl s)) (fun p=>some (.inr p))
def xb1 (b:Nat) (m:Int):(Int×Int×LA)→LA×List Box:=fun (i,j,a)=>([AV.osl 0 0 0 b,AV.int .i64 m,AV.func 88 [],AV.int .i64 i,AV.int .i64 j],[⟨0,1,40,a,false,true⟩])
def xbE (a:Nat) (m:Int):(Int×LA)→LR:=fun p=>(.leaf (.exit 0) [AV.osl 0 0 0 a,AV.int .i64 m,AV.func 88 [],AV.int .i64 p.1] [⟨0,1,40,p.2,false,true⟩])
abbrev xi2 (a:LA) (H:List Box):=XR Tryz.prog xci [0,2,4,10,11] [0,2,4,10] [] (loopAt Tryz.f176 0) a H
theorem xiZ (a:Nat) (m:Int) (s:Int×Int×LA):Enc (encR (xb1 a m) (xbE a m)) (xbA a m s) (xi2 (xb1 a m s).1 (xb1 a m s).2):=by
 obtain ⟨i,j,b⟩:=s
 refine eV (xef a m i j b none (fun s=>some (encR (xb1 a m) (xbE a m) (.inl s))) (fun p=>some (encR (xb1 a m) (xbE a m) (.inr p)))) (by kernel_rfl) ?_;unfold xbA xef;repeat' first|exact eN|exact eS rfl|apply eB
def xfH:Lp:=lpOf [0,2,4,10,11] [0,2,4,10] [] (pCons (pOsl 0 0 0) (pCons (pInt .i64) (pCons (pFunc 88 pNil) (pCons (pInt .i64) (pCons (pInt .i64) pNil))))) (pCons (pBox 0 1 40 false true pAny) pNil) fun (a,(m,(_,(i,(j,_))))) (b,_)=>((Iter (xbA a m) (i,j,b)).isSome,xbE a m ((Iter (xbA a m) (i,j,b)).getD (0,[])))
theorem xig:LoopOk Tryz.prog (ITryz.at xci.pin) xci.nt (loopAt Tryz.f176 0) xfH:=xcB fun d e g f=>by
 obtain ⟨a,⟨m,⟨_,⟨i,⟨j,_⟩⟩⟩⟩⟩:=d
 obtain ⟨b,_⟩:=e
 obtain ⟨c,rfl⟩:=Prod.mk.inj f
 exact xa3 mxTryz (inv0Ok Tryz.prog _) rfl xiw xg8 (xb1 a m) (xbE a m) (fun p=>by simp only [xbE,LR.eval];first|(simp;done)|(repeat' split<;>simp)) (xiZ a m) (s:=(i,j,b)) (xaq c)
def xcy:Env:=xqq.fn 58 1 (lsOf [40]) (lpsOf [(2,xfH)])
theorem xit:OrcOk Tryz.prog (ITryz.at 1) xcy:=xnR.fn
theorem xhM:LoOk Tryz.prog (ITryz.at xcy.pin) xcy (Tryz.f176.body.getD .skip):=xce (ls:=[loopAt Tryz.f176 0]) (by kernel_rfl) (lkC xig lkN)
def xeJ (n:Nat) (a m b:Int) (c:LA):=Iter (xbA n m) (i64.wrap (m - a),i64.wrap (b - m),c)
def xeI (n:Nat) (a m b:Int) (c:LA):=(xeJ n a m b c).getD (0,[])
def xeB (n:Nat) (a m b:Int) (c:LA):=(xeI n a m b c).fst
def xez (n:Nat) (a m b:Int) (c:LA):=xaK n (i64.wrap (m - xeB n a m b c)) m (xeB n a m b c) (xeI n a m b c).snd
def xdz {T:Type} (n:Nat) (a m b:Int) (c:LA) (δ:T) (κ:LA→T):T:=br ((xeJ n a m b c).isSome) (br ((xez n a m b c).isSome) (κ ((xez n a m b c).getD [])) δ) δ
def xa2 (n:Nat) (a m b:Int) (c:LA):Option (LA):=xdz n a m b c none some
theorem xjZ (n:Nat) (a m b:Int) (xs:LA):Enc (fun (p:LA)=>(((AV.tuple [],([⟨0,1,40,p,false,true⟩]:List Box))):(AV×List Box))) (xa2 n a m b xs) (XFM Tryz.prog xcy Tryz.f176 (Tryz.f176.body.getD .skip) [AV.osl (0:Id) 0 0 n,AV.int .i64 a,AV.int .i64 m,AV.int .i64 b,AV.func (88:FuncId) []] [{ ver:=0,sz:=1,ty:=(40:TypeId),xs:=xs,frz:=false,pm:=true }]):=by
 refine eV (xdz n a m b xs none (fun (p:LA)=>some (((AV.tuple [],([⟨0,1,40,p,false,true⟩]:List Box))):(AV×List Box)))) (by kernel_rfl) ?_;unfold xa2 xdz;repeat' first|exact eN|exact eS rfl|apply eB
def xgt:LA→List Box→Option (Bool×AV×List Box):=omOf (sCons (sEq (pOsl 0 0 0)) (sCons (sEq (pInt .i64)) (sCons (sEq (pInt .i64)) (sCons (sEq (pInt .i64)) (sCons (sEq (pFunc (88:FuncId) pNil)) sNil))))) (pCons (pBox 0 1 (40:TypeId) false true pAny) pNil) fun (n,(a,(m,(b,(_,_))))) (c,_)=>((xa2 n a m b c).isSome,((AV.tuple [],([⟨0,1,40,((xa2 n a m b c).getD []),false,true⟩]:List Box))))
theorem xj4:OmOk Tryz.prog ITryz 176 (xgt):=xgN fun f g j i h=>by
 obtain ⟨n,⟨a,⟨m,⟨b,⟨_,_⟩⟩⟩⟩⟩:=f
 obtain ⟨k,_⟩:=g
 obtain ⟨c,e⟩:=Prod.mk.inj h
 refine xfi (p:=xcy.pin) (xfM mxTryz (inv0Ok Tryz.prog _) rfl xit rfl Tryz.func176 rfl (by kernel_rfl) xhM ((xjZ _ _ _ _ _ _ (xaq (d:=[]) c)).trans ?_))
 exact congrArg some e
def xku:Env:=xqq.withM 176 xgt
theorem xhu:OrcOk Tryz.prog ITryz xku:=xnR.withM xj4
def xbY:Env:=xku.fn 220 1 (lsOf [40]) (lpsOf [])
theorem xh7:OrcOk Tryz.prog (ITryz.at 1) xbY:=xhu.fn
theorem xgO:LoOk Tryz.prog (ITryz.at xbY.pin) xbY (loopAt Tryz.f158 0):=xa0 (by kernel_rfl)
def xbe (i j:Int):=i64.wrap ((u64.wrap (i64.wrap (i+j))).fdiv 2)
def xfg (a i j:Int) (b:LA):=xb9 ((b.getD (0+(xbe i j).toNat) .top).cells.getD 0 .top).toList ((b.getD (0+a.toNat) .top).cells.getD 0 .top).toList
def xdN {T:Type} (c:Nat) (a i j:Int) (b:LA) (δ:T) (κl:(Int×Int×LA)→T) (κr:(Int×LA)→T):T:=br (decide (i<j)) (br (decide (0≤xbe i j)&&decide (xbe i j<(↑c:Int))) (br (decide (0+(xbe i j).toNat<b.length)&&hasSh1 (Sh.list 3) ((b.getD (0+(xbe i j).toNat) .top).cells.getD 0 .top)) (br (decide (0≤a)&&decide (a<(↑c:Int))) (br (decide (0+a.toNat<b.length)&&hasSh1 (Sh.list 3) ((b.getD (0+a.toNat) .top).cells.getD 0 .top)) (br ((xfg a i j b).isSome) (br (decide ((xfg a i j b).getD 0<0)) (κl (i64.wrap (xbe i j+1),j,b)) (κl (i,xbe i j,b))) δ) δ) δ) δ) δ) (κr (i,b))
def xaR (c:Nat) (a:Int):(Int×Int×LA)→Option ((Int×Int×LA)⊕(Int×LA)):=fun (i,j,b)=>xdN c a i j b none (fun s=>some (.inl s)) (fun p=>some (.inr p))
def xbJ (c:Nat) (a:Int):(Int×Int×LA)→LA×List Box:=fun (i,j,b)=>([AV.osl 0 0 0 c,AV.int .i64 a,AV.func 88 [],AV.int .i64 i,AV.int .i64 j],[⟨0,1,40,b,false,true⟩])
def xbq (b:Nat) (a:Int):(Int×LA)→LR:=fun p=>(.leaf (.exit 0) [AV.osl 0 0 0 b,AV.int .i64 a,AV.int .i64 p.1] [⟨0,1,40,p.2,false,true⟩])
abbrev xid (a:LA) (H:List Box):=XR Tryz.prog xbY [0,1,4,10,11] [0,1,10] [] (loopAt Tryz.f158 0) a H
theorem xia (b:Nat) (a:Int) (s:Int×Int×LA):Enc (encR (xbJ b a) (xbq b a)) (xaR b a s) (xid (xbJ b a s).1 (xbJ b a s).2):=by
 obtain ⟨i,j,c⟩:=s
 refine eV (xdN b a i j c none (fun s=>some (encR (xbJ b a) (xbq b a) (.inl s))) (fun p=>some (encR (xbJ b a) (xbq b a) (.inr p)))) (by kernel_rfl) ?_;unfold xaR xdN;repeat' first|exact eN|exact eS rfl|apply eB
def xbb:Lp:=lpOf [0,1,4,10,11] [0,1,10] [] (pCons (pOsl 0 0 0) (pCons (pInt .i64) (pCons (pFunc 88 pNil) (pCons (pInt .i64) (pCons (pInt .i64) pNil))))) (pCons (pBox 0 1 40 false true pAny) pNil) fun (b,(a,(_,(i,(j,_))))) (c,_)=>((Iter (xaR b a) (i,j,c)).isSome,xbq b a ((Iter (xaR b a) (i,j,c)).getD (0,[])))
theorem xhL:LoopOk Tryz.prog (ITryz.at xbY.pin) xbY.nt (loopAt Tryz.f158 0) xbb:=xcB fun e f h g=>by
 obtain ⟨b,⟨a,⟨_,⟨i,⟨j,_⟩⟩⟩⟩⟩:=e
 obtain ⟨c,_⟩:=f
 obtain ⟨d,rfl⟩:=Prod.mk.inj g
 exact xa3 mxTryz (inv0Ok Tryz.prog _) rfl xh7 xgO (xbJ b a) (xbq b a) (fun p=>by simp only [xbq,LR.eval];first|(simp;done)|(repeat' split<;>simp)) (xia b a) (s:=(i,j,c)) (xaq d)
def xbX:Env:=xku.fn 220 1 (lsOf [40]) (lpsOf [(3,xbb)])
theorem xh5:OrcOk Tryz.prog (ITryz.at 1) xbX:=xhu.fn
theorem xgG:LoOk Tryz.prog (ITryz.at xbX.pin) xbX (loopAt Tryz.f158 1):=xa0 (by kernel_rfl)
def xfk (a:Nat) (k:Int):=decide (0≤i64.wrap (k+1))&&decide (i64.wrap (k+1)<(↑a:Int))
def xbw (k:Int):Nat:=0+(i64.wrap (k+1)).toNat
def xfp (k:Int) (a:LA):=decide (0+k.toNat<a.length)
def xdP {T:Type} (b:Nat) (i k:Int) (a:LA) (δ:T) (κl:(Int×LA)→T) (κr:(LA)→T):T:=br (decide (k<i64.wrap (i - 1))) (br (xfk b k) (br (decide (xbw k<a.length)&&hasSh1 (Sh.list 3) ((a.getD (xbw k) .top).cells.getD 0 .top)) (br (decide (0≤k)&&decide (k<(↑b:Int))) (br (xfp k a&&hasSh1 (Sh.list 3) ((a.getD (0+k.toNat) .top).cells.getD 0 .top)) (br (decide (0≤k)&&decide (k<(↑b:Int))) (br (xfp k a) (br (xfk b k) (br (decide (xbw k<(a.set (0+k.toNat) (AV.list 3 ((a.getD (xbw k) .top).cells.getD 0 .top).toList)).length)) (κl (i64.wrap (k+1),(a.set (0+k.toNat) (AV.list 3 ((a.getD (xbw k) .top).cells.getD 0 .top).toList)).set (xbw k) (AV.list 3 ((a.getD (0+k.toNat) .top).cells.getD 0 .top).toList))) δ) δ) δ) δ) δ) δ) δ) δ) (κr (a))
def xbj (b:Nat) (i:Int):(Int×LA)→Option ((Int×LA)⊕(LA)):=fun (k,a)=>xdP b i k a none (fun s=>some (.inl s)) (fun p=>some (.inr p))
def xbK (b:Nat) (i:Int):(Int×LA)→LA×List Box:=fun (k,a)=>([AV.osl 0 0 0 b,AV.int .i64 i,AV.int .i64 k],[⟨0,1,40,a,false,true⟩])
def xbu (a:Nat) (i:Int):(LA)→LR:=fun p=>(.leaf (.exit 2) [] [⟨0,1,40,p,false,true⟩])
abbrev xij (a:LA) (H:List Box):=XR Tryz.prog xbX [0,10,13] [] [] (loopAt Tryz.f158 1) a H
theorem xio (a:Nat) (i:Int) (s:Int×LA):Enc (encR (xbK a i) (xbu a i)) (xbj a i s) (xij (xbK a i s).1 (xbK a i s).2):=by
 obtain ⟨k,b⟩:=s
 refine eV (xdP a i k b none (fun s=>some (encR (xbK a i) (xbu a i) (.inl s))) (fun p=>some (encR (xbK a i) (xbu a i) (.inr p)))) (by kernel_rfl) ?_;unfold xbj xdP;repeat' first|exact eN|exact eS rfl|apply eB
def xby:Lp:=lpOf [0,10,13] [] [] (pCons (pOsl 0 0 0) (pCons (pInt .i64) (pCons (pInt .i64) pNil))) (pCons (pBox 0 1 40 false true pAny) pNil) fun (a,(i,(k,_))) (b,_)=>((Iter (xbj a i) (k,b)).isSome,xbu a i ((Iter (xbj a i) (k,b)).getD []))
theorem xhP:LoopOk Tryz.prog (ITryz.at xbX.pin) xbX.nt (loopAt Tryz.f158 1) xby:=xcB fun d e g f=>by
 obtain ⟨a,⟨i,⟨k,_⟩⟩⟩:=d
 obtain ⟨b,_⟩:=e
 obtain ⟨c,rfl⟩:=Prod.mk.inj f
 exact xa3 mxTryz (inv0Ok Tryz.prog _) rfl xh5 xgG (xbK a i) (xbu a i) (fun p=>by simp only [xbu,LR.eval];first|(simp;done)|(repeat' split<;>simp)) (xio a i) (s:=(k,b)) (xaq c)
def xb6:Env:=xku.fn 220 1 (lsOf [40]) (lpsOf [(3,xbb),(9,xby)])
theorem xh9:OrcOk Tryz.prog (ITryz.at 1) xb6:=xhu.fn
theorem xgS:LoOk Tryz.prog (ITryz.at xb6.pin) xb6 (loopAt Tryz.f158 2):=xa0 (by kernel_rfl)
def xbc (i j:Int):=i64.wrap ((u64.wrap (i64.wrap (i+j))).fdiv 2)
def xfe (m i j:Int) (a:LA):=xb9 ((a.getD (0+m.toNat) .top).cells.getD 0 .top).toList ((a.getD (0+(xbc i j).toNat) .top).cells.getD 0 .top).toList
def xdQ {T:Type} (b:Nat) (m i j:Int) (a:LA) (δ:T) (κl:(Int×Int×LA)→T) (κr:(Int×LA)→T):T:=br (decide (i<j)) (br (decide (0≤m)&&decide (m<(↑b:Int))) (br (decide (0+m.toNat<a.length)&&hasSh1 (Sh.list 3) ((a.getD (0+m.toNat) .top).cells.getD 0 .top)) (br (decide (0≤xbc i j)&&decide (xbc i j<(↑b:Int))) (br (decide (0+(xbc i j).toNat<a.length)&&hasSh1 (Sh.list 3) ((a.getD (0+(xbc i j).toNat) .top).cells.getD 0 .top)) (br ((xfe m i j a).isSome) (br (!decide ((xfe m i j a).getD 0<0)) (κl (i64.wrap (xbc i j+1),j,a)) (κl (i,xbc i j,a))) δ) δ) δ) δ) δ) (κr (i,a))
def xaS (b:Nat) (m:Int):(Int×Int×LA)→Option ((Int×Int×LA)⊕(Int×LA)):=fun (i,j,a)=>xdQ b m i j a none (fun s=>some (.inl s)) (fun p=>some (.inr p))
def xbF (b:Nat) (m:Int):(Int×Int×LA)→LA×List Box:=fun (i,j,a)=>([AV.osl 0 0 0 b,AV.int .i64 m,AV.func 88 [],AV.int .i64 i,AV.int .i64 j],[⟨0,1,40,a,false,true⟩])
def xbs (a:Nat) (m:Int):(Int×LA)→LR:=fun p=>(.leaf (.exit 4) [AV.osl 0 0 0 a,AV.int .i64 m,AV.int .i64 p.1] [⟨0,1,40,p.2,false,true⟩])
abbrev xil (a:LA) (H:List Box):=XR Tryz.prog xb6 [0,2,4,14,15] [0,2,14] [] (loopAt Tryz.f158 2) a H
theorem xip (a:Nat) (m:Int) (s:Int×Int×LA):Enc (encR (xbF a m) (xbs a m)) (xaS a m s) (xil (xbF a m s).1 (xbF a m s).2):=by
 obtain ⟨i,j,b⟩:=s
 refine eV (xdQ a m i j b none (fun s=>some (encR (xbF a m) (xbs a m) (.inl s))) (fun p=>some (encR (xbF a m) (xbs a m) (.inr p)))) (by kernel_rfl) ?_;unfold xaS xdQ;repeat' first|exact eN|exact eS rfl|apply eB
def xcb:Lp:=lpOf [0,2,4,14,15] [0,2,14] [] (pCons (pOsl 0 0 0) (pCons (pInt .i64) (pCons (pFunc 88 pNil) (pCons (pInt .i64) (pCons (pInt .i64) pNil))))) (pCons (pBox 0 1 40 false true pAny) pNil) fun (a,(m,(_,(i,(j,_))))) (b,_)=>((Iter (xaS a m) (i,j,b)).isSome,xbs a m ((Iter (xaS a m) (i,j,b)).getD (0,[])))
theorem xhK:LoopOk Tryz.prog (ITryz.at xb6.pin) xb6.nt (loopAt Tryz.f158 2) xcb:=xcB fun d e g f=>by
 obtain ⟨a,⟨m,⟨_,⟨i,⟨j,_⟩⟩⟩⟩⟩:=d
 obtain ⟨b,_⟩:=e
 obtain ⟨c,rfl⟩:=Prod.mk.inj f
 exact xa3 mxTryz (inv0Ok Tryz.prog _) rfl xh9 xgS (xbF a m) (xbs a m) (fun p=>by simp only [xbs,LR.eval];first|(simp;done)|(repeat' split<;>simp)) (xip a m) (s:=(i,j,b)) (xaq c)
def xbx:Env:=xku.fn 220 1 (lsOf [40]) (lpsOf [(3,xbb),(9,xby),(15,xcb)])
theorem xhx:OrcOk Tryz.prog (ITryz.at 1) xbx:=xhu.fn
theorem xgF:LoOk Tryz.prog (ITryz.at xbx.pin) xbx (loopAt Tryz.f158 3):=xa0 (by kernel_rfl)
def xfj (a:Nat) (k:Int):=decide (0≤i64.wrap (k - 1))&&decide (i64.wrap (k - 1)<(↑a:Int))
def xbv (k:Int):Nat:=0+(i64.wrap (k - 1)).toNat
def xfd (k:Int) (a:LA):=decide (0+k.toNat<a.length)
def xdL {T:Type} (b:Nat) (i k:Int) (a:LA) (δ:T) (κl:(Int×LA)→T) (κr:(LA)→T):T:=br (decide (k>i)) (br (xfj b k) (br (decide (xbv k<a.length)&&hasSh1 (Sh.list 3) ((a.getD (xbv k) .top).cells.getD 0 .top)) (br (decide (0≤k)&&decide (k<(↑b:Int))) (br (xfd k a&&hasSh1 (Sh.list 3) ((a.getD (0+k.toNat) .top).cells.getD 0 .top)) (br (decide (0≤k)&&decide (k<(↑b:Int))) (br (xfd k a) (br (xfj b k) (br (decide (xbv k<(a.set (0+k.toNat) (AV.list 3 ((a.getD (xbv k) .top).cells.getD 0 .top).toList)).length)) (κl (i64.wrap (k - 1),(a.set (0+k.toNat) (AV.list 3 ((a.getD (xbv k) .top).cells.getD 0 .top).toList)).set (xbv k) (AV.list 3 ((a.getD (0+k.toNat) .top).cells.getD 0 .top).toList))) δ) δ) δ) δ) δ) δ) δ) δ) (κr (a))
def xbo (b:Nat) (i:Int):(Int×LA)→Option ((Int×LA)⊕(LA)):=fun (k,a)=>xdL b i k a none (fun s=>some (.inl s)) (fun p=>some (.inr p))
def xbM (b:Nat) (i:Int):(Int×LA)→LA×List Box:=fun (k,a)=>([AV.osl 0 0 0 b,AV.int .i64 i,AV.int .i64 k],[⟨0,1,40,a,false,true⟩])
def xbt (a:Nat) (i:Int):(LA)→LR:=fun p=>(.leaf (.exit 6) [] [⟨0,1,40,p,false,true⟩])
abbrev xie (a:LA) (H:List Box):=XR Tryz.prog xbx [0,14,17] [] [] (loopAt Tryz.f158 3) a H
theorem xih (a:Nat) (i:Int) (s:Int×LA):Enc (encR (xbM a i) (xbt a i)) (xbo a i s) (xie (xbM a i s).1 (xbM a i s).2):=by
 obtain ⟨k,b⟩:=s
 refine eV (xdL a i k b none (fun s=>some (encR (xbM a i) (xbt a i) (.inl s))) (fun p=>some (encR (xbM a i) (xbt a i) (.inr p)))) (by kernel_rfl) ?_;unfold xbo xdL;repeat' first|exact eN|exact eS rfl|apply eB
def xcz:Lp:=lpOf [0,14,17] [] [] (pCons (pOsl 0 0 0) (pCons (pInt .i64) (pCons (pInt .i64) pNil))) (pCons (pBox 0 1 40 false true pAny) pNil) fun (a,(i,(k,_))) (b,_)=>((Iter (xbo a i) (k,b)).isSome,xbt a i ((Iter (xbo a i) (k,b)).getD []))
theorem xhO:LoopOk Tryz.prog (ITryz.at xbx.pin) xbx.nt (loopAt Tryz.f158 3) xcz:=xcB fun d e g f=>by
 obtain ⟨a,⟨i,⟨k,_⟩⟩⟩:=d
 obtain ⟨b,_⟩:=e
 obtain ⟨c,rfl⟩:=Prod.mk.inj f
 exact xa3 mxTryz (inv0Ok Tryz.prog _) rfl xhx xgF (xbM a i) (xbt a i) (fun p=>by simp only [xbt,LR.eval];first|(simp;done)|(repeat' split<;>simp)) (xih a i) (s:=(k,b)) (xaq c)
def xbW:Env:=xku.fn 220 1 (lsOf [40]) (lpsOf [(3,xbb),(9,xby),(15,xcb),(21,xcz)])
theorem xhQ:OrcOk Tryz.prog (ITryz.at 1) xbW:=xhu.fn
theorem xgJ:LoOk Tryz.prog (ITryz.at xbW.pin) xbW (loopAt Tryz.f158 4):=xa0 (by kernel_rfl)
def xaD (a r:Int):=i64.wrap ((u64.wrap (i64.wrap (a+r))).fdiv 2)
def xfo (c b r:Int) (a:LA):=xb9 ((a.getD (0+(i64.wrap (c - xaD b r)).toNat) .top).cells.getD 0 .top).toList ((a.getD (0+(xaD b r).toNat) .top).cells.getD 0 .top).toList
def xdO {T:Type} (e:Nat) (a m b g n f c r:Int) (d:LA) (δ:T) (κl:(Int×Int×LA)→T) (κr:(Int×LA)→T):T:=br (decide (c<r)) (br (decide (0≤i64.wrap (f - xaD c r))&&decide (i64.wrap (f - xaD c r)<(↑e:Int))) (br (decide (0+(i64.wrap (f - xaD c r)).toNat<d.length)&&hasSh1 (Sh.list 3) ((d.getD (0+(i64.wrap (f - xaD c r)).toNat) .top).cells.getD 0 .top)) (br (decide (0≤xaD c r)&&decide (xaD c r<(↑e:Int))) (br (decide (0+(xaD c r).toNat<d.length)&&hasSh1 (Sh.list 3) ((d.getD (0+(xaD c r).toNat) .top).cells.getD 0 .top)) (br ((xfo f c r d).isSome) (br (!decide ((xfo f c r d).getD 0<0)) (κl (i64.wrap (xaD c r+1),r,d)) (κl (c,xaD c r,d))) δ) δ) δ) δ) δ) (κr (c,d))
def xa4 (d:Nat) (a m b f n g:Int):(Int×Int×LA)→Option ((Int×Int×LA)⊕(Int×LA)):=fun (e,r,c)=>xdO d a m b f n g e r c none (fun s=>some (.inl s)) (fun p=>some (.inr p))
def xbL (d:Nat) (a m b f n g:Int):(Int×Int×LA)→LA×List Box:=fun (e,r,c)=>([AV.osl 0 0 0 d,AV.int .i64 a,AV.int .i64 m,AV.int .i64 b,AV.func 88 [],AV.int .i64 f,AV.int .i64 n,AV.int .i64 e,AV.int .i64 r,AV.int .i64 g],[⟨0,1,40,c,false,true⟩])
def xbr (c:Nat) (a m b d n e:Int):(Int×LA)→LR:=fun p=>(.leaf (.exit 8) [AV.osl 0 0 0 c,AV.int .i64 a,AV.int .i64 m,AV.int .i64 b,AV.func 88 [],AV.int .i64 d,AV.int .i64 n,AV.int .i64 p.1] [⟨0,1,40,p.2,false,true⟩])
abbrev xib (a:LA) (H:List Box):=XR Tryz.prog xbW [0,1,2,3,4,18,19,20,21,22] [0,1,2,3,4,18,19,20] [] (loopAt Tryz.f158 4) a H
theorem xim (c:Nat) (a m b d n e:Int) (s:Int×Int×LA):Enc (encR (xbL c a m b d n e) (xbr c a m b d n e)) (xa4 c a m b d n e s) (xib (xbL c a m b d n e s).1 (xbL c a m b d n e s).2):=by
 obtain ⟨g,r,f⟩:=s
 refine eV (xdO c a m b d n e g r f none (fun s=>some (encR (xbL c a m b d n e) (xbr c a m b d n e) (.inl s))) (fun p=>some (encR (xbL c a m b d n e) (xbr c a m b d n e) (.inr p)))) (by kernel_rfl) ?_;unfold xa4 xdO;repeat' first|exact eN|exact eS rfl|apply eB
def xdu:Lp:=lpOf [0,1,2,3,4,18,19,20,21,22] [0,1,2,3,4,18,19,20] [] (pCons (pOsl 0 0 0) (pCons (pInt .i64) (pCons (pInt .i64) (pCons (pInt .i64) (pCons (pFunc 88 pNil) (pCons (pInt .i64) (pCons (pInt .i64) (pCons (pInt .i64) (pCons (pInt .i64) (pCons (pInt .i64) pNil)))))))))) (pCons (pBox 0 1 40 false true pAny) pNil) fun (c,(a,(m,(b,(_,(f,(n,(e,(r,(g,_)))))))))) (d,_)=>((Iter (xa4 c a m b f n g) (e,r,d)).isSome,xbr c a m b f n g ((Iter (xa4 c a m b f n g) (e,r,d)).getD (0,[])))
theorem xhN:LoopOk Tryz.prog (ITryz.at xbW.pin) xbW.nt (loopAt Tryz.f158 4) xdu:=xcB fun i j l k=>by
 obtain ⟨c,⟨a,⟨m,⟨b,⟨_,⟨e,⟨n,⟨f,⟨r,⟨g,_⟩⟩⟩⟩⟩⟩⟩⟩⟩⟩:=i
 obtain ⟨d,_⟩:=j
 obtain ⟨h,rfl⟩:=Prod.mk.inj k
 exact xa3 mxTryz (inv0Ok Tryz.prog _) rfl xhQ xgJ (xbL c a m b e n g) (xbr c a m b e n g) (fun p=>by simp only [xbr,LR.eval];first|(simp;done)|(repeat' split<;>simp)) (xim c a m b e n g) (s:=(f,r,d)) (xaq h)
def xdM (R:Nat→Int→Int→Int→LA→Option (LA)):LA→List Box→Option (Bool×AV×List Box):=omOf (sCons (sEq (pOsl 0 0 0)) (sCons (sEq (pInt .i64)) (sCons (sEq (pInt .i64)) (sCons (sEq (pInt .i64)) (sCons (sEq (pFunc (88:FuncId) pNil)) sNil))))) (pCons (pBox 0 1 (40:TypeId) false true pAny) pNil) fun (n,(a,(m,(b,(_,_))))) (c,_)=>((R n a m b c).isSome,(AV.tuple [],([⟨0,1,40,((R n a m b c).getD []),false,true⟩]:List Box)))
def xaO (R:Nat→Int→Int→Int→LA→Option (LA)):Env:=(xku.withM 158 (xdM R)).fn 220 1 (lsOf [40]) (lpsOf [(3,xbb),(9,xby),(15,xcb),(21,xcz),(33,xdu)])
def xds (R:Nat→Int→Int→Int→LA→Option (LA)):Prop:=OmOk Tryz.prog ITryz 158 (xdM R)
theorem xhS (R:Nat→Int→Int→Int→LA→Option (LA)) (a:xds R):OrcOk Tryz.prog (ITryz.at 1) (xaO R):=(xhu.withM a).fn
theorem xhc (R:Nat→Int→Int→Int→LA→Option (LA)):LoOk Tryz.prog (ITryz.at (xaO R).pin) (xaO R) (Tryz.f158.body.getD .skip):=xce (ls:=[loopAt Tryz.f158 0,loopAt Tryz.f158 1,loopAt Tryz.f158 2,loopAt Tryz.f158 3,loopAt Tryz.f158 4]) (by kernel_rfl) (fun l b lp a=>by
 simp only [List.mem_cons,List.not_mem_nil,or_false] at b
 rcases b with rfl|rfl|rfl|rfl|rfl
 · rw [show (xaO R).lp (codeId (loopAt Tryz.f158 0))=some xbb by kernel_rfl] at a
   simp only [Option.some.injEq] at a;subst a;exact xhL
 · rw [show (xaO R).lp (codeId (loopAt Tryz.f158 1))=some xby by kernel_rfl] at a
   simp only [Option.some.injEq] at a;subst a;exact xhP
 · rw [show (xaO R).lp (codeId (loopAt Tryz.f158 2))=some xcb by kernel_rfl] at a
   simp only [Option.some.injEq] at a;subst a;exact xhK
 · rw [show (xaO R).lp (codeId (loopAt Tryz.f158 3))=some xcz by kernel_rfl] at a
   simp only [Option.some.injEq] at a;subst a;exact xhO
 · rw [show (xaO R).lp (codeId (loopAt Tryz.f158 4))=some xdu by kernel_rfl] at a
   simp only [Option.some.injEq] at a;subst a;exact xhN)
def xaa (a b:Int):=i64.wrap ((u64.wrap (i64.wrap (a+b))).fdiv 2)
def xay (n:Nat) (a m:Int) (b:LA):=Iter (xbo n ((Iter (xaS n m) (a,m,b)).getD (0,[])).fst) (m,((Iter (xaS n m) (a,m,b)).getD (0,[])).snd)
def xaw (n:Nat) (a m b:Int) (c:LA):=Iter (xbj n ((Iter (xaR n a) (m,b,c)).getD (0,[])).fst) (a,((Iter (xaR n a) (m,b,c)).getD (0,[])).snd)
def xav (n:Nat) (a m b:Int) (c:LA):=Iter (xa4 n a m b (xaa a b) (i64.wrap (xaa a b+m)) (i64.wrap (i64.wrap (xaa a b+m) - 1))) (i64.wrap (i64.wrap (xaa a b+m) - b),xaa a b,c)
def xaA (n:Nat) (a m b:Int) (c:LA):=Iter (xa4 n a m b (xaa a b) (i64.wrap (xaa a b+m)) (i64.wrap (i64.wrap (xaa a b+m) - 1))) (a,m,c)
def xat (n:Nat) (a m b:Int) (c:LA):=(xav n a m b c).getD (0,[])
def xaB (n:Nat) (a m b:Int) (c:LA):=(xaA n a m b c).getD (0,[])
def xaf (n:Nat) (a m b:Int) (c:LA):=(xat n a m b c).fst
def xag (n:Nat) (a m b:Int) (c:LA):=(xaB n a m b c).fst
def xab (n:Nat) (a m b:Int) (c:LA):=(xat n a m b c).snd
def xac (n:Nat) (a m b:Int) (c:LA):=(xaB n a m b c).snd
def xae (n:Nat) (a m b:Int) (c:LA):=i64.wrap (i64.wrap (xaa a b+m) - xaf n a m b c)
def xad (n:Nat) (a m b:Int) (c:LA):=i64.wrap (i64.wrap (xaa a b+m) - xag n a m b c)
def xan (n:Nat) (a m b:Int) (c:LA):=decide (xaf n a m b c<xaa a b)
def xap (n:Nat) (a m b:Int) (c:LA):=decide (a<xaf n a m b c)
def xao (n:Nat) (a m b:Int) (c:LA):=decide (xag n a m b c<xaa a b)
def xar (n:Nat) (a m b:Int) (c:LA):=decide (a<xag n a m b c)
def xak (n:Nat) (a m b:Int) (c:LA):=decide (xaa a b<xae n a m b c)
def xaj (n:Nat) (a m b:Int) (c:LA):=decide (xae n a m b c<b)
def xal (n:Nat) (a m b:Int) (c:LA):=decide (xaa a b<xad n a m b c)
def xam (n:Nat) (a m b:Int) (c:LA):=decide (xad n a m b c<b)
def xai (n:Nat) (a m b:Int) (c:LA):=(xa2 n (xaf n a m b c) m (xae n a m b c) (xab n a m b c)).getD []
def xah (n:Nat) (a m b:Int) (c:LA):=(xa2 n (xag n a m b c) m (xad n a m b c) (xac n a m b c)).getD []
def xaz (R:Nat→Int→Int→Int→LA→Option (LA)) (n:Nat) (a m b:Int) (c:LA):Option (LA):=R n (xaa a b) (xad n a m b c) b ((R n a (xag n a m b c) (xaa a b) (xah n a m b c)).getD [])
def xau (R:Nat→Int→Int→Int→LA→Option (LA)) (n:Nat) (a m b:Int) (c:LA):Option (LA):=R n (xaa a b) (xae n a m b c) b ((R n a (xaf n a m b c) (xaa a b) (xai n a m b c)).getD [])
def xaC {T:Type} (R:Nat→Int→Int→Int→LA→Option (LA)) (n:Nat) (a m b:Int) (c:LA) (δ:T) (κ:LA→T):T:=br (i64.wrap (m - a)==1) (br ((Iter (xaR n a) (m,b,c)).isSome) (br ((xaw n a m b c).isSome) (κ ((xaw n a m b c).getD [])) δ) δ) (br (i64.wrap (b - m)==1) (br ((Iter (xaS n m) (a,m,c)).isSome) (br ((xay n a m c).isSome) (κ ((xay n a m c).getD [])) δ) δ) (br (decide (m>xaa a b)) (br ((xav n a m b c).isSome) (br (decide (xaf n a m b c<m)) (br (decide (m<xae n a m b c)) (br ((xa2 n (xaf n a m b c) m (xae n a m b c) (xab n a m b c)).isSome) (br (xap n a m b c) (br (xan n a m b c) (br ((R n a (xaf n a m b c) (xaa a b) (xai n a m b c)).isSome) (br (xak n a m b c) (br (xaj n a m b c) (br ((xau R n a m b c).isSome) (κ ((xau R n a m b c).getD [])) δ) (κ ((R n a (xaf n a m b c) (xaa a b) (xai n a m b c)).getD []))) (κ ((R n a (xaf n a m b c) (xaa a b) (xai n a m b c)).getD []))) δ) (br (xak n a m b c) (br (xaj n a m b c) (br ((R n (xaa a b) (xae n a m b c) b (xai n a m b c)).isSome) (κ ((R n (xaa a b) (xae n a m b c) b (xai n a m b c)).getD [])) δ) (κ (xai n a m b c))) (κ (xai n a m b c)))) (br (xak n a m b c) (br (xaj n a m b c) (br ((R n (xaa a b) (xae n a m b c) b (xai n a m b c)).isSome) (κ ((R n (xaa a b) (xae n a m b c) b (xai n a m b c)).getD [])) δ) (κ (xai n a m b c))) (κ (xai n a m b c)))) δ) (br (xap n a m b c) (br (xan n a m b c) (br ((R n a (xaf n a m b c) (xaa a b) (xab n a m b c)).isSome) (br (xak n a m b c) (br (xaj n a m b c) (br ((R n (xaa a b) (xae n a m b c) b ((R n a (xaf n a m b c) (xaa a b) (xab n a m b c)).getD [])).isSome) (κ ((R n (xaa a b) (xae n a m b c) b ((R n a (xaf n a m b c) (xaa a b) (xab n a m b c)).getD [])).getD [])) δ) (κ ((R n a (xaf n a m b c) (xaa a b) (xab n a m b c)).getD []))) (κ ((R n a (xaf n a m b c) (xaa a b) (xab n a m b c)).getD []))) δ) (br (xak n a m b c) (br (xaj n a m b c) (br ((R n (xaa a b) (xae n a m b c) b (xab n a m b c)).isSome) (κ ((R n (xaa a b) (xae n a m b c) b (xab n a m b c)).getD [])) δ) (κ (xab n a m b c))) (κ (xab n a m b c)))) (br (xak n a m b c) (br (xaj n a m b c) (br ((R n (xaa a b) (xae n a m b c) b (xab n a m b c)).isSome) (κ ((R n (xaa a b) (xae n a m b c) b (xab n a m b c)).getD [])) δ) (κ (xab n a m b c))) (κ (xab n a m b c))))) (br (xap n a m b c) (br (xan n a m b c) (br ((R n a (xaf n a m b c) (xaa a b) (xab n a m b c)).isSome) (br (xak n a m b c) (br (xaj n a m b c) (br ((R n (xaa a b) (xae n a m b c) b ((R n a (xaf n a m b c) (xaa a b) (xab n a m b c)).getD [])).isSome) (κ ((R n (xaa a b) (xae n a m b c) b ((R n a (xaf n a m b c) (xaa a b) (xab n a m b c)).getD [])).getD [])) δ) (κ ((R n a (xaf n a m b c) (xaa a b) (xab n a m b c)).getD []))) (κ ((R n a (xaf n a m b c) (xaa a b) (xab n a m b c)).getD []))) δ) (br (xak n a m b c) (br (xaj n a m b c) (br ((R n (xaa a b) (xae n a m b c) b (xab n a m b c)).isSome) (κ ((R n (xaa a b) (xae n a m b c) b (xab n a m b c)).getD [])) δ) (κ (xab n a m b c))) (κ (xab n a m b c)))) (br (xak n a m b c) (br (xaj n a m b c) (br ((R n (xaa a b) (xae n a m b c) b (xab n a m b c)).isSome) (κ ((R n (xaa a b) (xae n a m b c) b (xab n a m b c)).getD [])) δ) (κ (xab n a m b c))) (κ (xab n a m b c))))) δ) (br ((xaA n a m b c).isSome) (br (decide (xag n a m b c<m)) (br (decide (m<xad n a m b c)) (br ((xa2 n (xag n a m b c) m (xad n a m b c) (xac n a m b c)).isSome) (br (xar n a m b c) (br (xao n a m b c) (br ((R n a (xag n a m b c) (xaa a b) (xah n a m b c)).isSome) (br (xal n a m b c) (br (xam n a m b c) (br ((xaz R n a m b c).isSome) (κ ((xaz R n a m b c).getD [])) δ) (κ ((R n a (xag n a m b c) (xaa a b) (xah n a m b c)).getD []))) (κ ((R n a (xag n a m b c) (xaa a b) (xah n a m b c)).getD []))) δ) (br (xal n a m b c) (br (xam n a m b c) (br ((R n (xaa a b) (xad n a m b c) b (xah n a m b c)).isSome) (κ ((R n (xaa a b) (xad n a m b c) b (xah n a m b c)).getD [])) δ) (κ (xah n a m b c))) (κ (xah n a m b c)))) (br (xal n a m b c) (br (xam n a m b c) (br ((R n (xaa a b) (xad n a m b c) b (xah n a m b c)).isSome) (κ ((R n (xaa a b) (xad n a m b c) b (xah n a m b c)).getD [])) δ) (κ (xah n a m b c))) (κ (xah n a m b c)))) δ) (br (xar n a m b c) (br (xao n a m b c) (br ((R n a (xag n a m b c) (xaa a b) (xac n a m b c)).isSome) (br (xal n a m b c) (br (xam n a m b c) (br ((R n (xaa a b) (xad n a m b c) b ((R n a (xag n a m b c) (xaa a b) (xac n a m b c)).getD [])).isSome) (κ ((R n (xaa a b) (xad n a m b c) b ((R n a (xag n a m b c) (xaa a b) (xac n a m b c)).getD [])).getD [])) δ) (κ ((R n a (xag n a m b c) (xaa a b) (xac n a m b c)).getD []))) (κ ((R n a (xag n a m b c) (xaa a b) (xac n a m b c)).getD []))) δ) (br (xal n a m b c) (br (xam n a m b c) (br ((R n (xaa a b) (xad n a m b c) b (xac n a m b c)).isSome) (κ ((R n (xaa a b) (xad n a m b c) b (xac n a m b c)).getD [])) δ) (κ (xac n a m b c))) (κ (xac n a m b c)))) (br (xal n a m b c) (br (xam n a m b c) (br ((R n (xaa a b) (xad n a m b c) b (xac n a m b c)).isSome) (κ ((R n (xaa a b) (xad n a m b c) b (xac n a m b c)).getD [])) δ) (κ (xac n a m b c))) (κ (xac n a m b c))))) (br (xar n a m b c) (br (xao n a m b c) (br ((R n a (xag n a m b c) (xaa a b) (xac n a m b c)).isSome) (br (xal n a m b c) (br (xam n a m b c) (br ((R n (xaa a b) (xad n a m b c) b ((R n a (xag n a m b c) (xaa a b) (xac n a m b c)).getD [])).isSome) (κ ((R n (xaa a b) (xad n a m b c) b ((R n a (xag n a m b c) (xaa a b) (xac n a m b c)).getD [])).getD [])) δ) (κ ((R n a (xag n a m b c) (xaa a b) (xac n a m b c)).getD []))) (κ ((R n a (xag n a m b c) (xaa a b) (xac n a m b c)).getD []))) δ) (br (xal n a m b c) (br (xam n a m b c) (br ((R n (xaa a b) (xad n a m b c) b (xac n a m b c)).isSome) (κ ((R n (xaa a b) (xad n a m b c) b (xac n a m b c)).getD [])) δ) (κ (xac n a m b c))) (κ (xac n a m b c)))) (br (xal n a m b c) (br (xam n a m b c) (br ((R n (xaa a b) (xad n a m b c) b (xac n a m b c)).isSome) (κ ((R n (xaa a b) (xad n a m b c) b (xac n a m b c)).getD [])) δ) (κ (xac n a m b c))) (κ (xac n a m b c))))) δ)))
def xas (R:Nat→Int→Int→Int→LA→Option (LA)) (n:Nat) (a m b:Int) (c:LA):Option (LA):=xaC R n a m b c none some
theorem xi8 (R:Nat→Int→Int→Int→LA→Option (LA)) (n:Nat) (a m b:Int) (xs:LA):Enc (fun (p:LA)=>(((AV.tuple [],([⟨0,1,40,p,false,true⟩]:List Box))):(AV×List Box))) (xas R n a m b xs) (XFM Tryz.prog (xaO R) Tryz.f158 (Tryz.f158.body.getD .skip) [AV.osl (0:Id) 0 0 n,AV.int .i64 a,AV.int .i64 m,AV.int .i64 b,AV.func (88:FuncId) []] [{ ver:=0,sz:=1,ty:=(40:TypeId),xs:=xs,frz:=false,pm:=true }]):=by
 refine eV (xaC R n a m b xs none (fun (p:LA)=>some (((AV.tuple [],([⟨0,1,40,p,false,true⟩]:List Box))):(AV×List Box)))) (by kernel_rfl) ?_;unfold xas xaC;repeat' first|exact eN|exact eS rfl|apply eB
def xja (R:Nat→Int→Int→Int→LA→Option (LA)):LA→List Box→Option (Bool×AV×List Box):=omOf (sCons (sEq (pOsl 0 0 0)) (sCons (sEq (pInt .i64)) (sCons (sEq (pInt .i64)) (sCons (sEq (pInt .i64)) (sCons (sEq (pFunc (88:FuncId) pNil)) sNil))))) (pCons (pBox 0 1 (40:TypeId) false true pAny) pNil) fun (n,(a,(m,(b,(_,_))))) (c,_)=>((xas R n a m b c).isSome,((AV.tuple [],([⟨0,1,40,((xas R n a m b c).getD []),false,true⟩]:List Box))))
theorem xjb (R:Nat→Int→Int→Int→LA→Option (LA)) (f:xds R):OmOk Tryz.prog ITryz 158 (xja R):=xgN fun g h k j i=>by
 obtain ⟨n,⟨a,⟨m,⟨b,⟨_,_⟩⟩⟩⟩⟩:=g
 obtain ⟨l,_⟩:=h
 obtain ⟨c,e⟩:=Prod.mk.inj i
 refine xfi (p:=(xaO R).pin) (xfM mxTryz (inv0Ok Tryz.prog _) rfl (xhS R f) rfl Tryz.func158 rfl (by kernel_rfl) (xhc R) ((xi8 R _ _ _ _ _ _ (xaq (d:=[]) c)).trans ?_))
 exact congrArg some e
def xaH:Nat→Nat→Int→Int→Int→LA→Option (LA)
 | 0=>fun _ _ _ _ _=>none
 | fu_+1=>fun n a m b c=>xas (xaH fu_) n a m b c
theorem xfv:∀ n,xds (xaH n)
 | 0=>xgN fun _ _ _ _ h=>absurd (Prod.mk.inj h).1 Bool.false_ne_true
 | fu_+1=>fun a H r b h=>xjb (xaH fu_) (xfv fu_) a H r b h
def xm1:Env:=xku.withM 158 (xdM (xaH 1000))
theorem xj6:OrcOk Tryz.prog ITryz xm1:=xhu.withM (xfv _)
def xcf:Env:=xm1.fn 63 1 (lsOf [40]) (lpsOf [])
theorem xiC:OrcOk Tryz.prog (ITryz.at 1) xcf:=xj6.fn
theorem xhh:LoOk Tryz.prog (ITryz.at xcf.pin) xcf (loopAt Tryz.f137 0):=xa0 (by kernel_rfl)
def xd8 {T:Type} (d:Nat) (n e a b:Int) (c:LA) (δ:T) (κl:(Int×Int×LA)→T) (κr:(Int×LA)→T):T:=br (decide (b≤n)) (br ((xaL d a b c).isSome) (κl (b,i64.wrap (b+e),(xaL d a b c).getD [])) δ) (κr (a,c))
def xax (e:Nat) (n c:Int):(Int×Int×LA)→Option ((Int×Int×LA)⊕(Int×LA)):=fun (a,b,d)=>xd8 e n c a b d none (fun s=>some (.inl s)) (fun p=>some (.inr p))
def xb4 (e:Nat) (n c:Int):(Int×Int×LA)→LA×List Box:=fun (a,b,d)=>([AV.osl 0 0 0 e,AV.int .i64 n,AV.func 88 [],AV.int .i64 c,AV.int .i64 a,AV.int .i64 b],[⟨0,1,40,d,false,true⟩])
def xbN (b:Nat) (n a:Int):(Int×LA)→LR:=fun p=>(.leaf (.exit 0) [AV.osl 0 0 0 b,AV.int .i64 n,AV.func 88 [],AV.int .i64 a,AV.int .i64 p.1] [⟨0,1,40,p.2,false,true⟩])
abbrev xix (a:LA) (H:List Box):=XR Tryz.prog xcf [0,1,2,6,7,8] [0,1,2,6,7] [] (loopAt Tryz.f137 0) a H
theorem xiW (d:Nat) (n c:Int) (s:Int×Int×LA):Enc (encR (xb4 d n c) (xbN d n c)) (xax d n c s) (xix (xb4 d n c s).1 (xb4 d n c s).2):=by
 obtain ⟨a,b,e⟩:=s
 refine eV (xd8 d n c a b e none (fun s=>some (encR (xb4 d n c) (xbN d n c) (.inl s))) (fun p=>some (encR (xb4 d n c) (xbN d n c) (.inr p)))) (by kernel_rfl) ?_;unfold xax xd8;repeat' first|exact eN|exact eS rfl|apply eB
def xcZ:Lp:=lpOf [0,1,2,6,7,8] [0,1,2,6,7] [] (pCons (pOsl 0 0 0) (pCons (pInt .i64) (pCons (pFunc 88 pNil) (pCons (pInt .i64) (pCons (pInt .i64) (pCons (pInt .i64) pNil)))))) (pCons (pBox 0 1 40 false true pAny) pNil) fun (d,(n,(_,(c,(a,(b,_)))))) (e,_)=>((Iter (xax d n c) (a,b,e)).isSome,xbN d n c ((Iter (xax d n c) (a,b,e)).getD (0,[])))
theorem xiq:LoopOk Tryz.prog (ITryz.at xcf.pin) xcf.nt (loopAt Tryz.f137 0) xcZ:=xcB fun g h j i=>by
 obtain ⟨d,⟨n,⟨_,⟨c,⟨a,⟨b,_⟩⟩⟩⟩⟩⟩:=g
 obtain ⟨e,_⟩:=h
 obtain ⟨f,rfl⟩:=Prod.mk.inj i
 exact xa3 mxTryz (inv0Ok Tryz.prog _) rfl xiC xhh (xb4 d n c) (xbN d n c) (fun p=>by simp only [xbN,LR.eval];first|(simp;done)|(repeat' split<;>simp)) (xiW d n c) (s:=(a,b,e)) (xaq f)
def xcg:Env:=xm1.fn 63 1 (lsOf [40]) (lpsOf [(2,xcZ)])
theorem xiK:OrcOk Tryz.prog (ITryz.at 1) xcg:=xj6.fn
theorem xha:LoOk Tryz.prog (ITryz.at xcg.pin) xcg (loopAt Tryz.f137 2):=xa0 (by kernel_rfl)
def xeb {T:Type} (e:Nat) (n c a b:Int) (d:LA) (δ:T) (κl:(Int×Int×LA)→T) (κr:(Int×LA)→T):T:=br (decide (b≤n)) (br ((xaH 1000 e a (i64.wrap (a+c)) b d).isSome) (κl (b,i64.wrap (b+i64.wrap (2*c)),(xaH 1000 e a (i64.wrap (a+c)) b d).getD [])) δ) (κr (a,d))
def xbd (e:Nat) (n c:Int):(Int×Int×LA)→Option ((Int×Int×LA)⊕(Int×LA)):=fun (a,b,d)=>xeb e n c a b d none (fun s=>some (.inl s)) (fun p=>some (.inr p))
def xb3 (e:Nat) (n c:Int):(Int×Int×LA)→LA×List Box:=fun (a,b,d)=>([AV.osl 0 0 0 e,AV.int .i64 n,AV.func 88 [],AV.int .i64 c,AV.int .i64 a,AV.int .i64 b],[⟨0,1,40,d,false,true⟩])
def xbH (b:Nat) (n a:Int):(Int×LA)→LR:=fun p=>(.leaf (.exit 4) [AV.osl 0 0 0 b,AV.int .i64 n,AV.func 88 [],AV.int .i64 a,AV.int .i64 p.1] [⟨0,1,40,p.2,false,true⟩])
abbrev xiR (a:LA) (H:List Box):=XR Tryz.prog xcg [0,1,2,6,7,8] [0,1,2,6,7] [] (loopAt Tryz.f137 2) a H
theorem xi1 (d:Nat) (n c:Int) (s:Int×Int×LA):Enc (encR (xb3 d n c) (xbH d n c)) (xbd d n c s) (xiR (xb3 d n c s).1 (xb3 d n c s).2):=by
 obtain ⟨a,b,e⟩:=s
 refine eV (xeb d n c a b e none (fun s=>some (encR (xb3 d n c) (xbH d n c) (.inl s))) (fun p=>some (encR (xb3 d n c) (xbH d n c) (.inr p)))) (by kernel_rfl) ?_;unfold xbd xeb;repeat' first|exact eN|exact eS rfl|apply eB
def xd0:Lp:=lpOf [0,1,2,6,7,8] [0,1,2,6,7] [] (pCons (pOsl 0 0 0) (pCons (pInt .i64) (pCons (pFunc 88 pNil) (pCons (pInt .i64) (pCons (pInt .i64) (pCons (pInt .i64) pNil)))))) (pCons (pBox 0 1 40 false true pAny) pNil) fun (d,(n,(_,(c,(a,(b,_)))))) (e,_)=>((Iter (xbd d n c) (a,b,e)).isSome,xbH d n c ((Iter (xbd d n c) (a,b,e)).getD (0,[])))
theorem xfw:LoopOk Tryz.prog (ITryz.at xcg.pin) xcg.nt (loopAt Tryz.f137 2) xd0:=xcB fun g h j i=>by
 obtain ⟨d,⟨n,⟨_,⟨c,⟨a,⟨b,_⟩⟩⟩⟩⟩⟩:=g
 obtain ⟨e,_⟩:=h
 obtain ⟨f,rfl⟩:=Prod.mk.inj i
 exact xa3 mxTryz (inv0Ok Tryz.prog _) rfl xiK xha (xb3 d n c) (xbH d n c) (fun p=>by simp only [xbH,LR.eval];first|(simp;done)|(repeat' split<;>simp)) (xi1 d n c) (s:=(a,b,e)) (xaq f)
def xcj:Env:=xm1.fn 63 1 (lsOf [40]) (lpsOf [(2,xcZ),(9,xd0)])
theorem xiB:OrcOk Tryz.prog (ITryz.at 1) xcj:=xj6.fn
theorem xhd:LoOk Tryz.prog (ITryz.at xcj.pin) xcj (loopAt Tryz.f137 1):=xce (ls:=[loopAt Tryz.f137 2]) (by kernel_rfl) (lkC xfw lkN)
def xcx (c:Nat) (n a:Int) (b:LA):=Iter (xbd c n a) (0,i64.wrap (2*a),b)
def xcW (c:Nat) (n a:Int) (b:LA):=(xcx c n a b).getD (0,[])
def xcV (c:Nat) (n a:Int) (b:LA):=(xcW c n a b).snd
def xcS (c:Nat) (n a:Int) (b:LA):=(xcW c n a b).fst
def xcR (c:Nat) (n a:Int) (b:LA):=i64.wrap (xcS c n a b+a)
def xcX (b:Nat) (n a:Int) (c:LA):=xaH 1000 b (xcS b n a c) (xcR b n a c) n (xcV b n a c)
def xbV {T:Type} (c:Nat) (n a:Int) (b:LA) (δ:T) (κl:(Int×LA)→T) (κr:(LA)→T):T:=br (decide (a<n)) (br ((xcx c n a b).isSome) (br (decide (xcR c n a b<n)) (br ((xcX c n a b).isSome) (κl (i64.wrap (a*2),(xcX c n a b).getD [])) δ) (κl (i64.wrap (a*2),xcV c n a b))) δ) (κr (b))
def xaI (c:Nat) (n:Int):(Int×LA)→Option ((Int×LA)⊕(LA)):=fun (a,b)=>xbV c n a b none (fun s=>some (.inl s)) (fun p=>some (.inr p))
def xbZ (c:Nat) (n:Int):(Int×LA)→LA×List Box:=fun (a,b)=>([AV.osl 0 0 0 c,AV.int .i64 n,AV.func 88 [],AV.int .i64 a],[⟨0,1,40,b,false,true⟩])
def xbG (a:Nat) (n:Int):(LA)→LR:=fun p=>(.leaf (.exit 2) [] [⟨0,1,40,p,false,true⟩])
abbrev xiY (a:LA) (H:List Box):=XR Tryz.prog xcj [0,1,2,6] [] [] (loopAt Tryz.f137 1) a H
theorem xi3 (a:Nat) (n:Int) (s:Int×LA):Enc (encR (xbZ a n) (xbG a n)) (xaI a n s) (xiY (xbZ a n s).1 (xbZ a n s).2):=by
 obtain ⟨b,c⟩:=s
 refine eV (xbV a n b c none (fun s=>some (encR (xbZ a n) (xbG a n) (.inl s))) (fun p=>some (encR (xbZ a n) (xbG a n) (.inr p)))) (by kernel_rfl) ?_;unfold xaI xbV;repeat' first|exact eN|exact eS rfl|apply eB
def xfD:Lp:=lpOf [0,1,2,6] [] [] (pCons (pOsl 0 0 0) (pCons (pInt .i64) (pCons (pFunc 88 pNil) (pCons (pInt .i64) pNil)))) (pCons (pBox 0 1 40 false true pAny) pNil) fun (b,(n,(_,(a,_)))) (c,_)=>((Iter (xaI b n) (a,c)).isSome,xbG b n ((Iter (xaI b n) (a,c)).getD []))
theorem xii:LoopOk Tryz.prog (ITryz.at xcj.pin) xcj.nt (loopAt Tryz.f137 1) xfD:=xcB fun e f h g=>by
 obtain ⟨a,⟨n,⟨_,⟨b,_⟩⟩⟩⟩:=e
 obtain ⟨c,_⟩:=f
 obtain ⟨d,rfl⟩:=Prod.mk.inj g
 exact xa3 mxTryz (inv0Ok Tryz.prog _) rfl xiB xhd (xbZ a n) (xbG a n) (fun p=>by simp only [xbG,LR.eval];first|(simp;done)|(repeat' split<;>simp)) (xi3 a n) (s:=(b,c)) (xaq d)
def xcC:Env:=xm1.fn 63 1 (lsOf [40]) (lpsOf [(2,xcZ),(9,xd0),(7,xfD)])
theorem xiy:OrcOk Tryz.prog (ITryz.at 1) xcC:=xj6.fn
theorem xhF:LoOk Tryz.prog (ITryz.at xcC.pin) xcC (Tryz.f137.body.getD .skip):=xce (ls:=[loopAt Tryz.f137 0,loopAt Tryz.f137 1,loopAt Tryz.f137 2]) (by kernel_rfl) (lkC xiq (lkC xii (lkC xfw lkN)))
def xeL (n:Nat) (k:Int) (a:LA):=(Iter (xax n k 20) (0,20,a)).getD (0,[])
def xey (n:Nat) (k:Int) (a:LA):=xaL n (xeL n k a).fst k (xeL n k a).snd
def xeC (n:Nat) (k:Int) (a:LA):=Iter (xaI n k) (20,(xey n k a).getD [])
def xdy {T:Type} (n:Nat) (k:Int) (a:LA) (δ:T) (κ:LA→T):T:=br ((Iter (xax n k 20) (0,20,a)).isSome) (br ((xey n k a).isSome) (br ((xeC n k a).isSome) (κ ((xeC n k a).getD [])) δ) δ) δ
def xbQ (n:Nat) (k:Int) (a:LA):Option (LA):=xdy n k a none some
theorem xjL (n:Nat) (k:Int) (xs:LA):Enc (fun (p:LA)=>(((AV.tuple [],([⟨0,1,40,p,false,true⟩]:List Box))):(AV×List Box))) (xbQ n k xs) (XFM Tryz.prog xcC Tryz.f137 (Tryz.f137.body.getD .skip) [AV.osl (0:Id) 0 0 n,AV.int .i64 k,AV.func (88:FuncId) []] [{ ver:=0,sz:=1,ty:=(40:TypeId),xs:=xs,frz:=false,pm:=true }]):=by
 refine eV (xdy n k xs none (fun (p:LA)=>some (((AV.tuple [],([⟨0,1,40,p,false,true⟩]:List Box))):(AV×List Box)))) (by kernel_rfl) ?_;unfold xbQ xdy;repeat' first|exact eN|exact eS rfl|apply eB
def xgi:LA→List Box→Option (Bool×AV×List Box):=omOf (sCons (sEq (pOsl 0 0 0)) (sCons (sEq (pInt .i64)) (sCons (sEq (pFunc (88:FuncId) pNil)) sNil))) (pCons (pBox 0 1 (40:TypeId) false true pAny) pNil) fun (n,(k,(_,_))) (a,_)=>((xbQ n k a).isSome,((AV.tuple [],([⟨0,1,40,((xbQ n k a).getD []),false,true⟩]:List Box))))
theorem xka:OmOk Tryz.prog ITryz 137 (xgi):=xgN fun c e h g f=>by
 obtain ⟨n,⟨k,⟨_,_⟩⟩⟩:=c
 obtain ⟨i,_⟩:=e
 obtain ⟨a,b⟩:=Prod.mk.inj f
 refine xfi (p:=xcC.pin) (xfM mxTryz (inv0Ok Tryz.prog _) rfl xiy rfl Tryz.func137 rfl (by kernel_rfl) xhF ((xjL _ _ _ _ (xaq (d:=[]) a)).trans ?_))
 exact congrArg some b
def xsE:Env:=xm1.withM 137 xgi
theorem xqE:OrcOk Tryz.prog ITryz xsE:=xj6.withM xka
def xcs:Env:=xsE.fn 9 1 (lsOf [40]) (lpsOf [])
theorem xif:OrcOk Tryz.prog (ITryz.at 1) xcs:=xqE.fn
theorem xhr:LoOk Tryz.prog (ITryz.at xcs.pin) xcs (Tryz.f112.body.getD .skip):=xa0 (by kernel_rfl)
def xdp {T:Type} (n:Nat) (a:LA) (δ:T) (κ:LA→T):T:=br ((xbQ n (↑n:Int) a).isSome) (κ ((xbQ n (↑n:Int) a).getD [])) δ
def xcr (n:Nat) (a:LA):Option (LA):=xdp n a none some
theorem xjt (n:Nat) (xs:LA):Enc (fun (p:LA)=>(((AV.tuple [],([⟨0,1,40,p,false,true⟩]:List Box))):(AV×List Box))) (xcr n xs) (XFM Tryz.prog xcs Tryz.f112 (Tryz.f112.body.getD .skip) [AV.osl (0:Id) 0 0 n,AV.func (88:FuncId) []] [{ ver:=0,sz:=1,ty:=(40:TypeId),xs:=xs,frz:=false,pm:=true }]):=by
 refine eV (xdp n xs none (fun (p:LA)=>some (((AV.tuple [],([⟨0,1,40,p,false,true⟩]:List Box))):(AV×List Box)))) (by kernel_rfl) ?_;unfold xcr xdp;repeat' first|exact eN|exact eS rfl|apply eB
def xgd:LA→List Box→Option (Bool×AV×List Box):=omOf (sCons (sEq (pOsl 0 0 0)) (sCons (sEq (pFunc (88:FuncId) pNil)) sNil)) (pCons (pBox 0 1 (40:TypeId) false true pAny) pNil) fun (n,(_,_)) (a,_)=>((xcr n a).isSome,((AV.tuple [],([⟨0,1,40,((xcr n a).getD []),false,true⟩]:List Box))))
theorem xju:OmOk Tryz.prog ITryz 112 (xgd):=xgN fun c e h g f=>by
 obtain ⟨n,⟨_,_⟩⟩:=c
 obtain ⟨i,_⟩:=e
 obtain ⟨a,b⟩:=Prod.mk.inj f
 refine xfi (p:=xcs.pin) (xfM mxTryz (inv0Ok Tryz.prog _) rfl xif rfl Tryz.func112 rfl (by kernel_rfl) xhr ((xjt _ _ _ (xaq (d:=[]) a)).trans ?_))
 exact congrArg some b
def xqs:Env:=xsE.withM 112 xgd
theorem xnZ:OrcOk Tryz.prog ITryz xqs:=xqE.withM xju
def xdC:Env:=xqs.fn 27 0 (lsOf [40]) (lpsOf [])
theorem xlC:OrcOk Tryz.prog (ITryz.at 0) xdC:=xnZ.fn
theorem xjG:LoOk Tryz.prog (ITryz.at xdC.pin) xdC (loopAt Tryz.f87 0):=xa0 (by kernel_rfl)
def xdT {T:Type} (d:LA) (e:Int) (a:Nat) (b:Int) (c:LA) (δ:T) (κl:(Nat×Int×LA)→T) (κr:(Nat×LA)→T):T:=br (decide (b<e)) (br (decide (0≤b)&&decide (b<d.length)) (br (decide (b.toNat<d.length)&&hasSh1 (Sh.list 3) ((d.getD b.toNat .top).cells.getD 0 .top)) (br (decide (((d.getD b.toNat .top).cells.getD 0 .top).toList.length≤4398046511104)) (br (a==c.length&&(decide ((a+1)*24≤140737488355328)&&decide (a+1≤4611686018427387904))) (κl (a+1,i64.wrap (b+1),c++[AV.list 3 ((d.getD b.toNat .top).cells.getD 0 .top).toList])) δ) δ) δ) δ) (κr (a,c))
def xba (c:LA) (d:Int):(Nat×Int×LA)→Option ((Nat×Int×LA)⊕(Nat×LA)):=fun (b,e,a)=>xdT c d b e a none (fun s=>some (.inl s)) (fun p=>some (.inr p))
def xda (c:LA) (d:Int):(Nat×Int×LA)→LA×List Box:=fun (b,e,a)=>([AV.func 88 [],AV.osl 0 0 0 b,AV.list 1 c,AV.int .i64 d,AV.int .i64 e],[⟨0,1,40,a,false,true⟩])
def xcI (a:LA) (b:Int):(Nat×LA)→LR:=fun p=>(.leaf (.exit 0) [AV.func 88 [],AV.osl 0 0 0 p.1] [⟨0,1,40,p.2,false,true⟩])
abbrev xl4 (a:LA) (H:List Box):=XR Tryz.prog xdC [1,5,11,12,13] [1,5] [(5,1,40)] (loopAt Tryz.f87 0) a H
theorem xmc (a:LA) (b:Int) (s:Nat×Int×LA):Enc (encR (xda a b) (xcI a b)) (xba a b s) (xl4 (xda a b s).1 (xda a b s).2):=by
 obtain ⟨d,e,c⟩:=s
 refine eV (xdT a b d e c none (fun s=>some (encR (xda a b) (xcI a b) (.inl s))) (fun p=>some (encR (xda a b) (xcI a b) (.inr p)))) (by kernel_rfl) ?_;unfold xba xdT;repeat' first|exact eN|exact eS rfl|apply eB
def xhW:Lp:=lpOf [1,5,11,12,13] [1,5] [(5,1,40)] (pCons (pFunc 88 pNil) (pCons (pOsl 0 0 0) (pCons (pList 1 pAny) (pCons (pInt .i64) (pCons (pInt .i64) pNil))))) (pCons (pBox 0 1 40 false true pAny) pNil) fun (_,(b,(c,(d,(e,_))))) (a,_)=>((Iter (xba c d) (b,e,a)).isSome,xcI c d ((Iter (xba c d) (b,e,a)).getD (0,[])))
theorem xkW:LoopOk Tryz.prog (ITryz.at xdC.pin) xdC.nt (loopAt Tryz.f87 0) xhW:=xcB fun g h j i=>by
 obtain ⟨_,⟨d,⟨a,⟨b,⟨e,_⟩⟩⟩⟩⟩:=g
 obtain ⟨c,_⟩:=h
 obtain ⟨f,rfl⟩:=Prod.mk.inj i
 exact xa3 mxTryz (inv0Ok Tryz.prog _) rfl xlC xjG (xda a b) (xcI a b) (fun p=>by simp only [xcI,LR.eval];first|(simp;done)|(repeat' split<;>simp)) (xmc a b) (s:=(d,e,c)) (xaq f)
def xeu:Env:=xqs.fn 27 0 (lsOf [40]) (lpsOf [(3,xhW)])
theorem xlr:OrcOk Tryz.prog (ITryz.at 0) xeu:=xnZ.fn
theorem xkE:LoOk Tryz.prog (ITryz.at xeu.pin) xeu (Tryz.f87.body.getD .skip):=xce (ls:=[loopAt Tryz.f87 0]) (by kernel_rfl) (lkC xkW lkN)
def xg1 (l:LA):=(Iter (xba l (↑l.length:Int)) (0,0,[])).getD (0,[])
def xfy (l:LA):=(xg1 l).fst
def xgU (l:LA):=xcr (xfy l) (xg1 l).snd
def xg3 (l:LA):=(xgU l).getD []
def xfV {T:Type} (l:LA) (δ:T) (κ:LA→T):T:=br (decide (24*(↑l.length:Int)≤281474976710656)&&decide ((↑l.length:Int)≤4611686018427387904)) (br ((Iter (xba l (↑l.length:Int)) (0,0,[])).isSome) (br ((xgU l).isSome) (br (decide (0+xfy l≤(xg3 l).length)&&true) (κ (List.take (xfy l) (List.drop 0 (xg3 l)))) δ) δ) δ) δ
def xdW (l:LA):Option (LA):=xfV l none some
theorem xn7 (l:LA):Enc (fun (p:LA)=>((AV.list 1 p):AV)) (xdW l) (XF Tryz.prog xeu Tryz.f87 (Tryz.f87.body.getD .skip) [AV.list 1 l,AV.func (88:FuncId) []]):=by
 refine eV (xfV l none (fun (p:LA)=>some ((AV.list 1 p):AV))) (by kernel_rfl) ?_;unfold xdW xfV;repeat' first|exact eN|exact eS rfl|apply eB
def xjQ:LA→Option (Bool×AV):=ocOf (sCons (sList 1 pAny) (sCons (sEq (pFunc (88:FuncId) pNil)) sNil)) fun (l,(_,_))=>((xdW l).isSome,(AV.list 1 ((xdW l).getD [])))
theorem xoc:OcOk Tryz.prog ITryz 87 (xjQ):=xcJ fun c f e=>by
 obtain ⟨l,⟨_,_⟩⟩:=c
 obtain ⟨a,b⟩:=Prod.mk.inj e
 refine xbP (p:=xeu.pin) (xcl mxTryz (inv0Ok Tryz.prog _) rfl xlr Tryz.func87 rfl (by kernel_rfl) xkE ((xn7 _ _ (xaq (d:=[]) a)).trans ?_))
 exact congrArg some b
def xtz:Env:=xqs.with 87 xjQ
theorem xrj:OrcOk Tryz.prog ITryz xtz:=xnZ.with xoc
def xf8:Env:=xtz.fn 5 0 (lsOf []) (lpsOf [])
theorem xnS:OrcOk Tryz.prog (ITryz.at 0) xf8:=xrj.fn
theorem xmV:LoOk Tryz.prog (ITryz.at xf8.pin) xf8 (Tryz.f63.body.getD .skip):=xa0 (by kernel_rfl)
def xh8 {T:Type} (l:LA) (δ:T) (κ:LA→T):T:=br ((xdW l).isSome) (κ ((xdW l).getD [])) δ
def xfl (l:LA):Option (LA):=xh8 l none some
theorem xqX (l:LA):Enc (fun (p:LA)=>((AV.list 1 p):AV)) (xfl l) (XF Tryz.prog xf8 Tryz.f63 (Tryz.f63.body.getD .skip) [AV.list 1 l]):=by
 refine eV (xh8 l none (fun (p:LA)=>some ((AV.list 1 p):AV))) (by kernel_rfl) ?_;unfold xfl xh8;repeat' first|exact eN|exact eS rfl|apply eB
def xmG:LA→Option (Bool×AV):=ocOf (sCons (sList 1 pAny) sNil) fun (l,_)=>((xfl l).isSome,(AV.list 1 ((xfl l).getD [])))
theorem xrd:OcOk Tryz.prog ITryz 63 (xmG):=xcJ fun c f e=>by
 obtain ⟨l,_⟩:=c
 obtain ⟨a,b⟩:=Prod.mk.inj e
 refine xbP (p:=xf8.pin) (xcl mxTryz (inv0Ok Tryz.prog _) rfl xnS Tryz.func63 rfl (by kernel_rfl) xmV ((xqX _ _ (xaq (d:=[]) a)).trans ?_))
 exact congrArg some b
def xwx:Env:=xtz.with 63 xmG
theorem xwP:OrcOk Tryz.prog ITryz xwx:=xrj.with xrd
abbrev EKV:Env:=xwx
theorem xom:OrcOk Tryz.prog ITryz EKV:=xwP
end Go.Sim.M
end
noncomputable section
set_option maxRecDepth 100000
namespace Go.Sim.M
open Go.IntKind (i64 u64 u8)
open Go.RowKit Go.Proofs
def xdD:Env:=EKV.fn 61 1 (lsOf []) (lpsOf [])
theorem xlg:OrcOk Tryz.prog (ITryz.at 1) xdD:=xom.fn
theorem xj2:LoOk Tryz.prog (ITryz.at xdD.pin) xdD (loopAt Tryz.f55 1):=xa0 (by kernel_rfl)
def xeA (b:Nat) (c:Int) (a:LA):=decide (b+c.toNat<a.length)&&hasSh1 (Sh.int .i64) ((a.getD (b+c.toNat) .top).cells.getD 0 .top)
def xc9 {T:Type} (e c d:Nat) (k b:Int) (a:LA) (δ:T) (κl:(Int×Int×LA)→T) (κr:(Int×LA)→T):T:=br (decide (b<(↑d:Int))) (br (decide (0≤b)&&decide (b<(↑d:Int))) (br (xeA c b a) (br (decide (0≤i64.wrap (b - 1))&&decide (i64.wrap (b - 1)<(↑d:Int))) (br (decide (c+(i64.wrap (b - 1)).toNat<a.length)&&hasSh1 (Sh.int .i64) ((a.getD (c+(i64.wrap (b - 1)).toNat) .top).cells.getD 0 .top)) (br (((a.getD (c+b.toNat) .top).cells.getD 0 .top).toInt != ((a.getD (c+(i64.wrap (b - 1)).toNat) .top).cells.getD 0 .top).toInt) (br (decide (0≤b)&&decide (b<(↑d:Int))) (br (xeA c b a) (br (decide (0≤k)&&decide (k<(↑e:Int))) (br (decide (0+k.toNat<a.length)) (κl (i64.wrap (k+1),i64.wrap (b+1),a.set (0+k.toNat) (AV.int .i64 ((a.getD (c+b.toNat) .top).cells.getD 0 .top).toInt))) δ) δ) δ) δ) (κl (k,i64.wrap (b+1),a))) δ) δ) δ) δ) (κr (k,a))
def xa8 (b c d:Nat):(Int×Int×LA)→Option ((Int×Int×LA)⊕(Int×LA)):=fun (k,e,a)=>xc9 b c d k e a none (fun s=>some (.inl s)) (fun p=>some (.inr p))
def xdb (b c d:Nat):(Int×Int×LA)→LA×List Box:=fun (k,e,a)=>([AV.osl 0 0 0 b,AV.int .i64 k,AV.osl 0 0 c d,AV.int .i64 e],[⟨0,1,3,a,false,true⟩])
def xcH (a b c:Nat):(Int×LA)→LR:=fun p=>(.leaf (.exit 2) [AV.osl 0 0 0 a,AV.int .i64 p.1] [⟨0,1,3,p.2,false,true⟩])
abbrev xl1 (a:LA) (H:List Box):=XR Tryz.prog xdD [0,3,4,5] [0,3] [] (loopAt Tryz.f55 1) a H
theorem xl7 (a b c:Nat) (s:Int×Int×LA):Enc (encR (xdb a b c) (xcH a b c)) (xa8 a b c s) (xl1 (xdb a b c s).1 (xdb a b c s).2):=by
 obtain ⟨k,e,d⟩:=s
 refine eV (xc9 a b c k e d none (fun s=>some (encR (xdb a b c) (xcH a b c) (.inl s))) (fun p=>some (encR (xdb a b c) (xcH a b c) (.inr p)))) (by kernel_rfl) ?_;unfold xa8 xc9;repeat' first|exact eN|exact eS rfl|apply eB
def xf0:Lp:=lpOf [0,3,4,5] [0,3] [] (pCons (pOsl 0 0 0) (pCons (pInt .i64) (pCons (pOslO 0 0) (pCons (pInt .i64) pNil)))) (pCons (pBox 0 1 3 false true pAny) pNil) fun (a,(k,((b,c),(e,_)))) (d,_)=>((Iter (xa8 a b c) (k,e,d)).isSome,xcH a b c ((Iter (xa8 a b c) (k,e,d)).getD (0,[])))
theorem xhD:LoopOk Tryz.prog (ITryz.at xdD.pin) xdD.nt (loopAt Tryz.f55 1) xf0:=xcB fun f g j h=>by
 obtain ⟨a,⟨k,⟨⟨b,c⟩,⟨i,_⟩⟩⟩⟩:=f
 obtain ⟨d,_⟩:=g
 obtain ⟨e,rfl⟩:=Prod.mk.inj h
 exact xa3 mxTryz (inv0Ok Tryz.prog _) rfl xlg xj2 (xdb a b c) (xcH a b c) (fun p=>by simp only [xcH,LR.eval];first|(simp;done)|(repeat' split<;>simp)) (xl7 a b c) (s:=(k,i,d)) (xaq e)
def xdE:Env:=EKV.fn 61 1 (lsOf []) (lpsOf [(9,xf0)])
theorem xlf:OrcOk Tryz.prog (ITryz.at 1) xdE:=xom.fn
theorem xjM:LoOk Tryz.prog (ITryz.at xdE.pin) xdE (loopAt Tryz.f55 0):=xce (ls:=[loopAt Tryz.f55 1]) (by kernel_rfl) (lkC xhD lkN)
def xf4 (a:Nat) (k:Int) (b:LA):=Iter (xa8 a (0+k.toNat) (a - k.toNat)) (k,1,b)
def xfZ (b:Nat) (k:Int) (a:LA):=(xf4 b k a).getD (0,[])
def xev (b:Nat) (k:Int) (a:LA):=(xfZ b k a).snd
def xeE (b:Nat) (k:Int) (a:LA):=(xfZ b k a).fst
def xfX (a:Nat) (k:Int) (b:LA):=decide (0≤xeE a k b)&&decide (xeE a k b≤(↑a:Int))
def xcY (b:Nat) (k:Int) (a:LA):=(xeE b k a).toNat
def xfY (a:Nat) (k:Int) (b:LA):Nat:=0+xcY a k b+(a - xcY a k b)
def xc8 {T:Type} (b:Nat) (k:Int) (a:LA) (δ:T) (κl:(Int×LA)→T) (κr:(Bool×(Nat×LA)×(LA))→T):T:=br (decide (k<(↑b:Int))) (br (decide (0≤k)&&decide (k<(↑b:Int))) (br (decide (0+k.toNat<a.length)&&hasSh1 (Sh.int .i64) ((a.getD (0+k.toNat) .top).cells.getD 0 .top)) (br (decide (0≤i64.wrap (k - 1))&&decide (i64.wrap (k - 1)<(↑b:Int))) (br (decide (0+(i64.wrap (k - 1)).toNat<a.length)&&hasSh1 (Sh.int .i64) ((a.getD (0+(i64.wrap (k - 1)).toNat) .top).cells.getD 0 .top)) (br (((a.getD (0+k.toNat) .top).cells.getD 0 .top).toInt==((a.getD (0+(i64.wrap (k - 1)).toNat) .top).cells.getD 0 .top).toInt) (br (decide (0≤k)&&decide (k≤(↑b:Int))) (br ((xf4 b k a).isSome) (br (xfX b k a) (br (decide (xfY b k a≤(xev b k a).length)) (br (xfX b k a&&true) (κr (true,(xcY b k a - 0,List.take (0+xcY b k a) (xev b k a)++(List.replicate (b - xcY b k a) (AV.int .i64 0)++List.drop (xfY b k a) (xev b k a))),[])) δ) δ) δ) δ) δ) (κl (i64.wrap (k+1),a))) δ) δ) δ) δ) (κr (false,(0,[]),(a)))
def xaN (b:Nat):(Int×LA)→Option ((Int×LA)⊕(Bool×(Nat×LA)×(LA))):=fun (k,a)=>xc8 b k a none (fun s=>some (.inl s)) (fun p=>some (.inr p))
def xdc (b:Nat):(Int×LA)→LA×List Box:=fun (k,a)=>([AV.osl 0 0 0 b,AV.int .i64 k],[⟨0,1,3,a,false,true⟩])
def xcE (a:Nat):(Bool×(Nat×LA)×(LA))→LR:=fun p=>(.node p.1 (.leaf .ret [AV.osl 0 0 0 a,AV.osl 0 0 0 p.2.1.1] [⟨0,1,3,p.2.1.2,false,true⟩]) (.leaf (.exit 0) [AV.osl 0 0 0 a,.top] [⟨0,1,3,p.2.2,false,true⟩]))
abbrev xl6 (a:LA) (H:List Box):=XR Tryz.prog xdE [0,3] [0,2] [] (loopAt Tryz.f55 0) a H
theorem xl5 (a:Nat) (s:Int×LA):Enc (encR (xdc a) (xcE a)) (xaN a s) (xl6 (xdc a s).1 (xdc a s).2):=by
 obtain ⟨k,b⟩:=s
 refine eV (xc8 a k b none (fun s=>some (encR (xdc a) (xcE a) (.inl s))) (fun p=>some (encR (xdc a) (xcE a) (.inr p)))) (by kernel_rfl) ?_;unfold xaN xc8;repeat' first|exact eN|exact eS rfl|apply eB
def xh6:Lp:=lpOf [0,3] [0,2] [] (pCons (pOsl 0 0 0) (pCons (pInt .i64) pNil)) (pCons (pBox 0 1 3 false true pAny) pNil) fun (a,(k,_)) (b,_)=>((Iter (xaN a) (k,b)).isSome,xcE a ((Iter (xaN a) (k,b)).getD (false,(0,[]),[])))
theorem xkZ:LoopOk Tryz.prog (ITryz.at xdE.pin) xdE.nt (loopAt Tryz.f55 0) xh6:=xcB fun d e g f=>by
 obtain ⟨a,⟨k,_⟩⟩:=d
 obtain ⟨b,_⟩:=e
 obtain ⟨c,rfl⟩:=Prod.mk.inj f
 exact xa3 mxTryz (inv0Ok Tryz.prog _) rfl xlf xjM (xdc a) (xcE a) (fun p=>by simp only [xcE,LR.eval];first|(simp;done)|(repeat' split<;>simp)) (xl5 a) (s:=(k,b)) (xaq c)
def xes:Env:=EKV.fn 61 1 (lsOf []) (lpsOf [(9,xf0),(4,xh6)])
theorem xlh:OrcOk Tryz.prog (ITryz.at 1) xes:=xom.fn
theorem xkD:LoOk Tryz.prog (ITryz.at xes.pin) xes (Tryz.f55.body.getD .skip):=xce (ls:=[loopAt Tryz.f55 0,loopAt Tryz.f55 1]) (by kernel_rfl) (lkC xkZ (lkC xhD lkN))
def xgW (n:Nat) (a:LA):=(Iter (xaN n) (1,a)).getD (false,(0,[]),[])
def xg0 (n:Nat) (a:LA):=(xgW n a).snd
def xgX (n:Nat) (a:LA):=(xg0 n a).fst
def xfS {T:Type} (n:Nat) (a:LA) (δ:T) (κ:Nat×LA→T):T:=br (decide ((↑n:Int)<2)) (κ (n,a)) (br ((Iter (xaN n) (1,a)).isSome) (br ((xgW n a).fst) (κ ((xgX n a).fst,(xgX n a).snd)) (κ (n,(xg0 n a).snd))) δ)
def xdo (n:Nat) (a:LA):Option (Nat×LA):=xfS n a none some
theorem xnI (n:Nat) (xs:LA):Enc (fun (p:Nat×LA)=>(((AV.osl 0 0 0 p.1,([⟨0,1,3,p.2,false,true⟩]:List Box))):(AV×List Box))) (xdo n xs) (XFM Tryz.prog xes Tryz.f55 (Tryz.f55.body.getD .skip) [AV.osl (0:Id) 0 0 n] [{ ver:=0,sz:=1,ty:=(3:TypeId),xs:=xs,frz:=false,pm:=true }]):=by
 refine eV (xfS n xs none (fun (p:Nat×LA)=>some (((AV.osl 0 0 0 p.1,([⟨0,1,3,p.2,false,true⟩]:List Box))):(AV×List Box)))) (by kernel_rfl) ?_;unfold xdo xfS;repeat' first|exact eN|exact eS rfl|apply eB
def xjR:LA→List Box→Option (Bool×AV×List Box):=omOf (sCons (sEq (pOsl 0 0 0)) sNil) (pCons (pBox 0 1 (3:TypeId) false true pAny) pNil) fun (n,_) (a,_)=>((xdo n a).isSome,((AV.osl 0 0 0 ((xdo n a).getD (0,[])).1,([⟨0,1,3,((xdo n a).getD (0,[])).2,false,true⟩]:List Box))))
theorem xnX:OmOk Tryz.prog ITryz 55 (xjR):=xgN fun c e h g f=>by
 obtain ⟨n,_⟩:=c
 obtain ⟨i,_⟩:=e
 obtain ⟨a,b⟩:=Prod.mk.inj f
 refine xfi (p:=xes.pin) (xfM mxTryz (inv0Ok Tryz.prog _) rfl xlh rfl Tryz.func55 rfl (by kernel_rfl) xkD ((xnI _ _ _ (xaq (d:=(0,[])) a)).trans ?_))
 exact congrArg some b
def xqn:Env:=EKV.withM 55 xjR
theorem xnN:OrcOk Tryz.prog ITryz xqn:=xom.withM xnX
def xdm:Env:=xqn.fn 37 0 (lsOf []) (lpsOf [])
theorem xkY:OrcOk Tryz.prog (ITryz.at 0) xdm:=xnN.fn
theorem xjz:LoOk Tryz.prog (ITryz.at xdm.pin) xdm (loopAt Tryz.f21 0):=xa0 (by kernel_rfl)
def xeo (b:LA) (c:Int) (a:LA):=a++[AV.int .i64 ((b.getD c.toNat .top).cells.getD 1 .top).toInt]
def xdr {T:Type} (d:LA) (e:Int) (a:Nat) (c:Int) (b:LA) (δ:T) (κl:(Nat×Int×LA)→T) (κr:(Nat×LA)→T):T:=br (decide (c<e)) (br (decide (0≤c)&&decide (c<d.length)) (br (decide (c.toNat<d.length)&&((d.getD c.toNat .top).cells.length==3&&hasShs [Sh.list 3,Sh.int .i64,Sh.int .i64] (d.getD c.toNat .top).cells 0)) (br (xeg ((d.getD c.toNat .top).cells.getD 1 .top).toInt ((d.getD c.toNat .top).cells.getD 2 .top).toInt) (br (a==b.length&&(decide ((a+1)*8≤140737488355328)&&decide (a+1≤4611686018427387904))) (br (decide (((d.getD c.toNat .top).cells.getD 2 .top).toInt<1099511627776)) (br (a+1==(xeo d c b).length&&(decide ((a+1+1)*8≤140737488355328)&&decide (a+1+1≤4611686018427387904))) (κl (a+1+1,i64.wrap (c+1),xeo d c b++[AV.int .i64 ((d.getD c.toNat .top).cells.getD 2 .top).toInt])) δ) (κl (a+1,i64.wrap (c+1),xeo d c b))) δ) (κl (a,i64.wrap (c+1),b))) δ) δ) (κr (a,b))
def xa5 (c:LA) (d:Int):(Nat×Int×LA)→Option ((Nat×Int×LA)⊕(Nat×LA)):=fun (b,e,a)=>xdr c d b e a none (fun s=>some (.inl s)) (fun p=>some (.inr p))
def xcQ (c:LA) (d:Int):(Nat×Int×LA)→LA×List Box:=fun (b,e,a)=>([AV.osl 0 0 0 b,AV.list 3 c,AV.int .i64 d,AV.int .i64 e],[⟨0,1,3,a,false,true⟩])
def xcv (a:LA) (b:Int):(Nat×LA)→LR:=fun p=>(.leaf (.exit 0) [AV.osl 0 0 0 p.1] [⟨0,1,3,p.2,false,true⟩])
abbrev xlB (a:LA) (H:List Box):=XR Tryz.prog xdm [3,7,8,9] [3] [(3,1,3)] (loopAt Tryz.f21 0) a H
theorem xlD (a:LA) (b:Int) (s:Nat×Int×LA):Enc (encR (xcQ a b) (xcv a b)) (xa5 a b s) (xlB (xcQ a b s).1 (xcQ a b s).2):=by
 obtain ⟨d,e,c⟩:=s
 refine eV (xdr a b d e c none (fun s=>some (encR (xcQ a b) (xcv a b) (.inl s))) (fun p=>some (encR (xcQ a b) (xcv a b) (.inr p)))) (by kernel_rfl) ?_;unfold xa5 xdr;repeat' first|exact eN|exact eS rfl|apply eB
def xhA:Lp:=lpOf [3,7,8,9] [3] [(3,1,3)] (pCons (pOsl 0 0 0) (pCons (pList 3 pAny) (pCons (pInt .i64) (pCons (pInt .i64) pNil)))) (pCons (pBox 0 1 3 false true pAny) pNil) fun (b,(c,(d,(e,_)))) (a,_)=>((Iter (xa5 c d) (b,e,a)).isSome,xcv c d ((Iter (xa5 c d) (b,e,a)).getD (0,[])))
theorem xkM:LoopOk Tryz.prog (ITryz.at xdm.pin) xdm.nt (loopAt Tryz.f21 0) xhA:=xcB fun f g j h=>by
 obtain ⟨b,⟨c,⟨d,⟨i,_⟩⟩⟩⟩:=f
 obtain ⟨a,_⟩:=g
 obtain ⟨e,rfl⟩:=Prod.mk.inj h
 exact xa3 mxTryz (inv0Ok Tryz.prog _) rfl xkY xjz (xcQ c d) (xcv c d) (fun p=>by simp only [xcv,LR.eval];first|(simp;done)|(repeat' split<;>simp)) (xlD c d) (s:=(b,i,a)) (xaq e)
def xd9:Env:=xqn.fn 37 0 (lsOf []) (lpsOf [(3,xhA)])
theorem xk5:OrcOk Tryz.prog (ITryz.at 0) xd9:=xnN.fn
theorem xkb:LoOk Tryz.prog (ITryz.at xd9.pin) xd9 (Tryz.f21.body.getD .skip):=xce (ls:=[loopAt Tryz.f21 0]) (by kernel_rfl) (lkC xkM lkN)
def xgz (l:LA):=Iter (xa5 l (↑l.length:Int)) (1,0,[AV.int .i64 0])
def xgq (l:LA):=(xgz l).getD (0,[])
def xfh (l:LA):=(xgq l).snd
def xfb (l:LA):=(xgq l).fst
def xgf (l:LA):=xdo (xfb l) (srtI (xfh l))
def xgA (l:LA):=(xgf l).getD (0,[])
def xgm (l:LA):=(xgA l).snd
def xgs (l:LA):=(xgA l).fst
def xfz {T:Type} (l:LA) (δ:T) (κ:LA→T):T:=br ((xgz l).isSome) (br ((xfb l).beq (xfh l).length&&(decide (xfb l<4611686018427387904)&&(xfh l).all isI)) (br ((xgf l).isSome) (br (decide (0+xgs l≤(xgm l).length)&&true) (κ (List.take (xgs l) (List.drop 0 (xgm l)))) δ) δ) δ) δ
def xcA (l:LA):Option (LA):=xfz l none some
theorem xm9 (l:LA):Enc (fun (p:LA)=>((AV.list 1 p):AV)) (xcA l) (XF Tryz.prog xd9 Tryz.f21 (Tryz.f21.body.getD .skip) [AV.list 3 l]):=by
 refine eV (xfz l none (fun (p:LA)=>some ((AV.list 1 p):AV))) (by kernel_rfl) ?_;unfold xcA xfz;repeat' first|exact eN|exact eS rfl|apply eB
def xjf:LA→Option (Bool×AV):=ocOf (sCons (sList 3 pAny) sNil) fun (l,_)=>((xcA l).isSome,(AV.list 1 ((xcA l).getD [])))
theorem xm6:OcOk Tryz.prog ITryz 21 (xjf):=xcJ fun c f e=>by
 obtain ⟨l,_⟩:=c
 obtain ⟨a,b⟩:=Prod.mk.inj e
 refine xbP (p:=xd9.pin) (xcl mxTryz (inv0Ok Tryz.prog _) rfl xk5 Tryz.func21 rfl (by kernel_rfl) xkb ((xm9 _ _ (xaq (d:=[]) a)).trans ?_))
 exact congrArg some b
def xyr:Env:=xqn.with 21 xjf
theorem xwd:OrcOk Tryz.prog ITryz xyr:=xnN.with xm6
abbrev xyd:Env:=xyr
theorem xwu:OrcOk Tryz.prog ITryz xyd:=xwd
abbrev xwU:Env:=xyd
theorem xvQ:OrcOk Tryz.prog ITryz xwU:=xwu
abbrev xye:Env:=xwU
theorem xvK:OrcOk Tryz.prog ITryz xye:=xvQ
abbrev xyt:Env:=xye
theorem xwB:OrcOk Tryz.prog ITryz xyt:=xvK
abbrev xyo:Env:=xyt
theorem xwK:OrcOk Tryz.prog ITryz xyo:=xwB
abbrev xyq:Env:=xyo
theorem xvM:OrcOk Tryz.prog ITryz xyq:=xwK
abbrev xw0:Env:=xyq
theorem xvX:OrcOk Tryz.prog ITryz xw0:=xvM
abbrev xt0:Env:=xw0
theorem xt9:OrcOk Tryz.prog ITryz xt0:=xvX
abbrev xrc:Env:=xt0
theorem xpI:OrcOk Tryz.prog ITryz xrc:=xt9
def xdh:Env:=xrc.fn 19 0 (lsOf []) (lpsOf [])
theorem xkU:OrcOk Tryz.prog (ITryz.at 0) xdh:=xpI.fn
theorem xkc:LoOk Tryz.prog (ITryz.at xdh.pin) xdh (Tryz.f62.body.getD .skip):=xa0 (by kernel_rfl)
def xei (a b t:Int):Bool:=(br (xeg a b) (br (decide (t≥a)) ((decide (t<b))) ((false))) ((false)))
def xis (a b t:Int):Bool:=true
def xje {T:Type} (a b t:Int) (δ:T) (κ:Bool→T):T:=br (xeg a b) (br (decide (t≥a)) (κ (decide (t<b))) (κ (false))) (κ (false))
theorem xni (a b t:Int):Pre (xis a b t) (XF Tryz.prog xdh Tryz.f62 (Tryz.f62.body.getD .skip) [AV.agg [AV.int .i64 a,AV.int .i64 b],AV.int .i64 t]) (AV.bool (xei a b t)):=by
 have h:XF Tryz.prog xdh Tryz.f62 (Tryz.f62.body.getD .skip) [AV.agg [AV.int .i64 a,AV.int .i64 b],AV.int .i64 t]=xje a b t none (fun (p:Bool)=>some ((AV.bool p):AV)):=by kernel_rfl
 rw [h];unfold xei xis xje;repeat' (first|exact Pre.none|exact Pre.tt rfl|exact Pre.some rfl|refine Pre.l ?_|refine Pre.r ?_|refine Pre.br (f:=fun (p:Bool)=>((AV.bool p):AV)) ?_ ?_|refine Pre.brt (f:=fun (p:Bool)=>((AV.bool p):AV)) ?_ ?_)
def xjg:LA→Option (Bool×AV):=ocOf (sCons (sAgg (sCons (sEq (pInt .i64)) (sCons (sEq (pInt .i64)) sNil))) (sCons (sEq (pInt .i64)) sNil)) fun ((a,(b,_)),(t,_))=>(true,(AV.bool (xei a b t)))
theorem xm5:OcOk Tryz.prog ITryz 62 (xjg):=xcJ fun b g c=>by
 obtain ⟨⟨d,⟨e,_⟩⟩,⟨t,_⟩⟩:=b
 obtain ⟨f,a⟩:=Prod.mk.inj c
 refine xbP (p:=xdh.pin) (xcl mxTryz (inv0Ok Tryz.prog _) rfl xkU Tryz.func62 rfl (by kernel_rfl) xkc ((Pre.get (xni _ _ _) rfl).trans ?_))
 exact congrArg some a
def xoZ:Env:=xrc.with 62 xjg
theorem xmJ:OrcOk Tryz.prog ITryz xoZ:=xpI.with xm5
def xeU:Env:=xoZ.fn 26 0 (lsOf []) (lpsOf [])
theorem xne:OrcOk Tryz.prog (ITryz.at 0) xeU:=xmJ.fn
theorem xk0:LoOk Tryz.prog (ITryz.at xeU.pin) xeU (loopAt Tryz.f28 0):=xa0 (by kernel_rfl)
def xex {T:Type} (t:Int) (d:LA) (e:Int) (b:Nat) (a:Int) (c:LA) (δ:T) (κl:(Nat×Int×LA)→T) (κr:(Nat×LA)→T):T:=br (decide (a<e)) (br (decide (0≤a)&&decide (a<d.length)) (br (decide (a.toNat<d.length)&&((d.getD a.toNat .top).cells.length==3&&hasShs [Sh.list 3,Sh.int .i64,Sh.int .i64] (d.getD a.toNat .top).cells 0)) (br (xei ((d.getD a.toNat .top).cells.getD 1 .top).toInt ((d.getD a.toNat .top).cells.getD 2 .top).toInt t) (br (b==c.length&&(decide ((b+1)*24≤140737488355328)&&decide (b+1≤4611686018427387904))) (κl (b+1,i64.wrap (a+1),c++[AV.list 3 ((d.getD a.toNat .top).cells.getD 0 .top).toList])) δ) (κl (b,i64.wrap (a+1),c))) δ) δ) (κr (b,c))
def xbU (t:Int) (d:LA) (e:Int):(Nat×Int×LA)→Option ((Nat×Int×LA)⊕(Nat×LA)):=fun (b,c,a)=>xex t d e b c a none (fun s=>some (.inl s)) (fun p=>some (.inr p))
def xd1 (t:Int) (d:LA) (e:Int):(Nat×Int×LA)→LA×List Box:=fun (b,c,a)=>([AV.int .i64 t,AV.osl 0 0 0 b,AV.list 3 d,AV.int .i64 e,AV.int .i64 c],[⟨0,1,40,a,false,true⟩])
def xdk (t:Int) (a:LA) (b:Int):(Nat×LA)→LR:=fun p=>(.leaf (.exit 0) [AV.osl 0 0 0 p.1] [⟨0,1,40,p.2,false,true⟩])
abbrev xnx (a:LA) (H:List Box):=XR Tryz.prog xeU [1,5,8,9,10] [5] [(5,1,40)] (loopAt Tryz.f28 0) a H
theorem xn3 (t:Int) (a:LA) (b:Int) (s:Nat×Int×LA):Enc (encR (xd1 t a b) (xdk t a b)) (xbU t a b s) (xnx (xd1 t a b s).1 (xd1 t a b s).2):=by
 obtain ⟨d,e,c⟩:=s
 refine eV (xex t a b d e c none (fun s=>some (encR (xd1 t a b) (xdk t a b) (.inl s))) (fun p=>some (encR (xd1 t a b) (xdk t a b) (.inr p)))) (by kernel_rfl) ?_;unfold xbU xex;repeat' first|exact eN|exact eS rfl|apply eB
def xjh:Lp:=lpOf [1,5,8,9,10] [5] [(5,1,40)] (pCons (pInt .i64) (pCons (pOsl 0 0 0) (pCons (pList 3 pAny) (pCons (pInt .i64) (pCons (pInt .i64) pNil))))) (pCons (pBox 0 1 40 false true pAny) pNil) fun (t,(b,(d,(e,(c,_))))) (a,_)=>((Iter (xbU t d e) (b,c,a)).isSome,xdk t d e ((Iter (xbU t d e) (b,c,a)).getD (0,[])))
theorem xmR:LoopOk Tryz.prog (ITryz.at xeU.pin) xeU.nt (loopAt Tryz.f28 0) xjh:=xcB fun g h j i=>by
 obtain ⟨t,⟨b,⟨c,⟨d,⟨e,_⟩⟩⟩⟩⟩:=g
 obtain ⟨a,_⟩:=h
 obtain ⟨f,rfl⟩:=Prod.mk.inj i
 exact xa3 mxTryz (inv0Ok Tryz.prog _) rfl xne xk0 (xd1 t c d) (xdk t c d) (fun p=>by simp only [xdk,LR.eval];first|(simp;done)|(repeat' split<;>simp)) (xn3 t c d) (s:=(b,e,a)) (xaq f)
def xfE:Env:=xoZ.fn 26 0 (lsOf []) (lpsOf [(3,xjh)])
theorem xng:OrcOk Tryz.prog (ITryz.at 0) xfE:=xmJ.fn
theorem xl2:LoOk Tryz.prog (ITryz.at xfE.pin) xfE (Tryz.f28.body.getD .skip):=xce (ls:=[loopAt Tryz.f28 0]) (by kernel_rfl) (lkC xmR lkN)
def xiv (l:LA) (t:Int):=(Iter (xbU t l (↑l.length:Int)) (0,0,[])).getD (0,[])
def xiu (l:LA) (t:Int):=(xiv l t).snd
def xiz (l:LA) (t:Int):=(xiv l t).fst
def xiF (l:LA) (t:Int):=xfl (List.take (xiz l t) (List.drop 0 (xiu l t)))
def xhj {T:Type} (l:LA) (t:Int) (δ:T) (κ:LA→T):T:=br ((Iter (xbU t l (↑l.length:Int)) (0,0,[])).isSome) (br (decide (0+xiz l t≤(xiu l t).length)&&true) (br ((xiF l t).isSome) (κ ((xiF l t).getD [])) δ) δ) δ
def xd5 (l:LA) (t:Int):Option (LA):=xhj l t none some
theorem xqb (l:LA) (t:Int):Enc (fun (p:LA)=>((AV.list 1 p):AV)) (xd5 l t) (XF Tryz.prog xfE Tryz.f28 (Tryz.f28.body.getD .skip) [AV.list 3 l,AV.int .i64 t]):=by
 refine eV (xhj l t none (fun (p:LA)=>some ((AV.list 1 p):AV))) (by kernel_rfl) ?_;unfold xd5 xhj;repeat' first|exact eN|exact eS rfl|apply eB
def xlJ:LA→Option (Bool×AV):=ocOf (sCons (sList 3 pAny) (sCons (sEq (pInt .i64)) sNil)) fun (l,(t,_))=>((xd5 l t).isSome,(AV.list 1 ((xd5 l t).getD [])))
theorem xp8:OcOk Tryz.prog ITryz 28 (xlJ):=xcJ fun c f e=>by
 obtain ⟨l,⟨t,_⟩⟩:=c
 obtain ⟨a,b⟩:=Prod.mk.inj e
 refine xbP (p:=xfE.pin) (xcl mxTryz (inv0Ok Tryz.prog _) rfl xng Tryz.func28 rfl (by kernel_rfl) xl2 ((xqb _ _ _ (xaq (d:=[]) a)).trans ?_))
 exact congrArg some b
def xuM:Env:=xoZ.with 28 xlJ
theorem xun:OrcOk Tryz.prog ITryz xuM:=xmJ.with xp8
abbrev xuk:Env:=xuM
theorem xtT:OrcOk Tryz.prog ITryz xuk:=xun
abbrev EKQ:Env:=xuk
theorem xui:OrcOk Tryz.prog ITryz EKQ:=xtT
end Go.Sim.M
end
noncomputable section
set_option maxRecDepth 100000
namespace Go.Sim.M
open Go.IntKind (i64 u64 u8)
open Go.RowKit Go.Proofs
def xe8:Env:=EKQ.fn 7 0 (lsOf []) (lpsOf [])
theorem xnY:OrcOk Tryz.prog (ITryz.at 0) xe8:=xui.fn
theorem xmQ:LoOk Tryz.prog (ITryz.at xe8.pin) xe8 (Tryz.f89.body.getD .skip):=xa0 (by kernel_rfl)
def xd6 (b a:Bool):Int:=(br (b) (((-1))) (br (a) ((1)) ((0))))
def xla (b a:Bool):Bool:=true
def xmU {T:Type} (b a:Bool) (δ:T) (κ:Int→T):T:=br (b) (κ ((-1))) (br (a) (κ (1)) (κ (0)))
theorem xqw (b a:Bool):Pre (xla b a) (XF Tryz.prog xe8 Tryz.f89 (Tryz.f89.body.getD .skip) [AV.bool b,AV.bool a]) (AV.int .i64 (xd6 b a)):=by
 have h:XF Tryz.prog xe8 Tryz.f89 (Tryz.f89.body.getD .skip) [AV.bool b,AV.bool a]=xmU b a none (fun (p:Int)=>some ((AV.int .i64 p):AV)):=by kernel_rfl
 rw [h];unfold xd6 xla xmU;repeat' (first|exact Pre.none|exact Pre.tt rfl|exact Pre.some rfl|refine Pre.l ?_|refine Pre.r ?_|refine Pre.br (f:=fun (p:Int)=>((AV.int .i64 p):AV)) ?_ ?_|refine Pre.brt (f:=fun (p:Int)=>((AV.int .i64 p):AV)) ?_ ?_)
def xmy:LA→Option (Bool×AV):=ocOf (sCons (sEq pBool) (sCons (sEq pBool) sNil)) fun (b,(a,_))=>(true,(AV.int .i64 (xd6 b a)))
theorem xqO:OcOk Tryz.prog ITryz 89 (xmy):=xcJ fun c g d=>by
 obtain ⟨e,⟨a,_⟩⟩:=c
 obtain ⟨f,b⟩:=Prod.mk.inj d
 refine xbP (p:=xe8.pin) (xcl mxTryz (inv0Ok Tryz.prog _) rfl xnY Tryz.func89 rfl (by kernel_rfl) xmQ ((Pre.get (xqw _ _) rfl).trans ?_))
 exact congrArg some b
def xqv:Env:=EKQ.with 89 xmy
theorem xp0:OrcOk Tryz.prog ITryz xqv:=xui.with xqO
def xdZ:Env:=xqv.fn 48 0 (lsOf []) (lpsOf [])
theorem xmi:OrcOk Tryz.prog (ITryz.at 0) xdZ:=xp0.fn
theorem xk7:LoOk Tryz.prog (ITryz.at xdZ.pin) xdZ (Tryz.f64.body.getD .skip):=xa0 (by kernel_rfl)
def xeq (a b:Int) (c:List UInt8) (d e:Int) (f:List UInt8):Int:=(br (a != d) ((xd6 (decide (a<d)) (decide (a>d)))) (br (b != e) ((xd6 (decide (b<e)) (decide (b>e)))) ((xd6 (Op.bytesLess c f) !(Op.bytesLess c f || c==f)))))
def xjn (a b:Int) (c:List UInt8) (d e:Int) (f:List UInt8):Bool:=true
def xkq {T:Type} (a b:Int) (c:List UInt8) (d e:Int) (f:List UInt8) (δ:T) (κ:Int→T):T:=br (a != d) (κ (xd6 (decide (a<d)) (decide (a>d)))) (br (b != e) (κ (xd6 (decide (b<e)) (decide (b>e)))) (κ (xd6 (Op.bytesLess c f) !(Op.bytesLess c f || c==f))))
theorem xo1 (a b:Int) (c:List UInt8) (d e:Int) (g:List UInt8):Pre (xjn a b c d e g) (XF Tryz.prog xdZ Tryz.f64 (Tryz.f64.body.getD .skip) [AV.agg [AV.int .i64 a,AV.int .i64 b,AV.str c],AV.agg [AV.int .i64 d,AV.int .i64 e,AV.str g]]) (AV.int .i64 (xeq a b c d e g)):=by
 have h:XF Tryz.prog xdZ Tryz.f64 (Tryz.f64.body.getD .skip) [AV.agg [AV.int .i64 a,AV.int .i64 b,AV.str c],AV.agg [AV.int .i64 d,AV.int .i64 e,AV.str g]]=xkq a b c d e g none (fun (p:Int)=>some ((AV.int .i64 p):AV)):=by kernel_rfl
 rw [h];unfold xeq xjn xkq;repeat' (first|exact Pre.none|exact Pre.tt rfl|exact Pre.some rfl|refine Pre.l ?_|refine Pre.r ?_|refine Pre.br (f:=fun (p:Int)=>((AV.int .i64 p):AV)) ?_ ?_|refine Pre.brt (f:=fun (p:Int)=>((AV.int .i64 p):AV)) ?_ ?_)
def xkr:LA→Option (Bool×AV):=ocOf (sCons (sAgg (sCons (sEq (pInt .i64)) (sCons (sEq (pInt .i64)) (sCons (sEq pStr) sNil)))) (sCons (sAgg (sCons (sEq (pInt .i64)) (sCons (sEq (pInt .i64)) (sCons (sEq pStr) sNil)))) sNil)) fun ((a,(b,(c,_))),((d,(e,(f,_))),_))=>(true,(AV.int .i64 (xeq a b c d e f)))
theorem xoY:OcOk Tryz.prog ITryz 64 (xkr):=xcJ fun b k c=>by
 obtain ⟨⟨d,⟨e,⟨f,_⟩⟩⟩,⟨⟨g,⟨h,⟨i,_⟩⟩⟩,_⟩⟩:=b
 obtain ⟨j,a⟩:=Prod.mk.inj c
 refine xbP (p:=xdZ.pin) (xcl mxTryz (inv0Ok Tryz.prog _) rfl xmi Tryz.func64 rfl (by kernel_rfl) xk7 ((Pre.get (xo1 _ _ _ _ _ _) rfl).trans ?_))
 exact congrArg some a
def xog:Env:=xqv.with 64 xkr
theorem xmH:OrcOk Tryz.prog ITryz xog:=xp0.with xoY
def xd2:Env:=xog.fn 41 0 (lsOf []) (lpsOf [])
theorem xmb:OrcOk Tryz.prog (ITryz.at 0) xd2:=xmH.fn
theorem xke:LoOk Tryz.prog (ITryz.at xd2.pin) xd2 (loopAt Tryz.f30 0):=xa0 (by kernel_rfl)
def xde (a b:LA) (i:Int):=xeq ((a.getD i.toNat .top).cells.getD 0 .top).toInt ((a.getD i.toNat .top).cells.getD 1 .top).toInt ((a.getD i.toNat .top).cells.getD 2 .top).toStr ((b.getD i.toNat .top).cells.getD 0 .top).toInt ((b.getD i.toNat .top).cells.getD 1 .top).toInt ((b.getD i.toNat .top).cells.getD 2 .top).toStr
def xcO {T:Type} (a b:LA) (i:Int) (δ:T) (κl:(Int)→T) (κr:(Bool×(Int)×(Unit))→T):T:=br (decide (i<a.length)) (br (decide (i<b.length)) (br (decide (0≤i)&&decide (i<a.length)) (br (decide (i.toNat<a.length)&&((a.getD i.toNat .top).cells.length==3&&hasShs [Sh.int .i64,Sh.int .i64,Sh.str] (a.getD i.toNat .top).cells 0)) (br (decide (0≤i)&&decide (i<b.length)) (br (decide (i.toNat<b.length)&&((b.getD i.toNat .top).cells.length==3&&hasShs [Sh.int .i64,Sh.int .i64,Sh.str] (b.getD i.toNat .top).cells 0)) (br (xde a b i != 0) (κr (true,(xde a b i),())) (κl (i64.wrap (i+1)))) δ) δ) δ) δ) (κr (false,0,()))) (κr (false,0,()))
def xaY (a b:LA):(Int)→Option ((Int)⊕(Bool×(Int)×(Unit))):=fun (i)=>xcO a b i none (fun s=>some (.inl s)) (fun p=>some (.inr p))
def xdi (a b:LA):(Int)→LA×List Box:=fun (i)=>([AV.list 3 a,AV.list 3 b,AV.int .i64 i],[])
def xcU (a b:LA):(Bool×(Int)×(Unit))→LR:=fun p=>(.node p.1 (.leaf .ret [AV.list 3 a,AV.list 3 b,AV.int .i64 p.2.1] []) (.leaf (.exit 0) [AV.list 3 a,AV.list 3 b,.top] []))
abbrev xmq (a:LA) (H:List Box):=XR Tryz.prog xd2 [0,1,5] [0,1,4] [] (loopAt Tryz.f30 0) a H
theorem xmP (a b:LA) (i:Int):Enc (encR (xdi a b) (xcU a b)) (xaY a b i) (xmq (xdi a b i).1 (xdi a b i).2):=by
 refine eV (xcO a b i none (fun s=>some (encR (xdi a b) (xcU a b) (.inl s))) (fun p=>some (encR (xdi a b) (xcU a b) (.inr p)))) (by kernel_rfl) ?_;unfold xaY xcO;repeat' first|exact eN|exact eS rfl|apply eB
def xir:Lp:=lpOf [0,1,5] [0,1,4] [] (pCons (pList 3 pAny) (pCons (pList 3 pAny) (pCons (pInt .i64) pNil))) pNil fun (a,(b,(i,_))) _=>((Iter (xaY a b) (i)).isSome,xcU a b ((Iter (xaY a b) (i)).getD (false,0,())))
theorem xlq:LoopOk Tryz.prog (ITryz.at xd2.pin) xd2.nt (loopAt Tryz.f30 0) xir:=xcB fun d f g e=>by
 obtain ⟨a,⟨b,⟨i,_⟩⟩⟩:=d
 obtain ⟨c,rfl⟩:=Prod.mk.inj e
 exact xa3 mxTryz (inv0Ok Tryz.prog _) rfl xmb xke (xdi a b) (xcU a b) (fun p=>by simp only [xcU,LR.eval];first|(simp;done)|(repeat' split<;>simp)) (xmP a b) (s:=(i)) (xaq c)
def xeZ:Env:=xog.fn 41 0 (lsOf []) (lpsOf [(2,xir)])
theorem xmf:OrcOk Tryz.prog (ITryz.at 0) xeZ:=xmH.fn
theorem xkx:LoOk Tryz.prog (ITryz.at xeZ.pin) xeZ (Tryz.f30.body.getD .skip):=xce (ls:=[loopAt Tryz.f30 0]) (by kernel_rfl) (lkC xlq lkN)
def xge {T:Type} (a b:LA) (δ:T) (κ:Int→T):T:=br ((Iter (xaY a b) 0).isSome) (br (((Iter (xaY a b) 0).getD (false,0,())).fst) (κ (((Iter (xaY a b) 0).getD (false,0,())).snd.fst)) (br (decide ((↑a.length:Int)<(↑b.length:Int))) (κ ((-1))) (br (decide ((↑a.length:Int)>(↑b.length:Int))) (κ (1)) (κ (0))))) δ
def xdI (a b:LA):Option (Int):=xge a b none some
theorem xou (a b:LA):Enc (fun (p:Int)=>((AV.int .i64 p):AV)) (xdI a b) (XF Tryz.prog xeZ Tryz.f30 (Tryz.f30.body.getD .skip) [AV.list 3 a,AV.list 3 b]):=by
 refine eV (xge a b none (fun (p:Int)=>some ((AV.int .i64 p):AV))) (by kernel_rfl) ?_;unfold xdI xge;repeat' first|exact eN|exact eS rfl|apply eB
def xks:LA→Option (Bool×AV):=ocOf (sCons (sList 3 pAny) (sCons (sList 3 pAny) sNil)) fun (a,(b,_))=>((xdI a b).isSome,(AV.int .i64 ((xdI a b).getD 0)))
theorem xoM:OcOk Tryz.prog ITryz 30 (xks):=xcJ fun f h g=>by
 obtain ⟨a,⟨b,_⟩⟩:=f
 obtain ⟨c,e⟩:=Prod.mk.inj g
 refine xbP (p:=xeZ.pin) (xcl mxTryz (inv0Ok Tryz.prog _) rfl xmf Tryz.func30 rfl (by kernel_rfl) xkx ((xou _ _ _ (xaq (d:=0) c)).trans ?_))
 exact congrArg some e
def xq9:Env:=xog.with 30 xks
theorem xpx:OrcOk Tryz.prog ITryz xq9:=xmH.with xoM
def xfA:Env:=xq9.fn 9 0 (lsOf []) (lpsOf [])
theorem xm7:OrcOk Tryz.prog (ITryz.at 0) xfA:=xpx.fn
theorem xmh:LoOk Tryz.prog (ITryz.at xfA.pin) xfA (Tryz.f61.body.getD .skip):=xa0 (by kernel_rfl)
def xhk {T:Type} (a b:LA) (δ:T) (κ:Bool→T):T:=br ((xdI a b).isSome) (κ ((xdI a b).getD 0==0)) δ
def xeM (a b:LA):Option (Bool):=xhk a b none some
theorem xqe (a b:LA):Enc (fun (p:Bool)=>((AV.bool p):AV)) (xeM a b) (XF Tryz.prog xfA Tryz.f61 (Tryz.f61.body.getD .skip) [AV.list 3 a,AV.list 3 b]):=by
 refine eV (xhk a b none (fun (p:Bool)=>some ((AV.bool p):AV))) (by kernel_rfl) ?_;unfold xeM xhk;repeat' first|exact eN|exact eS rfl|apply eB
def xlQ:LA→Option (Bool×AV):=ocOf (sCons (sList 3 pAny) (sCons (sList 3 pAny) sNil)) fun (a,(b,_))=>((xeM a b).isSome,(AV.bool ((xeM a b).getD false)))
theorem xql:OcOk Tryz.prog ITryz 61 (xlQ):=xcJ fun f h g=>by
 obtain ⟨a,⟨b,_⟩⟩:=f
 obtain ⟨c,e⟩:=Prod.mk.inj g
 refine xbP (p:=xfA.pin) (xcl mxTryz (inv0Ok Tryz.prog _) rfl xm7 Tryz.func61 rfl (by kernel_rfl) xmh ((xqe _ _ _ (xaq (d:=false) c)).trans ?_))
 exact congrArg some e
def xu3:Env:=xq9.with 61 xlQ
theorem xu9:OrcOk Tryz.prog ITryz xu3:=xpx.with xql
abbrev xut:Env:=xu3
theorem xuu:OrcOk Tryz.prog ITryz xut:=xu9
abbrev xvz:Env:=xut
theorem xvh:OrcOk Tryz.prog ITryz xvz:=xuu
abbrev xtO:Env:=xvz
theorem xtI:OrcOk Tryz.prog ITryz xtO:=xvh
abbrev xuQ:Env:=xtO
theorem xud:OrcOk Tryz.prog ITryz xuQ:=xtI
abbrev xvf:Env:=xuQ
theorem xva:OrcOk Tryz.prog ITryz xvf:=xud
abbrev xsh:Env:=xvf
theorem xtk:OrcOk Tryz.prog ITryz xsh:=xva
abbrev xr4:Env:=xsh
theorem xsR:OrcOk Tryz.prog ITryz xr4:=xtk
abbrev xsc:Env:=xr4
theorem xsF:OrcOk Tryz.prog ITryz xsc:=xsR
abbrev xsk:Env:=xsc
theorem xsC:OrcOk Tryz.prog ITryz xsk:=xsF
abbrev xse:Env:=xsk
theorem xs6:OrcOk Tryz.prog ITryz xse:=xsC
abbrev xsr:Env:=xse
theorem xto:OrcOk Tryz.prog ITryz xsr:=xs6
abbrev xsd:Env:=xsr
theorem xsQ:OrcOk Tryz.prog ITryz xsd:=xto
abbrev xr8:Env:=xsd
theorem xsA:OrcOk Tryz.prog ITryz xr8:=xsQ
abbrev xrx:Env:=xr8
theorem xts:OrcOk Tryz.prog ITryz xrx:=xsA
abbrev xr3:Env:=xrx
theorem xsS:OrcOk Tryz.prog ITryz xr3:=xts
abbrev xss:Env:=xr3
theorem xtj:OrcOk Tryz.prog ITryz xss:=xsS
abbrev xr1:Env:=xss
theorem xtn:OrcOk Tryz.prog ITryz xr1:=xtj
abbrev xsu:Env:=xr1
theorem xtf:OrcOk Tryz.prog ITryz xsu:=xtn
abbrev EKR1:Env:=xsu
theorem xy3:OrcOk Tryz.prog ITryz EKR1:=xtf
end Go.Sim.M
end
noncomputable section
set_option maxRecDepth 100000
namespace Go.Sim.M
open Go.IntKind (i64 u64 u8)
open Go.RowKit Go.Proofs
abbrev xyp:Env:=EKR1
theorem xwc:OrcOk Tryz.prog ITryz xyp:=xy3
abbrev EKJ:Env:=xyp
theorem xzp:OrcOk Tryz.prog ITryz EKJ:=xwc
end Go.Sim.M
end
noncomputable section
set_option maxRecDepth 100000
namespace Go.Sim.M
open Go.IntKind (i64 u64 u8)
open Go.RowKit Go.Proofs
abbrev xuz:Env:=EKJ
theorem xvD:OrcOk Tryz.prog ITryz xuz:=xzp
abbrev xt1:Env:=xuz
theorem xuN:OrcOk Tryz.prog ITryz xt1:=xvD
abbrev xua:Env:=xt1
theorem xuj:OrcOk Tryz.prog ITryz xua:=xuN
abbrev xuC:Env:=xua
theorem xt3:OrcOk Tryz.prog ITryz xuC:=xuj
abbrev xvb:Env:=xuC
theorem xvG:OrcOk Tryz.prog ITryz xvb:=xt3
abbrev xuq:Env:=xvb
theorem xuF:OrcOk Tryz.prog ITryz xuq:=xvG
abbrev xtG:Env:=xuq
theorem xuv:OrcOk Tryz.prog ITryz xtG:=xuF
abbrev xus:Env:=xtG
theorem xuK:OrcOk Tryz.prog ITryz xus:=xuv
abbrev xuJ:Env:=xus
theorem xvq:OrcOk Tryz.prog ITryz xuJ:=xuK
abbrev EKR2:Env:=xuJ
theorem xyG:OrcOk Tryz.prog ITryz EKR2:=xvq
end Go.Sim.M
end
noncomputable section
set_option maxRecDepth 100000
namespace Go.Sim.M
open Go.IntKind (i64 u64 u8)
open Go.RowKit Go.Proofs
abbrev xtY:Env:=EKR2
theorem xtL:OrcOk Tryz.prog ITryz xtY:=xyG
abbrev xue:Env:=xtY
theorem xuZ:OrcOk Tryz.prog ITryz xue:=xtL
abbrev xuf:Env:=xue
theorem xtK:OrcOk Tryz.prog ITryz xuf:=xuZ
abbrev xtM:Env:=xuf
theorem xtJ:OrcOk Tryz.prog ITryz xtM:=xtK
abbrev xtZ:Env:=xtM
theorem xvi:OrcOk Tryz.prog ITryz xtZ:=xtJ
abbrev xu2:Env:=xtZ
theorem xtN:OrcOk Tryz.prog ITryz xu2:=xvi
abbrev xoh:Env:=xu2
theorem xmT:OrcOk Tryz.prog ITryz xoh:=xtN
def xdG:Env:=xoh.fn 27 0 (lsOf []) (lpsOf [])
theorem xlk:OrcOk Tryz.prog (ITryz.at 0) xdG:=xmT.fn
theorem xj3:LoOk Tryz.prog (ITryz.at xdG.pin) xdG (loopAt Tryz.f27 0):=xa0 (by kernel_rfl)
def xdS {T:Type} (a b:LA) (i:Int) (δ:T) (κl:(Int)→T) (κr:(Bool×(Bool)×(Unit))→T):T:=br (decide (i<a.length)) (br (decide (0≤i)&&decide (i<a.length)) (br (decide (i.toNat<a.length)&&hasSh1 (Sh.list 3) ((a.getD i.toNat .top).cells.getD 0 .top)) (br (decide (0≤i)&&decide (i<b.length)) (br (decide (i.toNat<b.length)&&hasSh1 (Sh.list 3) ((b.getD i.toNat .top).cells.getD 0 .top)) (br ((xeM ((a.getD i.toNat .top).cells.getD 0 .top).toList ((b.getD i.toNat .top).cells.getD 0 .top).toList).isSome) (br (!(xeM ((a.getD i.toNat .top).cells.getD 0 .top).toList ((b.getD i.toNat .top).cells.getD 0 .top).toList).getD false) (κr (true,(false),())) (κl (i64.wrap (i+1)))) δ) δ) δ) δ) δ) (κr (false,false,()))
def xa9 (a b:LA):(Int)→Option ((Int)⊕(Bool×(Bool)×(Unit))):=fun (i)=>xdS a b i none (fun s=>some (.inl s)) (fun p=>some (.inr p))
def xdd (a b:LA):(Int)→LA×List Box:=fun (i)=>([AV.list 1 a,AV.list 1 b,AV.int .i64 i],[])
def xcG (a b:LA):(Bool×(Bool)×(Unit))→LR:=fun p=>(.node p.1 (.leaf .ret [AV.bool p.2.1] []) (.leaf (.exit 0) [.top] []))
abbrev xl9 (a:LA) (H:List Box):=XR Tryz.prog xdG [0,1,5] [4] [] (loopAt Tryz.f27 0) a H
theorem xmd (a b:LA) (i:Int):Enc (encR (xdd a b) (xcG a b)) (xa9 a b i) (xl9 (xdd a b i).1 (xdd a b i).2):=by
 refine eV (xdS a b i none (fun s=>some (encR (xdd a b) (xcG a b) (.inl s))) (fun p=>some (encR (xdd a b) (xcG a b) (.inr p)))) (by kernel_rfl) ?_;unfold xa9 xdS;repeat' first|exact eN|exact eS rfl|apply eB
def xh1:Lp:=lpOf [0,1,5] [4] [] (pCons (pList 1 pAny) (pCons (pList 1 pAny) (pCons (pInt .i64) pNil))) pNil fun (a,(b,(i,_))) _=>((Iter (xa9 a b) (i)).isSome,xcG a b ((Iter (xa9 a b) (i)).getD (false,false,())))
theorem xk4:LoopOk Tryz.prog (ITryz.at xdG.pin) xdG.nt (loopAt Tryz.f27 0) xh1:=xcB fun d f g e=>by
 obtain ⟨a,⟨b,⟨i,_⟩⟩⟩:=d
 obtain ⟨c,rfl⟩:=Prod.mk.inj e
 exact xa3 mxTryz (inv0Ok Tryz.prog _) rfl xlk xj3 (xdd a b) (xcG a b) (fun p=>by simp only [xcG,LR.eval];first|(simp;done)|(repeat' split<;>simp)) (xmd a b) (s:=(i)) (xaq c)
def xer:Env:=xoh.fn 27 0 (lsOf []) (lpsOf [(4,xh1)])
theorem xly:OrcOk Tryz.prog (ITryz.at 0) xer:=xmT.fn
theorem xkA:LoOk Tryz.prog (ITryz.at xer.pin) xer (Tryz.f27.body.getD .skip):=xce (ls:=[loopAt Tryz.f27 0]) (by kernel_rfl) (lkC xk4 lkN)
def xfW {T:Type} (a b:LA) (δ:T) (κ:Bool→T):T:=br ((↑a.length:Int) != (↑b.length:Int)) (κ (false)) (br ((Iter (xa9 a b) 0).isSome) (br (((Iter (xa9 a b) 0).getD (false,false,())).fst) (κ (((Iter (xa9 a b) 0).getD (false,false,())).snd.fst)) (κ (true))) δ)
def xdY (a b:LA):Option (Bool):=xfW a b none some
theorem xnO (a b:LA):Enc (fun (p:Bool)=>((AV.bool p):AV)) (xdY a b) (XF Tryz.prog xer Tryz.f27 (Tryz.f27.body.getD .skip) [AV.list 1 a,AV.list 1 b]):=by
 refine eV (xfW a b none (fun (p:Bool)=>some ((AV.bool p):AV))) (by kernel_rfl) ?_;unfold xdY xfW;repeat' first|exact eN|exact eS rfl|apply eB
def xj7:LA→Option (Bool×AV):=ocOf (sCons (sList 1 pAny) (sCons (sList 1 pAny) sNil)) fun (a,(b,_))=>((xdY a b).isSome,(AV.bool ((xdY a b).getD false)))
theorem xod:OcOk Tryz.prog ITryz 27 (xj7):=xcJ fun f h g=>by
 obtain ⟨a,⟨b,_⟩⟩:=f
 obtain ⟨c,e⟩:=Prod.mk.inj g
 refine xbP (p:=xer.pin) (xcl mxTryz (inv0Ok Tryz.prog _) rfl xly Tryz.func27 rfl (by kernel_rfl) xkA ((xnO _ _ _ (xaq (d:=false) c)).trans ?_))
 exact congrArg some e
def xuS:Env:=xoh.with 27 xj7
theorem xuY:OrcOk Tryz.prog ITryz xuS:=xmT.with xod
abbrev xt6:Env:=xuS
theorem xvB:OrcOk Tryz.prog ITryz xt6:=xuY
abbrev xr9:Env:=xt6
theorem xsD:OrcOk Tryz.prog ITryz xr9:=xvB
abbrev EKR3:Env:=xr9
theorem xyI:OrcOk Tryz.prog ITryz EKR3:=xsD
end Go.Sim.M
end
noncomputable section
set_option maxRecDepth 100000
namespace Go.Sim
def stepX (P:Program) (E:Env) (live liveO:List Nat) (conv:List (Nat×Nat×TypeId)) (c:Code) (s:List AV×List Box):Option ((List AV×List Box)⊕{r:Exit×List AV×List Box // r.1≠.normal}) :=
 match XR P E live liveO conv c s.1 s.2 with
 | some (.normal,v,H)=>some (.inl (v,H))
 | some (.exit i,v,H)=>some (.inr ⟨(.exit i,v,H),by simp⟩)
 | some (.ret,v,H)=>some (.inr ⟨(.ret,v,H),by simp⟩)
 | _=>none
def closedLp (P:Program) (E:Env) (live liveO:List Nat) (conv:List (Nat×Nat×TypeId)) (c:Code) (n:Nat):Lp:=⟨live,liveO,conv,fun vals H =>
 match iterN (stepX P E live liveO conv c) n (vals,H) with
 | some r=>some (true,.leaf r.1.1 r.1.2.1 r.1.2.2)
 | none=>none⟩
theorem xrB {P:Program} {Inv:IV} {E:Env} (hmx:P.follows .mixedOrders=true) (hIo:InvOk Inv) (hpin:Inv.pin=E.pin) (hor:OrcOk P Inv E) {c:Code} (hlo:LoOk P Inv E c) {live liveO:List Nat} {conv:List (Nat×Nat×TypeId)} {n:Nat} :
  LoopOk P Inv E.nt c (closedLp P E live liveO conv c n):=fun vals H r h=>by
 simp only [closedLp] at h
 split at h
 case h_2=>simp at h
 rename_i r0 hr
 simp only [Option.some.injEq,Prod.mk.injEq,true_and] at h
 subst h
 exact xa3 hmx hIo hpin hor hlo (σ:=List AV×List Box) (ρ:={r:Exit×List AV×List Box // r.1≠.normal}) (step:=stepX P E live liveO conv c) (fun s=>s) (fun r=>.leaf r.1.1 r.1.2.1 r.1.2.2) (fun r=>r.2)
  (fun s r hs=>by
   unfold stepX at hs
   split at hs<;>simp only [Option.some.injEq,reduceCtorEq] at hs
   all_goals (subst hs;rename_i hx;exact hx)) (s:=(vals,H)) (r:=r0) (xiJ.2 ⟨n,hr⟩)
end Go.Sim
namespace Go.Sim.M
open Go.RowKit Go.Proofs
def mmA (g:FuncId):Bool:=([115,117,
 129,154,167,
 95,128,146,
 69,94,120,
 53,82,100,55,
 92,119,141,
 112,137,157,
 97,68,90,78]:List Nat).contains g
noncomputable def EA0:Env:={ E0 with ls:=lsOf [40,42,83],fuel:=1000 }
theorem xvE:OrcOk Tryz.prog ITryz EA0:=xyy
noncomputable def EAr:Env:={ Env.deep Tryz.prog mmA EA0 10 with pin:=0,nt:=60,ls:=lsOf [] }
theorem xux:OrcOk Tryz.prog (ITryz.at 0) EAr:=xjy mxTryz mmA (inv0Ok Tryz.prog 0) xvE (fun _=>rfl) 10
noncomputable def xuP:Lp:=closedLp Tryz.prog EAr [3,4,11,12,13] [4] [(4,2,133280301139)] (loopAt Tryz.f67 0) 100
noncomputable def EAr1:Env:={ EAr with lp:=lpsOf [(codeId (loopAt Tryz.f67 0),xuP)] }
theorem xzh:OrcOk Tryz.prog (ITryz.at 0) EAr1:=xux
noncomputable def xo9:List AV→Option (Bool×AV):=fun xs=>match XF Tryz.prog EAr1 Tryz.f67 (Tryz.f67.body.getD .skip) xs with
 | some r=>some (true,r)
 | none=>none
theorem xyC:OcOk Tryz.prog ITryz 67 xo9:=fun xs r h=>by
 unfold xo9 at h
 split at h
 case h_2=>simp at h
 rename_i r0 hr
 simp only [Option.some.injEq,Prod.mk.injEq,true_and] at h
 subst h
 refine xbP (p:=0) (xcl mxTryz (inv0Ok Tryz.prog _) rfl xzh Tryz.func67 rfl (by kernel_rfl) (xce (ls:=[loopAt Tryz.f67 0]) (by kernel_rfl) (fun l hl lp hs=>?_)) hr)
 simp only [List.mem_cons,List.not_mem_nil,or_false] at hl
 subst hl
 rw [show EAr1.lp (codeId (loopAt Tryz.f67 0))=some xuP by kernel_rfl] at hs
 simp only [Option.some.injEq] at hs
 subst hs
 exact xrB (E:=EAr) mxTryz (inv0Ok Tryz.prog _) rfl xux (xiU fun _=>rfl)
noncomputable def EAs:Env:=EA0.with 67 xo9
theorem xvj:OrcOk Tryz.prog ITryz EAs:=xvE.with xyC
noncomputable def EAd:Env:={ Env.deep Tryz.prog mmA EAs 14 with pin:=0 }
mutual
def eqV:AV→AV→Bool
 | .int k a,.int k' b=>decide (k=k')&&decide (a=b)
 | .bool a,.bool b=>a==b
 | .str a,.str b=>decide (a=b)
 | .list n a,.list m b=>Nat.beq n m&&eqVs a b
 | .agg a,.agg b=>eqVs a b
 | _,_=>false
def eqVs:List AV→List AV→Bool
 | [],[]=>true
 | a::l,b::m=>eqV a b&&eqVs l m
 | _,_=>false
end
mutual
theorem xzB:∀ (a b:AV),eqV a b=true→a=b:=fun a b h=>by
 cases a<;>cases b<;>first|(simp [eqV] at h;done)|skip
 all_goals simp only [eqV,Bool.and_eq_true,decide_eq_true_eq,beq_iff_eq] at h
 all_goals first|(rw [h.1,h.2];done)|(rw [h];done)|(rw [Nat.eq_of_beq_eq_true h.1,xm0 _ _ h.2];done)|(rw [xm0 _ _ h])
theorem xm0:∀ (a b:List AV),eqVs a b=true→a=b
 | [],[],_=>rfl
 | a::l,b::m,h=>by simp only [eqVs,Bool.and_eq_true] at h;rw [xzB a b h.1,xm0 l m h.2]
 | [],_::_,h=>by simp [eqVs] at h
 | _::_,[],h=>by simp [eqVs] at h
end
def ptO (args:List AV) (r:AV):List AV→Option (Bool×AV):=fun xs=>match eqVs xs args with
 | true=>some (true,r)
 | false=>none
theorem xqo {P:Program} {Inv:IV} {f:FuncId} {args:List AV} {r:AV} (h:Good P Inv f args r):OcOk P Inv f (ptO args r):=fun xs r0 h0=>by
 unfold ptO at h0
 split at h0
 case h_2=>simp at h0
 rename_i he
 simp only [Option.some.injEq,Prod.mk.injEq,true_and] at h0
 subst h0
 rw [xm0 _ _ he];exact h
theorem xkt {f:FuncId} {fn:Func} {args:List AV} {r:AV} (hf:Tryz.prog.funcs[f]?=some fn) (hb:fn.body.isSome=true) (hname:(fn.name == "runtime.NumGoroutine")=false) (h:XF Tryz.prog EAd fn (fn.body.getD .skip) args=some r):Good Tryz.prog ITryz f args r :=
 xbP (p:=0) (xcl mxTryz (inv0Ok Tryz.prog _) rfl (xkl (xjy mxTryz mmA (inv0Ok Tryz.prog 0) xvj (fun _=>rfl) 14)) hf hb hname (xiU fun _=>rfl) h)
def fcA (a b:Int):AV:=.agg [.list 3 [.agg [.int .i64 1,.int .i64 1,.str []]],.int .i64 a,.int .i64 b]
def lA:AV:=.list 3 [fcA 0 5,fcA 5 8,fcA 2 3]
set_option maxRecDepth 100000 in
theorem xzv:XF Tryz.prog EAd Tryz.f14 (Tryz.f14.body.getD .skip) [lA]=some (.list 3 [fcA 0 8,fcA 2 3]):=by kernel_rfl
theorem xzn:XF Tryz.prog EAd Tryz.f16 (Tryz.f16.body.getD .skip) [lA]=some (.list 3 [fcA 0 8]):=by kernel_rfl
theorem xzw:OcOk Tryz.prog ITryz 14 (ptO [lA] (.list 3 [fcA 0 8,fcA 2 3])):=xqo (xkt Tryz.func14 rfl (by kernel_rfl) xzv)
theorem xzH:OcOk Tryz.prog ITryz 16 (ptO [lA] (.list 3 [fcA 0 8])):=xqo (xkt Tryz.func16 rfl (by kernel_rfl) xzn)
def resA:AV:=.list 3 [fcA 2 5,fcA 5 6,fcA 2 3]
theorem xzD:XF Tryz.prog EAd Tryz.f14 (Tryz.f14.body.getD .skip) [resA]=some (.list 3 [fcA 2 3,fcA 2 6]):=by kernel_rfl
theorem xzE:OcOk Tryz.prog ITryz 14 (ptO [resA] (.list 3 [fcA 2 3,fcA 2 6])):=xqo (xkt Tryz.func14 rfl (by kernel_rfl) xzD)
theorem xzs:XF Tryz.prog EAd Tryz.f21 (Tryz.f21.body.getD .skip) [lA]=some (.list 1 [.int .i64 0,.int .i64 2,.int .i64 3,.int .i64 5,.int .i64 8]):=by kernel_rfl
theorem xzr:OcOk Tryz.prog ITryz 21 (ptO [lA] (.list 1 [.int .i64 0,.int .i64 2,.int .i64 3,.int .i64 5,.int .i64 8])):=xqo (xkt Tryz.func21 rfl (by kernel_rfl) xzs)
noncomputable def EAt:Env:=(((EAs.with 14 (ptO [lA] (.list 3 [fcA 0 8,fcA 2 3]))).with 14 (ptO [resA] (.list 3 [fcA 2 3,fcA 2 6]))).with 16 (ptO [lA] (.list 3 [fcA 0 8]))).with 21 (ptO [lA] (.list 1 [.int .i64 0,.int .i64 2,.int .i64 3,.int .i64 5,.int .i64 8]))
theorem xzo:OrcOk Tryz.prog ITryz EAt:=(((xvj.with xzw).with xzE).with xzH).with xzr
noncomputable def EAe:Env:={ Env.deep Tryz.prog mmA EAt 14 with pin:=0 }
theorem xyX:XF Tryz.prog EAe Tryz.f12 (Tryz.f12.body.getD .skip) []=some (.bool true):=by kernel_rfl
def xpe:List AV→Option (Bool×AV)
 | []=>some (true,.bool true)
 | _=>none
theorem xy9:OcOk Tryz.prog ITryz 12 xpe:=fun xs r h=>by
 unfold xpe at h;split at h
 · simp only [Option.some.injEq,Prod.mk.injEq,true_and] at h;subst h
   have hd:=xjy mxTryz mmA (inv0Ok Tryz.prog 0) xzo (fun _=>rfl) 14
   exact xbP (p:=0) (xcl mxTryz (inv0Ok Tryz.prog _) rfl (xkl hd) Tryz.func12 rfl (by kernel_rfl) (xiU fun _=>rfl) xyX)
 · simp at h
end Go.Sim.M
end
noncomputable section
namespace Go.Sim.M
open Go.IntKind (i64 u64 u8)
open Go.RowKit Go.Proofs
def EKA:Env:=EKR3.with 12 xpe
theorem xqA:OrcOk Tryz.prog ITryz EKA:=xyI.with xy9
end Go.Sim.M
end
noncomputable section
set_option maxRecDepth 100000
namespace Go.Sim.M
open Go.IntKind (i64 u64 u8)
open Go.RowKit Go.Proofs
def xfG:Env:=EKA.fn 23 0 (lsOf []) (lpsOf [])
theorem xor:OrcOk Tryz.prog (ITryz.at 0) xfG:=xqA.fn
theorem xma:LoOk Tryz.prog (ITryz.at xfG.pin) xfG (loopAt Tryz.f40 0):=xa0 (by kernel_rfl)
def xfB {T:Type} (l:LA) (i:Int) (δ:T) (κl:(Int)→T) (κr:(Bool×(Bool)×(Unit))→T):T:=br (decide (i<l.length)) (br (decide (0≤i)&&decide (i<l.length)) (br (decide (i.toNat<l.length)&&hasSh1 (Sh.list 3) ((l.getD i.toNat .top).cells.getD 0 .top)) (br (decide ((↑((l.getD i.toNat .top).cells.getD 0 .top).toList.length:Int)>60)) (κr (true,(false),())) (κl (i64.wrap (i+1)))) δ) δ) (κr (false,false,()))
def xbC (l:LA):(Int)→Option ((Int)⊕(Bool×(Bool)×(Unit))):=fun (i)=>xfB l i none (fun s=>some (.inl s)) (fun p=>some (.inr p))
def xeS (l:LA):(Int)→LA×List Box:=fun (i)=>([AV.list 3 l,AV.int .i64 i],[])
def xd4 (l:LA):(Bool×(Bool)×(Unit))→LR:=fun p=>(.node p.1 (.leaf .ret [AV.bool p.2.1] []) (.leaf (.exit 0) [.top] []))
abbrev xpb (a:LA) (H:List Box):=XR Tryz.prog xfG [0,5] [4] [] (loopAt Tryz.f40 0) a H
theorem xpt (l:LA) (i:Int):Enc (encR (xeS l) (xd4 l)) (xbC l i) (xpb (xeS l i).1 (xeS l i).2):=by
 refine eV (xfB l i none (fun s=>some (encR (xeS l) (xd4 l) (.inl s))) (fun p=>some (encR (xeS l) (xd4 l) (.inr p)))) (by kernel_rfl) ?_;unfold xbC xfB;repeat' first|exact eN|exact eS rfl|apply eB
def xkn:Lp:=lpOf [0,5] [4] [] (pCons (pList 3 pAny) (pCons (pInt .i64) pNil)) pNil fun (l,(i,_)) _=>((Iter (xbC l) (i)).isSome,xd4 l ((Iter (xbC l) (i)).getD (false,false,())))
theorem xnT:LoopOk Tryz.prog (ITryz.at xfG.pin) xfG.nt (loopAt Tryz.f40 0) xkn:=xcB fun b d e c=>by
 obtain ⟨l,⟨i,_⟩⟩:=b
 obtain ⟨a,rfl⟩:=Prod.mk.inj c
 exact xa3 mxTryz (inv0Ok Tryz.prog _) rfl xor xma (xeS l) (xd4 l) (fun p=>by simp only [xd4,LR.eval];first|(simp;done)|(repeat' split<;>simp)) (xpt l) (s:=(i)) (xaq a)
def xgj:Env:=EKA.fn 23 0 (lsOf []) (lpsOf [(4,xkn)])
theorem xoE:OrcOk Tryz.prog (ITryz.at 0) xgj:=xqA.fn
theorem xna:LoOk Tryz.prog (ITryz.at xgj.pin) xgj (Tryz.f40.body.getD .skip):=xce (ls:=[loopAt Tryz.f40 0]) (by kernel_rfl) (lkC xnT lkN)
def xiO {T:Type} (l:LA) (a:Int) (δ:T) (κ:Bool→T):T:=br (decide ((↑l.length:Int)>a)) (κ (false)) (br ((Iter (xbC l) 0).isSome) (br (((Iter (xbC l) 0).getD (false,false,())).fst) (κ (((Iter (xbC l) 0).getD (false,false,())).snd.fst)) (κ (true))) δ)
def xfO (l:LA) (a:Int):Option (Bool):=xiO l a none some
theorem xrC (l:LA) (a:Int):Enc (fun (p:Bool)=>((AV.bool p):AV)) (xfO l a) (XF Tryz.prog xgj Tryz.f40 (Tryz.f40.body.getD .skip) [AV.list 3 l,AV.int .i64 a]):=by
 refine eV (xiO l a none (fun (p:Bool)=>some ((AV.bool p):AV))) (by kernel_rfl) ?_;unfold xfO xiO;repeat' first|exact eN|exact eS rfl|apply eB
def xns:LA→Option (Bool×AV):=ocOf (sCons (sList 3 pAny) (sCons (sEq (pInt .i64)) sNil)) fun (l,(a,_))=>((xfO l a).isSome,(AV.bool ((xfO l a).getD false)))
theorem xrA:OcOk Tryz.prog ITryz 40 (xns):=xcJ fun c g e=>by
 obtain ⟨l,⟨f,_⟩⟩:=c
 obtain ⟨a,b⟩:=Prod.mk.inj e
 refine xbP (p:=xgj.pin) (xcl mxTryz (inv0Ok Tryz.prog _) rfl xoE Tryz.func40 rfl (by kernel_rfl) xna ((xrC _ _ _ (xaq (d:=false) a)).trans ?_))
 exact congrArg some b
def xtg:Env:=EKA.with 40 xns
theorem xqS:OrcOk Tryz.prog ITryz xtg:=xqA.with xrA
def xgp:Env:=xtg.fn 5 0 (lsOf []) (lpsOf [])
theorem xoG:OrcOk Tryz.prog (ITryz.at 0) xgp:=xqS.fn
theorem xnc:LoOk Tryz.prog (ITryz.at xgp.pin) xgp (Tryz.f11.body.getD .skip):=xa0 (by kernel_rfl)
def xiL {T:Type} (l:LA) (δ:T) (κ:Bool→T):T:=br ((xfO l 24).isSome) (κ ((xfO l 24).getD false)) δ
def xfN (l:LA):Option (Bool):=xiL l none some
theorem xrU (l:LA):Enc (fun (p:Bool)=>((AV.bool p):AV)) (xfN l) (XF Tryz.prog xgp Tryz.f11 (Tryz.f11.body.getD .skip) [AV.list 3 l]):=by
 refine eV (xiL l none (fun (p:Bool)=>some ((AV.bool p):AV))) (by kernel_rfl) ?_;unfold xfN xiL;repeat' first|exact eN|exact eS rfl|apply eB
def xnk:LA→Option (Bool×AV):=ocOf (sCons (sList 3 pAny) sNil) fun (l,_)=>((xfN l).isSome,(AV.bool ((xfN l).getD false)))
theorem xrJ:OcOk Tryz.prog ITryz 11 (xnk):=xcJ fun c f e=>by
 obtain ⟨l,_⟩:=c
 obtain ⟨a,b⟩:=Prod.mk.inj e
 refine xbP (p:=xgp.pin) (xcl mxTryz (inv0Ok Tryz.prog _) rfl xoG Tryz.func11 rfl (by kernel_rfl) xnc ((xrU _ _ (xaq (d:=false) a)).trans ?_))
 exact congrArg some b
def xw8:Env:=xtg.with 11 xnk
theorem xwj:OrcOk Tryz.prog ITryz xw8:=xqS.with xrJ
abbrev xw1:Env:=xw8
theorem xvx:OrcOk Tryz.prog ITryz xw1:=xwj
abbrev xya:Env:=xw1
theorem xvR:OrcOk Tryz.prog ITryz xya:=xvx
abbrev xw7:Env:=xya
theorem xwD:OrcOk Tryz.prog ITryz xw7:=xvR
abbrev xyg:Env:=xw7
theorem xv0:OrcOk Tryz.prog ITryz xyg:=xwD
abbrev xyi:Env:=xyg
theorem xvN:OrcOk Tryz.prog ITryz xyi:=xv0
abbrev xsU:Env:=xyi
theorem xqW:OrcOk Tryz.prog ITryz xsU:=xvN
def xch:Env:=xsU.fn 80 0 (lsOf []) (lpsOf [])
theorem xiA:OrcOk Tryz.prog (ITryz.at 0) xch:=xqW.fn
theorem xhJ:LoOk Tryz.prog (ITryz.at xch.pin) xch (loopAt Tryz.f7 0):=xa0 (by kernel_rfl)
def xaW (a:LA) (i:Int):=decide (0≤i)&&decide (i<a.length)
def xaT (a:LA) (i:Int):=decide (i.toNat<a.length)&&hasSh1 (Sh.int .i64) ((a.getD i.toNat .top).cells.getD 0 .top)
def xaU (a:LA) (i:Int):=((a.getD i.toNat .top).cells.getD 0 .top).toInt
def xb5 {T:Type} (l:LA) (t:Int) (a:LA) (b i:Int) (δ:T) (κl:(Int×Int)→T) (κr:(Bool×(Bool×Int)×(Int))→T):T:=br (decide (i<a.length)) (br (xaW a i) (br (xaT a i) (br (decide (xaU a i<0)) (κr (true,(false,b),0)) (br (xaW a i) (br (xaT a i) (br (decide (xaU a i≥1099511627776)) (κr (true,(false,b),0)) (br (decide (i>0)) (br (xaW a i) (br (xaT a i) (br (decide (0≤i64.wrap (i - 1))&&decide (i64.wrap (i - 1)<(↑a.length:Int))) (br (decide ((i64.wrap (i - 1)).toNat<a.length)&&hasSh1 (Sh.int .i64) ((a.getD (i64.wrap (i - 1)).toNat .top).cells.getD 0 .top)) (br (decide (xaU a i≤((a.getD (i64.wrap (i - 1)).toNat .top).cells.getD 0 .top).toInt)) (κr (true,(false,b),0)) (br (xaW a i) (br (xaT a i) (br (decide (xaU a i≤t)) (br (xaW a i) (br (xaT a i) (κl (xaU a i,i64.wrap (i+1))) δ) δ) (κl (b,i64.wrap (i+1)))) δ) δ)) δ) δ) δ) δ) (br (xaW a i) (br (xaT a i) (br (decide (xaU a i≤t)) (br (xaW a i) (br (xaT a i) (κl (xaU a i,i64.wrap (i+1))) δ) δ) (κl (b,i64.wrap (i+1)))) δ) δ))) δ) δ)) δ) δ) (κr (false,(false,0),(b)))
def xaE (l:LA) (t:Int) (b:LA):(Int×Int)→Option ((Int×Int)⊕(Bool×(Bool×Int)×(Int))):=fun (a,i)=>xb5 l t b a i none (fun s=>some (.inl s)) (fun p=>some (.inr p))
def xb0 (l:LA) (t:Int) (b:LA):(Int×Int)→LA×List Box:=fun (a,i)=>([AV.list 3 l,AV.int .i64 t,AV.list 1 b,AV.int .i64 a,AV.int .i64 i],[])
def xbI (l:LA) (t:Int) (a:LA):(Bool×(Bool×Int)×(Int))→LR:=fun p=>(.node p.1 (.leaf .ret [AV.list 3 l,AV.int .i64 t,AV.bool p.2.1.1,AV.int .i64 p.2.1.2] []) (.leaf (.exit 0) [AV.list 3 l,AV.int .i64 t,.top,AV.int .i64 p.2.2] []))
abbrev xiQ (a:LA) (H:List Box):=XR Tryz.prog xch [0,1,5,6,7] [0,1,4,6] [] (loopAt Tryz.f7 0) a H
theorem xiS (l:LA) (t:Int) (a:LA) (s:Int×Int):Enc (encR (xb0 l t a) (xbI l t a)) (xaE l t a s) (xiQ (xb0 l t a s).1 (xb0 l t a s).2):=by
 obtain ⟨b,i⟩:=s
 refine eV (xb5 l t a b i none (fun s=>some (encR (xb0 l t a) (xbI l t a) (.inl s))) (fun p=>some (encR (xb0 l t a) (xbI l t a) (.inr p)))) (by kernel_rfl) ?_;unfold xaE xb5;repeat' first|exact eN|exact eS rfl|apply eB
def xfJ:Lp:=lpOf [0,1,5,6,7] [0,1,4,6] [] (pCons (pList 3 pAny) (pCons (pInt .i64) (pCons (pList 1 pAny) (pCons (pInt .i64) (pCons (pInt .i64) pNil))))) pNil fun (l,(t,(b,(a,(i,_))))) _=>((Iter (xaE l t b) (a,i)).isSome,xbI l t b ((Iter (xaE l t b) (a,i)).getD (false,(false,0),0)))
theorem xin:LoopOk Tryz.prog (ITryz.at xch.pin) xch.nt (loopAt Tryz.f7 0) xfJ:=xcB fun d f g e=>by
 obtain ⟨l,⟨t,⟨a,⟨b,⟨i,_⟩⟩⟩⟩⟩:=d
 obtain ⟨c,rfl⟩:=Prod.mk.inj e
 exact xa3 mxTryz (inv0Ok Tryz.prog _) rfl xiA xhJ (xb0 l t a) (xbI l t a) (fun p=>by simp only [xbI,LR.eval];first|(simp;done)|(repeat' split<;>simp)) (xiS l t a) (s:=(b,i)) (xaq c)
def xcD:Env:=xsU.fn 80 0 (lsOf []) (lpsOf [(6,xfJ)])
theorem xiI:OrcOk Tryz.prog (ITryz.at 0) xcD:=xqW.fn
theorem xic:LoOk Tryz.prog (ITryz.at xcD.pin) xcD (Tryz.f7.body.getD .skip):=xce (ls:=[loopAt Tryz.f7 0]) (by kernel_rfl) (lkC xin lkN)
def xew (l:LA) (t:Int):=(Iter (xaE l t ((xcA l).getD [])) ((-1),0)).getD (false,(false,0),0)
def xeF (l:LA) (t:Int):=(xew l t).snd
def xeD (l:LA) (t:Int):=(xeF l t).snd
def xeH (l:LA) (t:Int):=xd5 l (xeD l t)
def xeK (l:LA) (t:Int):=xdY ((xeH l t).getD []) ((xd5 l t).getD [])
def xdv {T:Type} (l:LA) (t:Int) (δ:T) (κ:Bool→T):T:=br ((xfN l).isSome) (br (!(xfN l).getD false) (κ (true)) (br (decide (t<0)) (κ (true)) (br (decide (t≥1099511627776)) (κ (true)) (br ((xcA l).isSome) (br ((Iter (xaE l t ((xcA l).getD [])) ((-1),0)).isSome) (br ((xew l t).fst) (κ ((xeF l t).fst.fst)) (br (decide (xeD l t≥0)) (br ((xeH l t).isSome) (br ((xd5 l t).isSome) (br ((xeK l t).isSome) (br ((xeK l t).getD false) (κ (true)) (κ (false))) δ) δ) δ) (κ (false)))) δ) δ)))) δ
def xcd (l:LA) (t:Int):Option (Bool):=xdv l t none some
theorem xjH (l:LA) (t:Int):Enc (fun (p:Bool)=>((AV.bool p):AV)) (xcd l t) (XF Tryz.prog xcD Tryz.f7 (Tryz.f7.body.getD .skip) [AV.list 3 l,AV.int .i64 t]):=by
 refine eV (xdv l t none (fun (p:Bool)=>some ((AV.bool p):AV))) (by kernel_rfl) ?_;unfold xcd xdv;repeat' first|exact eN|exact eS rfl|apply eB
def xj0:LA→Option (Bool×AV):=ocOf (sCons (sList 3 pAny) (sCons (sEq (pInt .i64)) sNil)) fun (l,(t,_))=>((xcd l t).isSome,(AV.bool ((xcd l t).getD false)))
theorem xjV:OcOk Tryz.prog ITryz 7 (xj0):=xcJ fun c f e=>by
 obtain ⟨l,⟨t,_⟩⟩:=c
 obtain ⟨a,b⟩:=Prod.mk.inj e
 refine xbP (p:=xcD.pin) (xcl mxTryz (inv0Ok Tryz.prog _) rfl xiI Tryz.func7 rfl (by kernel_rfl) xic ((xjH _ _ _ (xaq (d:=false) a)).trans ?_))
 exact congrArg some b
end Go.Sim.M
end
