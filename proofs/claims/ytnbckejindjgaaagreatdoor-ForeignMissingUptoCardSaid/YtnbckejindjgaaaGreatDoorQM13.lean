/- Part 13 of the proof of the law. -/
import Derived.Test.YtnbckejindjgaaaGreatDoorQM12
import Derived.StillTailTactics
set_option linter.unusedVariables false
set_option linter.unusedSimpArgs false
noncomputable section
set_option maxRecDepth 100000
namespace Go.Sim.M
def cmpI (x y:Int):Int:=if x<y then -1 else if y<x then 1 else 0
def orI (x y:Int):Int:=if x=0 then y else x
end Go.Sim.M
namespace Go.Proofs
open Go.RowKit Go.Sim Go.Sim.M Go.Sort Go.Lib
theorem Tryz.cmp_walk (x y:Int) (w:World):Calls Tryz.prog 103 #[.int .i64 x,.int .i64 y] w fun e w'=>e=.returned (.int .i64 (cmpI x y))/\w'=w:=by
 unfold cmpI
 go_enter Tryz.func103,Tryz.ntmps103
 go_wp2
 all_goals (go_ret;exact ⟨rfl,rfl⟩)
theorem Tryz.or_walk (x y:Int) (b off c:Nat) (w:World) (h0:w.cell? ⟨b,off,none⟩=some (.int .i64 x)) (h1:w.cell? ⟨b,off+1,none⟩=some (.int .i64 y)):Calls Tryz.prog 102 #[.slice (some ⟨b,off,none⟩) 2 c] w fun e w'=>e=.returned (.int .i64 (orI x y))/\w'=w:=by
 unfold orI;by_cases hx:x=0
 . subst hx;rw [if_pos rfl];by_cases hy:y=0
   . subst hy
     go_enter Tryz.func102,Tryz.ntmps102
     go_wp2
     refine wp_loop_rounds 3 ?_;rw [rounds_succ]
     go_wp2
     rw [rounds_succ]
     go_wp2
     rw [rounds_succ]
     go_wp2
     go_ret
     exact ⟨rfl,rfl⟩
   . have hy':(y != 0)=true:=by simpa using hy
     go_enter Tryz.func102,Tryz.ntmps102
     go_wp2
     refine wp_loop_rounds 3 ?_;rw [rounds_succ]
     go_wp2
     rw [rounds_succ]
     go_wp2
     go_ret
     exact ⟨rfl,rfl⟩
 . have hx':(x != 0)=true:=by simpa using hx
   rw [if_neg hx]
   go_enter Tryz.func102,Tryz.ntmps102
   go_wp2
   refine wp_loop_rounds 3 ?_;rw [rounds_succ]
   go_wp2
   go_ret
   exact ⟨rfl,rfl⟩
theorem fill2I (u1 u2:Int):Instr.fill (fun i=>some (i*1,1)) ((Array.range (2*1)).map (fun x=>(Value.int .i64 0).cells[x % (Value.int .i64 0).cells.size]!)) [(0,.int .i64 u1),(1,.int .i64 u2)]=some #[.int .i64 u1,.int .i64 u2]:=by
 simp [Instr.fill,Array.range,Value.cells];apply Array.ext
 . simp
 . intro i h1 h2;rcases i with _|_|i
   . simp
   . simp
   . simp at h2;omega
set_option maxHeartbeats 2000000 in
theorem Tryz.levels2_walk (a b c d:Int) (w:World):Calls Tryz.prog 101 #[.agg #[.int .i64 a,.int .i64 b],.agg #[.int .i64 c,.int .i64 d]] w fun e w'=>e=.returned (.int .i64 (orI (cmpI a c) (cmpI b d)))/\∃ q J,w'=Sort.grow (w.drewN q) J:=by
 go_enter Tryz.func101,Tryz.ntmps101
 go_wp2_with (go_at_call 103;skip)
 have g0:(w.alloc (.cells #[.int .i64 a,.int .i64 b] 44)).heap[w.heap.size]?=some (.cells #[.int .i64 a,.int .i64 b] 44 (0,0)):=heap_alloc_new w _;have g1:((w.alloc (.cells #[.int .i64 a,.int .i64 b] 44)).alloc (.cells #[.int .i64 c,.int .i64 d] 44)).heap[w.heap.size+1]?=some (.cells #[.int .i64 c,.int .i64 d] 44 (0,0)):=by
  have:=heap_alloc_new (w.alloc (.cells #[.int .i64 a,.int .i64 b] 44)) (.cells #[.int .i64 c,.int .i64 d] 44);have e:(w.alloc (.cells #[.int .i64 a,.int .i64 b] 44)).heap.size=w.heap.size+1:=by simp
  rwa [e] at this
 have f0:((w.alloc (.cells #[.int .i64 a,.int .i64 b] 44)).alloc (.cells #[.int .i64 c,.int .i64 d] 44)).cell? ⟨w.heap.size,0,none⟩=some (.int .i64 a):=by
  rw [World.cell?_alloc_past _ _ _ (by simp)];simp only [World.cell?,g0];rfl
 have f1:((w.alloc (.cells #[.int .i64 a,.int .i64 b] 44)).alloc (.cells #[.int .i64 c,.int .i64 d] 44)).cell? ⟨w.heap.size,1,none⟩=some (.int .i64 b):=by
  rw [World.cell?_alloc_past _ _ _ (by simp)];simp only [World.cell?,g0];rfl
 have f2:((w.alloc (.cells #[.int .i64 a,.int .i64 b] 44)).alloc (.cells #[.int .i64 c,.int .i64 d] 44)).cell? ⟨w.heap.size+1,0,none⟩=some (.int .i64 c):=by
  simp only [World.cell?,g1];rfl
 have f3:((w.alloc (.cells #[.int .i64 a,.int .i64 b] 44)).alloc (.cells #[.int .i64 c,.int .i64 d] 44)).cell? ⟨w.heap.size+1,1,none⟩=some (.int .i64 d):=by
  simp only [World.cell?,g1];rfl
 have f4:∃ q J,((w.alloc (.cells #[.int .i64 a,.int .i64 b] 44)).alloc (.cells #[.int .i64 c,.int .i64 d] 44))=Sort.grow (w.drewN q) J:=⟨0,_,by rw [alloc_eq_grow,alloc_eq_grow,grow_grow];rfl⟩
 generalize ((w.alloc (.cells #[.int .i64 a,.int .i64 b] 44)).alloc (.cells #[.int .i64 c,.int .i64 d] 44))=W2 at f0 f1 f2 f3 f4 |-;refine wp_region_still_tail 10 (by kernel_rfl) (by kernel_rfl) ?_
 simp only [List.take_succ_cons,List.take_zero,List.drop_succ_cons,List.drop_zero];change wpStill _ _ (World.drew W2) _ _ _;have f0':W2.drew.cell? ⟨w.heap.size,0,none⟩=some (.int .i64 a):=f0;have f1':W2.drew.cell? ⟨w.heap.size,1,none⟩=some (.int .i64 b):=f1;have f2':W2.drew.cell? ⟨w.heap.size+1,0,none⟩=some (.int .i64 c):=f2;have f3':W2.drew.cell? ⟨w.heap.size+1,1,none⟩=some (.int .i64 d):=f3;have f4':∃ q J,W2.drew=Sort.grow (w.drewN q) J:=by obtain ⟨q,J,e⟩:=f4;exact ⟨q+1,J,by rw [e];rfl⟩
 iterate 4 still_step
 still_call (Tryz.cmp_walk _ _ _)
 iterate 4 still_step
 still_call (Tryz.cmp_walk _ _ _)
 refine wpStill_nil ?_;change wpList _ _ _ _ _ (World.drew W2);generalize World.drew W2=W at f0' f1' f2' f3' f4' |-;generalize O:cmpI a c=u1;generalize Q:cmpI b d=u2;obtain ⟨ie,q1,q2,q3⟩:∃ ie,Tryz.prog.info? 3=some ie/\ie.zero=some (.int .i64 0)/\ie.size=1:=⟨(Tryz.prog.info? 3).get (by kernel_rfl),(Option.some_get _).symm,by kernel_rfl,by kernel_rfl⟩
 refine wpList_buildSlice rfl 23 3 2 _ rfl #[.int .i64 u1,.int .i64 u2] ie (.int .i64 0) (by kernel_rfl) q1 q2 (by rw [q3];decide) (by rw [q3];decide) (by rw [q3];refine Eq.trans (congrArg _ ?_) (fill2I u1 u2);simp [Act.eval]) ?_
 simp only [Act.put]
 go_wp2_with fail
 have g2:(W.alloc (.cells #[.int .i64 u1,.int .i64 u2] 3)).heap[W.heap.size]?=some (.cells #[.int .i64 u1,.int .i64 u2] 3 (0,0)):=heap_alloc_new W _;refine (Tryz.or_walk u1 u2 W.heap.size 0 2 (W.alloc (.cells #[.int .i64 u1,.int .i64 u2] 3)) (by simp only [World.cell?,g2];rfl) (by simp only [World.cell?,g2];rfl)).mono ?_
 rintro e w' ⟨rfl,rfl⟩
 go_wp2
 go_ret
 obtain ⟨q,J,hq⟩:=f4';exact ⟨by rw [O,Q];rfl,q,_,by rw [hq,alloc_eq_grow,grow_grow]⟩
end Go.Proofs
namespace Go.Sim.M
abbrev TyE:Type:=Fin 1099511627777×Int×Int
def intsE (x:TyE):List Int:=[(x.1.val:Int),x.2.1,x.2.2]
def cmpE (x y:TyE):Int:=(x.1.val:Int) - (y.1.val:Int)
end Go.Sim.M
namespace Go.Proofs
open Go.RowKit Go.Sim Go.Sim.M Go.Sort
set_option maxHeartbeats 1000000 in
theorem Tryz.walkE (a b c a' b' c' r:Int) (hr:IntKind.i64.wrap (a - a')=r) (W:World):Calls Tryz.prog 129 #[.agg #[.int .i64 a,.int .i64 b,.int .i64 c],.agg #[.int .i64 a',.int .i64 b',.int .i64 c']] W fun e w'=>e=.returned (.int .i64 r)/\∃ q os',w'=Sort.grow (W.drewN q) os':=by
 go_enter Tryz.func129,Tryz.ntmps129
 go_wp2
 go_ret
 subst hr;exact ⟨rfl,0,_,by rw [alloc_eq_grow,alloc_eq_grow,grow_grow];rfl⟩
end Go.Proofs
namespace Go.Sim.M
open Go.RowKit Go.Proofs Go.Sort
def isE:AV->Bool
 | .agg [.int .i64 a,.int .i64 _,.int .i64 _]=>decide (0<=a)&&decide (a<=1099511627776)
 | _=>false
def decE:AV->TyE
 | .agg [.int _ a,.int _ b,.int _ c]=>(Fin.ofNat 1099511627777 a.toNat,b,c)
 | _=>default
noncomputable def srtE (xs:List AV):List AV:=(pdqL cmpE (xs.map decE)).map (encI intsE)
theorem xJS {x:AV} (h:isE x=true):encI intsE (decE x)=x:=by
 unfold isE at h;split at h
 . rename_i a b c;simp only [Bool.and_eq_true,decide_eq_true_eq] at h;have:a.toNat % 1099511627777=a.toNat:=Nat.mod_eq_of_lt (by omega)
   simp only [decE,encI,intsE,List.map_cons,List.map_nil,Fin.ofNat,this,Int.toNat_of_nonneg h.1]
 . simp at h
theorem xIA {xs:List AV} (h:xs.all isE=true):(xs.map decE).map (encI intsE)=xs:=by
 rw [List.map_map]
 conv=>rhs;rw [<-List.map_id xs]
 refine List.map_congr_left fun x hx=>?_
 exact xJS (List.all_eq_true.1 h x hx)
theorem ltE (x y:TyE):ltOf cmpE x y=decide (x.1.val<y.1.val):=by
 unfold ltOf cmpE;by_cases h:x.1.val<y.1.val
 . rw [decide_eq_true h,decide_eq_true (by omega)]
 . rw [decide_eq_false h,decide_eq_false (by omega)]
theorem swoE:SWO (ltOf cmpE) where
 irrefl x:=by rw [ltE];simp
 trans x y z h1 h2:=by rw [ltE] at *;simp at *;omega
 ntrans x y z h1 h2:=by rw [ltE] at *;simp at *;omega
noncomputable def xBB:List AV->List Box->Option (Bool×AV×List Box)
 | [.osl (.b 0) ver 0 n,.func g []],[⟨ver',3,ty,xs,false,true⟩]=>match Nat.beq g 129&&Nat.beq ty 137 with
  | true=>some (Nat.beq ver ver'&&(Nat.beq n xs.length&&(decide (n<4611686018427387904)&&xs.all isE)),.tuple [],[⟨ver',3,137,srtE xs,false,true⟩])
  | false=>none
 | _,_=>none
theorem xLM:OmOk Tryz.prog xO9 128 xBB:=fun Q H r H' h=>by
 unfold xBB at h;split at h
 . rename_i ver n g O ty xs;split at h
   case h_2=>simp at h
   rename_i hg;simp only [Bool.and_eq_true] at hg;obtain rfl:=Nat.eq_of_beq_eq_true hg.1;obtain rfl:=Nat.eq_of_beq_eq_true hg.2;simp only [Option.some.injEq,Prod.mk.injEq,Bool.and_eq_true,decide_eq_true_eq] at h;obtain ⟨⟨h1,h2,h3,h4⟩,rfl,rfl⟩:=h;obtain rfl:=Nat.eq_of_beq_eq_true h1;obtain rfl:=Nat.eq_of_beq_eq_true h2;have q:∃ ti,xOr Tryz.prog 137=some ti/\ti.sz=3/\ti.agg=true:=by
    have h:(match xOr Tryz.prog 137 with|some ti=>(ti.sz==3)&&ti.agg|none=>false)=true:=by kernel_rfl
    split at h
    . rename_i ti q;simp only [Bool.and_eq_true,beq_iff_eq] at h;exact ⟨ti,q,h.1,h.2⟩
    . simp at h
   obtain ⟨ti,q,hz,ha⟩:=q;have J:=xsq (P:=Tryz.prog) (Inv:=xO9) Tryz.srl128 3 (by decide) (fun w=>by rw [<-ha];exact xl2 q w) (fun w=>by rw [<-hz];exact xc7 q w)
    intsE (fun _=>rfl) cmpE swoE 129 rfl (xei Tryz.func128 rfl (by kernel_rfl)) (xn7 (xei Tryz.func129 rfl (by kernel_rfl)))
    (fun x y W=>Tryz.walkE _ _ _ _ _ _ (cmpE x y) (by
     have:=x.1.isLt;have:=y.1.isLt;unfold cmpE;exact xbH (by omega) (by omega)) W)
    ver 137 rfl (xs.map decE) (by simpa using h3)
   rw [List.length_map,xIA h4] at J;exact J
 . simp at h
end Go.Sim.M
namespace Go.Sim.M
abbrev TyS:Type:=Fin 1099511627777×Int
def intsS (x:TyS):List Int:=[(x.1.val:Int),x.2]
def cmpS (x y:TyS):Int:=(x.1.val:Int) - (y.1.val:Int)
end Go.Sim.M
namespace Go.Proofs
open Go.RowKit Go.Sim Go.Sim.M Go.Sort
set_option maxHeartbeats 1000000 in
theorem Tryz.walkS (a b a' b' r:Int) (hr:IntKind.i64.wrap (a - a')=r) (W:World):Calls Tryz.prog 137 #[.agg #[.int .i64 a,.int .i64 b],.agg #[.int .i64 a',.int .i64 b']] W fun e w'=>e=.returned (.int .i64 r)/\∃ q os',w'=Sort.grow (W.drewN q) os':=by
 go_enter Tryz.func137,Tryz.ntmps137
 go_wp2
 go_ret
 subst hr;exact ⟨rfl,0,_,by rw [alloc_eq_grow,alloc_eq_grow,grow_grow];rfl⟩
end Go.Proofs
namespace Go.Sim.M
open Go.RowKit Go.Proofs Go.Sort
def isS:AV->Bool
 | .agg [.int .i64 a,.int .i64 _]=>decide (0<=a)&&decide (a<=1099511627776)
 | _=>false
def decS:AV->TyS
 | .agg [.int _ a,.int _ b]=>(Fin.ofNat 1099511627777 a.toNat,b)
 | _=>default
noncomputable def srtS (xs:List AV):List AV:=(pdqL cmpS (xs.map decS)).map (encI intsS)
theorem xJU {x:AV} (h:isS x=true):encI intsS (decS x)=x:=by
 unfold isS at h;split at h
 . rename_i a b;simp only [Bool.and_eq_true,decide_eq_true_eq] at h;have:a.toNat % 1099511627777=a.toNat:=Nat.mod_eq_of_lt (by omega)
   simp only [decS,encI,intsS,List.map_cons,List.map_nil,Fin.ofNat,this,Int.toNat_of_nonneg h.1]
 . simp at h
theorem xIC {xs:List AV} (h:xs.all isS=true):(xs.map decS).map (encI intsS)=xs:=by
 rw [List.map_map]
 conv=>rhs;rw [<-List.map_id xs]
 refine List.map_congr_left fun x hx=>?_
 exact xJU (List.all_eq_true.1 h x hx)
theorem ltS (x y:TyS):ltOf cmpS x y=decide (x.1.val<y.1.val):=by
 unfold ltOf cmpS;by_cases h:x.1.val<y.1.val
 . rw [decide_eq_true h,decide_eq_true (by omega)]
 . rw [decide_eq_false h,decide_eq_false (by omega)]
theorem swoS:SWO (ltOf cmpS) where
 irrefl x:=by rw [ltS];simp
 trans x y z h1 h2:=by rw [ltS] at *;simp at *;omega
 ntrans x y z h1 h2:=by rw [ltS] at *;simp at *;omega
noncomputable def xBD:List AV->List Box->Option (Bool×AV×List Box)
 | [.osl (.b 0) ver 0 n,.func g []],[⟨ver',2,ty,xs,false,true⟩]=>match Nat.beq g 137&&Nat.beq ty 148 with
  | true=>some (Nat.beq ver ver'&&(Nat.beq n xs.length&&(decide (n<4611686018427387904)&&xs.all isS)),.tuple [],[⟨ver',2,148,srtS xs,false,true⟩])
  | false=>none
 | _,_=>none
theorem xLO:OmOk Tryz.prog xO9 136 xBD:=fun Q H r H' h=>by
 unfold xBD at h;split at h
 . rename_i ver n g O ty xs;split at h
   case h_2=>simp at h
   rename_i hg;simp only [Bool.and_eq_true] at hg;obtain rfl:=Nat.eq_of_beq_eq_true hg.1;obtain rfl:=Nat.eq_of_beq_eq_true hg.2;simp only [Option.some.injEq,Prod.mk.injEq,Bool.and_eq_true,decide_eq_true_eq] at h;obtain ⟨⟨h1,h2,h3,h4⟩,rfl,rfl⟩:=h;obtain rfl:=Nat.eq_of_beq_eq_true h1;obtain rfl:=Nat.eq_of_beq_eq_true h2;have q:∃ ti,xOr Tryz.prog 148=some ti/\ti.sz=2/\ti.agg=true:=by
    have h:(match xOr Tryz.prog 148 with|some ti=>(ti.sz==2)&&ti.agg|none=>false)=true:=by kernel_rfl
    split at h
    . rename_i ti q;simp only [Bool.and_eq_true,beq_iff_eq] at h;exact ⟨ti,q,h.1,h.2⟩
    . simp at h
   obtain ⟨ti,q,hz,ha⟩:=q;have J:=xsq (P:=Tryz.prog) (Inv:=xO9) Tryz.srl136 2 (by decide) (fun w=>by rw [<-ha];exact xl2 q w) (fun w=>by rw [<-hz];exact xc7 q w)
    intsS (fun _=>rfl) cmpS swoS 137 rfl (xei Tryz.func136 rfl (by kernel_rfl)) (xn7 (xei Tryz.func137 rfl (by kernel_rfl)))
    (fun x y W=>Tryz.walkS _ _ _ _ (cmpS x y) (by
     have:=x.1.isLt;have:=y.1.isLt;unfold cmpS;exact xbH (by omega) (by omega)) W)
    ver 148 rfl (xs.map decS) (by simpa using h3)
   rw [List.length_map,xIC h4] at J;exact J
 . simp at h
end Go.Sim.M
namespace Go.Sim.M
abbrev TyP:Type:=Int×Int
def intsP (x:TyP):List Int:=[x.1,x.2]
def cmpP (x y:TyP):Int:=orI (cmpI x.1 y.1) (cmpI x.2 y.2)
end Go.Sim.M
namespace Go.Sim.M
open Go.RowKit Go.Proofs Go.Sort
def isP:AV->Bool
 | .agg [.int .i64 _,.int .i64 _]=>true
 | _=>false
def decP:AV->TyP
 | .agg [.int _ a,.int _ b]=>(a,b)
 | _=>default
noncomputable def srtP (xs:List AV):List AV:=(pdqL cmpP (xs.map decP)).map (encI intsP)
theorem xJT {x:AV} (h:isP x=true):encI intsP (decP x)=x:=by
 unfold isP at h;split at h
 . rfl
 . simp at h
theorem xIB {xs:List AV} (h:xs.all isP=true):(xs.map decP).map (encI intsP)=xs:=by
 rw [List.map_map]
 conv=>rhs;rw [<-List.map_id xs]
 refine List.map_congr_left fun x hx=>?_
 exact xJT (List.all_eq_true.1 h x hx)
theorem ltP (x y:TyP):ltOf cmpP x y=decide (x.1<y.1\/x.1=y.1/\x.2<y.2):=by
 unfold ltOf cmpP orI cmpI;by_cases h:x.1<y.1\/x.1=y.1/\x.2<y.2
 . rw [decide_eq_true h];simp only [decide_eq_true_eq];rcases h with h|⟨h,h'⟩
   . simp [h]
   . simp [h,h']
 . rw [decide_eq_false h];simp only [decide_eq_false_iff_not];have h1:¬ x.1<y.1:=fun e=>h (.inl e)
   by_cases h2:y.1<x.1
   . simp [h1,h2]
   . have h3:x.1=y.1:=by omega
     have h4:¬ x.2<y.2:=fun e=>h (.inr ⟨h3,e⟩)
     by_cases h5:y.2<x.2
     . simp [h1,h2,h4,h5]
     . simp [h1,h2,h4,h5]
theorem swoP:SWO (ltOf cmpP) where
 irrefl x:=by rw [ltP];simp
 trans x y z h1 h2:=by rw [ltP] at *;simp only [decide_eq_true_eq] at *;omega
 ntrans x y z h1 h2:=by rw [ltP] at *;simp only [decide_eq_true_eq,decide_eq_false_iff_not] at *;omega
noncomputable def xBC:List AV->List Box->Option (Bool×AV×List Box)
 | [.osl (.b 0) ver 0 n,.func g []],[⟨ver',2,ty,xs,false,true⟩]=>match Nat.beq g 101&&Nat.beq ty 44 with
  | true=>some (Nat.beq ver ver'&&(Nat.beq n xs.length&&(decide (n<4611686018427387904)&&xs.all isP)),.tuple [],[⟨ver',2,44,srtP xs,false,true⟩])
  | false=>none
 | _,_=>none
theorem xLN:OmOk Tryz.prog xO9 100 xBC:=fun Q H r H' h=>by
 unfold xBC at h;split at h
 . rename_i ver n g O ty xs;split at h
   case h_2=>simp at h
   rename_i hg;simp only [Bool.and_eq_true] at hg;obtain rfl:=Nat.eq_of_beq_eq_true hg.1;obtain rfl:=Nat.eq_of_beq_eq_true hg.2;simp only [Option.some.injEq,Prod.mk.injEq,Bool.and_eq_true,decide_eq_true_eq] at h;obtain ⟨⟨h1,h2,h3,h4⟩,rfl,rfl⟩:=h;obtain rfl:=Nat.eq_of_beq_eq_true h1;obtain rfl:=Nat.eq_of_beq_eq_true h2;have q:∃ ti,xOr Tryz.prog 44=some ti/\ti.sz=2/\ti.agg=true:=by
    have h:(match xOr Tryz.prog 44 with|some ti=>(ti.sz==2)&&ti.agg|none=>false)=true:=by kernel_rfl
    split at h
    . rename_i ti q;simp only [Bool.and_eq_true,beq_iff_eq] at h;exact ⟨ti,q,h.1,h.2⟩
    . simp at h
   obtain ⟨ti,q,hz,ha⟩:=q;have J:=xsq (P:=Tryz.prog) (Inv:=xO9) Tryz.srl100 2 (by decide) (fun w=>by rw [<-ha];exact xl2 q w) (fun w=>by rw [<-hz];exact xc7 q w)
    intsP (fun _=>rfl) cmpP swoP 101 rfl (xei Tryz.func100 rfl (by kernel_rfl)) (xn7 (xei Tryz.func101 rfl (by kernel_rfl)))
    (fun x y W=>Tryz.levels2_walk _ _ _ _ W)
    ver 44 rfl (xs.map decP) (by simpa using h3)
   rw [List.length_map,xIB h4] at J;exact J
 . simp at h
end Go.Sim.M
end
noncomputable section
namespace Go.Sim.M
open Go.RowKit Go.Proofs
noncomputable def E1:Env:=((xKL.E.withM 136 xBD).withM 100 xBC).withM 128 xBB
theorem xKI:xOs Tryz.prog xO9 E1:=((xKL.ok.withM xLO).withM xLN).withM xLM
noncomputable def xM7:EO:=EO.mk E1 xKI
end Go.Sim.M
end
noncomputable section
set_option maxRecDepth 100000
namespace Go.Sim.M
open Go.IntKind (i64 u64 u8)
open Go.RowKit Go.Proofs
def xi6:Env:=E1.fn 29 1 (lsOf []) (xOP [])
theorem xAX:xOs P0 (xO9.at 1) xi6:=xKI.fn
theorem xyu:LoOk P0 (xO9.at xi6.pin) xi6 (Tryz.f138.body.getD .skip):=xhM (by kernel_rfl)
def xss {T:Type} (k:Nat) (a n:Int) (b:LA) (δ:T) (κ:Bool×(Nat×LA)×(Nat×LA)->T):T:=br (rmB k b 1 16) (κ (false,(0,[]),(k+1,b++[AV.agg [AV.int .i64 a,AV.int .i64 n]]))) δ
def xvo {T:Type} (k:Nat) (b n:Int) (a:LA) (δ:T) (κ:Bool×(Nat×LA)×(Nat×LA)->T):T:=br (decide ((↑k:Int)>0)) (br (decide (0<=i64.wrap ((↑k:Int) - 1))&&decide (i64.wrap ((↑k:Int) - 1)<(↑k:Int))) (br (decide (0+(i64.wrap ((↑k:Int) - 1)).toNat<a.length)&&xOq (Sh.int .i64) ((a.getD (0+(i64.wrap ((↑k:Int) - 1)).toNat) .top).cells.getD 1 .top)) (br (((a.getD (0+(i64.wrap ((↑k:Int) - 1)).toNat) .top).cells.getD 1 .top).toInt==n) (κ (true,(k,a),(0,[]))) (xss k b n a δ κ)) δ) δ) (xss k b n a δ κ)
def xc9 (k:Nat) (a n:Int) (b:LA):=xvo k a n b none some
theorem xFv (k:Nat) (a n:Int) (xs:LA):Enc (fun (p:Bool×(Nat×LA)×(Nat×LA))=>((br p.1 ((AV.osl 0 0 0 p.2.1.1,([⟨0,2,148,p.2.1.2,false,true⟩]:List Box))) ((AV.osl 0 1 0 p.2.2.1,([⟨1,2,148,p.2.2.2,false,true⟩]:List Box)))):(AV×List Box))) (xc9 k a n xs) (XFM P0 xi6 Tryz.f138 (Tryz.f138.body.getD .skip) [AV.osl (0:Id) 0 0 k,AV.int .i64 a,AV.int .i64 n] [{ ver:=0,sz:=2,ty:=(148:TypeId),xs:=xs,frz:=false,pm:=true }]):=by
 have h:XFM P0 xi6 Tryz.f138 (Tryz.f138.body.getD .skip) [AV.osl (0:Id) 0 0 k,AV.int .i64 a,AV.int .i64 n] [{ ver:=0,sz:=2,ty:=(148:TypeId),xs:=xs,frz:=false,pm:=true }]=xvo k a n xs none (fun (p:Bool×(Nat×LA)×(Nat×LA))=>some ((br p.1 ((AV.osl 0 0 0 p.2.1.1,([⟨0,2,148,p.2.1.2,false,true⟩]:List Box))) ((AV.osl 0 1 0 p.2.2.1,([⟨1,2,148,p.2.2.2,false,true⟩]:List Box)))):(AV×List Box))):=by kernel_rfl
 rw [h];unfold xc9 xvo xss;repeat' (first|refine Enc.br ?_ ?_|exact Enc.none|exact Enc.some rfl)
def xFu:LA->List Box->Option (Bool×AV×List Box):=omOf (xPb (sEq (xPm 0 0 0)) (xPb (sEq (pInt .i64)) (xPb (sEq (pInt .i64)) xPd))) (xPa (xPp 0 2 (148:TypeId) false true xPe) xPc) fun (k,(a,(n,_))) (b,_)=>((xc9 k a n b).isSome,(AV.osl 0 1 0 (br ((xc9 k a n b).getD (false,(0,[]),(0,[]))).1 ((xc9 k a n b).getD (false,(0,[]),(0,[]))).2.1.1 ((xc9 k a n b).getD (false,(0,[]),(0,[]))).2.2.1),([⟨1,2,148,(br ((xc9 k a n b).getD (false,(0,[]),(0,[]))).1 ((xc9 k a n b).getD (false,(0,[]),(0,[]))).2.1.2 ((xc9 k a n b).getD (false,(0,[]),(0,[]))).2.2.2),false,true⟩]:List Box)))
theorem xFt:OmOk P0 xO9 138 (xFu):=xp6 fun e f j i g=>by
 obtain ⟨k,⟨b,⟨n,_⟩⟩⟩:=e;obtain ⟨h,_⟩:=f;obtain ⟨c,a⟩:=Prod.mk.inj g;have hx:=xFv _ _ _ _ _ (xaH (d:=(false,(0,[]),(0,[]))) c);revert hx a;generalize ((xc9 k b n h).getD (false,(0,[]),(0,[])))=p;intro a hx;obtain ⟨rfl,rfl⟩:=Prod.mk.inj a;obtain ⟨t,⟨l,m⟩,o,q⟩:=p;have hg:GoodM P0 xO9 138 _ _ _ _:=xga (p:=xi6.pin) (xg6 xOC (xOD P0 _) rfl xAX rfl Tryz.func138 rfl (by kernel_rfl) xyu hx)
 cases t
 . exact hg
 . exact GoodM.bump1 rfl (by decide) hg
def xwO:EO:=xM7.wM xFt
def xm8 {T:Type} (d:LA) (e:Int) (b:Nat) (c:Int) (a:LA) (δ:T) (κl:(Nat×Int×LA)->T) (κr:(Nat×LA)->T):T:=br (decide (c<e)) (br (ixI d c) (br (ixT d c 3 [Sh.int .i64,Sh.int .i64,Sh.int .i64] 0) (br (xgt (gC d c 0).toInt (gC d c 1).toInt) (br (rmB b a 2 16) (κl (b+2,i64.wrap (c+1),a++[AV.agg [AV.int .i64 (gC d c 0).toInt,AV.int .i64 (gC d c 2).toInt],AV.agg [AV.int .i64 (gC d c 1).toInt,AV.int .i64 (i64.wrap (0 - (gC d c 2).toInt))]])) δ) (κl (b,i64.wrap (c+1),a))) δ) δ) (κr (b,a))
def xeR (c:LA) (d:Int):StT (Nat×Int×LA) (Nat×LA):=fun (b,e,a)=>xm8 c d b e a none inL inR
def xiV:=xwO.l 106 0 [] [] Tryz.f104 0 lk0 [3,10,11,12] [3] [(3,2,148)] (q4 (xPm 0 0 0) (qL 3) qI qI) (q1 (qB 0 2 148 xPe)) (fun (b,c,d,e,_) (a,_)=>(xeR c d,(b,e,a),fun p=>(.leaf (.exit 0) [AV.osl 0 0 0 p.1] [bF 0 2 148 p.2]))) (0,[]) fun (_,c,d,_,_) _ (b,e,a)=>(((b,c,d,e,()),(a,())),xm8 c d b e a none)
def xvF (i:Int) (a:LA):=decide (0+i.toNat<a.length)
def xwA {T:Type} (b e:Nat) (d i:Int) (a c:LA) (δ:T) (κl:(Int×Int×LA×LA)->T) (κr:(Int×Int×LA×LA)->T):T:=br (decide (i<(↑b:Int))) (br (decide (0<=i)&&decide (i<(↑b:Int))) (br (xvF i a&&xOq (Sh.int .i64) ((a.getD (0+i.toNat) .top).cells.getD 0 .top)) (br (((a.getD (0+i.toNat) .top).cells.getD 0 .top).toInt==0) (br (decide (0<=i)&&decide (i<(↑b:Int))) (br (xvF i a&&xOq (Sh.int .i64) ((a.getD (0+i.toNat) .top).cells.getD 1 .top)) (κl (i64.wrap (d+((a.getD (0+i.toNat) .top).cells.getD 1 .top).toInt),i64.wrap (i+1),a,c)) δ) δ) (κr (d,i,a,c))) δ) δ) (κr (d,i,a,c))
def xjL (b d:Nat):StT (Int×Int×LA×LA) (Int×Int×LA×LA):=fun (e,i,a,c)=>xwA b d e i a c none inL inR
def xl4:=xwO.l 106 0 [] [(3,xiV.lp)] Tryz.f104 1 lk0 [3,6,7,8] [3,6,7,8] [(3,2,148),(6,2,148)] (q4 (xPm 0 0 0) (xPm 1 0 0) qI qI) (q2 (qB 0 2 148 xPe) (qB 0 2 148 xPe)) (fun (a,c,e,i,_) (b,d,_)=>(xjL a c,(e,i,b,d),fun p=>(.leaf (.exit 2) [AV.osl 0 0 0 a,AV.osl 1 0 0 c,AV.int .i64 p.1,AV.int .i64 p.2.1] [bF 0 2 148 p.2.2.1,bF 0 2 148 p.2.2.2]))) (0,0,[],[]) fun (a,c,_,_,_) _ (e,i,b,d)=>(((a,c,e,i,()),(b,d,())),xwA a c e i b d none)
def xi5 (i:Int) (a:LA):=decide (0+i.toNat<a.length)
def xj0 {T:Type} (b f:Nat) (e d i:Int) (a c:LA) (δ:T) (κl:(Int×Int×LA×LA)->T) (κr:(Int×Int×LA×LA)->T):T:=br (decide (i<(↑b:Int))) (br (decide (0<=i)&&decide (i<(↑b:Int))) (br (xi5 i a&&xOq (Sh.int .i64) ((a.getD (0+i.toNat) .top).cells.getD 0 .top)) (br (((a.getD (0+i.toNat) .top).cells.getD 0 .top).toInt==e) (br (decide (0<=i)&&decide (i<(↑b:Int))) (br (xi5 i a&&xOq (Sh.int .i64) ((a.getD (0+i.toNat) .top).cells.getD 1 .top)) (κl (i64.wrap (d+((a.getD (0+i.toNat) .top).cells.getD 1 .top).toInt),i64.wrap (i+1),a,c)) δ) δ) (κr (d,i,a,c))) δ) δ) (κr (d,i,a,c))
def xdE (b d:Nat) (e:Int):StT (Int×Int×LA×LA) (Int×Int×LA×LA):=fun (f,i,a,c)=>xj0 b d e f i a c none inL inR
def xl5:=xwO.l 106 0 [] [(3,xiV.lp),(11,xl4.lp)] Tryz.f104 3 lk0 [3,6,7,8,9] [3,6,7,8,9] [(3,2,148),(6,2,148)] (q5 (xPm 0 0 0) (xPm 1 0 0) qI qI qI) (q2 (qB 0 2 148 xPe) (qB 0 2 148 xPe)) (fun (a,c,f,i,e,_) (b,d,_)=>(xdE a c e,(f,i,b,d),fun p=>(.leaf (.exit 6) [AV.osl 0 0 0 a,AV.osl 1 0 0 c,AV.int .i64 p.1,AV.int .i64 p.2.1,AV.int .i64 e] [bF 0 2 148 p.2.2.1,bF 0 2 148 p.2.2.2]))) (0,0,[],[]) fun (a,c,_,_,e,_) _ (f,i,b,d)=>(((a,c,f,i,e,()),(b,d,())),xj0 a c e f i b d none)
def xhB (i:Int) (a:LA):=decide (0+i.toNat<a.length)&&xOq (Sh.int .i64) ((a.getD (0+i.toNat) .top).cells.getD 0 .top)
def xfB (i:Int) (a:LA):=((a.getD (0+i.toNat) .top).cells.getD 0 .top).toInt
def xhC (b d:Nat) (e i:Int) (a c:LA):=Iter (xdE b d (xfB i a)) (e,i,a,c)
def xi4 (b d:Nat) (e i:Int) (a c:LA):=(xhC b d e i a c).getD (0,0,[],[])
def xi2 (b d:Nat) (e i:Int) (a c:LA):=(xi4 b d e i a c).snd
def xi3 (b d:Nat) (e i:Int) (a c:LA):=(xi4 b d e i a c).fst
def xi1 (b d:Nat) (e i:Int) (a c:LA):=(xi2 b d e i a c).snd
def xi0 (b c:Nat) (e i:Int) (a d:LA):=xc9 c (xfB i a) (xi3 b c e i a d) (xi1 b c e i a d).snd
def xix (b d:Nat) (e i:Int) (a c:LA):=(xi0 b d e i a c).getD (false,(0,[]),0,[])
def xiY (b d:Nat) (e i:Int) (a c:LA):=(xix b d e i a c).fst
def xiZ (b d:Nat) (e i:Int) (a c:LA):=(xix b d e i a c).snd
def xiW (b d:Nat) (e i:Int) (a c:LA):=(xiZ b d e i a c).snd
def xiX (b d:Nat) (e i:Int) (a c:LA):=(xiZ b d e i a c).fst
def xjx {T:Type} (b d:Nat) (e i:Int) (a c:LA) (δ:T) (κl:(Nat×Int×Int×LA×LA)->T) (κr:(Nat×LA)->T):T:=br (decide (i<(↑b:Int))) (br (decide (0<=i)&&decide (i<(↑b:Int))) (br (xhB i a) (br (decide (xfB i a<1099511627776)) (br (decide (0<=i)&&decide (i<(↑b:Int))) (br (xhB i a) (br ((xhC b d e i a c).isSome) (br ((xi0 b d e i a c).isSome) (κl (br (xiY b d e i a c) (xiX b d e i a c).fst (xiW b d e i a c).fst,xi3 b d e i a c,(xi2 b d e i a c).fst,(xi1 b d e i a c).fst,br (xiY b d e i a c) (xiX b d e i a c).snd (xiW b d e i a c).snd)) δ) δ) δ) δ) (κr (d,c))) δ) δ) (κr (d,c))
def xeS (b:Nat):StT (Nat×Int×Int×LA×LA) (Nat×LA):=fun (d,e,i,a,c)=>xjx b d e i a c none inL inR
def xvG:=xwO.l 106 0 [] [(3,xiV.lp),(11,xl4.lp),(17,xl5.lp)] Tryz.f104 2 (lk1 xl5.ok) [3,6,7,8] [6] [(3,2,148),(6,2,148)] (q4 (xPm 0 0 0) (xPm 1 0 0) qI qI) (q2 (qB 0 2 148 xPe) (qB 0 2 148 xPe)) (fun (b,d,e,i,_) (a,c,_)=>(xeS b,(d,e,i,a,c),fun p=>(.leaf (.exit 4) [AV.osl 0 0 0 p.1] [bF 0 2 148 p.2]))) (0,[]) fun (b,_,_,_,_) _ (d,e,i,a,c)=>(((b,d,e,i,()),(a,c,())),xjx b d e i a c none)
def xt7 (l:LA):=(Iter (xeR l (↑l.length:Int)) (0,0,[])).getD (0,[])
def xlI (l:LA):=(xt7 l).fst
def xpG (l:LA):=(xt7 l).snd
def xt6 (l:LA):=Iter (xjL (xlI l) 0) (0,0,srtS (xpG l),[])
def xt5 (l:LA):=(xt6 l).getD (0,0,[],[])
def xt3 (l:LA):=(xt5 l).fst
def xt4 (l:LA):=(xt5 l).snd
def xt2 (l:LA):=(xt4 l).snd
def xvn (l:LA):=xc9 0 0 (xt3 l) (xt2 l).snd
def xvm (l:LA):=(xvn l).getD (false,(0,[]),0,[])
def xvk (l:LA):=(xvm l).fst
def xvl (l:LA):=(xvm l).snd
def xvi (l:LA):=(xvl l).fst
def xvj (l:LA):=(xvl l).snd
def xvh (l:LA):=Iter (xeS (xlI l)) (br (xvk l) (xvi l).fst (xvj l).fst,xt3 l,(xt4 l).fst,(xt2 l).fst,br (xvk l) (xvi l).snd (xvj l).snd)
def xvg (l:LA):=(xvh l).getD (0,[])
def xve (l:LA):=(xvg l).snd
def xvf (l:LA):=(xvg l).fst
def xwj {T:Type} (l:LA) (δ:T) (κ:LA->T):T:=br ((Iter (xeR l (↑l.length:Int)) (0,0,[])).isSome) (br ((xlI l).beq (xpG l).length&&(decide (xlI l<4611686018427387904)&&(xpG l).all isS)) (br ((xt6 l).isSome) (br ((xvn l).isSome) (br ((xvh l).isSome) (br (decide (0+xvf l<=(xve l).length)&&true) (κ (List.take (xvf l) (List.drop 0 (xve l)))) δ) δ) δ) δ) δ) δ
def xwi (l:LA):=xwj l none some
def xHK:EO:=xwO.f Tryz.func104 106 0 [] [(3,xiV.lp),(11,xl4.lp),(17,xl5.lp),(15,xvG.lp)] (lks (lkC xiV.ok (lkC xl4.ok (lkC xvG.ok (lkC xl5.ok lkN))))) (u1 (uL 3)) (fun (l,_) _=>xwj l) (fun _ p=>AV.list 2 p) []
def xfi {T:Type} (d:LA) (e:Int) (c:Nat) (b:Int) (a:LA) (δ:T) (κl:(Nat×Int×LA)->T) (κr:(Nat×LA)->T):T:=br (decide (b<e)) (br (ixI d b) (br (ixT d b 2 [Sh.int .i64,Sh.int .i64] 0) (br (rmB c a 1 24) (κl (c+1,i64.wrap (b+1),a++[AV.agg [AV.int .i64 (gC d b 0).toInt,AV.int .i64 (gC d b 1).toInt,AV.int .i64 1]])) δ) δ) δ) (κr (c,a))
def xbB (c:LA) (d:Int):StT (Nat×Int×LA) (Nat×LA):=fun (b,e,a)=>xfi c d b e a none inL inR
def xmB:=xHK.l 20 0 [] [] Tryz.f66 0 lk0 [3,6,7,8] [3] [(3,3,155)] (q4 (xPm 0 0 0) (qL 2) qI qI) (q1 (qB 0 3 155 xPe)) (fun (b,c,d,e,_) (a,_)=>(xbB c d,(b,e,a),fun p=>(.leaf (.exit 0) [AV.osl 0 0 0 p.1] [bF 0 3 155 p.2]))) (0,[]) fun (_,c,d,_,_) _ (b,e,a)=>(((b,c,d,e,()),(a,())),xfi c d b e a none)
def xkk (l:LA):=(Iter (xbB l (↑l.length:Int)) (0,0,[])).getD (0,[])
def xki (l:LA):=(xkk l).fst
def xkj (l:LA):=(xkk l).snd
def xkh (l:LA):=xwi (List.take (xki l) (List.drop 0 (xkj l)))
def xkx {T:Type} (l:LA) (δ:T) (κ:LA->T):T:=br ((Iter (xbB l (↑l.length:Int)) (0,0,[])).isSome) (br (decide (0+xki l<=(xkj l).length)&&true) (br ((xkh l).isSome) (κ ((xkh l).getD [])) δ) δ) δ
def xev (l:LA):=xkx l none some
def xvp:EO:=xHK.f Tryz.func66 20 0 [] [(3,xmB.lp)] (lk1 xmB.ok) (u1 (uL 2)) (fun (l,_) _=>xkx l) (fun _ p=>AV.list 2 p) []
def xkD {T:Type} (o n:Int) (e f:Nat) (k p m j:Int) (h l i g a:Nat) (b:LA) (d:Nat) (c:LA) (δ:T) (κl:(Int×Int×Nat×Nat×Nat×Nat×Nat×LA×Nat×LA)->T) (κr:(Int×Nat×Nat×Nat×Nat×LA×Nat×LA×Nat)->T):T:=br (decide (m<p)) (br (a==e) (br (a==e) (br (a==e&&(decide (f<b.length)&&xOq (Sh.int .i64) ((b.getD f .top).cells.getD 0 .top))) (br (d==g&&(rmB i c 1 16)) (κl (i64.wrap (m+1),j,h,l,i+1,g+1,a,List.take h b,g+1,c++[AV.agg [AV.int .i64 ((b.getD f .top).cells.getD 0 .top).toInt,AV.int .i64 o]])) δ) δ) δ) δ) (κr (j,l,h,g,i,b,a,c,d))
def xcA (m n:Int) (e f:Nat) (k o:Int):StT (Int×Int×Nat×Nat×Nat×Nat×Nat×LA×Nat×LA) (Int×Nat×Nat×Nat×Nat×LA×Nat×LA×Nat):=fun (p,g,h,i,j,l,a,b,c,d)=>xkD m n e f k o p g h i j l a b c d none inL inR
def xjj:=xvp.l 71 5 [] [] Tryz.f99 1 lk0 [0,1,2,3,4,7,8,37,38] [0,1,2,3,4,7,8] [(3,0,0)] (q9 qI qI (xPn 0 0 0 0) (xPn 1 0 0 0) (xPn 2 0 0 0) (pOwnV 3 0) qI qI qI) (q5 (qB 0 1 3 (q1 qI)) (xPp 0 1 142 false false (q1 (pOslV 3 0))) (xPp 0 1 47 false false (q1 (pOslV 4 0))) (pBoxV 2 144 false true xPe) (pBoxV 2 44 false true xPe)) (fun (o,n,_,_,_,(e,f),k,q,r,_) ((g,_),((h,i),_),((j,m),_),(a,b),(c,d),_)=>(xcA o n e f k q,(r,g,i,h,m,j,a,b,c,d),fun p=>(.leaf (.exit 2) [AV.int .i64 o,AV.int .i64 n,AV.own 0 0 0 0,AV.own 1 0 0 0,AV.own 2 0 0 0,AV.own 3 e f 0,AV.int .i64 k] [bF 0 1 3 [AV.int .i64 p.1],⟨0,1,142,[AV.osl 3 p.2.1 0 p.2.2.1],false,false⟩,⟨0,1,47,[AV.osl 4 p.2.2.2.1 0 p.2.2.2.2.1],false,false⟩,bF p.2.2.2.2.2.2.1 2 144 p.2.2.2.2.2.1,bF p.2.2.2.2.2.2.2.2 2 44 p.2.2.2.2.2.2.2.1]))) (0,0,0,0,0,[],0,[],0) fun (o,n,_,_,_,(e,f),k,q,_,_) _ (r,g,i,h,m,j,a,b,c,d)=>(((o,n,(),(),(),(e,f),k,q,r,()),((g,()),((h,i),()),((j,m),()),(a,b),(c,d),())),xkD o n e f k q r g i h m j a b c d none)
def xaB (a:Nat):Nat:=0+(i64.wrap ((↑a:Int) - 1)).toNat
def xc1 (n b:Int) (c d:Nat) (a:LA):Int:=if i64.wrap (b - n)<((a.getD (xaB c) .top).cells.getD 1 .top).toInt then i64.wrap (b - n) else ((a.getD (xaB c) .top).cells.getD 1 .top).toInt
def xh1 (j n d:Int) (c g h i a:Nat) (b:LA) (e:Nat) (f:LA):=Iter (xcA j n g (xaB c) (xc1 n d c a b) (xc1 n d c a b)) (0,d,c,g,h,i,a,List.take c b,e,f)
def xfH (j n e:Int) (f g h i a:Nat) (b:LA) (c:Nat) (d:LA):=(xh1 j n e f g h i a b c d).getD (0,0,0,0,0,[],0,[],0)
def xh0 (j n e:Int) (f g h i a:Nat) (b:LA) (c:Nat) (d:LA):=(xfH j n e f g h i a b c d).snd
def xeC (j n e:Int) (f g h i a:Nat) (b:LA) (c:Nat) (d:LA):=(xh0 j n e f g h i a b c d).fst
def xhx (j n e:Int) (f g h i a:Nat) (b:LA) (c:Nat) (d:LA):=(xh0 j n e f g h i a b c d).snd
def xeB (j n e:Int) (f g h i a:Nat) (b:LA) (c:Nat) (d:LA):=(xhx j n e f g h i a b c d).fst
def xfG (j n e:Int) (f g h i a:Nat) (b:LA) (c:Nat) (d:LA):=(xhx j n e f g h i a b c d).snd
def xeA (j n e:Int) (f g h i a:Nat) (b:LA) (c:Nat) (d:LA):=i64.wrap ((↑(xeB j n e f g h i a b c d):Int) - 1)
def xfF (j n e:Int) (f g h i a:Nat) (b:LA) (c:Nat) (d:LA):=(xfG j n e f g h i a b c d).snd
def xhZ (j n e:Int) (f g h i a:Nat) (b:LA) (c:Nat) (d:LA):=(xfF j n e f g h i a b c d).snd
def xgs (j n e:Int) (f g h i a:Nat) (b:LA) (c:Nat) (d:LA):=(xhZ j n e f g h i a b c d).fst
def xji (j n e:Int) (f g h i a:Nat) (b:LA) (c:Nat) (d:LA):=(xhZ j n e f g h i a b c d).snd
def xcz (j n f:Int) (g e h i a:Nat) (b:LA) (c:Nat) (d:LA):=(xji j n f g e h i a b c d).fst==e
def xjh (j n f:Int) (e g h i a:Nat) (b:LA) (c:Nat) (d:LA):=decide (xaB e<(xgs j n f e g h i a b c d).length)
def xez (j n f:Int) (e g h i a:Nat) (b:LA) (c:Nat) (d:LA):=((xgs j n f e g h i a b c d).getD (xaB e) .top).cells
def xeD (j n e:Int) (f g h i a:Nat) (b:LA) (c:Nat) (d:LA):=(xji j n e f g h i a b c d).snd
def xdA (j n f:Int) (e g h i a:Nat) (b:LA) (c:Nat) (d:LA):=(xgs j n f e g h i a b c d).set (xaB e) (AV.agg (List.take 1 (xez j n f e g h i a b c d)++[AV.int .i64 (i64.wrap (((xez j n f e g h i a b c d).getD 1 .top).toInt - xc1 n f e a b))]++List.drop 2 (xez j n f e g h i a b c d)))
def xfm {T:Type} (j n g:Int) (f e h i a:Nat) (b:LA) (c:Nat) (d:LA) (δ:T) (κl:(Int×Nat×Nat×Nat×Nat×Nat×LA×Nat×LA)->T) (κr:(Int×Nat×Nat×Nat×Nat×LA×Nat×LA×Nat)->T):T:=br (decide (g>n)) (br (a==e) (br (a==e&&(decide (0<=i64.wrap ((↑f:Int) - 1))&&decide (i64.wrap ((↑f:Int) - 1)<(↑f:Int)))) (br (a==e) (br (a==e) (br (a==e&&(decide (xaB f<b.length)&&xOq (Sh.int .i64) ((b.getD (xaB f) .top).cells.getD 1 .top))) (br ((xh1 j n g f e h i a b c d).isSome) (br (xcz j n g f e h i a b c d) (br (xcz j n g f e h i a b c d) (br (xcz j n g f e h i a b c d&&(xjh j n g f e h i a b c d&&xOq (Sh.int .i64) ((xez j n g f e h i a b c d).getD 1 .top))) (br (xcz j n g f e h i a b c d) (br (xcz j n g f e h i a b c d) (br (xcz j n g f e h i a b c d&&xjh j n g f e h i a b c d) (br (e==e) (br (e==e) (br (e==e&&(decide (xaB f<(xdA j n g f e h i a b c d).length)&&xOq (Sh.int .i64) (((xdA j n g f e h i a b c d).getD (xaB f) .top).cells.getD 1 .top))) (br ((((xdA j n g f e h i a b c d).getD (xaB f) .top).cells.getD 1 .top).toInt==0) (br (e==xeC j n g f e h i a b c d) (br (e==xeC j n g f e h i a b c d&&(decide (0<=xeA j n g f e h i a b c d)&&decide (xeA j n g f e h i a b c d<=(↑(xeB j n g f e h i a b c d):Int))&&true)) (κl (i64.wrap ((xfH j n g f e h i a b c d).fst - xc1 n g f a b),(xeA j n g f e h i a b c d).toNat - 0,xeC j n g f e h i a b c d,(xfF j n g f e h i a b c d).fst,(xfG j n g f e h i a b c d).fst,e,List.take ((xeA j n g f e h i a b c d).toNat - 0) (xdA j n g f e h i a b c d),(xeD j n g f e h i a b c d).snd,(xeD j n g f e h i a b c d).fst)) δ) δ) (κl (i64.wrap ((xfH j n g f e h i a b c d).fst - xc1 n g f a b),xeB j n g f e h i a b c d,xeC j n g f e h i a b c d,(xfF j n g f e h i a b c d).fst,(xfG j n g f e h i a b c d).fst,e,List.take (xeB j n g f e h i a b c d) (xdA j n g f e h i a b c d),(xeD j n g f e h i a b c d).snd,(xeD j n g f e h i a b c d).fst))) δ) δ) δ) δ) δ) δ) δ) δ) δ) δ) δ) δ) δ) δ) δ) (κr (g,e,f,i,h,b,a,d,c))
def xbN (j n:Int):StT (Int×Nat×Nat×Nat×Nat×Nat×LA×Nat×LA) (Int×Nat×Nat×Nat×Nat×LA×Nat×LA×Nat):=fun (e,f,g,h,i,a,b,c,d)=>xfm j n e f g h i a b c d none inL inR
def xtj:=xvp.l 71 5 [] [(7,xjj.lp)] Tryz.f99 0 (lk1 xjj.ok) [0,1,2,3,4] [] [(3,0,0)] (q5 qI qI (xPn 0 0 0 0) (xPn 1 0 0 0) (xPn 2 0 0 0)) (q5 (qB 0 1 3 (q1 qI)) (xPp 0 1 142 false false (q1 (pOslV 3 0))) (xPp 0 1 47 false false (q1 (pOslV 4 0))) (pBoxV 2 144 false true xPe) (pBoxV 2 44 false true xPe)) (fun (j,n,_,_,_,_) ((e,_),((f,g),_),((h,i),_),(a,b),(c,d),_)=>(xbN j n,(e,g,f,i,h,a,b,c,d),fun p=>(.leaf (.exit 0) [] [bF 0 1 3 [AV.int .i64 p.1],⟨0,1,142,[AV.osl 3 p.2.1 0 p.2.2.1],false,false⟩,⟨0,1,47,[AV.osl 4 p.2.2.2.1 0 p.2.2.2.2.1],false,false⟩,bF p.2.2.2.2.2.2.1 2 144 p.2.2.2.2.2.1,bF p.2.2.2.2.2.2.2.2 2 44 p.2.2.2.2.2.2.2.1]))) (0,0,0,0,0,[],0,[],0) fun (j,n,_,_,_,_) _ (e,g,f,i,h,a,b,c,d)=>(((j,n,(),(),(),()),((e,()),((f,g),()),((h,i),()),(a,b),(c,d),())),xfm j n e g f i h a b c d none)
def xgW:Env:=xvp.E.fn 71 5 (lsOf []) (xOP [(7,xjj.lp),(3,xtj.lp)])
theorem xzB:xOs P0 (xO9.at 5) xgW:=xvp.ok.fn
theorem xw3:LoOk P0 (xO9.at xgW.pin) xgW (Tryz.f99.body.getD .skip):=xfE (ls:=[xOw Tryz.f99 0,xOw Tryz.f99 1]) (by kernel_rfl) (lkC xtj.ok (lkC xjj.ok lkN))
def xlU (a n h:Int) (b c:Nat) (d e:LA):=Iter (xbN a n) (n,b+1,1,c,0,1,List.take (b+1) (d++[AV.agg [AV.int .i64 a,AV.int .i64 (i64.wrap (n - h))]]),0,e)
def xlV (a n h:Int) (b c:Nat) (d e:LA):=Iter (xbN a n) (h,b,0,c,0,0,List.take b d,0,e)
def xlP (a n h:Int) (b c:Nat) (d e:LA):=(xlU a n h b c d e).getD (0,0,0,0,0,[],0,[],0)
def xlT (a n h:Int) (b c:Nat) (d e:LA):=(xlV a n h b c d e).getD (0,0,0,0,0,[],0,[],0)
def xmU (a n h:Int) (b c:Nat) (d e:LA):=(xlP a n h b c d e).snd
def xlS (a n h:Int) (b c:Nat) (d e:LA):=(xlT a n h b c d e).snd
def xmR (a n h:Int) (b c:Nat) (d e:LA):=(xmU a n h b c d e).snd
def xlR (a n h:Int) (b c:Nat) (d e:LA):=(xlS a n h b c d e).snd
def xmQ (a n h:Int) (b c:Nat) (d e:LA):=(xmR a n h b c d e).snd
def xlQ (a n h:Int) (b c:Nat) (d e:LA):=(xlR a n h b c d e).snd
def xmP (a n h:Int) (b c:Nat) (d e:LA):=(xmQ a n h b c d e).snd
def xlO (a n h:Int) (b c:Nat) (d e:LA):=(xlQ a n h b c d e).snd
def xmO (a n h:Int) (b c:Nat) (d e:LA):=(xmP a n h b c d e).snd
def xmV (a n h:Int) (b c:Nat) (d e:LA):=(xlO a n h b c d e).snd
def xmN (a n h:Int) (b c:Nat) (d e:LA):=(xmO a n h b c d e).snd
def xmT (a n h:Int) (b c:Nat) (d e:LA):=(xmV a n h b c d e).snd
def xmM (a n h:Int) (b c:Nat) (d e:LA):=(xmN a n h b c d e).snd
def xmS (a n h:Int) (b c:Nat) (d e:LA):=(xmT a n h b c d e).snd
def xli {T:Type} (a n h:Int) (b d:Nat) (c e:LA) (δ:T) (κ:Int×Nat×Nat×Nat×Nat×LA×Nat×LA×Nat->T):T:=br (decide (n>h)) (br (rmB b c 1 16) (br ((xlU a n h b d c e).isSome) (κ ((xlP a n h b d c e).fst,(xmU a n h b d c e).fst,(xmR a n h b d c e).fst,(xmQ a n h b d c e).fst,(xmP a n h b d c e).fst,(xmO a n h b d c e).fst,(xmN a n h b d c e).fst,(xmM a n h b d c e).fst,(xmM a n h b d c e).snd)) δ) δ) (br ((xlV a n h b d c e).isSome) (κ ((xlT a n h b d c e).fst,(xlS a n h b d c e).fst,(xlR a n h b d c e).fst,(xlQ a n h b d c e).fst,(xlO a n h b d c e).fst,(xmV a n h b d c e).fst,(xmT a n h b d c e).fst,(xmS a n h b d c e).fst,(xmS a n h b d c e).snd)) δ)
def xlN (a n h:Int) (b c:Nat) (d e:LA):=xli a n h b c d e none some
theorem xD0 (a n h:Int) (b c:Nat) (d e:LA):Enc (fun (p:Int×Nat×Nat×Nat×Nat×LA×Nat×LA×Nat)=>(((AV.tuple [],([⟨0,1,3,[AV.int .i64 p.1],false,true⟩,⟨0,1,142,[AV.osl 3 p.2.1 0 p.2.2.1],false,false⟩,⟨0,1,47,[AV.osl 4 p.2.2.2.1 0 p.2.2.2.2.1],false,false⟩,⟨p.2.2.2.2.2.2.1,2,144,p.2.2.2.2.2.1,false,true⟩,⟨p.2.2.2.2.2.2.2.2,2,44,p.2.2.2.2.2.2.2.1,false,true⟩]:List Box))):(AV×List Box))) (xlN a n h b c d e) (XFM P0 xgW Tryz.f99 (Tryz.f99.body.getD .skip) [AV.int .i64 a,AV.int .i64 n,AV.own (0:Id) 0 0 0,AV.own (1:Id) 0 0 0,AV.own (2:Id) 0 0 0] [{ ver:=0,sz:=1,ty:=(3:TypeId),xs:=[AV.int .i64 h],frz:=false,pm:=true },{ ver:=0,sz:=1,ty:=(142:TypeId),xs:=[AV.osl (3:Id) 0 0 b],frz:=false,pm:=false },{ ver:=0,sz:=1,ty:=(47:TypeId),xs:=[AV.osl (4:Id) 0 0 c],frz:=false,pm:=false },{ ver:=0,sz:=2,ty:=(144:TypeId),xs:=d,frz:=false,pm:=true },{ ver:=0,sz:=2,ty:=(44:TypeId),xs:=e,frz:=false,pm:=true }]):=by
 have h:XFM P0 xgW Tryz.f99 (Tryz.f99.body.getD .skip) [AV.int .i64 a,AV.int .i64 n,AV.own (0:Id) 0 0 0,AV.own (1:Id) 0 0 0,AV.own (2:Id) 0 0 0] [{ ver:=0,sz:=1,ty:=(3:TypeId),xs:=[AV.int .i64 h],frz:=false,pm:=true },{ ver:=0,sz:=1,ty:=(142:TypeId),xs:=[AV.osl (3:Id) 0 0 b],frz:=false,pm:=false },{ ver:=0,sz:=1,ty:=(47:TypeId),xs:=[AV.osl (4:Id) 0 0 c],frz:=false,pm:=false },{ ver:=0,sz:=2,ty:=(144:TypeId),xs:=d,frz:=false,pm:=true },{ ver:=0,sz:=2,ty:=(44:TypeId),xs:=e,frz:=false,pm:=true }]=xli a n h b c d e none (fun (p:Int×Nat×Nat×Nat×Nat×LA×Nat×LA×Nat)=>some (((AV.tuple [],([⟨0,1,3,[AV.int .i64 p.1],false,true⟩,⟨0,1,142,[AV.osl 3 p.2.1 0 p.2.2.1],false,false⟩,⟨0,1,47,[AV.osl 4 p.2.2.2.1 0 p.2.2.2.2.1],false,false⟩,⟨p.2.2.2.2.2.2.1,2,144,p.2.2.2.2.2.1,false,true⟩,⟨p.2.2.2.2.2.2.2.2,2,44,p.2.2.2.2.2.2.2.1,false,true⟩]:List Box))):(AV×List Box))):=by kernel_rfl
 rw [h];unfold xlN xli;repeat' (first|refine Enc.br ?_ ?_|exact Enc.none|exact Enc.some rfl)
end Go.Sim.M
end
noncomputable section
set_option maxRecDepth 100000
namespace Go.Sim
open Go.RowKit
theorem GoodM.aged {P:Program} {Inv:IV} {f:FuncId} {args:List AV} {H E:List Box} {p q v k t s y:Nat} {xs:List AV}
  (h:GoodM P Inv f args H (.tuple []) E) (hz:∀ bx,H[q]?=some bx->bx.ver=0)
  (ep:E[p]?=some ⟨0,1,t,[.osl (.b q) v 0 k],false,false⟩) (eq:E[q]?=some ⟨v,s,y,xs,false,true⟩) (pt:isC t=false) (py:isC y=false)
  (ho:∀ n bx,E[n]?=some bx->isC bx.ty=false/\(n=p\/n=q\/bx.pm=true\/∃ n' v' k',n'≠q/\bx.xs=[.osl (.b n') v' 0 k'])) :
  GoodM P Inv f args H (.tuple []) ((E.set p ⟨0,1,t,[.osl (.b q) 1 0 k],false,false⟩).set q ⟨1,s,y,xs,false,true⟩):=by
 have pq:p≠q:=fun e=>by
  subst e;rw [ep] at eq;simp at eq
 refine ⟨h.1,fun w0 w A M vs hI hB hR W=>(h.2 w0 w A M vs hI hB hR W).mono ?_⟩
 rintro e w' ⟨u,A',M',rfl,h1,h2,h3,h4,h5⟩;let M'':Id->Option MB:=fun id=>if id=.b q then (M' id).map fun m=>⟨m.b,1,m.sz,m.cap,m.ty⟩ else M' id
 have eo:∀ id,id≠.b q->M'' id=M' id:=fun id g1=>if_neg g1
 have e4:∀ m,M' (.b q)=some m->M'' (.b q)=some ⟨m.b,1,m.sz,m.cap,m.ty⟩:=fun m hm=>(if_pos rfl).trans (by rw [hm];rfl)
 have Q:∀ id m1,M'' id=some m1->∃ m0,M' id=some m0/\m1.b=m0.b/\m1.cap=m0.cap:=fun id m1 J=>by
  by_cases g3:id=.b q
  . subst g3;cases hm:M' (.b q) with
    | none=>simp [M'',hm] at J
    | some m=>rw [e4 m hm] at J;simp only [z6] at J;subst J;exact ⟨m,rfl,rfl,rfl⟩
  . exact ⟨m1,eo id g3▸J,rfl,rfl⟩
 have O:∀ n bx m,E[n]?=some bx->M' (.b n)=some m->BoxAt w' A' M' w0.heap.size (.b n) m bx:=fun n bx m hn hm=>by
  obtain ⟨bx',g1,g2⟩:=h4.box _ m hm;rw [xax,hn] at g1;cases g1;exact g2
 have hv:∀ m,M' (.b q)=some m->v=m.ver:=fun m hm=>(O q _ m eq hm).ver
 have hx:∀ c n' v' k',n'≠q->Rel w' A' M' c (.osl (.b n') v' 0 k')->Rel w' A' M'' c (.osl (.b n') v' 0 k'):=fun c n' v' k' hn hr=>by
  obtain ⟨m0,g1,g2,g3,g4⟩:=Rel.osl_inv hr;exact .osl c _ v' 0 k' m0 ((eo _ fun e=>hn (by cases e;rfl)).trans g1) g2 g3 g4
 have hy:∀ c,Rel w' A' M' c (.osl (.b q) v 0 k)->Rel w' A' M'' c (.osl (.b q) 1 0 k):=fun c hr=>by
  obtain ⟨m0,g1,g2,g3,g4⟩:=Rel.osl_inv hr;exact .osl c _ 1 0 k _ (e4 m0 g1) (zd _) g3 fun _=>g4 (hv m0 g1)
 have hb:∀ id (bx bx':Box) (m m':MB),isC bx.ty=false->bx'=⟨m'.ver,bx.sz,bx.ty,bx'.xs,bx.frz,bx.pm⟩->m'=⟨m.b,m'.ver,m.sz,m.cap,m.ty⟩->bx'.xs.length=bx.xs.length->(∀ x,x∈bx'.xs->x.okElem m.sz=true) ->
   (∀ c i j,Rel w' A' (MP M' bx.pm) c ((bx.xs.getD i .top).cells.getD j .top)->Rel w' A' (MP M'' bx.pm) c ((bx'.xs.getD i .top).cells.getD j .top))->BoxAt w' A' M' w0.heap.size id m bx->BoxAt w' A' M'' w0.heap.size id m' bx':=fun id bx bx' m m' U Y ac hl aa hc g=>by
  rw [Y,ac];have V:xOu m.ty=false:=g.nomap (xat U);refine ⟨rfl,g.sz,g.ty,g.capm,hl▸g.fits,aa,g.low,g.lt,fun h0=>?_,g.guard⟩
  obtain ⟨c,c1,c2,c3⟩:=g.cells h0;refine ⟨c,.of V (c1.plain V),c2,fun i j hi hj=>?_⟩
  have:=c3 i j (hl▸hi) hj;rw [xam U,xaL U] at this;rw [xam U,xaL (bx:=⟨m'.ver,bx.sz,bx.ty,bx'.xs,bx.frz,bx.pm⟩) U];exact hc _ i j this
 have ht:∀ a v1 v2 d,(∀ c,Rel w' A' M' c (.osl a v1 0 d)->Rel w' A' M'' c (.osl a v2 0 d))->∀ c i j,Rel w' A' M' c ((([.osl a v1 0 d]:List AV).getD i .top).cells.getD j .top)->Rel w' A' M'' c ((([.osl a v2 0 d]:List AV).getD i .top).cells.getD j .top):=fun a v1 v2 d hh c i j hr=>by
  match i,j with
  | 0,0=>exact hh c hr
  | 0,j+1=>exact .top _
  | i+1,0=>exact .top _
  | i+1,j+1=>exact .top _
 have hg:∀ n bx,E[n]?=some bx->∃ bx',((E.set p ⟨0,1,t,[.osl (.b q) 1 0 k],false,false⟩).set q ⟨1,s,y,xs,false,true⟩)[n]?=some bx'/\isC bx'.ty=false/\(∀ m m1,M' (.b n)=some m->M'' (.b n)=some m1->BoxAt w' A' M'' w0.heap.size (.b n) m1 bx'):=fun n bx hn=>by
  have hn':=xb1 hn;obtain ⟨hC,hc⟩:=ho n bx hn;by_cases g1:n=q
  . subst g1;rw [hn] at eq;cases eq;refine ⟨_,zL (by simpa using hn'),py,fun m m1 e1 e2=>?_⟩
    rw [e4 m e1] at e2;cases e2;have g:=O n _ m hn e1;exact hb _ ⟨v,s,y,xs,false,true⟩ ⟨1,s,y,xs,false,true⟩ m _ py rfl rfl rfl g.ok (fun c i j hr=>hr) g
  . have ge:∀ m m1,M' (.b n)=some m->M'' (.b n)=some m1->m1=m:=fun m m1 e1 e2=>by
     rw [eo _ fun e=>g1 (by cases e;rfl),e1] at e2;cases e2;rfl
    by_cases g2:n=p
    . subst g2;rw [hn] at ep;cases ep;refine ⟨_,(zX (Ne.symm g1)).trans (zL hn'),pt,fun m m1 e1 e2=>?_⟩
      cases ge m m1 e1 e2;have g:=O n _ m hn e1;have hv:0=m.ver:=g.ver;have hz:m.sz=1:=g.sz.symm;exact hb _ ⟨0,1,t,[.osl (.b q) v 0 k],false,false⟩ ⟨0,1,t,[.osl (.b q) 1 0 k],false,false⟩ m m pt (by rw [<-hv]) rfl rfl (fun x hx=>by simp only [zv] at hx;subst hx;rw [hz];rfl) (ht _ _ _ _ hy) g
    . refine ⟨bx,(zX (Ne.symm g1)).trans ((zX (Ne.symm g2)).trans hn),hC,fun m m1 e1 e2=>?_⟩
      cases ge m m1 e1 e2;have g:=O n _ m hn e1;refine hb _ bx bx m m hC (by rw [<-g.ver]) rfl rfl g.ok ?_ g
      rcases hc with hc|hc|hc|⟨n',v',k',hc,hd⟩
      . exact absurd hc g2
      . exact absurd hc g1
      . rw [hc];exact fun c i j hr=>hr
      . cases ad:bx.pm with
        | true=>exact fun c i j hr=>hr
        | false=>rw [hd];exact ht _ _ _ _ fun c=>hx c n' v' k' hc
 have hR':HR w' A' M'' w0.heap.size ((E.set p ⟨0,1,t,[.osl (.b q) 1 0 k],false,false⟩).set q ⟨1,s,y,xs,false,true⟩):=by
  refine ⟨fun id m1 J=>?_,fun id id' m1 m2 k1 k2 c1 c2 he=>?_,h4.lt⟩
  . obtain ⟨m0,g1,_⟩:=Q id m1 J;obtain ⟨bx,q1,q2⟩:=h4.box _ m0 g1;cases id with
    | r n i j =>
     rw [eo _ (fun e=>by cases e),g1] at J
     cases J;obtain ⟨c0,r1,_⟩:=xow q1;obtain ⟨bx',r2,r3,_⟩:=hg n c0 r1;rw [xcw r1 (ho n c0 r1).1] at q1;cases q1;exact ⟨_,xcw r2 r3,hb _ tombB tombB m1 m1 rfl (by rw [<-q2.ver]) rfl rfl q2.ok (fun c i j hr=>hr) q2⟩
    | b n =>
     obtain ⟨bx',r2,_,r3⟩:=hg n bx q1;exact ⟨bx',r2,r3 _ _ g1 J⟩
  . obtain ⟨n1,a1,a2,a3⟩:=Q id m1 k1;obtain ⟨n2,b1,b2,b3⟩:=Q id' m2 k2;exact h4.inj id id' n1 n2 a1 b1 (a3▸c1) (b3▸c2) (by rw [<-a2,<-b2,he])
 refine ⟨u,A',M'',rfl,h1,h2,⟨h3.size,h3.keep,h3.less,h3.more,fun id m Z hm=>?_,fun id m1 J h0=>?_⟩,hR',?_⟩
 . obtain ⟨m',g1,g2⟩:=h3.ids id m Z hm;by_cases q4:id=.b q
   . subst q4;obtain ⟨bx,r1,r2⟩:=hR.box _ m hm;exact ⟨_,e4 m' g1,.inr (by rw [<-r2.ver,hz bx r1];exact Nat.zero_lt_one)⟩
   . exact ⟨m',(eo id q4).trans g1,g2⟩
 . obtain ⟨m0,g1,g2,g3⟩:=Q id m1 J;rw [g2];exact h3.src id m0 g1 (g3▸h0)
 . obtain ⟨ab,rfl,q1,_⟩:=h5.tuple_inv;exact .tuple ab [] q1 (by simp)
namespace M
open Go.Proofs
noncomputable def set2 (q n h:Int) (ns no:Nat) (sx ox:List AV):Option (Int×Nat×Nat×List AV×List AV):=(xlN q n h ns no sx ox).bind fun p =>
 br (Nat.beq p.2.1 p.2.2.2.2.2.2.1&&Nat.beq p.2.2.2.1 p.2.2.2.2.2.2.2.2) (some (p.1,p.2.2.1,p.2.2.2.2.1,p.2.2.2.2.2.1,p.2.2.2.2.2.2.2.1)) none
noncomputable def xJs:List AV->List Box->Option (Bool×AV×List Box):=omOf (xPb (sEq (pInt IntKind.i64)) (xPb (sEq (pInt IntKind.i64)) (xPb (sEq (xPn 0 0 0 0)) (xPb (sEq (xPn 1 0 0 0)) (xPb (sEq (xPn 2 0 0 0)) xPd)))))
 (xPa (xPp 0 1 3 false true (xPa (pInt IntKind.i64) xPc)) (xPa (xPp 0 1 142 false false (xPa (xPm 3 0 0) xPc)) (xPa (xPp 0 1 47 false false (xPa (xPm 4 0 0) xPc)) (xPa (xPp 0 2 144 false true xPe) (xPa (xPp 0 2 44 false true xPe) xPc)))))
 fun (q,(n,(_,(_,(_,_))))) ((h,_),((ns,_),((no,_),(sx,(ox,_)))))=>((set2 q n h ns no sx ox).isSome,(.tuple [],[⟨0,1,3,[.int .i64 ((set2 q n h ns no sx ox).getD (0,0,0,[],[])).1],false,true⟩,⟨0,1,142,[.osl (.b 3) 1 0 ((set2 q n h ns no sx ox).getD (0,0,0,[],[])).2.1],false,false⟩,⟨0,1,47,[.osl (.b 4) 1 0 ((set2 q n h ns no sx ox).getD (0,0,0,[],[])).2.2.1],false,false⟩,⟨1,2,144,((set2 q n h ns no sx ox).getD (0,0,0,[],[])).2.2.2.1,false,true⟩,⟨1,2,44,((set2 q n h ns no sx ox).getD (0,0,0,[],[])).2.2.2.2,false,true⟩]))
theorem xMY:OmOk P0 xO9 99 xJs:=xp6 fun vv bb rr Y hh=>by
 obtain ⟨J,⟨n,⟨_,⟨_,⟨_,_⟩⟩⟩⟩⟩:=vv;obtain ⟨⟨h,_⟩,⟨⟨ns,_⟩,⟨⟨no,_⟩,⟨sx,⟨ox,_⟩⟩⟩⟩⟩:=bb;obtain ⟨O,V⟩:=Prod.mk.inj hh;cases hs:xlN J n h ns no sx ox with
 | none=>rw [show set2 J n h ns no sx ox=none by unfold set2;rw [hs];rfl] at O;simp at O
 | some p =>
  have U:set2 J n h ns no sx ox=br (Nat.beq p.2.1 p.2.2.2.2.2.2.1&&Nat.beq p.2.2.2.1 p.2.2.2.2.2.2.2.2) (some (p.1,p.2.2.1,p.2.2.2.2.1,p.2.2.2.2.2.1,p.2.2.2.2.2.2.2.1)) none:=by unfold set2;rw [hs];rfl
  cases ht:Nat.beq p.2.1 p.2.2.2.2.2.2.1&&Nat.beq p.2.2.2.1 p.2.2.2.2.2.2.2.2 with
  | false=>rw [U,ht] at O;simp [br] at O
  | true =>
   rw [ht] at U;have W:set2 J n h ns no sx ox=some (p.1,p.2.2.1,p.2.2.2.2.1,p.2.2.2.2.2.1,p.2.2.2.2.2.2.2.1):=U;rw [W] at V;simp only [zh] at V;simp only [zf] at ht;have e1:=zg ht.1;have e2:=zg ht.2;have hx:=xD0 J n h ns no sx ox p hs;have hg:GoodM P0 xO9 99 _ _ _ _:=xga (p:=xgW.pin) (xg6 xOC (xOD P0 _) rfl xzB rfl Tryz.func99 rfl (by kernel_rfl) xw3 hx)
   rw [<-e1,<-e2] at hg;have Q:=GoodM.aged (p:=1) (q:=3) hg (fun bx hb=>by cases hb;rfl) rfl rfl rfl rfl (fun n bx hn=>by
    match n with
    | 0=>cases hn;exact ⟨rfl,.inr (.inr (.inl rfl))⟩
    | 1=>cases hn;exact ⟨rfl,.inl rfl⟩
    | 2=>cases hn;exact ⟨rfl,.inr (.inr (.inr ⟨_,_,_,by decide,rfl⟩))⟩
    | 3=>cases hn;exact ⟨rfl,.inr (.inl rfl)⟩
    | 4=>cases hn;exact ⟨rfl,.inr (.inr (.inl rfl))⟩
    | n+5=>simp at hn)
   have Q:=GoodM.aged (p:=2) (q:=4) Q (fun bx hb=>by cases hb;rfl) rfl rfl rfl rfl (fun n bx hn=>by
    match n with
    | 0=>cases hn;exact ⟨rfl,.inr (.inr (.inl rfl))⟩
    | 1=>cases hn;exact ⟨rfl,.inr (.inr (.inr ⟨_,_,_,by decide,rfl⟩))⟩
    | 2=>cases hn;exact ⟨rfl,.inl rfl⟩
    | 3=>cases hn;exact ⟨rfl,.inr (.inr (.inl rfl))⟩
    | 4=>cases hn;exact ⟨rfl,.inr (.inl rfl)⟩
    | n+5=>simp at hn)
   obtain ⟨rfl,rfl⟩:=Prod.mk.inj V;exact Q
noncomputable def ESet:Env:=xvp.E.withM 99 xJs
theorem xKZ:xOs P0 xO9 ESet:=xvp.ok.withM xMY
noncomputable def xFK:EO:=EO.mk ESet xKZ
end M
end Go.Sim
end
noncomputable section
set_option maxRecDepth 100000
namespace Go.Sim.M
open Go.IntKind (i64 u64 u8)
open Go.RowKit Go.Proofs
def xlH (a:LA) (h b:Int) (f c:Nat) (g:Int) (d e:LA):Int:=if 0>(gC a b 1).toInt then 0 else (gC a b 1).toInt
def xlG (f:LA) (h g:Int) (d a:Nat) (e:Int) (b c:LA):=set2 (gC f g 0).toInt (if 1048576<xlH f h g d a e b c then 1048576 else xlH f h g d a e b c) e a d c b
def xlF (f:LA) (g h:Int) (d a:Nat) (e:Int) (b c:LA):=(xlG f g h d a e b c).getD (0,0,0,[],[])
def xlE (f:LA) (g h:Int) (d a:Nat) (e:Int) (b c:LA):=(xlF f g h d a e b c).snd
def xlC (f:LA) (g h:Int) (d a:Nat) (e:Int) (b c:LA):=(xlE f g h d a e b c).fst
def xlD (f:LA) (g h:Int) (d a:Nat) (e:Int) (b c:LA):=(xlE f g h d a e b c).snd
def xlB (f:LA) (g h:Int) (d a:Nat) (e:Int) (b c:LA):=(xlD f g h d a e b c).snd
def xie {T:Type} (g:LA) (h e:Int) (d a:Nat) (f:Int) (b c:LA) (δ:T) (κl:(Int×Nat×Nat×Int×LA×LA)->T) (κr:(Nat×Int×Nat×LA×LA)->T):T:=br (decide (e<h)) (br (ixI g e) (br (ixT g e 2 [Sh.int .i64,Sh.int .i64] 0) (br ((xlG g h e d a f b c).isSome) (κl (i64.wrap (e+1),(xlD g h e d a f b c).fst,xlC g h e d a f b c,(xlF g h e d a f b c).fst,(xlB g h e d a f b c).snd,List.take (xlC g h e d a f b c) (xlB g h e d a f b c).fst)) δ) δ) δ) (κr (d,f,a,b,c))
def xcx (f:LA) (g:Int):StT (Int×Nat×Nat×Int×LA×LA) (Nat×Int×Nat×LA×LA):=fun (h,d,a,e,b,c)=>xie f g h d a e b c none inL inR
def xrM:=xFK.l 30 0 [] [] Tryz.f65 0 lk0 [3,4,6,10,11,12] [3,6] [(3,2,44),(4,2,144),(4,0,0)] (q6 (xPn 0 0 0 0) (xPn 1 0 0 0) (xOQ 99 (q3 (xPn 2 0 0 0) (xPn 1 0 0 0) (xPn 0 0 0 0))) (qL 2) qI qI) (q5 (xPp 0 1 47 false false (q1 (xPm 3 0 0))) (xPp 0 1 142 false false (q1 (xPm 4 0 0))) (qB 0 1 3 (q1 qI)) (qB 0 2 44 xPe) (qB 0 2 144 xPe)) (fun (_,_,(_,_,_,_),f,g,h,_) ((d,_),(a,_),(e,_),b,c,_)=>(xcx f g,(h,d,a,e,b,c),fun p=>(.leaf (.exit 0) [AV.own 0 0 0 0,AV.func 99 [AV.own 1 0 0 0,AV.own 2 0 0 0,AV.own 0 0 0 0]] [⟨0,1,47,[AV.osl 3 0 0 p.1],false,false⟩,bF 0 1 3 [AV.int .i64 p.2.1],⟨0,1,142,[AV.osl 4 0 0 p.2.2.1],false,false⟩,bF 0 2 44 p.2.2.2.1,bF 0 2 144 p.2.2.2.2]))) (0,0,0,[],[]) fun (_,_,(_,_,_,_),f,g,_,_) _ (h,d,a,e,b,c)=>((((),(),((),(),(),()),f,g,h,()),((d,()),(a,()),(e,()),b,c,())),xie f g h d a e b c none)
def xpF (l:LA):=Iter (xcx l (↑l.length:Int)) (0,0,0,0,[],[])
def xpE (l:LA):=(xpF l).getD (0,0,0,[],[])
def xpD (l:LA):=(xpE l).snd
def xpC (l:LA):=(xpD l).snd
def xpB (l:LA):=(xpC l).snd
def xpA (l:LA):=set2 1099511627776 0 (xpD l).fst (xpC l).fst (xpE l).fst (xpB l).snd (xpB l).fst
def xpz (l:LA):=((xpA l).getD (0,0,0,[],[])).snd.snd
def xhz (l:LA):=(xpz l).fst
def xhA (l:LA):=(xpz l).snd.snd
def xq0 {T:Type} (l:LA) (δ:T) (κ:LA->T):T:=br ((xpF l).isSome) (br ((xpA l).isSome) (br ((xhz l).beq (xhA l).length&&(decide (xhz l<4611686018427387904)&&(xhA l).all isP)) (br (decide (0+xhz l<=(srtP (xhA l)).length)&&true) (κ (List.take (xhz l) (List.drop 0 (srtP (xhA l))))) δ) δ) δ) δ
def xpy (l:LA):=xq0 l none some
def xMc:EO:=xFK.f Tryz.func65 30 0 [] [(6,xrM.lp)] (lk1 xrM.ok) (u1 (uL 2)) (fun (l,_) _=>xq0 l) (fun _ p=>AV.list 2 p) []
def xn9 {T:Type} (a:LA) (δ:T) (κ:LA->T):T:=br ((↑a.length:Int)==1) (κ (a)) (br ((xev a).isSome) (br ((xpy ((xev a).getD [])).isSome) (κ ((xpy ((xev a).getD [])).getD [])) δ) δ)
def xfC (a:LA):=xn9 a none some
def xDc:EO:=xMc.f Tryz.func64 10 0 [] [] lk0 (u1 (uL 2)) (fun (a,_) _=>xn9 a) (fun _ p=>AV.list 2 p) []
def xkS {T:Type} (b e:LA) (f:Int) (c:Nat) (a:Int) (d:LA) (δ:T) (κl:(Nat×Int×LA)->T) (κr:(Nat×LA)->T):T:=br (decide (a<f)) (br (decide (0<=a)&&decide (a<e.length)) (br (decide (a.toNat<e.length)&&((e.getD a.toNat .top).cells.length==2&&xOy [Sh.int .i64,Sh.int .i64] (e.getD a.toNat .top).cells 0)) (br (xgt ((e.getD a.toNat .top).cells.getD 0 .top).toInt ((e.getD a.toNat .top).cells.getD 1 .top).toInt) (br (c==d.length&&(decide ((c+2)*24<=140737488355328)&&decide (c+2<=4611686018427387904))) (κl (c+2,i64.wrap (a+1),d++[AV.agg [AV.int .i64 ((e.getD a.toNat .top).cells.getD 0 .top).toInt,AV.int .i64 1,AV.int .i64 0],AV.agg [AV.int .i64 ((e.getD a.toNat .top).cells.getD 1 .top).toInt,AV.int .i64 (-1),AV.int .i64 0]])) δ) (κl (c,i64.wrap (a+1),d))) δ) δ) (κr (c,d))
def xbQ (b d:LA) (e:Int):StT (Nat×Int×LA) (Nat×LA):=fun (c,f,a)=>xkS b d e c f a none inL inR
def xnP:=xDc.l 49 0 [] [] Tryz.f97 0 lk0 [1,5,10,11,12] [1,5] [(5,3,137)] (q5 (qL 2) (xPm 0 0 0) (qL 2) qI qI) (q1 (qB 0 3 137 xPe)) (fun (b,c,d,e,f,_) (a,_)=>(xbQ b d e,(c,f,a),fun p=>(.leaf (.exit 0) [AV.list 2 b,AV.osl 0 0 0 p.1] [bF 0 3 137 p.2]))) (0,[]) fun (b,_,d,e,_,_) _ (c,f,a)=>(((b,c,d,e,f,()),(a,())),xkS b d e c f a none)
def xkT {T:Type} (d:LA) (e:Int) (b:Nat) (a:Int) (c:LA) (δ:T) (κl:(Nat×Int×LA)->T) (κr:(Nat×LA)->T):T:=br (decide (a<e)) (br (decide (0<=a)&&decide (a<d.length)) (br (decide (a.toNat<d.length)&&((d.getD a.toNat .top).cells.length==2&&xOy [Sh.int .i64,Sh.int .i64] (d.getD a.toNat .top).cells 0)) (br (xgt ((d.getD a.toNat .top).cells.getD 0 .top).toInt ((d.getD a.toNat .top).cells.getD 1 .top).toInt) (br (b==c.length&&(decide ((b+2)*24<=140737488355328)&&decide (b+2<=4611686018427387904))) (κl (b+2,i64.wrap (a+1),c++[AV.agg [AV.int .i64 ((d.getD a.toNat .top).cells.getD 0 .top).toInt,AV.int .i64 0,AV.int .i64 1],AV.agg [AV.int .i64 ((d.getD a.toNat .top).cells.getD 1 .top).toInt,AV.int .i64 0,AV.int .i64 (-1)]])) δ) (κl (b,i64.wrap (a+1),c))) δ) δ) (κr (b,c))
def xdW (c:LA) (d:Int):StT (Nat×Int×LA) (Nat×LA):=fun (b,e,a)=>xkT c d b e a none inL inR
def xtZ:=xDc.l 49 0 [] [(3,xnP.lp)] Tryz.f97 1 lk0 [5,28,29,30] [5] [(5,3,137)] (q4 (xPm 0 0 0) (qL 2) qI qI) (q1 (qB 0 3 137 xPe)) (fun (b,c,d,e,_) (a,_)=>(xdW c d,(b,e,a),fun p=>(.leaf (.exit 2) [AV.osl 0 0 0 p.1] [bF 0 3 137 p.2]))) (0,[]) fun (_,c,d,_,_) _ (b,e,a)=>(((b,c,d,e,()),(a,())),xkT c d b e a none)
def xm7 (a b:LA):=(Iter (xbQ b a (↑a.length:Int)) (0,0,[])).getD (0,[])
def xm6 (a b:LA):=Iter (xdW b (↑b.length:Int)) ((xm7 a b).fst,0,(xm7 a b).snd)
def xm5 (a b:LA):=(xm6 a b).getD (0,[])
def xg2 (a b:LA):=(xm5 a b).fst
def xg3 (a b:LA):=(xm5 a b).snd
def xtx {T:Type} (a b:LA) (δ:T) (κ:LA->T):T:=br ((Iter (xbQ b a (↑a.length:Int)) (0,0,[])).isSome) (br ((xm6 a b).isSome) (br ((xg2 a b).beq (xg3 a b).length&&(decide (xg2 a b<4611686018427387904)&&(xg3 a b).all isE)) (br (decide (0+xg2 a b<=(srtE (xg3 a b)).length)&&true) (κ (List.take (xg2 a b) (List.drop 0 (srtE (xg3 a b))))) δ) δ) δ) δ
def xhr (a b:LA):=xtx a b none some
def xMd:EO:=xDc.f Tryz.func97 49 0 [] [(3,xnP.lp),(9,xtZ.lp)] (lks (lkC xnP.ok (lkC xtZ.ok lkN))) (u2 (uL 2) (uL 2)) (fun (a,b,_) _=>xtx a b) (fun _ p=>AV.list 3 p) []
def xn1 (a b:Bool):Bool:=((a))
def xFr {T:Type} (a b:Bool) (δ:T) (κ:Bool->T):T:=κ (a)
def xMe:EO:=xMd.fT Tryz.func110 6 0 [] [] lk0 (fun (a,b,_)=>xFr a b none) (u2 (sEq pBool) (sEq pBool)) (fun (a,b,_)=>xn1 a b) (fun _ p=>(AV.bool p))
def xfA (a b:Bool):Bool:=(br (a) ((!b)) ((false)))
def xyR {T:Type} (a b:Bool) (δ:T) (κ:Bool->T):T:=br (a) (κ (!b)) (κ (false))
def xDd:EO:=xMe.fT Tryz.func62 10 0 [] [] lk0 (fun (a,b,_)=>xyR a b none) (u2 (sEq pBool) (sEq pBool)) (fun (a,b,_)=>xfA a b) (fun _ p=>(AV.bool p))
def xlz (l:LA) (i:Int):=decide (0<=i)&&decide (i<l.length)
def xsM {T:Type} (l:LA) (e:Nat) (d b c i:Int) (a:LA) (δ:T) (κl:(Int×Int×Int×LA)->T) (κr:(Int×Int×Int×LA)->T):T:=br (decide (i<l.length)) (br (xlz l i) (br (decide (i.toNat<l.length)&&xOq (Sh.int .i64) ((l.getD i.toNat .top).cells.getD 0 .top)) (br (((l.getD i.toNat .top).cells.getD 0 .top).toInt==d) (br (xlz l i) (br (decide (i.toNat<l.length)&&xOq (Sh.int .i64) ((l.getD i.toNat .top).cells.getD 1 .top)) (br (xlz l i) (br (decide (i.toNat<l.length)&&xOq (Sh.int .i64) ((l.getD i.toNat .top).cells.getD 2 .top)) (κl (i64.wrap (b+((l.getD i.toNat .top).cells.getD 1 .top).toInt),i64.wrap (c+((l.getD i.toNat .top).cells.getD 2 .top).toInt),i64.wrap (i+1),a)) δ) δ) δ) δ) (κr (b,c,i,a))) δ) δ) (κr (b,c,i,a))
def xjJ (l:LA) (b:Nat) (c:Int):StT (Int×Int×Int×LA) (Int×Int×Int×LA):=fun (d,e,i,a)=>xsM l b c d e i a none inL inR
def xhu:=xDd.l 92 0 [] [] Tryz.f61 1 lk0 [2,7,8,9,10,11,12] [2,7,8,9,10,11,12] [(8,2,44)] (q7 (xOQ 110 xPc) (qL 3) (xPm 0 0 0) qI qI qI qI) (q1 (qB 0 2 44 xPe)) (fun (_,l,a,d,e,i,c,_) (b,_)=>(xjJ l a c,(d,e,i,b),fun p=>(.leaf (.exit 2) [AV.func 110 [],AV.list 3 l,AV.osl 0 0 0 a,AV.int .i64 p.1,AV.int .i64 p.2.1,AV.int .i64 p.2.2.1,AV.int .i64 c] [bF 0 2 44 p.2.2.2]))) (0,0,0,[]) fun (_,l,a,_,_,_,c,_) _ (d,e,i,b)=>((((),l,a,d,e,i,c,()),(b,())),xsM l a c d e i b none)
def xht (a:Nat):=decide (0<=i64.wrap ((↑a:Int) - 1))&&decide (i64.wrap ((↑a:Int) - 1)<(↑a:Int))
def xpY (l:LA) (b:Nat) (d e i c:Int) (a:LA):=(Iter (xjJ l b c) (d,e,i,a)).getD (0,0,0,[])
def xaF (a:Nat):Nat:=0+(i64.wrap ((↑a:Int) - 1)).toNat
def xrG (l:LA) (b:Nat) (d e i c:Int) (a:LA):=(xpY l b d e i c a).snd
def xbm (l:LA) (b:Nat) (d e i c:Int) (a:LA):=(xpY l b d e i c a).fst
def xrF (l:LA) (b:Nat) (d e i c:Int) (a:LA):=(xrG l b d e i c a).snd
def xbl (l:LA) (b:Nat) (d e i c:Int) (a:LA):=(xrG l b d e i c a).fst
def xaf (l:LA) (b:Nat) (d e i c:Int) (a:LA):=(xrF l b d e i c a).snd
def xrD (l:LA) (b:Nat) (d e i c:Int) (a:LA):=xn1 (decide (xbm l b d e i c a>0)) (decide (xbl l b d e i c a>0))
def xah (l:LA) (b:Nat) (d e i c:Int) (a:LA):=(xrF l b d e i c a).fst
def xhs (l:LA) (a:Nat) (d e i c:Int) (b:LA):=decide (xaF a<(xaf l a d e i c b).length)
def xrE (l:LA) (b:Nat) (d e i c:Int) (a:LA):=decide (xah l b d e i c a<l.length)
def xsL {T:Type} (l:LA) (a:Nat) (d e i c:Int) (b:LA) (δ:T) (κl:(Nat×Int×Int×Int×Int×LA)->T) (κr:(Nat×LA)->T):T:=br (decide (c<1099511627776)) (br ((Iter (xjJ l a c) (d,e,i,b)).isSome) (br (xrE l a d e i c b) (br (decide (0<=xah l a d e i c b)&&xrE l a d e i c b) (br (decide ((xah l a d e i c b).toNat<l.length)&&xOq (Sh.int .i64) ((l.getD (xah l a d e i c b).toNat .top).cells.getD 0 .top)) (br (xrD l a d e i c b) (br (decide ((↑a:Int)>0)) (br (xht a) (br (xhs l a d e i c b&&xOq (Sh.int .i64) (((xaf l a d e i c b).getD (xaF a) .top).cells.getD 1 .top)) (br ((((xaf l a d e i c b).getD (xaF a) .top).cells.getD 1 .top).toInt==c) (br (xht a) (br (xhs l a d e i c b) (κl (a,xbm l a d e i c b,xbl l a d e i c b,xah l a d e i c b,((l.getD (xah l a d e i c b).toNat .top).cells.getD 0 .top).toInt,(xaf l a d e i c b).set (xaF a) (AV.agg (List.take 1 ((xaf l a d e i c b).getD (xaF a) .top).cells++[AV.int .i64 ((l.getD (xah l a d e i c b).toNat .top).cells.getD 0 .top).toInt]++List.drop 2 ((xaf l a d e i c b).getD (xaF a) .top).cells)))) δ) δ) (br (a==(xaf l a d e i c b).length&&(decide ((a+1)*16<=140737488355328)&&decide (a+1<=4611686018427387904))) (κl (a+1,xbm l a d e i c b,xbl l a d e i c b,xah l a d e i c b,((l.getD (xah l a d e i c b).toNat .top).cells.getD 0 .top).toInt,xaf l a d e i c b++[AV.agg [AV.int .i64 c,AV.int .i64 ((l.getD (xah l a d e i c b).toNat .top).cells.getD 0 .top).toInt]])) δ)) δ) δ) (br (a==(xaf l a d e i c b).length&&(decide ((a+1)*16<=140737488355328)&&decide (a+1<=4611686018427387904))) (κl (a+1,xbm l a d e i c b,xbl l a d e i c b,xah l a d e i c b,((l.getD (xah l a d e i c b).toNat .top).cells.getD 0 .top).toInt,xaf l a d e i c b++[AV.agg [AV.int .i64 c,AV.int .i64 ((l.getD (xah l a d e i c b).toNat .top).cells.getD 0 .top).toInt]])) δ)) (κl (a,xbm l a d e i c b,xbl l a d e i c b,xah l a d e i c b,((l.getD (xah l a d e i c b).toNat .top).cells.getD 0 .top).toInt,xaf l a d e i c b))) δ) δ) (br (xrD l a d e i c b) (br (decide ((↑a:Int)>0)) (br (xht a) (br (xhs l a d e i c b&&xOq (Sh.int .i64) (((xaf l a d e i c b).getD (xaF a) .top).cells.getD 1 .top)) (br ((((xaf l a d e i c b).getD (xaF a) .top).cells.getD 1 .top).toInt==c) (br (xht a) (br (xhs l a d e i c b) (κl (a,xbm l a d e i c b,xbl l a d e i c b,xah l a d e i c b,1099511627776,(xaf l a d e i c b).set (xaF a) (AV.agg (List.take 1 ((xaf l a d e i c b).getD (xaF a) .top).cells++[AV.int .i64 1099511627776]++List.drop 2 ((xaf l a d e i c b).getD (xaF a) .top).cells)))) δ) δ) (br (a==(xaf l a d e i c b).length&&(decide ((a+1)*16<=140737488355328)&&decide (a+1<=4611686018427387904))) (κl (a+1,xbm l a d e i c b,xbl l a d e i c b,xah l a d e i c b,1099511627776,xaf l a d e i c b++[AV.agg [AV.int .i64 c,AV.int .i64 1099511627776]])) δ)) δ) δ) (br (a==(xaf l a d e i c b).length&&(decide ((a+1)*16<=140737488355328)&&decide (a+1<=4611686018427387904))) (κl (a+1,xbm l a d e i c b,xbl l a d e i c b,xah l a d e i c b,1099511627776,xaf l a d e i c b++[AV.agg [AV.int .i64 c,AV.int .i64 1099511627776]])) δ)) (κl (a,xbm l a d e i c b,xbl l a d e i c b,xah l a d e i c b,1099511627776,xaf l a d e i c b)))) δ) (κr (a,b))
def xpv (l:LA):StT (Nat×Int×Int×Int×Int×LA) (Nat×LA):=fun (b,d,e,i,c,a)=>xsL l b d e i c a none inL inR
def xrC:=xDd.l 92 0 [] [(6,xhu.lp)] Tryz.f61 0 (lk1 xhu.ok) [2,7,8,9,10,11,12] [8] [(8,2,44)] (q7 (xOQ 110 xPc) (qL 3) (xPm 0 0 0) qI qI qI qI) (q1 (qB 0 2 44 xPe)) (fun (_,l,b,d,e,i,c,_) (a,_)=>(xpv l,(b,d,e,i,c,a),fun p=>(.leaf (.exit 0) [AV.osl 0 0 0 p.1] [bF 0 2 44 p.2]))) (0,[]) fun (_,l,_,_,_,_,_,_) _ (b,d,e,i,c,a)=>((((),l,b,d,e,i,c,()),(a,())),xsL l b d e i c a none)
def xuB (a b:LA):=Iter (xpv ((xhr a b).getD [])) (0,0,0,0,0,[])
def xuA (a b:LA):=(xuB a b).getD (0,[])
def xuy (a b:LA):=(xuA a b).fst
def xuz (a b:LA):=(xuA a b).snd
def xvD {T:Type} (a b:LA) (δ:T) (κ:LA->T):T:=br ((xhr a b).isSome) (br ((xuB a b).isSome) (br (decide (0+xuy a b<=(xuz a b).length)&&true) (κ (List.take (xuy a b) (List.drop 0 (xuz a b)))) δ) δ) δ
def xt0 (a b:LA):=xvD a b none some
def xMf:EO:=xDd.f Tryz.func61 92 0 [] [(6,xhu.lp),(5,xrC.lp)] (lks (lkC xrC.ok (lkC xhu.ok lkN))) (u3 (uL 2) (uL 2) (sEq (xOQ (110:FuncId) xPc))) (fun (a,b,_,_) _=>xvD a b) (fun _ p=>AV.list 2 p) []
def xys {T:Type} (l:LA) (δ:T) (κ:LA->T):T:=br ((xt0 l []).isSome) (κ ((xt0 l []).getD [])) δ
def xqx (l:LA):=xys l none some
def xDe:EO:=xMf.f Tryz.func73 5 0 [] [] lk0 (u1 (uL 2)) (fun (l,_) _=>xys l) (fun _ p=>AV.list 2 p) []
def xlA (l:LA) (i:Int):=decide (0<=i)&&decide (i<l.length)
def xsO {T:Type} (l:LA) (e:Nat) (d b c i:Int) (a:LA) (δ:T) (κl:(Int×Int×Int×LA)->T) (κr:(Int×Int×Int×LA)->T):T:=br (decide (i<l.length)) (br (xlA l i) (br (decide (i.toNat<l.length)&&xOq (Sh.int .i64) ((l.getD i.toNat .top).cells.getD 0 .top)) (br (((l.getD i.toNat .top).cells.getD 0 .top).toInt==d) (br (xlA l i) (br (decide (i.toNat<l.length)&&xOq (Sh.int .i64) ((l.getD i.toNat .top).cells.getD 1 .top)) (br (xlA l i) (br (decide (i.toNat<l.length)&&xOq (Sh.int .i64) ((l.getD i.toNat .top).cells.getD 2 .top)) (κl (i64.wrap (b+((l.getD i.toNat .top).cells.getD 1 .top).toInt),i64.wrap (c+((l.getD i.toNat .top).cells.getD 2 .top).toInt),i64.wrap (i+1),a)) δ) δ) δ) δ) (κr (b,c,i,a))) δ) δ) (κr (b,c,i,a))
def xjK (l:LA) (b:Nat) (c:Int):StT (Int×Int×Int×LA) (Int×Int×Int×LA):=fun (d,e,i,a)=>xsO l b c d e i a none inL inR
def xhy:=xDe.l 92 0 [] [] Tryz.f61 1 lk0 [2,7,8,9,10,11,12] [2,7,8,9,10,11,12] [(8,2,44)] (q7 (xOQ 62 xPc) (qL 3) (xPm 0 0 0) qI qI qI qI) (q1 (qB 0 2 44 xPe)) (fun (_,l,a,d,e,i,c,_) (b,_)=>(xjK l a c,(d,e,i,b),fun p=>(.leaf (.exit 2) [AV.func 62 [],AV.list 3 l,AV.osl 0 0 0 a,AV.int .i64 p.1,AV.int .i64 p.2.1,AV.int .i64 p.2.2.1,AV.int .i64 c] [bF 0 2 44 p.2.2.2]))) (0,0,0,[]) fun (_,l,a,_,_,_,c,_) _ (d,e,i,b)=>((((),l,a,d,e,i,c,()),(b,())),xsO l a c d e i b none)
def xhw (a:Nat):=decide (0<=i64.wrap ((↑a:Int) - 1))&&decide (i64.wrap ((↑a:Int) - 1)<(↑a:Int))
def xpZ (l:LA) (b:Nat) (d e i c:Int) (a:LA):=(Iter (xjK l b c) (d,e,i,a)).getD (0,0,0,[])
def xaG (a:Nat):Nat:=0+(i64.wrap ((↑a:Int) - 1)).toNat
def xbo (l:LA) (b:Nat) (d e i c:Int) (a:LA):=(xpZ l b d e i c a).fst
def xrL (l:LA) (b:Nat) (d e i c:Int) (a:LA):=(xpZ l b d e i c a).snd
def xbn (l:LA) (b:Nat) (d e i c:Int) (a:LA):=(xrL l b d e i c a).fst
def xrK (l:LA) (b:Nat) (d e i c:Int) (a:LA):=(xrL l b d e i c a).snd
def xag (l:LA) (b:Nat) (d e i c:Int) (a:LA):=(xrK l b d e i c a).snd
def xrI (l:LA) (b:Nat) (d e i c:Int) (a:LA):=xfA (decide (xbo l b d e i c a>0)) (decide (xbn l b d e i c a>0))
def xai (l:LA) (b:Nat) (d e i c:Int) (a:LA):=(xrK l b d e i c a).fst
def xhv (l:LA) (a:Nat) (d e i c:Int) (b:LA):=decide (xaG a<(xag l a d e i c b).length)
def xrJ (l:LA) (b:Nat) (d e i c:Int) (a:LA):=decide (xai l b d e i c a<l.length)
def xsN {T:Type} (l:LA) (a:Nat) (d e i c:Int) (b:LA) (δ:T) (κl:(Nat×Int×Int×Int×Int×LA)->T) (κr:(Nat×LA)->T):T:=br (decide (c<1099511627776)) (br ((Iter (xjK l a c) (d,e,i,b)).isSome) (br (xrJ l a d e i c b) (br (decide (0<=xai l a d e i c b)&&xrJ l a d e i c b) (br (decide ((xai l a d e i c b).toNat<l.length)&&xOq (Sh.int .i64) ((l.getD (xai l a d e i c b).toNat .top).cells.getD 0 .top)) (br (xrI l a d e i c b) (br (decide ((↑a:Int)>0)) (br (xhw a) (br (xhv l a d e i c b&&xOq (Sh.int .i64) (((xag l a d e i c b).getD (xaG a) .top).cells.getD 1 .top)) (br ((((xag l a d e i c b).getD (xaG a) .top).cells.getD 1 .top).toInt==c) (br (xhw a) (br (xhv l a d e i c b) (κl (a,xbo l a d e i c b,xbn l a d e i c b,xai l a d e i c b,((l.getD (xai l a d e i c b).toNat .top).cells.getD 0 .top).toInt,(xag l a d e i c b).set (xaG a) (AV.agg (List.take 1 ((xag l a d e i c b).getD (xaG a) .top).cells++[AV.int .i64 ((l.getD (xai l a d e i c b).toNat .top).cells.getD 0 .top).toInt]++List.drop 2 ((xag l a d e i c b).getD (xaG a) .top).cells)))) δ) δ) (br (a==(xag l a d e i c b).length&&(decide ((a+1)*16<=140737488355328)&&decide (a+1<=4611686018427387904))) (κl (a+1,xbo l a d e i c b,xbn l a d e i c b,xai l a d e i c b,((l.getD (xai l a d e i c b).toNat .top).cells.getD 0 .top).toInt,xag l a d e i c b++[AV.agg [AV.int .i64 c,AV.int .i64 ((l.getD (xai l a d e i c b).toNat .top).cells.getD 0 .top).toInt]])) δ)) δ) δ) (br (a==(xag l a d e i c b).length&&(decide ((a+1)*16<=140737488355328)&&decide (a+1<=4611686018427387904))) (κl (a+1,xbo l a d e i c b,xbn l a d e i c b,xai l a d e i c b,((l.getD (xai l a d e i c b).toNat .top).cells.getD 0 .top).toInt,xag l a d e i c b++[AV.agg [AV.int .i64 c,AV.int .i64 ((l.getD (xai l a d e i c b).toNat .top).cells.getD 0 .top).toInt]])) δ)) (κl (a,xbo l a d e i c b,xbn l a d e i c b,xai l a d e i c b,((l.getD (xai l a d e i c b).toNat .top).cells.getD 0 .top).toInt,xag l a d e i c b))) δ) δ) (br (xrI l a d e i c b) (br (decide ((↑a:Int)>0)) (br (xhw a) (br (xhv l a d e i c b&&xOq (Sh.int .i64) (((xag l a d e i c b).getD (xaG a) .top).cells.getD 1 .top)) (br ((((xag l a d e i c b).getD (xaG a) .top).cells.getD 1 .top).toInt==c) (br (xhw a) (br (xhv l a d e i c b) (κl (a,xbo l a d e i c b,xbn l a d e i c b,xai l a d e i c b,1099511627776,(xag l a d e i c b).set (xaG a) (AV.agg (List.take 1 ((xag l a d e i c b).getD (xaG a) .top).cells++[AV.int .i64 1099511627776]++List.drop 2 ((xag l a d e i c b).getD (xaG a) .top).cells)))) δ) δ) (br (a==(xag l a d e i c b).length&&(decide ((a+1)*16<=140737488355328)&&decide (a+1<=4611686018427387904))) (κl (a+1,xbo l a d e i c b,xbn l a d e i c b,xai l a d e i c b,1099511627776,xag l a d e i c b++[AV.agg [AV.int .i64 c,AV.int .i64 1099511627776]])) δ)) δ) δ) (br (a==(xag l a d e i c b).length&&(decide ((a+1)*16<=140737488355328)&&decide (a+1<=4611686018427387904))) (κl (a+1,xbo l a d e i c b,xbn l a d e i c b,xai l a d e i c b,1099511627776,xag l a d e i c b++[AV.agg [AV.int .i64 c,AV.int .i64 1099511627776]])) δ)) (κl (a,xbo l a d e i c b,xbn l a d e i c b,xai l a d e i c b,1099511627776,xag l a d e i c b)))) δ) (κr (a,b))
def xpw (l:LA):StT (Nat×Int×Int×Int×Int×LA) (Nat×LA):=fun (b,d,e,i,c,a)=>xsN l b d e i c a none inL inR
def xrH:=xDe.l 92 0 [] [(6,xhy.lp)] Tryz.f61 0 (lk1 xhy.ok) [2,7,8,9,10,11,12] [8] [(8,2,44)] (q7 (xOQ 62 xPc) (qL 3) (xPm 0 0 0) qI qI qI qI) (q1 (qB 0 2 44 xPe)) (fun (_,l,b,d,e,i,c,_) (a,_)=>(xpw l,(b,d,e,i,c,a),fun p=>(.leaf (.exit 0) [AV.osl 0 0 0 p.1] [bF 0 2 44 p.2]))) (0,[]) fun (_,l,_,_,_,_,_,_) _ (b,d,e,i,c,a)=>((((),l,b,d,e,i,c,()),(a,())),xsN l b d e i c a none)
def xuF (a b:LA):=Iter (xpw ((xhr a b).getD [])) (0,0,0,0,0,[])
def xuE (a b:LA):=(xuF a b).getD (0,[])
def xuC (a b:LA):=(xuE a b).fst
def xuD (a b:LA):=(xuE a b).snd
def xvE {T:Type} (a b:LA) (δ:T) (κ:LA->T):T:=br ((xhr a b).isSome) (br ((xuF a b).isSome) (br (decide (0+xuC a b<=(xuD a b).length)&&true) (κ (List.take (xuC a b) (List.drop 0 (xuD a b)))) δ) δ) δ
def xt1 (a b:LA):=xvE a b none some
def xMg:EO:=xDe.f Tryz.func61 92 0 [] [(6,xhy.lp),(5,xrH.lp)] (lks (lkC xrH.ok (lkC xhy.ok lkN))) (u3 (uL 2) (uL 2) (sEq (xOQ (62:FuncId) xPc))) (fun (a,b,_,_) _=>xvE a b) (fun _ p=>AV.list 2 p) []
def xpu {T:Type} (a b:LA) (δ:T) (κ:LA->T):T:=br ((xt1 a b).isSome) (κ ((xt1 a b).getD [])) δ
def xen (a b:LA):=xpu a b none some
def xDf:EO:=xMg.f Tryz.func35 8 0 [] [] lk0 (u2 (uL 2) (uL 2)) (fun (a,b,_) _=>xpu a b) (fun _ p=>AV.list 2 p) []
def xfg {T:Type} (h:LA) (i j:Int) (e:LA) (f:Int) (d:Nat) (c:Int) (a b g:LA) (δ:T) (κl:(Nat×Int×LA×LA×LA)->T) (κr:(Nat×LA)->T):T:=br (decide (c<f)) (br (ixI e c) (br (ixT e c 2 [Sh.int .i64,Sh.int .i64] 0) (br (decide (b.length*32<=140737488355328)&&decide (b.length<=4611686018427387904)) (br (decide (0+b.length<=b.length)&&true&&true&&true&&true) (br (rmB d a 1 40) (κl (d+1,i64.wrap (c+1),a++[AV.agg [AV.list 3 (List.take b.length (List.drop 0 b)),AV.int .i64 (gC e c 0).toInt,AV.int .i64 (gC e c 1).toInt]],b,g)) δ) δ) δ) δ) δ) (κr (d,a))
def xbA (c:LA) (d e:Int) (f:LA) (g:Int):StT (Nat×Int×LA×LA×LA) (Nat×LA):=fun (b,h,a,i,j)=>xfg c d e f g b h a i j none inL inR
def xeU:=xDf.l 38 0 [54] [] Tryz.f63 1 lk0 [1,5,7,11,12,13,20,21,22] [1,5,11,12,13] [(5,3,54)] (q9 (xOQ 64 xPc) (xPm 0 0 0) (xPn 1 0 0 0) (qL 2) qI qI (qL 2) qI qI) (q2 (qB 0 3 54 xPe) (qB 0 2 141 (q1 (xPo (q2 (qL 3) (qL 2)))))) (fun (_,b,_,c,d,e,f,g,h,_) (a,((i,j,_),_),_)=>(xbA c d e f g,(b,h,a,i,j),fun p=>(.leaf (.exit 2) [AV.func 64 [],AV.osl 0 0 0 p.1,AV.list 2 c,AV.int .i64 d,AV.int .i64 e] [bF 0 3 54 p.2]))) (0,[]) fun (_,_,_,c,d,e,f,g,_,_) _ (b,h,a,i,j)=>((((),b,(),c,d,e,f,g,h,()),(a,((i,j,()),()),())),xfg c d e f g b h a i j none)
def xhG (a:LA) (e:Int) (d:Nat) (b:Int) (c:LA):=Iter (xbA a e b ((xfC (gC a b 1).toList).getD []) (↑((xfC (gC a b 1).toList).getD []).length:Int)) (d,0,c,(gC a b 0).toList,(gC a b 1).toList)
def xhF (c:LA) (d:Int) (b:Nat) (e:Int) (a:LA):=(xhG c d b e a).getD (0,[])
def xff {T:Type} (d:LA) (e:Int) (c:Nat) (b:Int) (a:LA) (δ:T) (κl:(Nat×Int×LA)->T) (κr:(Nat×LA)->T):T:=br (decide (b<e)) (br (ixI d b) (br (ixT d b 2 [Sh.list 3,Sh.list 2] 0) (br ((xfC (gC d b 1).toList).isSome) (br ((xhG d e c b a).isSome) (κl ((xhF d e c b a).fst,i64.wrap (b+1),(xhF d e c b a).snd)) δ) δ) δ) δ) (κr (c,a))
def xcs (c:LA) (d:Int):StT (Nat×Int×LA) (Nat×LA):=fun (b,e,a)=>xff c d b e a none inL inR
def xmz:=xDf.l 38 0 [54] [(6,xeU.lp)] Tryz.f63 0 (lk1 xeU.ok) [1,5,11,12,13] [5] [(5,3,54)] (q5 (xOQ 64 xPc) (xPm 0 0 0) (qL 2) qI qI) (q1 (qB 0 3 54 xPe)) (fun (_,b,c,d,e,_) (a,_)=>(xcs c d,(b,e,a),fun p=>(.leaf (.exit 0) [AV.osl 0 0 0 p.1] [bF 0 3 54 p.2]))) (0,[]) fun (_,_,c,d,_,_) _ (b,e,a)=>((((),b,c,d,e,()),(a,())),xff c d b e a none)
def xkc (l:LA):=Iter (xcs ((xeh l).getD []) (↑((xeh l).getD []).length:Int)) (0,0,[])
def xkb (l:LA):=(xkc l).getD (0,[])
def xj9 (l:LA):=(xkb l).fst
def xka (l:LA):=(xkb l).snd
def xkY {T:Type} (l:LA) (δ:T) (κ:LA->T):T:=br ((xeh l).isSome) (br ((xkc l).isSome) (br (decide (0+xj9 l<=(xka l).length)&&true) (κ (List.take (xj9 l) (List.drop 0 (xka l)))) δ) δ) δ
def xnc (l:LA):=xkY l none some
def xMh:EO:=xDf.f Tryz.func63 38 0 [54] [(6,xeU.lp),(3,xmz.lp)] (lks (lkC xmz.ok (lkC xeU.ok lkN))) (u2 (uL 3) (sEq (xOQ (64:FuncId) xPc))) (fun (l,_,_) _=>xkY l) (fun _ p=>AV.list 3 p) []
def xpx {T:Type} (l:LA) (δ:T) (κ:LA->T):T:=br ((xnc l).isSome) (κ ((xnc l).getD [])) δ
def xta (l:LA):=xpx l none some
def xDg:EO:=xMh.f Tryz.func36 5 0 [] [] lk0 (u1 (uL 3)) (fun (l,_) _=>xpx l) (fun _ p=>AV.list 3 p) []
def xnS {T:Type} (h:LA) (i j:Int) (e:LA) (f:Int) (d:Nat) (c:Int) (a b g:LA) (δ:T) (κl:(Nat×Int×LA×LA×LA)->T) (κr:(Nat×LA)->T):T:=br (decide (c<f)) (br (ixI e c) (br (ixT e c 2 [Sh.int .i64,Sh.int .i64] 0) (br (decide (b.length*32<=140737488355328)&&decide (b.length<=4611686018427387904)) (br (decide (0+b.length<=b.length)&&true&&true&&true&&true) (br (rmB d a 1 40) (κl (d+1,i64.wrap (c+1),a++[AV.agg [AV.list 3 (List.take b.length (List.drop 0 b)),AV.int .i64 (gC e c 0).toInt,AV.int .i64 (gC e c 1).toInt]],b,g)) δ) δ) δ) δ) δ) (κr (d,a))
def xgq (c:LA) (d e:Int) (f:LA) (g:Int):StT (Nat×Int×LA×LA×LA) (Nat×LA):=fun (b,h,a,i,j)=>xnS c d e f g b h a i j none inL inR
def xeV:=xDg.l 38 0 [54] [] Tryz.f63 1 lk0 [1,5,7,11,12,13,20,21,22] [1,5,11,12,13] [(5,3,54)] (q9 (xOQ 73 xPc) (xPm 0 0 0) (xPn 1 0 0 0) (qL 2) qI qI (qL 2) qI qI) (q2 (qB 0 3 54 xPe) (qB 0 2 141 (q1 (xPo (q2 (qL 3) (qL 2)))))) (fun (_,b,_,c,d,e,f,g,h,_) (a,((i,j,_),_),_)=>(xgq c d e f g,(b,h,a,i,j),fun p=>(.leaf (.exit 2) [AV.func 73 [],AV.osl 0 0 0 p.1,AV.list 2 c,AV.int .i64 d,AV.int .i64 e] [bF 0 3 54 p.2]))) (0,[]) fun (_,_,_,c,d,e,f,g,_,_) _ (b,h,a,i,j)=>((((),b,(),c,d,e,f,g,h,()),(a,((i,j,()),()),())),xnS c d e f g b h a i j none)
def xhI (a:LA) (e:Int) (d:Nat) (b:Int) (c:LA):=Iter (xgq a e b ((xqx (gC a b 1).toList).getD []) (↑((xqx (gC a b 1).toList).getD []).length:Int)) (d,0,c,(gC a b 0).toList,(gC a b 1).toList)
def xhH (c:LA) (d:Int) (b:Nat) (e:Int) (a:LA):=(xhI c d b e a).getD (0,[])
def xfh {T:Type} (d:LA) (e:Int) (c:Nat) (b:Int) (a:LA) (δ:T) (κl:(Nat×Int×LA)->T) (κr:(Nat×LA)->T):T:=br (decide (b<e)) (br (ixI d b) (br (ixT d b 2 [Sh.list 3,Sh.list 2] 0) (br ((xqx (gC d b 1).toList).isSome) (br ((xhI d e c b a).isSome) (κl ((xhH d e c b a).fst,i64.wrap (b+1),(xhH d e c b a).snd)) δ) δ) δ) δ) (κr (c,a))
def xct (c:LA) (d:Int):StT (Nat×Int×LA) (Nat×LA):=fun (b,e,a)=>xfh c d b e a none inL inR
def xmA:=xDg.l 38 0 [54] [(6,xeV.lp)] Tryz.f63 0 (lk1 xeV.ok) [1,5,11,12,13] [5] [(5,3,54)] (q5 (xOQ 73 xPc) (xPm 0 0 0) (qL 2) qI qI) (q1 (qB 0 3 54 xPe)) (fun (_,b,c,d,e,_) (a,_)=>(xct c d,(b,e,a),fun p=>(.leaf (.exit 0) [AV.osl 0 0 0 p.1] [bF 0 3 54 p.2]))) (0,[]) fun (_,_,c,d,_,_) _ (b,e,a)=>((((),b,c,d,e,()),(a,())),xfh c d b e a none)
def xkg (l:LA):=Iter (xct ((xeh l).getD []) (↑((xeh l).getD []).length:Int)) (0,0,[])
def xkf (l:LA):=(xkg l).getD (0,[])
def xkd (l:LA):=(xkf l).fst
def xke (l:LA):=(xkf l).snd
def xkZ {T:Type} (l:LA) (δ:T) (κ:LA->T):T:=br ((xeh l).isSome) (br ((xkg l).isSome) (br (decide (0+xkd l<=(xke l).length)&&true) (κ (List.take (xkd l) (List.drop 0 (xke l)))) δ) δ) δ
def xnd (l:LA):=xkZ l none some
def xMi:EO:=xDg.f Tryz.func63 38 0 [54] [(6,xeV.lp),(3,xmA.lp)] (lks (lkC xmA.ok (lkC xeV.ok lkN))) (u2 (uL 3) (sEq (xOQ (73:FuncId) xPc))) (fun (l,_,_) _=>xkZ l) (fun _ p=>AV.list 3 p) []
def xp0 {T:Type} (l:LA) (δ:T) (κ:LA->T):T:=br ((xnd l).isSome) (κ ((xnd l).getD [])) δ
def xkX (l:LA):=xp0 l none some
def xHL:EO:=xMi.f Tryz.func41 5 0 [] [] lk0 (u1 (uL 3)) (fun (l,_) _=>xp0 l) (fun _ p=>AV.list 3 p) []
def xhi (b a:Bool):Int:=(br (b) (((-1))) (br (a) ((1)) ((0))))
def xEr {T:Type} (b a:Bool) (δ:T) (κ:Int->T):T:=br (b) (κ ((-1))) (br (a) (κ (1)) (κ (0)))
def xMj:EO:=xHL.fT Tryz.func81 7 0 [] [] lk0 (fun (b,a,_)=>xEr b a none) (u2 (sEq pBool) (sEq pBool)) (fun (b,a,_)=>xhi b a) (fun _ p=>(AV.int .i64 p))
def xgZ (a b:Int) (c:List UInt8) (d e:Int) (f:List UInt8):Int:=(br (a != d) ((xhi (decide (a<d)) (decide (a>d)))) (br (b != e) ((xhi (decide (b<e)) (decide (b>e)))) ((xhi (Op.bytesLess c f) !(Op.bytesLess c f || c==f)))))
def xAI {T:Type} (a b:Int) (c:List UInt8) (d e:Int) (f:List UInt8) (δ:T) (κ:Int->T):T:=br (a != d) (κ (xhi (decide (a<d)) (decide (a>d)))) (br (b != e) (κ (xhi (decide (b<e)) (decide (b>e)))) (κ (xhi (Op.bytesLess c f) !(Op.bytesLess c f || c==f))))
def xHM:EO:=xMj.fT Tryz.func49 48 0 [] [] lk0 (fun ((a,b,c,_),(d,e,f,_),_)=>xAI a b c d e f none) (u2 (xPr (u3 uI uI (sEq pStr))) (xPr (u3 uI uI (sEq pStr)))) (fun ((a,b,c,_),(d,e,f,_),_)=>xgZ a b c d e f) (fun _ p=>(AV.int .i64 p))
def xdn (a b:LA) (i:Int):=xgZ (gC a i 0).toInt (gC a i 1).toInt (gC a i 2).toStr (gC b i 0).toInt (gC b i 1).toInt (gC b i 2).toStr
def xdI {T:Type} (a b:LA) (i:Int) (δ:T) (κl:(Int)->T) (κr:(Bool×(Int)×(Unit))->T):T:=br (decide (i<a.length)) (br (decide (i<b.length)) (br (ixI a i) (br (ixT a i 3 [Sh.int .i64,Sh.int .i64,Sh.str] 0) (br (ixI b i) (br (ixT b i 3 [Sh.int .i64,Sh.int .i64,Sh.str] 0) (br (xdn a b i != 0) (κr (true,(xdn a b i),())) (κl (i64.wrap (i+1)))) δ) δ) δ) δ) (κr (false,0,()))) (κr (false,0,()))
def xaP (a b:LA):StT (Int) (Bool×(Int)×(Unit)):=fun (i)=>xdI a b i none inL inR
def xpS:=xHM.l 41 0 [] [] Tryz.f24 0 lk0 [0,1,5] [0,1,4] [] (q3 (qL 3) (qL 3) qI) xPc (fun (a,b,i,_) _=>(xaP a b,(i),fun p=>(.node p.1 (.leaf .ret [AV.list 3 a,AV.list 3 b,AV.int .i64 p.2.1] []) (.leaf (.exit 0) [AV.list 3 a,AV.list 3 b,.top] [])))) (false,0,()) fun (a,b,_,_) _ (i)=>(((a,b,i,()),()),xdI a b i none)
def xoP {T:Type} (a b:LA) (δ:T) (κ:Int->T):T:=br ((Iter (xaP a b) 0).isSome) (br (((Iter (xaP a b) 0).getD (false,0,())).fst) (κ (((Iter (xaP a b) 0).getD (false,0,())).snd.fst)) (br (decide ((↑a.length:Int)<(↑b.length:Int))) (κ ((-1))) (br (decide ((↑a.length:Int)>(↑b.length:Int))) (κ (1)) (κ (0))))) δ
def xaw (a b:LA):=xoP a b none some
def xMk:EO:=xHM.f Tryz.func24 41 0 [] [(2,xpS.lp)] (lk1 xpS.ok) (u2 (uL 3) (uL 3)) (fun (a,b,_) _=>xoP a b) (fun _ p=>AV.int .i64 p) 0
def xrU {T:Type} (a b:LA) (δ:T) (κ:Bool->T):T:=br ((xaw a b).isSome) (κ ((xaw a b).getD 0==0)) δ
def xuZ (a b:LA):=xrU a b none some
def xHN:EO:=xMk.f Tryz.func165 9 0 [] [] lk0 (u2 (uL 3) (uL 3)) (fun (a,b,_) _=>xrU a b) (fun _ p=>AV.bool p) false
def xf5 {T:Type} (a b:LA) (i:Int) (δ:T) (κl:(Int)->T) (κr:(Bool×(Bool)×(Unit))->T):T:=br (decide (i<a.length)) (br (ixI a i) (br (ixT a i 3 [Sh.int .i64,Sh.int .i64] 1) (br (ixI b i) (br (ixT b i 3 [Sh.int .i64,Sh.int .i64] 1) (br (!((gC a i 1).toInt==(gC b i 1).toInt&&((gC a i 2).toInt==(gC b i 2).toInt&&true))) (κr (true,(false),())) (br (ixI a i) (br (ixS a i (Sh.list 3) 0) (br (ixI b i) (br (ixS b i (Sh.list 3) 0) (br ((xaw (gC a i 0).toList (gC b i 0).toList).isSome) (br ((xaw (gC a i 0).toList (gC b i 0).toList).getD 0 != 0) (κr (true,(false),())) (κl (i64.wrap (i+1)))) δ) δ) δ) δ) δ)) δ) δ) δ) δ) (κr (false,false,()))
def xba (a b:LA):StT (Int) (Bool×(Bool)×(Unit)):=fun (i)=>xf5 a b i none inL inR
def xnZ:=xHN.l 42 0 [] [] Tryz.f10 0 lk0 [0,1,5] [4] [] (q3 (qL 3) (qL 3) qI) xPc (fun (a,b,i,_) _=>(xba a b,(i),fun p=>(.node p.1 (.leaf .ret [AV.bool p.2.1] []) (.leaf (.exit 0) [.top] [])))) (false,false,()) fun (a,b,_,_) _ (i)=>(((a,b,i,()),()),xf5 a b i none)
def xmv {T:Type} (a b:LA) (δ:T) (κ:Bool->T):T:=br ((↑a.length:Int) != (↑b.length:Int)) (κ (false)) (br ((Iter (xba a b) 0).isSome) (br (((Iter (xba a b) 0).getD (false,false,())).fst) (κ (((Iter (xba a b) 0).getD (false,false,())).snd.fst)) (κ (true))) δ)
def xpe (a b:LA):=xmv a b none some
def xHO:EO:=xHN.f Tryz.func10 42 0 [] [(4,xnZ.lp)] (lk1 xnZ.ok) (u2 (uL 3) (uL 3)) (fun (a,b,_) _=>xmv a b) (fun _ p=>AV.bool p) false
def xdQ (a b:LA) (i k:Int):=decide ((xaw (gC b k 0).toList (gC a i 0).toList).getD 0<0)
def xdR (b:LA) (k:Int):=decide (k.toNat<b.length)&&((b.getD k.toNat .top).cells.length==3&&xOy [Sh.list 3,Sh.int .i64,Sh.int .i64] (b.getD k.toNat .top).cells 0)
def xdS (a:LA) (i:Int):=decide (i.toNat<a.length)&&((a.getD i.toNat .top).cells.length==3&&xOy [Sh.list 3,Sh.int .i64,Sh.int .i64] (a.getD i.toNat .top).cells 0)
def xcL (b:LA) (k:Int):=ixI b k
def xcM (a:LA) (i:Int):=ixI a i
def xci {T:Type} (b:LA) (c:Nat) (i k:Int) (a:LA) (δ:T) (κl:(Nat×Int×Int×LA)->T):T:=br (xcL b k) (br (xdR b k) (br (rmB c a 1 40) (κl (c+1,i,i64.wrap (k+1),a++[AV.agg [AV.list 3 (gC b k 0).toList,AV.int .i64 (gC b k 1).toInt,AV.int .i64 (gC b k 2).toInt]])) δ) δ) δ
def xcj {T:Type} (a:LA) (c:Nat) (i k:Int) (b:LA) (δ:T) (κl:(Nat×Int×Int×LA)->T):T:=br (xcM a i) (br (xdS a i) (br (rmB c b 1 40) (κl (c+1,i64.wrap (i+1),k,b++[AV.agg [AV.list 3 (gC a i 0).toList,AV.int .i64 (gC a i 1).toInt,AV.int .i64 (gC a i 2).toInt]])) δ) δ) δ
def xch {T:Type} (a b:LA) (d:Nat) (i k:Int) (c:LA) (δ:T) (κl:(Nat×Int×Int×LA)->T):T:=br (i==(↑a.length:Int)) (xci b d i k c δ κl) (br (decide (k<b.length)) (br (xcL b k) (br (ixS b k (Sh.list 3) 0) (br (xcM a i) (br (ixS a i (Sh.list 3) 0) (br ((xaw (gC b k 0).toList (gC a i 0).toList).isSome) (br (xdQ a b i k) (xci b d i k c δ κl) (xcj a d i k c δ κl)) δ) δ) δ) δ) δ) (xcj a d i k c δ κl))
def xc5 {T:Type} (a b:LA) (d:Nat) (i k:Int) (c:LA) (δ:T) (κl:(Nat×Int×Int×LA)->T) (κr:(Nat×LA)->T):T:=br (decide (i<a.length)) (xch a b d i k c δ κl) (br (decide (k<b.length)) (xch a b d i k c δ κl) (κr (d,c)))
def xaU (a b:LA):StT (Nat×Int×Int×LA) (Nat×LA):=fun (d,i,k,c)=>xc5 a b d i k c none inL inR
def xry:=xHO.l 61 0 [] [] Tryz.f139 0 lk0 [0,1,5,6,7] [5] [(5,3,54)] (q5 (qL 3) (qL 3) (xPm 0 0 0) qI qI) (q1 (qB 0 3 54 xPe)) (fun (a,b,d,i,k,_) (c,_)=>(xaU a b,(d,i,k,c),fun p=>(.leaf (.exit 0) [AV.osl 0 0 0 p.1] [bF 0 3 54 p.2]))) (0,[]) fun (a,b,_,_,_,_) _ (d,i,k,c)=>(((a,b,d,i,k,()),(c,())),xc5 a b d i k c none)
def xpn (a b:LA):=Iter (xaU a b) (0,0,0,[])
def xpm (a b:LA):=(xpn a b).getD (0,[])
def xpk (a b:LA):=(xpm a b).snd
def xpl (a b:LA):=(xpm a b).fst
def xqL {T:Type} (a b:LA) (δ:T) (κ:LA->T):T:=br ((xpn a b).isSome) (br (decide (0+xpl a b<=(xpk a b).length)&&true) (κ (List.take (xpl a b) (List.drop 0 (xpk a b)))) δ) δ
def xtR (a b:LA):=xqL a b none some
def xz1:EO:=xHO.f Tryz.func139 61 0 [] [(3,xry.lp)] (lk1 xry.ok) (u2 (uL 3) (uL 3)) (fun (a,b,_) _=>xqL a b) (fun _ p=>AV.list 3 p) []
def xls (R:LA->Option (LA)):LA->Option (Bool×AV):=ocOf (xPb (xPq 3 xPe) xPd) fun (l,_)=>((R l).isSome,AV.list 3 ((R l).getD []))
def xgH (R:LA->Option (LA)):Prop:=OcOk P0 xO9 106 (xls R)
def xeQ (R:LA->Option (LA)):Env:=(xz1.E.with 106 (xls R)).fn 20 0 (lsOf []) (xOP [])
theorem xwL (R:LA->Option (LA)) (a:xgH R):xOs P0 (xO9.at 0) (xeQ R):=(xz1.ok.with a).fn
theorem xu8 (R:LA->Option (LA)) (a:xgH R):LoOk P0 (xO9.at (xeQ R).pin) (xeQ R) (Tryz.f106.body.getD .skip):=xhM (by kernel_rfl)
def xnB (l:LA):=decide (0<=i64.wrap ((↑l.length:Int).tdiv 2))&&decide (i64.wrap ((↑l.length:Int).tdiv 2)<=(↑l.length:Int))
def xnC (R:LA->Option (LA)) (l:LA):Option (LA):=R (List.take (l.length - (i64.wrap ((↑l.length:Int).tdiv 2)).toNat) (List.drop (i64.wrap ((↑l.length:Int).tdiv 2)).toNat l))
def xnA (R:LA->Option (LA)) (l:LA):Option (LA):=xtR ((R (List.take ((i64.wrap ((↑l.length:Int).tdiv 2)).toNat - 0) (List.drop 0 l))).getD []) ((xnC R l).getD [])
def xfq {T:Type} (R:LA->Option (LA)) (l:LA) (δ:T) (κ:LA->T):T:=br (decide ((↑l.length:Int)<2)) (κ (l)) (br (xnB l&&true) (br ((R (List.take ((i64.wrap ((↑l.length:Int).tdiv 2)).toNat - 0) (List.drop 0 l))).isSome) (br (xnB l) (br ((xnC R l).isSome) (br ((xnA R l).isSome) (κ ((xnA R l).getD [])) δ) δ) δ) δ) δ)
def xb4 (R:LA->Option (LA)) (l:LA):=xfq R l none some
theorem xAN (R:LA->Option (LA)) (l:LA):Enc (fun (p:LA)=>((AV.list 3 p):AV)) (xb4 R l) (XF P0 (xeQ R) Tryz.f106 (Tryz.f106.body.getD .skip) [AV.list 3 l]):=by
 have h:XF P0 (xeQ R) Tryz.f106 (Tryz.f106.body.getD .skip) [AV.list 3 l]=xfq R l none (fun (p:LA)=>some ((AV.list 3 p):AV)):=by kernel_rfl
 rw [h];unfold xb4 xfq;repeat' (first|refine Enc.br ?_ ?_|exact Enc.none|exact Enc.some rfl)
def xAM (R:LA->Option (LA)):LA->Option (Bool×AV):=ocOf (xPb (xPq 3 xPe) xPd) fun (l,_)=>((xb4 R l).isSome,(AV.list 3 ((xb4 R l).getD [])))
theorem xAL (R:LA->Option (LA)) (a:xgH R):OcOk P0 xO9 106 (xAM R):=xfn fun e g f=>by
 obtain ⟨l,_⟩:=e;obtain ⟨b,c⟩:=Prod.mk.inj f;refine xd5 (p:=(xeQ R).pin) (xgh xOC (xOD P0 _) rfl (xwL R a) Tryz.func106 rfl (by kernel_rfl) (xu8 R a) ((xAN R _ _ (xaH (d:=[]) b)).trans ?_))
 exact congrArg some c
def xbj:Nat->LA->Option (LA)
 | 0=>fun _=>none
 | fu_+1=>fun l=>xb4 (xbj fu_) l
theorem xrz:∀ n,xgH (xbj n)
 | 0=>xfn fun _ _ h=>absurd (Prod.mk.inj h).1 Bool.false_ne_true
 | fu_+1=>fun a r h=>xAL (xbj fu_) (xrz fu_) a r h
def xHP:Env:=xz1.E.with 106 (xls (xbj 100))
theorem xHR:xOs P0 xO9 xHP:=xz1.ok.with (xrz _)
def xHQ:EO:=EO.mk xHP xHR
def xeW (a b:Int):Bool:=(br (decide (a>=0)) (br (decide (a<b)) ((decide (b<=1099511627776))) ((false))) ((false)))
def xCO {T:Type} (a b:Int) (δ:T) (κ:Bool->T):T:=br (decide (a>=0)) (br (decide (a<b)) (κ (decide (b<=1099511627776))) (κ (false))) (κ (false))
def xMl:EO:=xHQ.fT Tryz.func78 18 0 [] [] lk0 (fun ((a,b,_),_)=>xCO a b none) (u1 (xPr (u2 uI uI))) (fun ((a,b,_),_)=>xeW a b) (fun _ p=>(AV.bool p))
def xit (a b t:Int):Bool:=(br (xeW a b) (br (decide (a<=t)) ((decide (t<b))) ((false))) ((false)))
def xzL {T:Type} (a b t:Int) (δ:T) (κ:Bool->T):T:=br (xeW a b) (br (decide (a<=t)) (κ (decide (t<b))) (κ (false))) (κ (false))
def xMm:EO:=xMl.fT Tryz.func47 19 0 [] [] lk0 (fun ((a,b,_),t,_)=>xzL a b t none) (u2 (xPr (u2 uI uI)) uI) (fun ((a,b,_),t,_)=>xit a b t) (fun _ p=>(AV.bool p))
def xmW (a b c d:Int):Int:=(br (a==c&&(b==d&&true)) ((0)) (br (decide (a<c)) (((-1))) (br (a==c) (br (decide (b<d)) (((-1))) ((1))) ((1)))))
def xAG {T:Type} (a b c d:Int) (δ:T) (κ:Int->T):T:=br (a==c&&(b==d&&true)) (κ (0)) (br (decide (a<c)) (κ ((-1))) (br (a==c) (br (decide (b<d)) (κ ((-1))) (κ (1))) (κ (1))))
def xKT:EO:=xMm.fT Tryz.func142 27 0 [] [] lk0 (fun ((a,b,_),(c,d,_),_)=>xAG a b c d none) (u2 (xPr (u2 uI uI)) (xPr (u2 uI uI))) (fun ((a,b,_),(c,d,_),_)=>xmW a b c d) (fun _ p=>(AV.int .i64 p))
def xHg:Int×Int×List UInt8:=((0,0,[]))
def xEq {T:Type} (δ:T) (κ:Int×Int×List UInt8->T):T:=κ (0,0,[])
def xKU:EO:=xKT.fT Tryz.func105 2 0 [] [] lk0 (fun _=>xEq none) xPd (fun _=>xHg) (fun _ p=>(AV.agg [AV.int .i64 p.1,AV.int .i64 p.2.1,AV.str p.2.2]))
def xAJ {T:Type} (a:LA) (i:Int) (δ:T) (κ:Int×Int×List UInt8->T):T:=br (decide (i<0)) (κ (0,0,[])) (br (decide (i>=a.length)) (κ (0,0,[])) (br (ixI a i) (br (ixT a i 3 [Sh.int .i64,Sh.int .i64,Sh.str] 0) (κ ((gC a i 0).toInt,(gC a i 1).toInt,(gC a i 2).toStr)) δ) δ))
def xjm (a:LA) (i:Int):=xAJ a i none some
def xFF:EO:=xKU.f Tryz.func70 18 0 [] [] lk0 (u2 (uL 3) uI) (fun (a,i,_) _=>xAJ a i) (fun _ p=>AV.agg [AV.int .i64 p.1,AV.int .i64 p.2.1,AV.str p.2.2]) (0,0,[])
def xlo (o:LA) (i:Int):=ixI o i
def xrp (b o:LA) (i:Int):=(xjm b (gC o i 0).toInt).getD (0,0,[])
def xrq (a o:LA) (i:Int):=(xjm a (gC o i 0).toInt).getD (0,0,[])
def xrn (b o:LA) (i:Int):=(xrp b o i).snd
def xro (a o:LA) (i:Int):=(xrq a o i).snd
def xrm (a b o:LA) (i:Int):=xgZ (xrq a o i).fst (xro a o i).fst (xro a o i).snd (xrp b o i).fst (xrn b o i).fst (xrn b o i).snd
def xml {T:Type} (a b o:LA) (i:Int) (δ:T) (κl:(Int)->T) (κr:(Bool×(Bool)×(Unit))->T):T:=br (decide (i<o.length)) (br (xlo o i) (br (ixS o i (Sh.int .i64) 0) (br ((xjm a (gC o i 0).toInt).isSome) (br (xlo o i) (br (ixS o i (Sh.int .i64) 0) (br ((xjm b (gC o i 0).toInt).isSome) (br (xrm a b o i != 0) (br (xlo o i) (br (decide (i.toNat<o.length)&&xOq Sh.bool (gC o i 1)) (κr (true,(!decide (xrm a b o i<0)==(gC o i 1).toBool),())) δ) δ) (κl (i64.wrap (i+1)))) δ) δ) δ) δ) δ) δ) (κr (false,false,()))
def xcS (a b o:LA):StT (Int) (Bool×(Bool)×(Unit)):=fun (i)=>xml a b o i none inL inR
def xrl:=xFF.l 44 0 [] [] Tryz.f144 0 lk0 [0,1,2,7] [0,1,6] [] (q4 (qL 3) (qL 3) (qL 2) qI) xPc (fun (a,b,o,i,_) _=>(xcS a b o,(i),fun p=>(.node p.1 (.leaf .ret [AV.list 3 a,AV.list 3 b,AV.bool p.2.1] []) (.leaf (.exit 0) [AV.list 3 a,AV.list 3 b,.top] [])))) (false,false,()) fun (a,b,o,_,_) _ (i)=>(((a,b,o,i,()),()),xml a b o i none)
def xqi {T:Type} (a b o:LA) (δ:T) (κ:Bool->T):T:=br ((Iter (xcS a b o) 0).isSome) (br (((Iter (xcS a b o) 0).getD (false,false,())).fst) (κ (((Iter (xcS a b o) 0).getD (false,false,())).snd.fst)) (br ((xaw a b).isSome) (κ (decide ((xaw a b).getD 0<0))) δ)) δ
def xoT (a b o:LA):=xqi a b o none some
def xFG:EO:=xFF.f Tryz.func144 44 0 [] [(2,xrl.lp)] (lk1 xrl.ok) (u3 (uL 3) (uL 3) (uL 2)) (fun (a,b,o,_) _=>xqi a b o) (fun _ p=>AV.bool p) false
def xcE (b:LA) (k:Int):=decide (k.toNat<b.length)&&xOq (Sh.list 3) (gC b k 0)
def xcF (a:LA) (i:Int):=decide (i.toNat<a.length)&&xOq (Sh.list 3) (gC a i 0)
def xcG (a:LA) (i:Int):=ixI a i
def xcH (b:LA) (k:Int):=ixI b k
def xcd {T:Type} (b:LA) (c:Nat) (i k:Int) (a:LA) (δ:T) (κl:(Nat×Int×Int×LA)->T):T:=br (xcH b k) (br (xcE b k) (br (rmB c a 1 24) (κl (c+1,i,i64.wrap (k+1),a++[AV.list 3 (gC b k 0).toList])) δ) δ) δ
def xce {T:Type} (a:LA) (c:Nat) (i k:Int) (b:LA) (δ:T) (κl:(Nat×Int×Int×LA)->T):T:=br (xcG a i) (br (xcF a i) (br (rmB c b 1 24) (κl (c+1,i64.wrap (i+1),k,b++[AV.list 3 (gC a i 0).toList])) δ) δ) δ
def xcc {T:Type} (a b o:LA) (d:Nat) (i k:Int) (c:LA) (δ:T) (κl:(Nat×Int×Int×LA)->T):T:=br (i==(↑a.length:Int)) (xcd b d i k c δ κl) (br (decide (k<b.length)) (br (xcH b k) (br (xcE b k) (br (xcG a i) (br (xcF a i) (br ((xoT (gC b k 0).toList (gC a i 0).toList o).isSome) (br ((xoT (gC b k 0).toList (gC a i 0).toList o).getD false) (xcd b d i k c δ κl) (xce a d i k c δ κl)) δ) δ) δ) δ) δ) (xce a d i k c δ κl))
def xc2 {T:Type} (a b o:LA) (d:Nat) (i k:Int) (c:LA) (δ:T) (κl:(Nat×Int×Int×LA)->T) (κr:(Nat×LA)->T):T:=br (decide (i<a.length)) (xcc a b o d i k c δ κl) (br (decide (k<b.length)) (xcc a b o d i k c δ κl) (κr (d,c)))
def xaT (a b o:LA):StT (Nat×Int×Int×LA) (Nat×LA):=fun (d,i,k,c)=>xc2 a b o d i k c none inL inR
def xrr:=xFG.l 62 0 [] [] Tryz.f114 0 lk0 [0,1,2,7,8,9] [7] [(7,1,42)] (q6 (qL 1) (qL 1) (qL 2) (xPm 0 0 0) qI qI) (q1 (qB 0 1 42 xPe)) (fun (a,b,o,d,i,k,_) (c,_)=>(xaT a b o,(d,i,k,c),fun p=>(.leaf (.exit 0) [AV.osl 0 0 0 p.1] [bF 0 1 42 p.2]))) (0,[]) fun (a,b,o,_,_,_,_) _ (d,i,k,c)=>(((a,b,o,d,i,k,()),(c,())),xc2 a b o d i k c none)
def xoX (a b o:LA):=Iter (xaT a b o) (0,0,0,[])
def xoW (a b o:LA):=(xoX a b o).getD (0,[])
def xoU (a b o:LA):=(xoW a b o).snd
def xoV (a b o:LA):=(xoW a b o).fst
def xqj {T:Type} (a b o:LA) (δ:T) (κ:LA->T):T:=br ((xoX a b o).isSome) (br (decide (0+xoV a b o<=(xoU a b o).length)&&true) (κ (List.take (xoV a b o) (List.drop 0 (xoU a b o)))) δ) δ
def xtv (a b o:LA):=xqj a b o none some
def xyC:EO:=xFG.f Tryz.func114 62 0 [] [(3,xrr.lp)] (lk1 xrr.ok) (u3 (uL 1) (uL 1) (uL 2)) (fun (a,b,o,_) _=>xqj a b o) (fun _ p=>AV.list 1 p) []
def xnu (R:LA->LA->Option (LA)):LA->Option (Bool×AV):=ocOf (xPb (xPq 1 xPe) (xPb (xPq 2 xPe) xPd)) fun (l,(o,_))=>((R l o).isSome,AV.list 1 ((R l o).getD []))
def xh7 (R:LA->LA->Option (LA)):Prop:=OcOk P0 xO9 80 (xnu R)
def xgk (R:LA->LA->Option (LA)):Env:=(xyC.E.with 80 (xnu R)).fn 34 0 (lsOf []) (xOP [])
theorem xyM (R:LA->LA->Option (LA)) (a:xh7 R):xOs P0 (xO9.at 0) (xgk R):=(xyC.ok.with a).fn
theorem xwI (R:LA->LA->Option (LA)) (a:xh7 R):LoOk P0 (xO9.at (xgk R).pin) (xgk R) (Tryz.f80.body.getD .skip):=xhM (by kernel_rfl)
def xiK (l:LA):=decide (0<=i64.wrap ((↑l.length:Int).tdiv 2))&&decide (i64.wrap ((↑l.length:Int).tdiv 2)<=(↑l.length:Int))
def xeK (l:LA):Nat:=0+((l.getD 0 .top).cells.getD 0 .top).toList.length
def xiL (R:LA->LA->Option (LA)) (l o:LA):Option (LA):=R (List.take (l.length - (i64.wrap ((↑l.length:Int).tdiv 2)).toNat) (List.drop (i64.wrap ((↑l.length:Int).tdiv 2)).toNat l)) o
def xiJ (R:LA->LA->Option (LA)) (l o:LA):Option (LA):=xtv ((R (List.take ((i64.wrap ((↑l.length:Int).tdiv 2)).toNat - 0) (List.drop 0 l)) o).getD []) ((xiL R l o).getD []) o
def xel {T:Type} (R:LA->LA->Option (LA)) (l o:LA) (δ:T) (κ:LA->T):T:=br ((↑l.length:Int)==0) (κ ([])) (br ((↑l.length:Int)==1) (br (decide (0<(↑l.length:Int))) (br (decide (0<l.length)&&xOq (Sh.list 3) ((l.getD 0 .top).cells.getD 0 .top)) (br (decide (xeK l*32<=140737488355328)&&decide (xeK l<=4611686018427387904)) (br (decide (0+xeK l<=([]++((l.getD 0 .top).cells.getD 0 .top).toList).length)&&true&&true&&true) (κ ([AV.list 3 (List.take (xeK l) (List.drop 0 ([]++((l.getD 0 .top).cells.getD 0 .top).toList)))])) δ) δ) δ) δ) (br (xiK l&&true) (br ((R (List.take ((i64.wrap ((↑l.length:Int).tdiv 2)).toNat - 0) (List.drop 0 l)) o).isSome) (br (xiK l) (br ((xiL R l o).isSome) (br ((xiJ R l o).isSome) (κ ((xiJ R l o).getD [])) δ) δ) δ) δ) δ))
def xbI (R:LA->LA->Option (LA)) (l o:LA):=xel R l o none some
theorem xCS (R:LA->LA->Option (LA)) (l o:LA):Enc (fun (p:LA)=>((AV.list 1 p):AV)) (xbI R l o) (XF P0 (xgk R) Tryz.f80 (Tryz.f80.body.getD .skip) [AV.list 1 l,AV.list 2 o]):=by
 have h:XF P0 (xgk R) Tryz.f80 (Tryz.f80.body.getD .skip) [AV.list 1 l,AV.list 2 o]=xel R l o none (fun (p:LA)=>some ((AV.list 1 p):AV)):=by kernel_rfl
 rw [h];unfold xbI xel;repeat' (first|refine Enc.br ?_ ?_|exact Enc.none|exact Enc.some rfl)
def xCR (R:LA->LA->Option (LA)):LA->Option (Bool×AV):=ocOf (xPb (xPq 1 xPe) (xPb (xPq 2 xPe) xPd)) fun (l,(o,_))=>((xbI R l o).isSome,(AV.list 1 ((xbI R l o).getD [])))
theorem xCQ (R:LA->LA->Option (LA)) (a:xh7 R):OcOk P0 xO9 80 (xCR R):=xfn fun e g f=>by
 obtain ⟨l,⟨o,_⟩⟩:=e;obtain ⟨b,c⟩:=Prod.mk.inj f;refine xd5 (p:=(xgk R).pin) (xgh xOC (xOD P0 _) rfl (xyM R a) Tryz.func80 rfl (by kernel_rfl) (xwI R a) ((xCS R _ _ _ (xaH (d:=[]) b)).trans ?_))
 exact congrArg some c
def xby:Nat->LA->LA->Option (LA)
 | 0=>fun _ _=>none
 | fu_+1=>fun l o=>xbI (xby fu_) l o
theorem xtr:∀ n,xh7 (xby n)
 | 0=>xfn fun _ _ h=>absurd (Prod.mk.inj h).1 Bool.false_ne_true
 | fu_+1=>fun a r h=>xCQ (xby fu_) (xtr fu_) a r h
def xFH:Env:=xyC.E.with 80 (xnu (xby 1000))
theorem xGA:xOs P0 xO9 xFH:=xyC.ok.with (xtr _)
def xGz:EO:=EO.mk xFH xGA
def xtu {T:Type} (l:LA) (δ:T) (κ:LA->T):T:=br ((xby 1000 l []).isSome) (κ ((xby 1000 l []).getD [])) δ
def xoS (l:LA):=xtu l none some
def xFI:EO:=xGz.f Tryz.func48 5 0 [] [] lk0 (u1 (uL 1)) (fun (l,_) _=>xtu l) (fun _ p=>AV.list 1 p) []
def xf2 (a:LA) (i:Int):=decide (i.toNat<a.length)&&xOq (Sh.list 3) (gC a i 0)
def xf3 (a:LA) (i:Int):=ixI a i
def xf4 (a:LA) (i:Int):=xuZ ((a.getD (i64.wrap (i - 1)).toNat .top).cells.getD 0 .top).toList (gC a i 0).toList
def xdJ {T:Type} (c:LA) (b:Nat) (i:Int) (a:LA) (δ:T) (κl:(Nat×Int×LA)->T):T:=br (xf3 c i) (br (xf2 c i) (br (rmB b a 1 24) (κl (b+1,i64.wrap (i+1),a++[AV.list 3 (gC c i 0).toList])) δ) δ) δ
def xes {T:Type} (a:LA) (c:Nat) (i:Int) (b:LA) (δ:T) (κl:(Nat×Int×LA)->T) (κr:(Nat×LA)->T):T:=br (decide (i<a.length)) (br (i==0) (xdJ a c i b δ κl) (br (decide (0<=i64.wrap (i - 1))&&decide (i64.wrap (i - 1)<(↑a.length:Int))) (br (decide ((i64.wrap (i - 1)).toNat<a.length)&&xOq (Sh.list 3) ((a.getD (i64.wrap (i - 1)).toNat .top).cells.getD 0 .top)) (br (xf3 a i) (br (xf2 a i) (br ((xf4 a i).isSome) (br (!(xf4 a i).getD false) (xdJ a c i b δ κl) (κl (c,i64.wrap (i+1),b))) δ) δ) δ) δ) δ)) (κr (c,b))
def xbq (c:LA):StT (Nat×Int×LA) (Nat×LA):=fun (b,i,a)=>xes c b i a none inL inR
def xoQ:=xFI.l 38 0 [] [] Tryz.f140 0 lk0 [3,4,5] [4] [(4,1,42)] (q3 (qL 1) (xPm 0 0 0) qI) (q1 (qB 0 1 42 xPe)) (fun (c,b,i,_) (a,_)=>(xbq c,(b,i,a),fun p=>(.leaf (.exit 0) [AV.osl 0 0 0 p.1] [bF 0 1 42 p.2]))) (0,[]) fun (c,_,_,_) _ (b,i,a)=>(((c,b,i,()),(a,())),xes c b i a none)
def xmk (l:LA):=(Iter (xbq ((xoS l).getD [])) (0,0,[])).getD (0,[])
def xmi (l:LA):=(xmk l).snd
def xmj (l:LA):=(xmk l).fst
def xns {T:Type} (l:LA) (δ:T) (κ:LA->T):T:=br ((xoS l).isSome) (br ((Iter (xbq ((xoS l).getD [])) (0,0,[])).isSome) (br (decide (0+xmj l<=(xmi l).length)&&true) (κ (List.take (xmj l) (List.drop 0 (xmi l)))) δ) δ) δ
def xqh (l:LA):=xns l none some
def xFJ:EO:=xFI.f Tryz.func140 38 0 [] [(4,xoQ.lp)] (lk1 xoQ.ok) (u1 (uL 1)) (fun (l,_) _=>xns l) (fun _ p=>AV.list 1 p) []
def xkN {T:Type} (l:LA) (b:Nat) (i:Int) (a:LA) (δ:T) (κl:(Nat×Int×LA)->T) (κr:(Nat×LA)->T):T:=br (decide (i<l.length)) (br (ixI l i) (br (ixT l i 3 [Sh.int .i64,Sh.int .i64] 1) (br (xeW (gC l i 1).toInt (gC l i 2).toInt) (br (ixI l i) (br (ixS l i (Sh.list 3) 0) (br (rmB b a 1 24) (κl (b+1,i64.wrap (i+1),a++[AV.list 3 (gC l i 0).toList])) δ) δ) δ) (κl (b,i64.wrap (i+1),a))) δ) δ) (κr (b,a))
def xdP (l:LA):StT (Nat×Int×LA) (Nat×LA):=fun (b,i,a)=>xkN l b i a none inL inR
def xtM:=xFJ.l 27 0 [] [] Tryz.f107 0 lk0 [0,3,4] [3] [(3,1,42)] (q3 (qL 3) (xPm 0 0 0) qI) (q1 (qB 0 1 42 xPe)) (fun (l,b,i,_) (a,_)=>(xdP l,(b,i,a),fun p=>(.leaf (.exit 0) [AV.osl 0 0 0 p.1] [bF 0 1 42 p.2]))) (0,[]) fun (l,_,_,_) _ (b,i,a)=>(((l,b,i,()),(a,())),xkN l b i a none)
def xsa (l:LA):=(Iter (xdP l) (0,0,[])).getD (0,[])
def xr8 (l:LA):=(xsa l).fst
def xr9 (l:LA):=(xsa l).snd
def xr7 (l:LA):=xqh (List.take (xr8 l) (List.drop 0 (xr9 l)))
def xtN {T:Type} (l:LA) (δ:T) (κ:LA->T):T:=br ((Iter (xdP l) (0,0,[])).isSome) (br (decide (0+xr8 l<=(xr9 l).length)&&true) (br ((xr7 l).isSome) (κ ((xr7 l).getD [])) δ) δ) δ
def xsY (l:LA):=xtN l none some
def xvq:EO:=xFJ.f Tryz.func107 27 0 [] [(3,xtM.lp)] (lk1 xtM.ok) (u1 (uL 3)) (fun (l,_) _=>xtN l) (fun _ p=>AV.list 1 p) []
def xgX:Env:=xvq.E.fn 51 1 (lsOf []) (xOP [])
theorem xzM:xOs P0 (xO9.at 1) xgX:=xvq.ok.fn
theorem xyd:LoOk P0 (xO9.at xgX.pin) xgX (Tryz.f85.body.getD .skip):=xhM (by kernel_rfl)
def xdv (k:Nat) (a:LA):=(List.take ((i64.wrap ((↑k:Int) - 1)).toNat - 0) (List.drop 0 a)).length
def xmY (k:Nat) (a:LA):=decide (0+(i64.wrap ((↑k:Int) - 1)).toNat<a.length)
def xjT (k:Nat) (a:LA):=((a.getD (0+(i64.wrap ((↑k:Int) - 1)).toNat) .top).cells.getD 1 .top).toInt
def xmZ (k:Nat):=decide (0<=i64.wrap ((↑k:Int) - 1))
def xjS (k:Nat):=xmZ k&&decide (i64.wrap ((↑k:Int) - 1)<(↑k:Int))
def xmX (k:Nat) (a:LA):=xmY k a&&xOq (Sh.int .i64) ((a.getD (0+(i64.wrap ((↑k:Int) - 1)).toNat) .top).cells.getD 1 .top)
def xiu {T:Type} (k:Nat) (a b:Int) (c:LA) (δ:T) (κ:Bool×(Nat×LA×LA)×(Nat×LA)->T):T:=br (rmB k c 1 16) (κ (false,(0,[],[]),(k+1,c++[AV.agg [AV.int .i64 a,AV.int .i64 b]]))) δ
def xln {T:Type} (k:Nat) (b c:Int) (a:LA) (δ:T) (κ:Bool×(Nat×LA×LA)×(Nat×LA)->T):T:=br (decide ((↑k:Int)>0)) (br (xjS k) (br (xmX k a) (br (decide (xjT k a>=b)) (br (xmZ k&&decide (i64.wrap ((↑k:Int) - 1)<=(↑k:Int))&&true) (br (decide (0+((i64.wrap ((↑k:Int) - 1)).toNat - 0)<=a.length)&&(decide (xdv k a*16<=140737488355328)&&decide (xdv k a<=4611686018427387904))) (br (xjS k) (br (xmY k a&&xOq (Sh.int .i64) ((a.getD (0+(i64.wrap ((↑k:Int) - 1)).toNat) .top).cells.getD 0 .top)) (br (xjS k) (br (xmX k a) (br (xdv k a==xdv k a&&(decide ((xdv k a+1)*16<=140737488355328)&&decide (xdv k a+1<=4611686018427387904))) (κ (true,(xdv k a+1,a,List.take ((i64.wrap ((↑k:Int) - 1)).toNat - 0) (List.drop 0 a)++[AV.agg [AV.int .i64 ((a.getD (0+(i64.wrap ((↑k:Int) - 1)).toNat) .top).cells.getD 0 .top).toInt,AV.int .i64 (if c>xjT k a then c else xjT k a)]]),(0,[]))) δ) δ) δ) δ) δ) δ) δ) (xiu k b c a δ κ)) δ) δ) (xiu k b c a δ κ)
def xa0 (k:Nat) (a b:Int) (c:LA):=xln k a b c none some
theorem xEp (k:Nat) (a b:Int) (xs:LA):Enc (fun (p:Bool×(Nat×LA×LA)×(Nat×LA))=>((br p.1 ((AV.osl 1 0 0 p.2.1.1,([⟨0,2,44,p.2.1.2.1,false,true⟩,⟨0,2,44,p.2.1.2.2,false,true⟩]:List Box))) ((AV.osl 0 1 0 p.2.2.1,([⟨1,2,44,p.2.2.2,false,true⟩]:List Box)))):(AV×List Box))) (xa0 k a b xs) (XFM P0 xgX Tryz.f85 (Tryz.f85.body.getD .skip) [AV.osl (0:Id) 0 0 k,AV.agg [AV.int .i64 a,AV.int .i64 b]] [{ ver:=0,sz:=2,ty:=(44:TypeId),xs:=xs,frz:=false,pm:=true }]):=by
 have h:XFM P0 xgX Tryz.f85 (Tryz.f85.body.getD .skip) [AV.osl (0:Id) 0 0 k,AV.agg [AV.int .i64 a,AV.int .i64 b]] [{ ver:=0,sz:=2,ty:=(44:TypeId),xs:=xs,frz:=false,pm:=true }]=xln k a b xs none (fun (p:Bool×(Nat×LA×LA)×(Nat×LA))=>some ((br p.1 ((AV.osl 1 0 0 p.2.1.1,([⟨0,2,44,p.2.1.2.1,false,true⟩,⟨0,2,44,p.2.1.2.2,false,true⟩]:List Box))) ((AV.osl 0 1 0 p.2.2.1,([⟨1,2,44,p.2.2.2,false,true⟩]:List Box)))):(AV×List Box))):=by kernel_rfl
 rw [h];unfold xa0 xln xiu;repeat' (first|refine Enc.br ?_ ?_|exact Enc.none|exact Enc.some rfl)
def xEo:LA->List Box->Option (Bool×AV×List Box):=omOf (xPb (sEq (xPm 0 0 0)) (xPb (xPr (xPb (sEq (pInt .i64)) (xPb (sEq (pInt .i64)) xPd))) xPd)) (xPa (xPp 0 2 (44:TypeId) false true xPe) xPc) fun (k,((a,(b,_)),_)) (c,_)=>((xa0 k a b c).isSome,(AV.osl 1 0 0 (br ((xa0 k a b c).getD (false,(0,[],[]),(0,[]))).1 ((xa0 k a b c).getD (false,(0,[],[]),(0,[]))).2.1.1 ((xa0 k a b c).getD (false,(0,[],[]),(0,[]))).2.2.1),
 ([⟨2,2,44,[],false,true⟩,⟨0,2,44,br ((xa0 k a b c).getD (false,(0,[],[]),(0,[]))).1 ((xa0 k a b c).getD (false,(0,[],[]),(0,[]))).2.1.2.2 ((xa0 k a b c).getD (false,(0,[],[]),(0,[]))).2.2.2,false,true⟩]:List Box)))
theorem xEn:OmOk P0 xO9 85 (xEo):=xp6 fun e f j h g=>by
 obtain ⟨k,⟨⟨c,⟨i,_⟩⟩,_⟩⟩:=e;obtain ⟨l,_⟩:=f;obtain ⟨b,a⟩:=Prod.mk.inj g;have hx:=xEp _ _ _ _ _ (xaH (d:=(false,(0,[],[]),(0,[]))) b);revert hx a;generalize ((xa0 _ _ _ _).getD (false,(0,[],[]),(0,[])))=p;intro a hx;obtain ⟨rfl,rfl⟩:=Prod.mk.inj a;obtain ⟨t,⟨m,n,o⟩,q,r⟩:=p;have hg:GoodM P0 xO9 85 _ _ _ _:=xga (p:=xgX.pin) (xg6 xOC (xOD P0 _) rfl xzM rfl Tryz.func85 rfl (by kernel_rfl) xyd hx)
 cases t
 . exact GoodM.move0 rfl (by decide) hg
 . exact GoodM.drop0 rfl (by decide) hg
def xGy:EO:=xvq.wM xEn
def xfI {T:Type} (l:LA) (n:Int) (b:Nat) (i:Int) (a:LA) (δ:T) (κl:(Nat×Int×LA)->T) (κr:(Nat×Int×LA)->T):T:=br (decide (i<l.length)) (br (ixI l i) (br (ixS l i (Sh.int .i64) 0) (br (decide ((gC l i 0).toInt<n)) (br (ixI l i) (br (ixS l i (Sh.int .i64) 0) (br (rmB b a 1 8) (κl (b+1,i64.wrap (i+1),a++[AV.int .i64 (gC l i 0).toInt])) δ) δ) δ) (κr (b,i,a))) δ) δ) (κr (b,i,a))
def xbW (l:LA) (n:Int):StT (Nat×Int×LA) (Nat×Int×LA):=fun (b,i,a)=>xfI l n b i a none inL inR
def xlm:=xGy.l 58 0 [] [] Tryz.f79 0 lk0 [0,1,5,6] [0,1,5,6] [(5,1,3)] (q4 (qL 1) qI (xPm 0 0 0) qI) (q1 (qB 0 1 3 xPe)) (fun (l,n,b,i,_) (a,_)=>(xbW l n,(b,i,a),fun p=>(.leaf (.exit 0) [AV.list 1 l,AV.int .i64 n,AV.osl 0 0 0 p.1,AV.int .i64 p.2.1] [bF 0 1 3 p.2.2]))) (0,0,[]) fun (l,n,_,_,_) _ (b,i,a)=>(((l,n,b,i,()),(a,())),xfI l n b i a none)
def xh2 {T:Type} (l:LA) (b:Nat) (i:Int) (a:LA) (δ:T) (κl:(Nat×Int×LA)->T) (κr:(Nat×LA)->T):T:=br (decide (i<l.length)) (br (ixI l i) (br (ixS l i (Sh.int .i64) 0) (br (rmB b a 1 8) (κl (b+1,i64.wrap (i+1),a++[AV.int .i64 (gC l i 0).toInt])) δ) δ) δ) (κr (b,a))
def xbX (l:LA):StT (Nat×Int×LA) (Nat×LA):=fun (b,i,a)=>xh2 l b i a none inL inR
def xri:=xGy.l 58 0 [] [(3,xlm.lp)] Tryz.f79 1 lk0 [0,5,6] [5] [(5,1,3)] (q3 (qL 1) (xPm 0 0 0) qI) (q1 (qB 0 1 3 xPe)) (fun (l,b,i,_) (a,_)=>(xbX l,(b,i,a),fun p=>(.leaf (.exit 2) [AV.osl 0 0 0 p.1] [bF 0 1 3 p.2]))) (0,[]) fun (l,_,_,_) _ (b,i,a)=>(((l,b,i,()),(a,())),xh2 l b i a none)
def xgv (l:LA) (n:Int):=(Iter (xbW l n) (0,0,[])).getD (0,0,[])
def xeG (l:LA) (n:Int):=(xgv l n).fst
def xgu (l:LA) (n:Int):=(xgv l n).snd
def xbf (l:LA) (n:Int):=(xgu l n).fst
def xeE (l:LA) (n:Int):=xeG l n+1
def xeF (l:LA) (n:Int):=(xgu l n).snd
def xhc (l:LA) (n:Int):=Iter (xbX l) (xeE l n,xbf l n,xeF l n++[AV.int .i64 n])
def xhg (l:LA) (n:Int):=Iter (xbX l) (xeG l n,xbf l n,xeF l n)
def xjl (l:LA) (n:Int):=xeG l n==(xeF l n).length
def xhb (l:LA) (n:Int):=(xhc l n).getD (0,[])
def xkE (l:LA) (n:Int):=(xhc l n).isSome
def xhf (l:LA) (n:Int):=(xhg l n).getD (0,[])
def xg9 (l:LA) (n:Int):=(xhb l n).fst
def xha (l:LA) (n:Int):=(xhb l n).snd
def xhd (l:LA) (n:Int):=(xhf l n).fst
def xhe (l:LA) (n:Int):=(xhf l n).snd
def xnm {T:Type} (l:LA) (n:Int) (δ:T) (κ:LA->T):T:=br (xjl l n&&(decide (xeE l n*8<=140737488355328)&&decide (xeE l n<=4611686018427387904))) (br (xkE l n) (br (decide (0+xg9 l n<=(xha l n).length)&&true) (κ (List.take (xg9 l n) (List.drop 0 (xha l n)))) δ) δ) δ
def xp7 {T:Type} (l:LA) (n:Int) (δ:T) (κ:LA->T):T:=br ((Iter (xbW l n) (0,0,[])).isSome) (br (xbf l n==(↑l.length:Int)) (xnm l n δ κ) (br (decide (0<=xbf l n)&&decide (xbf l n<l.length)) (br (decide ((xbf l n).toNat<l.length)&&xOq (Sh.int .i64) ((l.getD (xbf l n).toNat .top).cells.getD 0 .top)) (br (decide (((l.getD (xbf l n).toNat .top).cells.getD 0 .top).toInt>n)) (xnm l n δ κ) (br ((xhg l n).isSome) (br (decide (0+xhd l n<=(xhe l n).length)&&true) (κ (List.take (xhd l n) (List.drop 0 (xhe l n)))) δ) δ)) δ) δ)) δ
def xb2 (l:LA) (n:Int):=xp7 l n none some
def xDh:EO:=xGy.f Tryz.func79 58 0 [] [(3,xlm.lp),(8,xri.lp)] (lks (lkC xlm.ok (lkC xri.ok lkN))) (u2 (uL 1) uI) (fun (l,n,_) _=>xp7 l n) (fun _ p=>AV.list 1 p) []
def xiI:Env:=xDh.E.fn 28 1 (lsOf []) (xOP [])
theorem xAH:xOs P0 (xO9.at 1) xiI:=xDh.ok.fn
theorem xye:LoOk P0 (xO9.at xiI.pin) xiI (Tryz.f166.body.getD .skip):=xhM (by kernel_rfl)
def xgY {T:Type} (k:Nat) (a n:Int) (b:LA) (δ:T) (κ:Bool×(Nat×LA)×(Nat×LA)->T):T:=br (rmB k b 1 16) (κ (false,(0,[]),(k+1,b++[AV.agg [AV.int .i64 a,AV.int .i64 n]]))) δ
def xj5 {T:Type} (k:Nat) (a n:Int) (b:LA) (δ:T) (κ:Bool×(Nat×LA)×(Nat×LA)->T):T:=br (decide ((↑k:Int)>0)) (br (decide (0<=i64.wrap ((↑k:Int) - 1))&&decide (i64.wrap ((↑k:Int) - 1)<(↑k:Int))) (br (decide (0+(i64.wrap ((↑k:Int) - 1)).toNat<b.length)&&xOq (Sh.int .i64) ((b.getD (0+(i64.wrap ((↑k:Int) - 1)).toNat) .top).cells.getD 1 .top)) (br (((b.getD (0+(i64.wrap ((↑k:Int) - 1)).toNat) .top).cells.getD 1 .top).toInt==n) (κ (true,(k,b),(0,[]))) (xgY k a n b δ κ)) δ) δ) (xgY k a n b δ κ)
def xcC (k:Nat) (a n:Int) (b:LA):=xj5 k a n b none some
theorem xFh (k:Nat) (a n:Int) (xs:LA):Enc (fun (p:Bool×(Nat×LA)×(Nat×LA))=>((br p.1 ((AV.osl 0 0 0 p.2.1.1,([⟨0,2,148,p.2.1.2,false,true⟩]:List Box))) ((AV.osl 0 1 0 p.2.2.1,([⟨1,2,148,p.2.2.2,false,true⟩]:List Box)))):(AV×List Box))) (xcC k a n xs) (XFM P0 xiI Tryz.f166 (Tryz.f166.body.getD .skip) [AV.osl (0:Id) 0 0 k,AV.int .i64 a,AV.int .i64 n] [{ ver:=0,sz:=2,ty:=(148:TypeId),xs:=xs,frz:=false,pm:=true }]):=by
 have h:XFM P0 xiI Tryz.f166 (Tryz.f166.body.getD .skip) [AV.osl (0:Id) 0 0 k,AV.int .i64 a,AV.int .i64 n] [{ ver:=0,sz:=2,ty:=(148:TypeId),xs:=xs,frz:=false,pm:=true }]=xj5 k a n xs none (fun (p:Bool×(Nat×LA)×(Nat×LA))=>some ((br p.1 ((AV.osl 0 0 0 p.2.1.1,([⟨0,2,148,p.2.1.2,false,true⟩]:List Box))) ((AV.osl 0 1 0 p.2.2.1,([⟨1,2,148,p.2.2.2,false,true⟩]:List Box)))):(AV×List Box))):=by kernel_rfl
 rw [h];unfold xcC xj5 xgY;repeat' (first|refine Enc.br ?_ ?_|exact Enc.none|exact Enc.some rfl)
def xFg:LA->List Box->Option (Bool×AV×List Box):=omOf (xPb (sEq (xPm 0 0 0)) (xPb (sEq (pInt .i64)) (xPb (sEq (pInt .i64)) xPd))) (xPa (xPp 0 2 (148:TypeId) false true xPe) xPc) fun (k,(a,(n,_))) (b,_)=>((xcC k a n b).isSome,(AV.osl 0 1 0 (br ((xcC k a n b).getD (false,(0,[]),(0,[]))).1 ((xcC k a n b).getD (false,(0,[]),(0,[]))).2.1.1 ((xcC k a n b).getD (false,(0,[]),(0,[]))).2.2.1),([⟨1,2,148,(br ((xcC k a n b).getD (false,(0,[]),(0,[]))).1 ((xcC k a n b).getD (false,(0,[]),(0,[]))).2.1.2 ((xcC k a n b).getD (false,(0,[]),(0,[]))).2.2.2),false,true⟩]:List Box)))
theorem xFf:OmOk P0 xO9 166 (xFg):=xp6 fun e f j i g=>by
 obtain ⟨k,⟨b,⟨n,_⟩⟩⟩:=e;obtain ⟨h,_⟩:=f;obtain ⟨c,a⟩:=Prod.mk.inj g;have hx:=xFh _ _ _ _ _ (xaH (d:=(false,(0,[]),(0,[]))) c);revert hx a;generalize ((xcC k b n h).getD (false,(0,[]),(0,[])))=p;intro a hx;obtain ⟨rfl,rfl⟩:=Prod.mk.inj a;obtain ⟨t,⟨l,m⟩,o,q⟩:=p;have hg:GoodM P0 xO9 166 _ _ _ _:=xga (p:=xiI.pin) (xg6 xOC (xOD P0 _) rfl xAH rfl Tryz.func166 rfl (by kernel_rfl) xye hx)
 cases t
 . exact hg
 . exact GoodM.bump1 rfl (by decide) hg
def xz2:EO:=xDh.wM xFf
def xiw (l:LA) (i:Int):=ixI l i
def xmx {T:Type} (l a:LA) (i:Int) (δ:T) (κl:(LA×Int)->T) (κr:(LA)->T):T:=br (decide (i<l.length)) (br (xiw l i) (br (ixT l i 3 [Sh.int .i64,Sh.int .i64] 0) (br (xeW (gC l i 0).toInt (gC l i 1).toInt) (br (xiw l i) (br (ixS l i (Sh.int .i64) 0) (br ((xb2 a (gC l i 0).toInt).isSome) (br (xiw l i) (br (ixS l i (Sh.int .i64) 1) (br ((xb2 ((xb2 a (gC l i 0).toInt).getD []) (gC l i 1).toInt).isSome) (κl ((xb2 ((xb2 a (gC l i 0).toInt).getD []) (gC l i 1).toInt).getD [],i64.wrap (i+1))) δ) δ) δ) δ) δ) δ) (κl (a,i64.wrap (i+1)))) δ) δ) (κr (a))
def xeH (l:LA):StT (LA×Int) (LA):=fun (a,i)=>xmx l a i none inL inR
def xlX:=xz2.l 82 0 [] [] Tryz.f141 0 lk0 [0,3,4] [0,3] [(3,1,1073741824)] (q3 (qL 3) (qL 1) qI) xPc (fun (l,a,i,_) _=>(xeH l,(a,i),fun p=>(.leaf (.exit 0) [AV.list 3 l,AV.list 1 p] []))) [] fun (l,_,_,_) _ (a,i)=>(((l,a,i,()),()),xmx l a i none)
def xm0 {T:Type} (l b:LA) (c:Nat) (k n i:Int) (a:LA) (δ:T) (κl:(Int×Int×LA)->T) (κr:(Int×LA)->T):T:=br (decide (i<l.length)) (br (ixI l i) (br (ixT l i 3 [Sh.int .i64,Sh.int .i64] 0) (br (ixI b k) (br (ixS b k (Sh.int .i64) 0) (br (xit (gC l i 0).toInt (gC l i 1).toInt (gC b k 0).toInt) (br (ixI l i) (br (ixS l i (Sh.int .i64) 2) (κl (i64.wrap (n+(gC l i 2).toInt),i64.wrap (i+1),a)) δ) δ) (κl (n,i64.wrap (i+1),a))) δ) δ) δ) δ) (κr (n,a))
def xeJ (l c:LA) (b:Nat) (k:Int):StT (Int×Int×LA) (Int×LA):=fun (n,i,a)=>xm0 l c b k n i a none inL inR
def xlY:=xz2.l 82 0 [] [(3,xlX.lp)] Tryz.f141 2 lk0 [0,3,5,6,7,8] [0,3,5,6,7] [(5,2,148),(3,1,1073741824)] (q6 (qL 3) (qL 1) (xPm 0 0 0) qI qI qI) (q1 (qB 0 2 148 xPe)) (fun (l,c,a,k,n,i,_) (b,_)=>(xeJ l c a k,(n,i,b),fun p=>(.leaf (.exit 4) [AV.list 3 l,AV.list 1 c,AV.osl 0 0 0 a,AV.int .i64 k,AV.int .i64 p.1] [bF 0 2 148 p.2]))) (0,[]) fun (l,c,a,k,_,_,_) _ (n,i,b)=>(((l,c,a,k,n,i,()),(b,())),xm0 l c a k n i b none)
def xiE (l c:LA) (b:Nat) (k:Int) (a:LA):=(Iter (xeJ l c b k) (0,0,a)).getD (0,[])
def xiD (l c:LA) (a:Nat) (k:Int) (b:LA):=xcC a (gC c k 0).toInt (xiE l c a k b).fst (xiE l c a k b).snd
def xiC (l c:LA) (b:Nat) (k:Int) (a:LA):=(xiD l c b k a).getD (false,(0,[]),0,[])
def xiA (l c:LA) (b:Nat) (k:Int) (a:LA):=(xiC l c b k a).snd
def xiB (l c:LA) (b:Nat) (k:Int) (a:LA):=(xiC l c b k a).fst
def xiy (l c:LA) (b:Nat) (k:Int) (a:LA):=(xiA l c b k a).fst
def xiz (l c:LA) (b:Nat) (k:Int) (a:LA):=(xiA l c b k a).snd
def xjU {T:Type} (l c:LA) (b:Nat) (k:Int) (a:LA) (δ:T) (κl:(Nat×Int×LA)->T) (κr:(Nat×LA)->T):T:=br (decide (k<c.length)) (br (ixI c k) (br (ixS c k (Sh.int .i64) 0) (br (decide ((gC c k 0).toInt<1099511627776)) (br ((Iter (xeJ l c b k) (0,0,a)).isSome) (br (ixI c k) (br (ixS c k (Sh.int .i64) 0) (br ((xiD l c b k a).isSome) (κl (br (xiB l c b k a) (xiy l c b k a).fst (xiz l c b k a).fst,i64.wrap (k+1),br (xiB l c b k a) (xiy l c b k a).snd (xiz l c b k a).snd)) δ) δ) δ) δ) (κr (b,a))) δ) δ) (κr (b,a))
def xeI (l c:LA):StT (Nat×Int×LA) (Nat×LA):=fun (b,k,a)=>xjU l c b k a none inL inR
def xvA:=xz2.l 82 0 [] [(3,xlX.lp),(14,xlY.lp)] Tryz.f141 1 (lk1 xlY.ok) [0,3,5,6] [5] [(5,2,148),(3,1,1073741824)] (q4 (qL 3) (qL 1) (xPm 0 0 0) qI) (q1 (qB 0 2 148 xPe)) (fun (l,c,b,k,_) (a,_)=>(xeI l c,(b,k,a),fun p=>(.leaf (.exit 2) [AV.osl 0 0 0 p.1] [bF 0 2 148 p.2]))) (0,[]) fun (l,c,_,_,_) _ (b,k,a)=>(((l,c,b,k,()),(a,())),xjU l c b k a none)
def xuY (l:LA):=Iter (xeI l ((Iter (xeH l) ([AV.int .i64 0],0)).getD [])) (0,0,[])
def xuX (l:LA):=(xuY l).getD (0,[])
def xuV (l:LA):=(xuX l).snd
def xuW (l:LA):=(xuX l).fst
def xv6 {T:Type} (l:LA) (δ:T) (κ:LA->T):T:=br ((Iter (xeH l) ([AV.int .i64 0],0)).isSome) (br ((xuY l).isSome) (br (decide (0+xuW l<=(xuV l).length)&&true) (κ (List.take (xuW l) (List.drop 0 (xuV l)))) δ) δ) δ
def xzN (l:LA):=xv6 l none some
def xHS:EO:=xz2.f Tryz.func141 82 0 [] [(3,xlX.lp),(14,xlY.lp),(10,xvA.lp)] (lks (lkC xlX.ok (lkC xvA.ok (lkC xlY.ok lkN)))) (u1 (uL 3)) (fun (l,_) _=>xv6 l) (fun _ p=>AV.list 2 p) []
def xib {T:Type} (l c:LA) (b:Nat) (i:Int) (a:LA) (δ:T) (κl:(Nat×Int×LA)->T) (κr:(Nat×LA)->T):T:=br (decide (i<l.length)) (br (ixI l i) (br (ixS l i (Sh.list 3) 0) (br ((xaw (gC l i 0).toList c).isSome) (br ((xaw (gC l i 0).toList c).getD 0==0) (br (ixI l i) (br (ixT l i 3 [Sh.int .i64,Sh.int .i64] 1) (br (rmB b a 1 24) (κl (b+1,i64.wrap (i+1),a++[AV.agg [AV.int .i64 (gC l i 1).toInt,AV.int .i64 (gC l i 2).toInt,AV.int .i64 1]])) δ) δ) δ) (κl (b,i64.wrap (i+1),a))) δ) δ) δ) (κr (b,a))
def xcT (l b:LA):StT (Nat×Int×LA) (Nat×LA):=fun (c,i,a)=>xib l b c i a none inL inR
def xrt:=xHS.l 32 0 [] [] Tryz.f108 0 lk0 [0,1,5,6] [5] [(5,3,155)] (q4 (qL 3) (qL 3) (xPm 0 0 0) qI) (q1 (qB 0 3 155 xPe)) (fun (l,b,c,i,_) (a,_)=>(xcT l b,(c,i,a),fun p=>(.leaf (.exit 0) [AV.osl 0 0 0 p.1] [bF 0 3 155 p.2]))) (0,[]) fun (l,b,_,_,_) _ (c,i,a)=>(((l,b,c,i,()),(a,())),xib l b c i a none)
def xpa (l a:LA):=(Iter (xcT l a) (0,0,[])).getD (0,[])
def xo8 (l a:LA):=(xpa l a).snd
def xo9 (l a:LA):=(xpa l a).fst
def xo7 (l a:LA):=xzN (List.take (xo9 l a) (List.drop 0 (xo8 l a)))
def xqD {T:Type} (l a:LA) (δ:T) (κ:LA->T):T:=br ((Iter (xcT l a) (0,0,[])).isSome) (br (decide (0+xo9 l a<=(xo8 l a).length)&&true) (br ((xo7 l a).isSome) (κ ((xo7 l a).getD [])) δ) δ) δ
def xo6 (l a:LA):=xqD l a none some
def xz3:EO:=xHS.f Tryz.func108 32 0 [] [(3,xrt.lp)] (lk1 xrt.ok) (u2 (uL 3) (uL 3)) (fun (l,a,_) _=>xqD l a) (fun _ p=>AV.list 2 p) []
def xfK {T:Type} (a:LA) (c:Nat) (i k:Int) (b:LA) (δ:T) (κl:(Int×LA)->T) (κr:(Int×LA)->T):T:=br (decide (k<a.length)) (br (ixI a k) (br (ixS a k (Sh.list 3) 0) (br (ixI a i) (br (ixS a i (Sh.list 3) 0) (br ((xaw (gC a k 0).toList (gC a i 0).toList).isSome) (br ((xaw (gC a k 0).toList (gC a i 0).toList).getD 0==0) (κl (i64.wrap (k+1),b)) (κr (k,b))) δ) δ) δ) δ) δ) (κr (k,b))
def xbi (c:LA) (b:Nat) (i:Int):StT (Int×LA) (Int×LA):=fun (k,a)=>xfK c b i k a none inL inR
def xe7:=xz3.l 66 0 [] [] Tryz.f71 1 lk0 [3,4,5,6] [3,4,5,6] [(4,2,118)] (q4 (qL 3) (xPm 0 0 0) qI qI) (q1 (qB 0 2 118 xPe)) (fun (c,a,i,k,_) (b,_)=>(xbi c a i,(k,b),fun p=>(.leaf (.exit 2) [AV.list 3 c,AV.osl 0 0 0 a,AV.int .i64 i,AV.int .i64 p.1] [bF 0 2 118 p.2]))) (0,[]) fun (c,a,i,_,_) _ (k,b)=>(((c,a,i,k,()),(b,())),xfK c a i k b none)
def xfL {T:Type} (d:LA) (i k:Int) (a:LA) (c:Nat) (n:Int) (b:LA) (δ:T) (κl:(Nat×Int×LA)->T) (κr:(Nat×LA)->T):T:=br (decide (n<a.length)) (br (ixI a n) (br (ixS a n (Sh.list 3) 0) (br (decide (0<=k)&&decide (k<=d.length)&&(decide (0<=i)&&decide (i<=(↑k.toNat:Int)))) (br (ixI a n) (br (ixS a n (Sh.list 3) 0) (br ((xo6 (List.take (k.toNat - i.toNat) (List.drop i.toNat d)) (gC a n 0).toList).isSome) (br (rmB c b 1 48) (κl (c+1,i64.wrap (n+1),b++[AV.agg [AV.list 3 (gC a n 0).toList,AV.list 2 ((xo6 (List.take (k.toNat - i.toNat) (List.drop i.toNat d)) (gC a n 0).toList).getD [])]])) δ) δ) δ) δ) δ) δ) δ) (κr (c,b))
def xcV (d:LA) (i k:Int) (c:LA):StT (Nat×Int×LA) (Nat×LA):=fun (b,n,a)=>xfL d i k c b n a none inL inR
def xhn:=xz3.l 66 0 [] [(6,xe7.lp)] Tryz.f71 2 lk0 [3,4,5,6,7,8] [3,4,6] [(4,2,118)] (q6 (qL 3) (xPm 0 0 0) qI qI (qL 1) qI) (q1 (qB 0 2 118 xPe)) (fun (d,b,i,k,c,n,_) (a,_)=>(xcV d i k c,(b,n,a),fun p=>(.leaf (.exit 4) [AV.list 3 d,AV.osl 0 0 0 p.1,AV.int .i64 k] [bF 0 2 118 p.2]))) (0,[]) fun (d,_,i,k,c,_,_) _ (b,n,a)=>(((d,b,i,k,c,n,()),(a,())),xfL d i k c b n a none)
def xbP (c:LA) (b:Nat) (i:Int) (a:LA):=((Iter (xbi c b i) (i,a)).getD (0,[])).fst
def xlr (c:LA) (a:Nat) (i:Int) (b:LA):=Iter (xcV c i (xbP c a i b) ((xsY (List.take ((xbP c a i b).toNat - i.toNat) (List.drop i.toNat c))).getD [])) (a,0,((Iter (xbi c a i) (i,b)).getD (0,[])).snd)
def xlq (c:LA) (b:Nat) (i:Int) (a:LA):=(xlr c b i a).getD (0,[])
def xid {T:Type} (c:LA) (b:Nat) (i:Int) (a:LA) (δ:T) (κl:(Nat×Int×LA)->T) (κr:(Nat×LA)->T):T:=br (decide (i<c.length)) (br ((Iter (xbi c b i) (i,a)).isSome) (br (decide (0<=xbP c b i a)&&decide (xbP c b i a<=c.length)&&(decide (0<=i)&&decide (i<=(↑(xbP c b i a).toNat:Int)))) (br ((xsY (List.take ((xbP c b i a).toNat - i.toNat) (List.drop i.toNat c))).isSome) (br ((xlr c b i a).isSome) (κl ((xlq c b i a).fst,xbP c b i a,(xlq c b i a).snd)) δ) δ) δ) δ) (κr (b,a))
def xcU (c:LA):StT (Nat×Int×LA) (Nat×LA):=fun (b,i,a)=>xid c b i a none inL inR
def xrw:=xz3.l 66 0 [] [(6,xe7.lp),(10,xhn.lp)] Tryz.f71 0 (lks (lkC xe7.ok (lkC xhn.ok lkN))) [3,4,5] [4] [(4,2,118)] (q3 (qL 3) (xPm 0 0 0) qI) (q1 (qB 0 2 118 xPe)) (fun (c,b,i,_) (a,_)=>(xcU c,(b,i,a),fun p=>(.leaf (.exit 0) [AV.osl 0 0 0 p.1] [bF 0 2 118 p.2]))) (0,[]) fun (c,_,_,_) _ (b,i,a)=>(((c,b,i,()),(a,())),xid c b i a none)
def xpj (l:LA):=Iter (xcU ((xbj 100 l).getD [])) (0,0,[])
def xpi (l:LA):=(xpj l).getD (0,[])
def xpg (l:LA):=(xpi l).fst
def xph (l:LA):=(xpi l).snd
def xqK {T:Type} (l:LA) (δ:T) (κ:LA->T):T:=br ((xbj 100 l).isSome) (br ((xpj l).isSome) (br (decide (0+xpg l<=(xph l).length)&&true) (κ (List.take (xpg l) (List.drop 0 (xph l)))) δ) δ) δ
def xe6 (l:LA):=xqK l none some
def xHT:EO:=xz3.f Tryz.func71 66 0 [] [(6,xe7.lp),(10,xhn.lp),(4,xrw.lp)] (lks (lkC xrw.ok (lkC xe7.ok (lkC xhn.ok lkN)))) (u1 (uL 3)) (fun (l,_) _=>xqK l) (fun _ p=>AV.list 2 p) []
def xdd (l:LA) (n i:Int):=decide ((gC l i 1).toInt>=n)
def xbh (l:LA) (i:Int):=ixI l i
def xcP (l:LA) (b:Nat) (i:Int) (a:LA):=(xa0 b (gC l i 0).toInt 1099511627776 a).getD (false,(0,[],[]),0,[])
def xcQ (l:LA) (b:Nat) (i:Int) (a:LA):=xa0 b (gC l i 0).toInt ((l.getD (i64.wrap (i+1)).toNat .top).cells.getD 0 .top).toInt a
def xcR (l:LA) (i:Int):=decide (i64.wrap (i+1)<(↑l.length:Int))
def xdk (l:LA) (b:Nat) (i:Int) (a:LA):=(xcQ l b i a).getD (false,(0,[],[]),0,[])
def xdl (l:LA) (b:Nat) (i:Int) (a:LA):=(xcP l b i a).fst
def xdm (l:LA) (b:Nat) (i:Int) (a:LA):=(xcP l b i a).snd
def xdg (l:LA) (b:Nat) (i:Int) (a:LA):=(xdk l b i a).snd
def xdh (l:LA) (b:Nat) (i:Int) (a:LA):=(xdk l b i a).fst
def xdi (l:LA) (b:Nat) (i:Int) (a:LA):=(xdm l b i a).snd
def xdj (l:LA) (b:Nat) (i:Int) (a:LA):=(xdm l b i a).fst
def xde (l:LA) (b:Nat) (i:Int) (a:LA):=(xdg l b i a).snd
def xdf (l:LA) (b:Nat) (i:Int) (a:LA):=(xdg l b i a).fst
def xcB {T:Type} (l:LA) (n:Int) (b:Nat) (i:Int) (a:LA) (δ:T) (κl:(Nat×Int×LA)->T) (κr:(Nat×LA)->T):T:=br (decide (i<l.length)) (br (xcR l i) (br (decide (0<=i64.wrap (i+1))&&xcR l i) (br (decide ((i64.wrap (i+1)).toNat<l.length)&&xOq (Sh.int .i64) ((l.getD (i64.wrap (i+1)).toNat .top).cells.getD 0 .top)) (br (xbh l i) (br (ixS l i (Sh.int .i64) 1) (br (xdd l n i) (br (xbh l i) (br (ixS l i (Sh.int .i64) 0) (br ((xcQ l b i a).isSome) (κl (br (xdh l b i a) (xdf l b i a).fst (xde l b i a).fst,i64.wrap (i+1),br (xdh l b i a) (xdf l b i a).snd.snd (xde l b i a).snd)) δ) δ) δ) (κl (b,i64.wrap (i+1),a))) δ) δ) δ) δ) (br (xbh l i) (br (ixS l i (Sh.int .i64) 1) (br (xdd l n i) (br (xbh l i) (br (ixS l i (Sh.int .i64) 0) (br ((xa0 b (gC l i 0).toInt 1099511627776 a).isSome) (κl (br (xdl l b i a) (xdj l b i a).fst (xdi l b i a).fst,i64.wrap (i+1),br (xdl l b i a) (xdj l b i a).snd.snd (xdi l b i a).snd)) δ) δ) δ) (κl (b,i64.wrap (i+1),a))) δ) δ)) (κr (b,a))
def xaD (l:LA) (n:Int):StT (Nat×Int×LA) (Nat×LA):=fun (b,i,a)=>xcB l n b i a none inL inR
def xpR:=xHT.l 42 0 [] [] Tryz.f74 0 lk0 [0,1,5,6] [5] [(5,2,44)] (q4 (qL 2) qI (xPm 0 0 0) qI) (q1 (qB 0 2 44 xPe)) (fun (l,n,b,i,_) (a,_)=>(xaD l n,(b,i,a),fun p=>(.leaf (.exit 0) [AV.osl 0 0 0 p.1] [bF 0 2 44 p.2]))) (0,[]) fun (l,n,_,_,_) _ (b,i,a)=>(((l,n,b,i,()),(a,())),xcB l n b i a none)
def xnr (l:LA) (n:Int):=(Iter (xaD l n) (0,0,[])).getD (0,[])
def xnp (l:LA) (n:Int):=(xnr l n).snd
def xnq (l:LA) (n:Int):=(xnr l n).fst
def xoJ {T:Type} (l:LA) (n:Int) (δ:T) (κ:LA->T):T:=br ((Iter (xaD l n) (0,0,[])).isSome) (br (decide (0+xnq l n<=(xnp l n).length)&&true) (κ (List.take (xnq l n) (List.drop 0 (xnp l n)))) δ) δ
def xaY (l:LA) (n:Int):=xoJ l n none some
def xHU:EO:=xHT.f Tryz.func74 42 0 [] [(3,xpR.lp)] (lk1 xpR.ok) (u2 (uL 2) uI) (fun (l,n,_) _=>xoJ l n) (fun _ p=>AV.list 2 p) []
def xh6 (l:LA) (i:Int):=decide (i.toNat<l.length)&&((l.getD i.toNat .top).cells.length==2&&xOy [Sh.int .i64,Sh.int .i64] (l.getD i.toNat .top).cells 0)
def xgw {T:Type} (l:LA) (b:Nat) (i c d:Int) (a:LA) (δ:T) (κl:(Nat×Int×Int×Int×LA)->T) (κr:(Nat×Int×Int×Int×LA)->T):T:=br (decide (i<l.length)) (br (ixI l i) (br (xh6 l i) (br (decide (xmW (gC l i 0).toInt (gC l i 1).toInt c d<=0)) (br (ixI l i) (br (xh6 l i) (br (rmB b a 1 16) (κl (b+1,i64.wrap (i+1),c,d,a++[AV.agg [AV.int .i64 (gC l i 0).toInt,AV.int .i64 (gC l i 1).toInt]])) δ) δ) δ) (κr (b,i,c,d,a))) δ) δ) (κr (b,i,c,d,a))
def xcb (l:LA):StT (Nat×Int×Int×Int×LA) (Nat×Int×Int×Int×LA):=fun (b,i,c,d,a)=>xgw l b i c d a none inL inR
def xsH:=xHU.l 38 0 [] [] Tryz.f109 0 lk0 [0,3,5,6] [0,3,5,6] [(5,2,44)] (q4 (qL 2) (xPn 0 0 0 0) (xPm 1 0 0) qI) (q2 (qB 0 2 44 (q1 (xPo (q2 qI qI)))) (qB 0 2 44 xPe)) (fun (l,_,b,i,_) (((c,d,_),_),a,_)=>(xcb l,(b,i,c,d,a),fun p=>(.leaf (.exit 0) [AV.list 2 l,AV.own 0 0 0 0,AV.osl 1 0 0 p.1,AV.int .i64 p.2.1] [bF 0 2 44 [AV.agg [AV.int .i64 p.2.2.1,AV.int .i64 p.2.2.2.1]],bF 0 2 44 p.2.2.2.2]))) (0,0,0,0,[]) fun (l,_,_,_,_) _ (b,i,c,d,a)=>(((l,(),b,i,()),(((c,d,()),()),a,())),xgw l b i c d a none)
def xoO (l:LA) (a b:Int):=Iter (xcb l) (0,0,a,b,[])
def xoN (l:LA) (a b:Int):=(xoO l a b).getD (0,0,0,0,[])
def xqg (l:LA) (a b:Int):=(xoN l a b).fst
def xoM (l:LA) (a b:Int):=(xoN l a b).snd
def xiG (l:LA) (a b:Int):=xqg l a b+1
def xiH (l:LA) (a b:Int):=(xoM l a b).fst
def xqf (l:LA) (a b:Int):=(xoM l a b).snd
def xqc (l:LA) (a b:Int):=List.take (l.length - (xiH l a b).toNat) (List.drop (xiH l a b).toNat l)
def xqe (l:LA) (a b:Int):=(xqf l a b).snd
def xiF (l:LA) (a b:Int):=xiG l a b+(xqc l a b).length
def xqd (l:LA) (a b:Int):=(xqe l a b).snd
def xqb (l:LA) (a b:Int):=xqd l a b++[AV.agg [AV.int .i64 (xqf l a b).fst,AV.int .i64 (xqe l a b).fst]]
def xqa (l:LA) (a b:Int):=xqb l a b++xqc l a b
def xrS {T:Type} (l:LA) (a b:Int) (δ:T) (κ:LA->T):T:=br ((xoO l a b).isSome) (br (xqg l a b==(xqd l a b).length&&(decide (xiG l a b*16<=140737488355328)&&decide (xiG l a b<=4611686018427387904))) (br (decide (0<=xiH l a b)&&decide (xiH l a b<=l.length)) (br (xiG l a b==(xqb l a b).length&&(decide (xiF l a b*16<=140737488355328)&&decide (xiF l a b<=4611686018427387904))) (br (decide (0+xiF l a b<=(xqa l a b).length)&&true) (κ (List.take (xiF l a b) (List.drop 0 (xqa l a b)))) δ) δ) δ) δ) δ
def xrb (l:LA) (a b:Int):=xrS l a b none some
def xDi:EO:=xHU.f Tryz.func109 38 0 [] [(3,xsH.lp)] (lk1 xsH.ok) (u2 (uL 2) (xPr (u2 uI uI))) (fun (l,(a,b,_),_) _=>xrS l a b) (fun _ p=>AV.list 2 p) []
def xh5 {T:Type} (l:LA) (n:Int) (a b:LA) (i:Int) (δ:T) (κl:(LA×Int)->T) (κr:(LA)->T):T:=br (decide (i<a.length)) (br (ixI a i) (br (ixT a i 2 [Sh.int .i64,Sh.int .i64] 0) (br ((xrb b (gC a i 0).toInt (gC a i 1).toInt).isSome) (κl ((xrb b (gC a i 0).toInt (gC a i 1).toInt).getD [],i64.wrap (i+1))) δ) δ) δ) (κr (b))
def xbZ (l:LA) (n:Int) (b:LA):StT (LA×Int) (LA):=fun (a,i)=>xh5 l n b a i none inL inR
def xhh:=xDi.l 31 0 [] [] Tryz.f72 1 lk0 [0,3,4,5,6] [0,3,4] [(3,2,1073741824)] (q5 (qL 2) (qL 2) qI (qL 2) qI) xPc (fun (l,a,n,b,i,_) _=>(xbZ l n b,(a,i),fun p=>(.leaf (.exit 2) [AV.list 2 l,AV.list 2 p,AV.int .i64 n] []))) [] fun (l,_,n,b,_,_) _ (a,i)=>(((l,a,n,b,i,()),()),xh5 l n b a i none)
def xh4 {T:Type} (l a:LA) (n:Int) (δ:T) (κl:(LA×Int)->T) (κr:(Bool×(LA×LA)×(LA))->T):T:=br (decide (n<=1048576)) (br ((xaY l n).isSome) (br ((↑((xaY l n).getD []).length:Int)==0) (κr (true,(a,a),[])) (br ((Iter (xbZ l n ((xaY l n).getD [])) (a,0)).isSome) (κl ((Iter (xbZ l n ((xaY l n).getD [])) (a,0)).getD [],i64.wrap (n+1))) δ)) δ) (κr (false,([],[]),(a)))
def xbY (l:LA):StT (LA×Int) (Bool×(LA×LA)×(LA)):=fun (a,n)=>xh4 l a n none inL inR
def xrk:=xDi.l 31 0 [] [(9,xhh.lp)] Tryz.f72 0 (lk1 xhh.ok) [0,3,4] [2,3] [(3,2,1073741824)] (q3 (qL 2) (qL 2) qI) xPc (fun (l,a,n,_) _=>(xbY l,(a,n),fun p=>(.node p.1 (.leaf .ret [AV.list 2 p.2.1.1,AV.list 2 p.2.1.2] []) (.leaf (.exit 0) [.top,AV.list 2 p.2.2] [])))) (false,([],[]),[]) fun (l,_,_,_) _ (a,n)=>(((l,a,n,()),()),xh4 l a n none)
def xoL (l:LA):=(Iter (xbY l) ([],1)).getD (false,([],[]),[])
def xoK (l:LA):=(xoL l).snd
def xp9 {T:Type} (l:LA) (δ:T) (κ:LA->T):T:=br ((Iter (xbY l) ([],1)).isSome) (br ((xoL l).fst) (κ ((xoK l).fst.fst)) (κ ((xoK l).snd))) δ
def xd8 (l:LA):=xp9 l none some
def xHV:EO:=xDi.f Tryz.func72 31 0 [] [(9,xhh.lp),(3,xrk.lp)] (lks (lkC xrk.ok (lkC xhh.ok lkN))) (u1 (uL 2)) (fun (l,_) _=>xp9 l) (fun _ p=>AV.list 2 p) []
def xic {T:Type} (d c:LA) (b:Nat) (i:Int) (a:LA) (δ:T) (κl:(Nat×Int×LA)->T) (κr:(Nat×LA)->T):T:=br (decide (i<c.length)) (br (ixI c i) (br (ixT c i 2 [Sh.int .i64,Sh.int .i64] 0) (br (rmB b a 1 40) (κl (b+1,i64.wrap (i+1),a++[AV.agg [AV.list 3 d,AV.int .i64 (gC c i 0).toInt,AV.int .i64 (gC c i 1).toInt]])) δ) δ) δ) (κr (b,a))
def xbx (c d:LA):StT (Nat×Int×LA) (Nat×LA):=fun (b,i,a)=>xic c d b i a none inL inR
def xru:=xHV.l 23 0 [] [] Tryz.f25 0 lk0 [0,1,5,6] [5] [(5,3,54)] (q4 (qL 3) (qL 2) (xPm 0 0 0) qI) (q1 (qB 0 3 54 xPe)) (fun (c,d,b,i,_) (a,_)=>(xbx c d,(b,i,a),fun p=>(.leaf (.exit 0) [AV.osl 0 0 0 p.1] [bF 0 3 54 p.2]))) (0,[]) fun (c,d,_,_,_) _ (b,i,a)=>(((c,d,b,i,()),(a,())),xic c d b i a none)
def xpd (a b:LA):=(Iter (xbx a b) (0,0,[])).getD (0,[])
def xpb (a b:LA):=(xpd a b).snd
def xpc (a b:LA):=(xpd a b).fst
def xqE {T:Type} (a b:LA) (δ:T) (κ:LA->T):T:=br ((Iter (xbx a b) (0,0,[])).isSome) (br (decide (0+xpc a b<=(xpb a b).length)&&true) (κ (List.take (xpc a b) (List.drop 0 (xpb a b)))) δ) δ
def xe5 (a b:LA):=xqE a b none some
def xHW:EO:=xHV.f Tryz.func25 23 0 [] [(3,xru.lp)] (lk1 xru.ok) (u2 (uL 3) (uL 2)) (fun (a,b,_) _=>xqE a b) (fun _ p=>AV.list 3 p) []
def xkM (g:LA) (a:Nat) (i:Int):=a+((xe5 (gC g i 0).toList ((xd8 (gC g i 1).toList).getD [])).getD []).length
def xlx {T:Type} (g:LA) (a:Nat) (i:Int) (b:LA) (δ:T) (κl:(Nat×Int×LA)->T) (κr:(Nat×LA)->T):T:=br (decide (i<g.length)) (br (ixI g i) (br (ixS g i (Sh.list 3) 0) (br (ixI g i) (br (ixS g i (Sh.list 2) 1) (br ((xd8 (gC g i 1).toList).isSome) (br ((xe5 (gC g i 0).toList ((xd8 (gC g i 1).toList).getD [])).isSome) (br (a==b.length&&(decide (xkM g a i*40<=140737488355328)&&decide (xkM g a i<=4611686018427387904))) (κl (xkM g a i,i64.wrap (i+1),b++(xe5 (gC g i 0).toList ((xd8 (gC g i 1).toList).getD [])).getD [])) δ) δ) δ) δ) δ) δ) δ) (κr (a,b))
def xef (g:LA):StT (Nat×Int×LA) (Nat×LA):=fun (b,i,a)=>xlx g b i a none inL inR
def xus:=xHW.l 29 0 [] [] Tryz.f40 0 lk0 [3,4,5] [4] [(4,3,54)] (q3 (qL 2) (xPm 0 0 0) qI) (q1 (qB 0 3 54 xPe)) (fun (g,b,i,_) (a,_)=>(xef g,(b,i,a),fun p=>(.leaf (.exit 0) [AV.osl 0 0 0 p.1] [bF 0 3 54 p.2]))) (0,[]) fun (g,_,_,_) _ (b,i,a)=>(((g,b,i,()),(a,())),xlx g b i a none)
def xtL (l:LA):=(Iter (xef ((xe6 l).getD [])) (0,0,[])).getD (0,[])
def xtJ (l:LA):=(xtL l).snd
def xtK (l:LA):=(xtL l).fst
def xu5 {T:Type} (l:LA) (δ:T) (κ:LA->T):T:=br ((xe6 l).isSome) (br ((Iter (xef ((xe6 l).getD [])) (0,0,[])).isSome) (br (decide (0+xtK l<=(xtJ l).length)&&true) (κ (List.take (xtK l) (List.drop 0 (xtJ l)))) δ) δ) δ
def xyi (l:LA):=xu5 l none some
def xHX:EO:=xHW.f Tryz.func40 29 0 [] [(4,xus.lp)] (lk1 xus.ok) (u1 (uL 3)) (fun (l,_) _=>xu5 l) (fun _ p=>AV.list 3 p) []
def xpf (g:LA) (i:Int):=(xe5 (gC g i 0).toList ((xaY (gC g i 1).toList 1).getD [])).getD []
def xkO (g:LA) (a:Nat) (i:Int):=a+(xpf g i).length
def xl1 {T:Type} (g:LA) (a:Nat) (i:Int) (b:LA) (δ:T) (κl:(Nat×Int×LA)->T) (κr:(Nat×LA)->T):T:=br (decide (i<g.length)) (br (ixI g i) (br (ixS g i (Sh.list 3) 0) (br (ixI g i) (br (ixS g i (Sh.list 2) 1) (br ((xaY (gC g i 1).toList 1).isSome) (br ((xe5 (gC g i 0).toList ((xaY (gC g i 1).toList 1).getD [])).isSome) (br (a==b.length&&(decide (xkO g a i*40<=140737488355328)&&decide (xkO g a i<=4611686018427387904))) (κl (xkO g a i,i64.wrap (i+1),b++xpf g i)) δ) δ) δ) δ) δ) δ) δ) (κr (a,b))
def xeg (g:LA):StT (Nat×Int×LA) (Nat×LA):=fun (b,i,a)=>xl1 g b i a none inL inR
def xuu:=xHX.l 29 0 [] [] Tryz.f42 0 lk0 [3,4,5] [4] [(4,3,54)] (q3 (qL 2) (xPm 0 0 0) qI) (q1 (qB 0 3 54 xPe)) (fun (g,b,i,_) (a,_)=>(xeg g,(b,i,a),fun p=>(.leaf (.exit 0) [AV.osl 0 0 0 p.1] [bF 0 3 54 p.2]))) (0,[]) fun (g,_,_,_) _ (b,i,a)=>(((g,b,i,()),(a,())),xl1 g b i a none)
def xtQ (l:LA):=(Iter (xeg ((xe6 l).getD [])) (0,0,[])).getD (0,[])
def xtO (l:LA):=(xtQ l).fst
def xtP (l:LA):=(xtQ l).snd
def xu7 {T:Type} (l:LA) (δ:T) (κ:LA->T):T:=br ((xe6 l).isSome) (br ((Iter (xeg ((xe6 l).getD [])) (0,0,[])).isSome) (br (decide (0+xtO l<=(xtP l).length)&&true) (κ (List.take (xtO l) (List.drop 0 (xtP l)))) δ) δ) δ
def xrv (l:LA):=xu7 l none some
def xHY:EO:=xHX.f Tryz.func42 29 0 [] [(4,xuu.lp)] (lk1 xuu.ok) (u1 (uL 3)) (fun (l,_) _=>xu7 l) (fun _ p=>AV.list 3 p) []
def xl0 {T:Type} (l:LA) (i:Int) (δ:T) (κl:(Int)->T) (κr:(Bool×(Bool)×(Unit))->T):T:=br (decide (i<l.length)) (br (ixI l i) (br (ixS l i (Sh.list 3) 0) (br (decide ((↑(gC l i 0).toList.length:Int)>60)) (κr (true,(false),())) (κl (i64.wrap (i+1)))) δ) δ) (κr (false,false,()))
def xc4 (l:LA):StT (Int) (Bool×(Bool)×(Unit)):=fun (i)=>xl0 l i none inL inR
def xut:=xHY.l 23 0 [] [] Tryz.f27 0 lk0 [0,5] [4] [] (q2 (qL 3) qI) xPc (fun (l,i,_) _=>(xc4 l,(i),fun p=>(.node p.1 (.leaf .ret [AV.bool p.2.1] []) (.leaf (.exit 0) [.top] [])))) (false,false,()) fun (l,_,_) _ (i)=>(((l,i,()),()),xl0 l i none)
def xu6 {T:Type} (l:LA) (a:Int) (δ:T) (κ:Bool->T):T:=br (decide ((↑l.length:Int)>a)) (κ (false)) (br ((Iter (xc4 l) 0).isSome) (br (((Iter (xc4 l) 0).getD (false,false,())).fst) (κ (((Iter (xc4 l) 0).getD (false,false,())).snd.fst)) (κ (true))) δ)
def xnY (l:LA) (a:Int):=xu6 l a none some
def xMn:EO:=xHY.f Tryz.func27 23 0 [] [(4,xut.lp)] (lk1 xut.ok) (u2 (uL 3) uI) (fun (l,a,_) _=>xu6 l a) (fun _ p=>AV.bool p) false
def xHy:Int×Int×List UInt8:=((0,0,[]))
def xEH {T:Type} (δ:T) (κ:Int×Int×List UInt8->T):T:=κ (0,0,[])
def xL1:EO:=xC5.fT Tryz.func125 2 0 [] [] lk0 (fun _=>xEH none) xPd (fun _=>xHy) (fun _ p=>(AV.agg [AV.int .i64 p.1,AV.int .i64 p.2.1,AV.str p.2.2]))
def xwn {T:Type} (a:LA) (i:Int) (δ:T) (κ:Int×Int×List UInt8->T):T:=br (decide (i<0)) (κ (0,0,[])) (br (decide (i>=a.length)) (κ (0,0,[])) (br (ixI a i) (br (ixT a i 3 [Sh.int .i64,Sh.int .i64,Sh.str] 0) (κ ((gC a i 0).toInt,(gC a i 1).toInt,(gC a i 2).toStr)) δ) δ))
def xq4 (a:LA) (i:Int):=xwn a i none some
def xHG:EO:=xL1.f Tryz.func94 18 0 [] [] lk0 (u2 (uL 3) uI) (fun (a,i,_) _=>xwn a i) (fun _ p=>AV.agg [AV.int .i64 p.1,AV.int .i64 p.2.1,AV.str p.2.2]) (0,0,[])
def xjN (a b:LA) (c:Int):=(xq4 a (gC b c 0).toInt).getD (0,0,[])
def xjM (a b:LA) (c:Int):=(xjN a b c).snd
def xkU {T:Type} (e c:LA) (f:Int) (d:Nat) (a:Int) (b:LA) (δ:T) (κl:(Nat×Int×LA)->T) (κr:(Nat×LA)->T):T:=br (decide (a<f)) (br (ixI c a) (br (ixS c a (Sh.int .i64) 0) (br ((xq4 e (gC c a 0).toInt).isSome) (br (rmB d b 1 32) (κl (d+1,i64.wrap (a+1),b++[AV.agg [AV.int .i64 (xjN e c a).fst,AV.int .i64 (xjM e c a).fst,AV.str (xjM e c a).snd]])) δ) δ) δ) δ) (κr (d,b))
def xdX (c d:LA) (e:Int):StT (Nat×Int×LA) (Nat×LA):=fun (b,f,a)=>xkU c d e b f a none inL inR
def xt8:=xHG.l 25 0 [] [] Tryz.f59 0 lk0 [0,5,11,12,13] [5] [(5,3,86)] (q5 (qL 3) (xPm 0 0 0) (qL 1) qI qI) (q1 (qB 0 3 86 xPe)) (fun (c,b,d,e,f,_) (a,_)=>(xdX c d e,(b,f,a),fun p=>(.leaf (.exit 0) [AV.osl 0 0 0 p.1] [bF 0 3 86 p.2]))) (0,[]) fun (c,_,d,e,_,_) _ (b,f,a)=>(((c,b,d,e,f,()),(a,())),xkU c d e b f a none)
def xsv (a l:LA):=(Iter (xdX a l (↑l.length:Int)) (0,0,[])).getD (0,[])
def xst (a l:LA):=(xsv a l).fst
def xsu (a l:LA):=(xsv a l).snd
def xt9 {T:Type} (a l:LA) (δ:T) (κ:LA->T):T:=br (decide (32*(↑l.length:Int)<=281474976710656)&&decide ((↑l.length:Int)<=4611686018427387904)) (br ((Iter (xdX a l (↑l.length:Int)) (0,0,[])).isSome) (br (decide (0+xst a l<=(xsu a l).length)&&true) (κ (List.take (xst a l) (List.drop 0 (xsu a l)))) δ) δ) δ
def xl8 (a l:LA):=xt9 a l none some
def xL2:EO:=xHG.f Tryz.func59 25 0 [] [(3,xt8.lp)] (lk1 xt8.ok) (u2 (uL 3) (uL 1)) (fun (a,l,_) _=>xt9 a l) (fun _ p=>AV.list 3 p) []
def xvS {T:Type} (i:Int) (a:LA) (δ:T) (κ:Bool->T):T:=br ((xq4 a i).isSome) (κ (((xq4 a i).getD (0,0,[])).fst==0)) δ
def hasNull1 (i:Int) (a:LA):=xvS i a none some
def xHH:EO:=xL2.f Tryz.func96 9 0 [] [] lk0 (u2 uI (sEq (xPt 1 0 0 (q1 (qL 3))))) (fun (i,(a,_),_) _=>xvS i a) (fun _ p=>AV.bool p) false
def xfs {T:Type} (b f:LA) (c a:Int) (δ:T) (κl:(Int)->T) (κr:(Bool×(Int)×(Unit))->T):T:=br (decide (a<c)) (br (ixI b a) (br (ixS b a (Sh.int .i64) 0) (br ((hasNull1 (gC b a 0).toInt f).isSome) (br ((hasNull1 (gC b a 0).toInt f).getD false) (κr (true,(a),())) (κl (i64.wrap (a+1)))) δ) δ) δ) (κr (false,0,()))
def xaN (a f:LA) (b:Int):StT (Int) (Bool×(Int)×(Unit)):=fun (c)=>xfs a f b c none inL inR
def xmJ:=xHH.l 19 0 [] [] Tryz.f126 0 lk0 [0,1,7,8] [4] [] (q4 (qL 1) (xOQ 96 (q1 (xPt 1 0 0 (q1 (qL 3))))) qI qI) xPc (fun (a,((f,_),_),b,c,_) _=>(xaN a f b,(c),fun p=>(.node p.1 (.leaf .ret [AV.int .i64 p.2.1] []) (.leaf (.exit 0) [.top] [])))) (false,0,()) fun (a,((f,_),_),b,_,_) _ (c)=>(((a,((f,()),()),b,c,()),()),xfs a f b c none)
def xly {T:Type} (a b:LA) (δ:T) (κ:Int->T):T:=br ((Iter (xaN a b (↑a.length:Int)) 0).isSome) (br (((Iter (xaN a b (↑a.length:Int)) 0).getD (false,0,())).fst) (κ (((Iter (xaN a b (↑a.length:Int)) 0).getD (false,0,())).snd.fst)) (κ ((-1)))) δ
def xnO (b a:LA):=xly b a none some
def xL3:EO:=xHH.f Tryz.func126 19 0 [] [(2,xmJ.lp)] (lk1 xmJ.ok) (u2 (uL 1) (sEq (xOQ (96:FuncId) (q1 (xPt 1 0 0 (q1 (qL 3))))))) (fun (b,((a,_),_),_) _=>xly b a) (fun _ p=>AV.int .i64 p) 0
def xiP {T:Type} (b a:LA) (δ:T) (κ:Bool->T):T:=br ((xnO b a).isSome) (κ (decide ((xnO b a).getD 0>=0))) δ
def xkC (b a:LA):=xiP b a none some
def xL4:EO:=xL3.f Tryz.func95 9 0 [] [] lk0 (u2 (uL 1) (sEq (xOQ (96:FuncId) (q1 (xPt 1 0 0 (q1 (qL 3))))))) (fun (b,((a,_),_),_) _=>xiP b a) (fun _ p=>AV.bool p) false
def xpJ {T:Type} (a l:LA) (δ:T) (κ:Bool->T):T:=br ((xkC l a).isSome) (κ ((xkC l a).getD false)) δ
def xna (a l:LA):=xpJ a l none some
def xHI:EO:=xL4.f Tryz.func60 8 0 [1000042] [] lk0 (u2 (uL 3) (uL 1)) (fun (a,l,_) _=>xpJ a l) (fun _ p=>AV.bool p) false
def xtX {T:Type} (f:List UInt8) (c a d e b:LA) (δ:T) (κ:LA->T):T:=br ((xl8 b a).isSome) (κ ((xl8 b a).getD [])) δ
def xpt (e:List UInt8) (b a c d f:LA):=xtX e b a c d f none some
def xEz:LA->Option (Bool×AV):=fnO (u2 (xPr (u5 (sEq pStr) (uL 3) (uL 1) (uL 2) (uL 7))) (uL 3)) (fun ((e,b,a,c,d,_),f,_) _=>xtX e b a c d f) (fun _ p=>AV.list 3 p) []
theorem xyq:OcOk P0 xO9 32 xEz:=fnC xHI.ok Tryz.func32 9 0 [] [] lk0
def xL5:EO:=xHI.w xyq
def xkl {T:Type} (a:LA) (c:List UInt8) (b:LA) (δ:T) (κ:LA×Bool->T):T:=br ((xl8 b a).isSome) (br ((xna b a).isSome) (κ ((xl8 b a).getD [],!(xna b a).getD false)) δ) δ
def xeb (a:LA) (b:List UInt8) (c:LA):=xkl a b c none some
def xwH:LA->Option (Bool×AV):=fnO (u2 (xPr (u2 (uL 1) (sEq pStr))) (uL 3)) (fun ((a,b,_),c,_) _=>xkl a b c) (fun _ p=>AV.tuple [AV.list 3 p.1,AV.bool p.2]) ([],false)
theorem xwG:OcOk P0 xO9 34 xwH:=fnC xL5.ok Tryz.func34 15 0 [] [] lk0
def xf1 {T:Type} (a:List UInt8) (i:Int) (δ:T) (κl:(Int)->T) (κr:(Bool×(Bool)×(Unit))->T):T:=br (decide (i<a.length)) (br (decide (0<=i)&&decide (i<a.length)) (br (decide ((↑(a.getD i.toNat (0:UInt8)).toNat:Int)<32)) (κr (true,(false),())) (br (decide (0<=i)&&decide (i<a.length)) (br (decide ((↑(a.getD i.toNat (0:UInt8)).toNat:Int)>126)) (κr (true,(false),())) (κl (i64.wrap (i+1)))) δ)) δ) (κr (false,false,()))
def xa9 (a:List UInt8):StT (Int) (Bool×(Bool)×(Unit)):=fun (i)=>xf1 a i none inL inR
def xnX:=xvq.l 20 0 [] [] Tryz.f147 0 lk0 [0,3] [2] [] (q2 pStr qI) xPc (fun (a,i,_) _=>(xa9 a,(i),fun p=>(.node p.1 (.leaf .ret [AV.bool p.2.1] []) (.leaf (.exit 0) [.top] [])))) (false,false,()) fun (a,_,_) _ (i)=>(((a,i,()),()),xf1 a i none)
def xmh {T:Type} (a:List UInt8) (δ:T) (κ:Bool->T):T:=br ((Iter (xa9 a) 0).isSome) (br (((Iter (xa9 a) 0).getD (false,false,())).fst) (κ (((Iter (xa9 a) 0).getD (false,false,())).snd.fst)) (κ (true))) δ
def xkF (a:List UInt8):=xmh a none some
def xH5:EO:=xvq.f Tryz.func147 20 0 [] [(2,xnX.lp)] (lk1 xnX.ok) (u1 (sEq pStr)) (fun (a,_) _=>xmh a) (fun _ p=>AV.bool p) false
def xrT {T:Type} (c a:Int) (b:List UInt8) (δ:T) (κ:Bool->T):T:=br (c==0) (br (a==0) (κ (b==[])) (κ (false))) (br (c==1) (br (b==[]) (br (decide (a>=(-1125899906842624))) (κ (decide (a<=1125899906842624))) (κ (false))) (κ (false))) (br (c==2) (br (a==0) (br (decide ((↑b.length:Int)<=200)) (br ((xkF b).isSome) (κ ((xkF b).getD false)) δ) (κ (false))) (κ (false))) (br (c==3) (br (b==[]) (br (a==0) (κ (true)) (κ (a==1))) (κ (false))) (κ (false)))))
def xmG (a b:Int) (c:List UInt8):=xrT a b c none some
def xCP:LA->Option (Bool×AV):=fnO (u1 (xPr (u3 uI uI (sEq pStr)))) (fun ((a,b,c,_),_) _=>xrT a b c) (fun _ p=>AV.bool p) false
theorem xwu:OcOk P0 xO9 121 xCP:=fnC xH5.ok Tryz.func121 61 0 [] [] lk0
def xMt:EO:=xH5.w xwu
def xj6 (a:Int):Int×Int:=(br (a==1) ((0,0)) (br (a==2) ((0,0)) (br (a==4) ((1,1)) (br (a==18) ((1,1)) (br (a==20) ((1,1)) (br (a==21) ((1,1)) (br (a==5) ((2,1099511627776)) (br (a==6) ((2,1099511627776)) (br (a==7) ((2,2)) (br (a==8) ((2,2)) (br (a==9) ((2,2)) (br (a==10) ((2,2)) (br (a==11) ((2,2)) (br (a==12) ((2,2)) (br (a==13) ((2,2)) (br (a==14) ((2,2)) (br (a==15) ((2,2)) (br (a==16) ((2,2)) (br (a==17) ((2,2)) (br (a==19) ((2,2)) (br (a==22) ((3,3)) (br (a==23) ((1,1099511627776)) (br (a==24) ((4,4)) (((-1),0)))))))))))))))))))))))))
def xCT {T:Type} (a:Int) (δ:T) (κ:Int×Int->T):T:=br (a==1) (κ (0,0)) (br (a==2) (κ (0,0)) (br (a==4) (κ (1,1)) (br (a==18) (κ (1,1)) (br (a==20) (κ (1,1)) (br (a==21) (κ (1,1)) (br (a==5) (κ (2,1099511627776)) (br (a==6) (κ (2,1099511627776)) (br (a==7) (κ (2,2)) (br (a==8) (κ (2,2)) (br (a==9) (κ (2,2)) (br (a==10) (κ (2,2)) (br (a==11) (κ (2,2)) (br (a==12) (κ (2,2)) (br (a==13) (κ (2,2)) (br (a==14) (κ (2,2)) (br (a==15) (κ (2,2)) (br (a==16) (κ (2,2)) (br (a==17) (κ (2,2)) (br (a==19) (κ (2,2)) (br (a==22) (κ (3,3)) (br (a==23) (κ (1,1099511627776)) (br (a==24) (κ (4,4)) (κ ((-1),0))))))))))))))))))))))))
def xMu:EO:=xMt.fT Tryz.func168 35 0 [7000000] [] lk0 (fun (a,_)=>xCT a none) (u1 uI) (fun (a,_)=>xj6 a) (fun _ p=>(AV.tuple [AV.int .i64 p.1,AV.int .i64 p.2]))
def xqk {T:Type} (a f b c:Int) (d g:List UInt8) (e:LA) (δ:T) (κ:Bool->T):T:=br (decide ((xj6 a).fst<0)) (κ (false)) (br (decide ((↑e.length:Int)<(xj6 a).fst)) (κ (false)) (br (decide ((↑e.length:Int)>(xj6 a).snd)) (κ (false)) (br (!g==[]) (κ (false)) (br (a==1) (br (f==0) (br ((xmG b c d).isSome) (κ ((xmG b c d).getD false)) δ) (κ (false))) (br (a==2) (κ (b==0&&(c==0&&(d==[]&&true)))) (br (a==24) (br (b==0&&(c==0&&(d==[]&&true))) (br (decide (f>=0)) (κ (decide (f<13))) (κ (false))) (κ (false))) (br (f==0) (κ (b==0&&(c==0&&(d==[]&&true)))) (κ (false)))))))))
def xoY (b g c d:Int) (e f:List UInt8) (a:LA):=xqk b g c d e f a none some
def xH6:EO:=xMu.f Tryz.func169 75 0 [] [] lk0 (u1 (xPr (u7 uI uI uI uI (sEq pStr) (sEq pStr) (uL 7)))) (fun ((b,h,c,d,e,g,a,_),_) _=>xqk b h c d e g a) (fun _ p=>AV.bool p) false
def xlZ {T:Type} (l:LA) (a i:Int) (δ:T) (κl:(Int)->T) (κr:(Bool×(Bool)×(Unit))->T):T:=br (decide (i<l.length)) (br (ixI l i) (br (ixS l i (Sh.int .i64) 0) (br ((gC l i 0).toInt != a) (br (ixI l i) (br (ixS l i (Sh.int .i64) 0) (br ((gC l i 0).toInt != 0) (κr (true,(false),())) (κl (i64.wrap (i+1)))) δ) δ) (κl (i64.wrap (i+1)))) δ) δ) (κr (false,false,()))
def xc3 (l:LA) (a:Int):StT (Int) (Bool×(Bool)×(Unit)):=fun (i)=>xlZ l a i none inL inR
def xuq:=xH6.l 25 0 [] [] Tryz.f199 0 lk0 [0,1,5] [4] [] (q3 (qL 1) qI qI) xPc (fun (l,a,i,_) _=>(xc3 l a,(i),fun p=>(.node p.1 (.leaf .ret [AV.bool p.2.1] []) (.leaf (.exit 0) [.top] [])))) (false,false,()) fun (l,a,_,_) _ (i)=>(((l,a,i,()),()),xlZ l a i none)
def xu0 {T:Type} (l:LA) (a:Int) (δ:T) (κ:Bool->T):T:=br ((Iter (xc3 l a) 0).isSome) (br (((Iter (xc3 l a) 0).getD (false,false,())).fst) (κ (((Iter (xc3 l a) 0).getD (false,false,())).snd.fst)) (κ (true))) δ
def xc8 (l:LA) (a:Int):=xu0 l a none some
def xH7:EO:=xH6.f Tryz.func199 25 0 [] [(2,xuq.lp)] (lk1 xuq.ok) (u2 (uL 1) uI) (fun (l,a,_) _=>xu0 l a) (fun _ p=>AV.bool p) false
def xjr (l:LA) (i:Int):=ixI l i
def xjs (l:LA) (i:Int):=decide (i.toNat<l.length)&&xOq (Sh.int .i64) (gC l i 0)
def xh8 {T:Type} (l:LA) (i:Int) (δ:T) (κl:(Int×Int)->T):T:=br (xjr l i) (br (xjs l i) (κl ((gC l i 0).toInt,i64.wrap (i+1))) δ) δ
def xkI {T:Type} (l:LA) (k i:Int) (δ:T) (κl:(Int×Int)->T) (κr:(Bool×(Int×Bool×Int)×(Int))->T):T:=br (decide (i<l.length)) (br (xjr l i) (br (xjs l i) (br ((gC l i 0).toInt==0) (κl (k,i64.wrap (i+1))) (br (k != 0) (br (xjr l i) (br (xjs l i) (br (k != (gC l i 0).toInt) (κr (true,(0,false,k),0)) (xh8 l i δ κl)) δ) δ) (xh8 l i δ κl))) δ) δ) (κr (false,(0,false,0),(k)))
def xdL (l:LA):StT (Int×Int) (Bool×(Int×Bool×Int)×(Int)):=fun (k,i)=>xkI l k i none inL inR
def xtw:=xH7.l 32 0 [] [] Tryz.f200 0 lk0 [0,4,5] [2,3,4] [] (q3 (qL 1) qI qI) xPc (fun (l,k,i,_) _=>(xdL l,(k,i),fun p=>(.node p.1 (.leaf .ret [AV.int .i64 p.2.1.1,AV.bool p.2.1.2.1,AV.int .i64 p.2.1.2.2] []) (.leaf (.exit 0) [.top,.top,AV.int .i64 p.2.2] [])))) (false,(0,false,0),0) fun (l,_,_,_) _ (k,i)=>(((l,k,i,()),()),xkI l k i none)
def xr0 (l:LA):=(Iter (xdL l) (0,0)).getD (false,(0,false,0),0)
def xrx (l:LA):=(xr0 l).snd
def xrZ (l:LA):=(xrx l).fst
def xty {T:Type} (l:LA) (δ:T) (κ:Int×Bool->T):T:=br ((Iter (xdL l) (0,0)).isSome) (br ((xr0 l).fst) (κ ((xrZ l).fst,(xrZ l).snd.fst)) (κ ((xrx l).snd,true))) δ
def xd9 (l:LA):=xty l none some
def xMv:EO:=xH7.f Tryz.func200 32 0 [] [(3,xtw.lp)] (lk1 xtw.ok) (u1 (uL 1)) (fun (l,_) _=>xty l) (fun _ p=>AV.tuple [AV.int .i64 p.1,AV.bool p.2]) (0,false)
def xdB {T:Type} (l:LA) (δ:T) (κ:Int×Bool->T):T:=br ((xd9 l).isSome) (κ (3,((xd9 l).getD (0,false)).snd)) δ
def xdC {T:Type} (l:LA) (δ:T) (κ:Int×Bool->T):T:=br ((xc8 l 1).isSome) (κ (1,(xc8 l 1).getD false)) δ
def xjt {T:Type} (l:LA) (δ:T) (κ:Int×Bool->T):T:=br ((xc8 l 3).isSome) (κ (3,(xc8 l 3).getD false)) δ
def xqw {T:Type} (a c d f:Int) (g h:List UInt8) (e l b:LA) (δ:T) (κ:Int×Bool->T):T:=br (a==1) (κ (d,true)) (br (a==2) (br (ixI b c) (br (ixS b c (Sh.int .i64) 0) (κ ((gC b c 0).toInt,true)) δ) δ) (br (a==4) (xjt l δ κ) (br (a==5) (xjt l δ κ) (br (a==6) (xjt l δ κ) (br (a==7) (xdB l δ κ) (br (a==8) (xdB l δ κ) (br (a==9) (xdB l δ κ) (br (a==10) (xdB l δ κ) (br (a==11) (xdB l δ κ) (br (a==12) (xdB l δ κ) (br (a==13) (xdC l δ κ) (br (a==14) (xdC l δ κ) (br (a==15) (xdC l δ κ) (br (a==16) (xdC l δ κ) (br (a==17) (xdC l δ κ) (br (a==18) (xdC l δ κ) (br (a==19) (br ((xc8 l 2).isSome) (κ (2,(xc8 l 2).getD false)) δ) (br (a==20) (br ((xc8 l 2).isSome) (κ (1,(xc8 l 2).getD false)) δ) (br (a==21) (κ (3,true)) (br (a==22) (br (decide (1<=(↑l.length:Int))) (br ((xd9 (List.take (l.length - 1) (List.drop 1 l))).isSome) (br (((xd9 (List.take (l.length - 1) (List.drop 1 l))).getD (0,false)).snd) (br (decide (1<=(↑l.length:Int))&&true) (br ((xc8 (List.take 1 (List.drop 0 l)) 3).isSome) (κ (((xd9 (List.take (l.length - 1) (List.drop 1 l))).getD (0,false)).fst,(xc8 (List.take 1 (List.drop 0 l)) 3).getD false)) δ) δ) (κ (((xd9 (List.take (l.length - 1) (List.drop 1 l))).getD (0,false)).fst,false))) δ) δ) (br (a==23) (br ((xd9 l).isSome) (κ (((xd9 l).getD (0,false)).fst,((xd9 l).getD (0,false)).snd)) δ) (br ((xc8 l 1).isSome) (κ (3,(xc8 l 1).getD false)) δ))))))))))))))))))))))
def xiM (c h d e:Int) (f g:List UInt8) (a l b:LA):=xqw c h d e f g a l b none some
def xvr:EO:=xMv.f Tryz.func170 87 0 [7000000] [] lk0 (u3 (xPr (u7 uI uI uI uI (sEq pStr) (sEq pStr) (uL 7))) (uL 1) (uL 1)) (fun ((c,i,d,e,g,h,a,_),l,b,_) _=>xqw c i d e g h a l b) (fun _ p=>AV.tuple [AV.int .i64 p.1,AV.bool p.2]) (0,false)
def xeO (R:Int->Int->Int->Int->List UInt8->List UInt8->LA->Option (Int)):LA->Option (Bool×AV):=ocOf (xPb (xPr (xPb (sEq (pInt .i64)) (xPb (sEq (pInt .i64)) (xPb (sEq (pInt .i64)) (xPb (sEq (pInt .i64)) (xPb (sEq pStr) (xPb (sEq pStr) (xPb (xPq 7 xPe) xPd)))))))) xPd) fun ((b,(i,(c,(d,(e,(f,(a,_))))))),_)=>((R b i c d e f a).isSome,AV.int .i64 ((R b i c d e f a).getD 0))
theorem xwK (k:Go.FuncId) (R:Nat->Int->Int->Int->Int->List UInt8->List UInt8->LA->Option (Int)) (g:∀ n,OcOk P0 xO9 k (xeO (R n))):OcOk P0 xO9 k (xeO (fun b i c d e f a=>limN fun n=>R n b i c d e f a)):=xD9 g fun v h=>by
 obtain ⟨⟨b,⟨i,⟨c,⟨d,⟨e,⟨f,⟨a,_⟩⟩⟩⟩⟩⟩⟩,_⟩:=v;obtain ⟨n,j⟩:=xB8 (R:=fun n=>R n b i c d e f a) h
 exact ⟨n,congrArg (fun o=>(Option.isSome o,(AV.int .i64 (Option.getD o 0):AV))) j⟩
def xed (R:Int->Int->Int->Int->List UInt8->List UInt8->LA->Option (Int)):Prop:=OcOk P0 xO9 145 (xeO R)
def xgm (R:Int->Int->Int->Int->List UInt8->List UInt8->LA->Option (Int)):Env:=(xvr.E.with 145 (xeO R)).fn 22 0 (lsOf []) (xOP [])
abbrev xmr (R:Int->Int->Int->Int->List UInt8->List UInt8->LA->Option (Int)):Prop:=xed R
theorem xyP (R:Int->Int->Int->Int->List UInt8->List UInt8->LA->Option (Int)) (a:xmr R):xOs P0 (xO9.at 0) (xgm R):=(xvr.ok.with a).fn
theorem xu2 (R:Int->Int->Int->Int->List UInt8->List UInt8->LA->Option (Int)) (a:xmr R):LoOk P0 (xO9.at (xgm R).pin) (xgm R) (xOw Tryz.f145 0):=xhM (by kernel_rfl)
def xmu (R:Int->Int->Int->Int->List UInt8->List UInt8->LA->Option Int) (i:Int) (a:LA):=R (gC a i 0).toInt (gC a i 1).toInt (gC a i 2).toInt (gC a i 3).toInt (gC a i 4).toStr (gC a i 5).toStr (gC a i 6).toList
def xmt (R:Int->Int->Int->Int->List UInt8->List UInt8->LA->Option Int) (i:Int) (a:LA):=(xmu R i a).getD 0
def xgz {T:Type} (R:Int->Int->Int->Int->List UInt8->List UInt8->LA->Option Int) (n i b c d e:Int) (f g:List UInt8) (a:LA) (δ:T) (κl:(Int×Int×Int×Int×Int×Int×List UInt8×List UInt8×LA)->T) (κr:(Int)->T):T:=br (decide (i<a.length)) (br (ixI a i) (br (ixT a i 7 [Sh.int .i64,Sh.int .i64,Sh.int .i64,Sh.int .i64,Sh.str,Sh.str,Sh.list 7] 0) (br ((xmu R i a).isSome) (κl (if xmt R i a>n then xmt R i a else n,i64.wrap (i+1),b,c,d,e,f,g,a)) δ) δ) δ) (κr (n))
def xbw (R:Int->Int->Int->Int->List UInt8->List UInt8->LA->Option Int):StT (Int×Int×Int×Int×Int×Int×List UInt8×List UInt8×LA) (Int):=fun (n,i,a,b,c,d,e,f,g)=>xgz R n i a b c d e f g none inL inR
def xcJ (R:Int->Int->Int->Int->List UInt8->List UInt8->LA->Option Int):(Int×Int×Int×Int×Int×Int×List UInt8×List UInt8×LA)->LA×List Box:=fun (n,i,a,b,c,d,e,f,g)=>([AV.own 0 0 0 0,AV.int .i64 n,AV.int .i64 i],[⟨0,7,172,[AV.agg [AV.int .i64 a,AV.int .i64 b,AV.int .i64 c,AV.int .i64 d,AV.str e,AV.str f,AV.list 7 g]],false,true⟩])
def xdN (R:Int->Int->Int->Int->List UInt8->List UInt8->LA->Option Int):(Int)->LR:=fun p=>(.leaf (.exit 0) [AV.int .i64 p] [])
abbrev xtC (R:Int->Int->Int->Int->List UInt8->List UInt8->LA->Option Int) (a:LA) (H:List Box):=XR P0 (xgm R) [1,3,4] [3] [] (xOw Tryz.f145 0) a H
theorem xzR (R:Int->Int->Int->Int->List UInt8->List UInt8->LA->Option Int) (s:Int×Int×Int×Int×Int×Int×List UInt8×List UInt8×LA):Enc (encR (xcJ R) (xdN R)) (xbw R s) (xtC R (xcJ R s).1 (xcJ R s).2):=by
 obtain ⟨n,i,a,b,c,d,e,f,g⟩:=s;have h:xtC R (xcJ R (n,i,a,b,c,d,e,f,g)).1 (xcJ R (n,i,a,b,c,d,e,f,g)).2=xgz R n i a b c d e f g none (fun s=>some (encR (xcJ R) (xdN R) (.inl s))) (fun p=>some (encR (xcJ R) (xdN R) (.inr p))):=by kernel_rfl
 rw [h];unfold xbw xgz;repeat' (first|refine Enc.br ?_ ?_|exact Enc.none|exact Enc.some rfl)
def xms (R:Int->Int->Int->Int->List UInt8->List UInt8->LA->Option Int):Lp:=lpOf [1,3,4] [3] [] (xPa (xPn 0 0 0 0) (xPa (pInt .i64) (xPa (pInt .i64) xPc))) (xPa (xPp 0 7 172 false true (xPa (xPo (xPa (pInt .i64) (xPa (pInt .i64) (xPa (pInt .i64) (xPa (pInt .i64) (xPa pStr (xPa pStr (xPa (xPs 7 xPe) xPc)))))))) xPc)) xPc) fun (_,(n,(i,_))) (((a,(b,(c,(d,(e,(f,(g,_))))))),_),_)=>((Iter (xbw R) (n,i,a,b,c,d,e,f,g)).isSome,xdN R ((Iter (xbw R) (n,i,a,b,c,d,e,f,g)).getD 0))
theorem xyh (R:Int->Int->Int->Int->List UInt8->List UInt8->LA->Option Int) (a:xmr R):LoopOk P0 (xO9.at (xgm R).pin) (xgm R).nt (xOw Tryz.f145 0) (xms R):=xD2 fun k l o m=>by
 obtain ⟨_,⟨n,⟨i,_⟩⟩⟩:=k;obtain ⟨⟨⟨b,⟨c,⟨d,⟨e,⟨f,⟨g,⟨h,_⟩⟩⟩⟩⟩⟩⟩,_⟩,_⟩:=l;obtain ⟨j,rfl⟩:=Prod.mk.inj m;exact xsT xOC (xOD P0 _) rfl (xyP R a) (xu2 R a) (xcJ R) (xdN R) (fun p=>by simp only [xdN,LR.eval];first|(simp;done)|(repeat' split<;>simp)) (xzR R) (s:=(n,i,b,c,d,e,f,g,h)) (xaH j)
def xeN (R:Int->Int->Int->Int->List UInt8->List UInt8->LA->Option (Int)):Env:=(xvr.E.with 145 (xeO R)).fn 22 0 (lsOf []) (xOP [(3,xms R)])
theorem xyQ (R:Int->Int->Int->Int->List UInt8->List UInt8->LA->Option (Int)) (a:xed R):xOs P0 (xO9.at 0) (xeN R):=(xvr.ok.with a).fn
theorem xv8 (R:Int->Int->Int->Int->List UInt8->List UInt8->LA->Option (Int)) (c:xed R):LoOk P0 (xO9.at (xeN R).pin) (xeN R) (Tryz.f145.body.getD .skip):=xfE (ls:=[xOw Tryz.f145 0]) (by kernel_rfl) (fun l b lp a=>by
 simp only [zC,List.not_mem_nil,or_false] at b;rcases b with rfl
 . rw [show (xeN R).lp (xOH (xOw Tryz.f145 0))=some (xms R) by kernel_rfl] at a
   simp only [z6] at a;subst a;exact xyh R c)
def xqv (R:Int->Int->Int->Int->List UInt8->List UInt8->LA->Option Int) (b i c d:Int) (e f:List UInt8) (a:LA):=Iter (xbw R) (0,0,b,i,c,d,e,f,a)
def xm3 {T:Type} (R:Int->Int->Int->Int->List UInt8->List UInt8->LA->Option Int) (b i c d:Int) (e f:List UInt8) (a:LA) (δ:T) (κ:Int->T):T:=br ((xqv R b i c d e f a).isSome) (κ (i64.wrap ((xqv R b i c d e f a).getD 0+1))) δ
def xhO (R:Int->Int->Int->Int->List UInt8->List UInt8->LA->Option Int) (b i c d:Int) (e f:List UInt8) (a:LA):=xm3 R b i c d e f a none some
theorem xCZ (R:Int->Int->Int->Int->List UInt8->List UInt8->LA->Option Int) (b i c d:Int) (e f:List UInt8) (a:LA):Enc (fun (p:Int)=>((AV.int .i64 p):AV)) (xhO R b i c d e f a) (XF P0 (xeN R) Tryz.f145 (Tryz.f145.body.getD .skip) [AV.agg [AV.int .i64 b,AV.int .i64 i,AV.int .i64 c,AV.int .i64 d,AV.str e,AV.str f,AV.list 7 a]]):=by
 have h:XF P0 (xeN R) Tryz.f145 (Tryz.f145.body.getD .skip) [AV.agg [AV.int .i64 b,AV.int .i64 i,AV.int .i64 c,AV.int .i64 d,AV.str e,AV.str f,AV.list 7 a]]=xm3 R b i c d e f a none (fun (p:Int)=>some ((AV.int .i64 p):AV)):=by kernel_rfl
 rw [h];unfold xhO xm3;repeat' (first|refine Enc.br ?_ ?_|exact Enc.none|exact Enc.some rfl)
def xCY (R:Int->Int->Int->Int->List UInt8->List UInt8->LA->Option Int):LA->Option (Bool×AV):=ocOf (xPb (xPr (xPb (sEq (pInt .i64)) (xPb (sEq (pInt .i64)) (xPb (sEq (pInt .i64)) (xPb (sEq (pInt .i64)) (xPb (sEq pStr) (xPb (sEq pStr) (xPb (xPq 7 xPe) xPd)))))))) xPd) fun ((b,(i,(c,(d,(e,(f,(a,_))))))),_)=>((xhO R b i c d e f a).isSome,(AV.int .i64 ((xhO R b i c d e f a).getD 0)))
theorem xCX (R:Int->Int->Int->Int->List UInt8->List UInt8->LA->Option Int) (a:xed R):OcOk P0 xO9 145 (xCY R):=xfn fun e h f=>by
 obtain ⟨⟨j,⟨i,⟨k,⟨l,⟨m,⟨n,⟨g,_⟩⟩⟩⟩⟩⟩⟩,_⟩:=e;obtain ⟨b,c⟩:=Prod.mk.inj f;refine xd5 (p:=(xeN R).pin) (xgh xOC (xOD P0 _) rfl (xyQ R a) Tryz.func145 rfl (by kernel_rfl) (xv8 R a) ((xCZ R _ _ _ _ _ _ _ _ (xaH (d:=0) b)).trans ?_))
 exact congrArg some c
def xdy:Nat->Int->Int->Int->Int->List UInt8->List UInt8->LA->Option (Int)
 | 0=>fun _ _ _ _ _ _ _=>none
 | fu_+1=>fun b i c d e f a=>xhO (xdy fu_) b i c d e f a
theorem xtB:∀ n,xed (xdy n)
 | 0=>xfn fun _ _ h=>absurd (Prod.mk.inj h).1 Bool.false_ne_true
 | fu_+1=>fun a r h=>xCX (xdy fu_) (xtB fu_) a r h
def xjV:Int->Int->Int->Int->List UInt8->List UInt8->LA->Option (Int):=fun b i c d e f a=>limN fun n=>xdy n b i c d e f a
theorem xzQ:xed xjV:=xwK 145 xdy xtB
def xz4:Env:=xvr.E.with 145 (xeO xjV)
theorem xwP:xOs P0 xO9 xz4:=xvr.ok.with xzQ
def xeM (R:Int->Int->Int->Int->List UInt8->List UInt8->LA->LA->Option (Int×Int)):LA->Option (Bool×AV):=ocOf (xPb (xPr (xPb (sEq (pInt .i64)) (xPb (sEq (pInt .i64)) (xPb (sEq (pInt .i64)) (xPb (sEq (pInt .i64)) (xPb (sEq pStr) (xPb (sEq pStr) (xPb (xPq 7 xPe) xPd)))))))) (xPb (xPq 1 xPe) xPd)) fun ((b,(i,(c,(d,(e,(f,(a,_))))))),(g,_))=>((R b i c d e f a g).isSome,AV.tuple [AV.int .i64 (((R b i c d e f a g).getD (0,0))).1,AV.int .i64 (((R b i c d e f a g).getD (0,0))).2])
theorem xwJ (k:Go.FuncId) (R:Nat->Int->Int->Int->Int->List UInt8->List UInt8->LA->LA->Option (Int×Int)) (j:∀ n,OcOk P0 xO9 k (xeM (R n))):OcOk P0 xO9 k (xeM (fun b i c d e f a g=>limN fun n=>R n b i c d e f a g)):=xD9 j fun v h=>by
 obtain ⟨⟨b,⟨i,⟨c,⟨d,⟨e,⟨f,⟨a,_⟩⟩⟩⟩⟩⟩⟩,⟨g,_⟩⟩:=v;obtain ⟨n,l⟩:=xB8 (R:=fun n=>R n b i c d e f a g) h
 exact ⟨n,congrArg (fun o=>(Option.isSome o,(AV.tuple [AV.int .i64 ((Option.getD o (0,0))).1,AV.int .i64 ((Option.getD o (0,0))).2]:AV))) l⟩
def xec (R:Int->Int->Int->Int->List UInt8->List UInt8->LA->LA->Option (Int×Int)):Prop:=OcOk P0 xO9 146 (xeM R)
def xgl (R:Int->Int->Int->Int->List UInt8->List UInt8->LA->LA->Option (Int×Int)):Env:=(xz4.with 146 (xeM R)).fn 75 0 (lsOf []) (xOP [])
abbrev xmm (R:Int->Int->Int->Int->List UInt8->List UInt8->LA->LA->Option (Int×Int)):Prop:=xec R
theorem xyN (R:Int->Int->Int->Int->List UInt8->List UInt8->LA->LA->Option (Int×Int)) (a:xmm R):xOs P0 (xO9.at 0) (xgl R):=(xwP.with a).fn
theorem xu1 (R:Int->Int->Int->Int->List UInt8->List UInt8->LA->LA->Option (Int×Int)) (a:xmm R):LoOk P0 (xO9.at (xgl R).pin) (xgl R) (xOw Tryz.f146 0):=xhM (by kernel_rfl)
def xmq (R:Int->Int->Int->Int->List UInt8->List UInt8->LA->LA->Option (Int×Int)) (b:LA) (i:Int) (a:LA):Option (Int×Int):=R (gC a i 0).toInt (gC a i 1).toInt (gC a i 2).toInt (gC a i 3).toInt (gC a i 4).toStr (gC a i 5).toStr (gC a i 6).toList b
def xmp (R:Int->Int->Int->Int->List UInt8->List UInt8->LA->LA->Option (Int×Int)) (a:LA) (i:Int) (b:LA):Int×Int:=(xmq R a i b).getD (0,0)
def xmo (R:Int->Int->Int->Int->List UInt8->List UInt8->LA->LA->Option (Int×Int)) (a:LA) (i:Int) (b:LA):Int:=(xmp R a i b).snd
def xgy {T:Type} (R:Int->Int->Int->Int->List UInt8->List UInt8->LA->LA->Option (Int×Int)) (b:LA) (d:Nat) (i e f g h:Int) (j k:List UInt8) (a c:LA) (δ:T) (κl:(Nat×Int×Int×Int×Int×Int×List UInt8×List UInt8×LA×LA)->T) (κr:(Bool×(Int×Int×Nat×Int×Int×Int×Int×List UInt8×List UInt8×LA×LA)×(Nat×Int×Int×Int×Int×List UInt8×List UInt8×LA×LA))->T):T:=br (decide (i<a.length)) (br (ixI a i) (br (ixT a i 7 [Sh.int .i64,Sh.int .i64,Sh.int .i64,Sh.int .i64,Sh.str,Sh.str,Sh.list 7] 0) (br ((xmq R b i a).isSome) (br (xmo R b i a != 0) (κr (true,(0,xmo R b i a,d,e,f,g,h,j,k,a,c),(0,0,0,0,0,[],[],[],[]))) (br (rmB d c 1 8) (κl (d+1,i64.wrap (i+1),e,f,g,h,j,k,a,c++[AV.int .i64 (xmp R b i a).fst])) δ)) δ) δ) δ) (κr (false,(0,0,0,0,0,0,0,[],[],[],[]),(d,e,f,g,h,j,k,a,c)))
def xbv (R:Int->Int->Int->Int->List UInt8->List UInt8->LA->LA->Option (Int×Int)) (a:LA):StT (Nat×Int×Int×Int×Int×Int×List UInt8×List UInt8×LA×LA) (Bool×(Int×Int×Nat×Int×Int×Int×Int×List UInt8×List UInt8×LA×LA)×(Nat×Int×Int×Int×Int×List UInt8×List UInt8×LA×LA)):=fun (c,i,d,e,f,g,h,j,k,b)=>xgy R a c i d e f g h j k b none inL inR
def xcI (R:Int->Int->Int->Int->List UInt8->List UInt8->LA->LA->Option (Int×Int)) (a:LA):(Nat×Int×Int×Int×Int×Int×List UInt8×List UInt8×LA×LA)->LA×List Box:=fun (c,i,d,e,f,g,h,j,k,b)=>([AV.list 1 a,AV.own 0 0 0 0,AV.osl 1 0 0 c,AV.int .i64 i],[⟨0,7,172,[AV.agg [AV.int .i64 d,AV.int .i64 e,AV.int .i64 f,AV.int .i64 g,AV.str h,AV.str j,AV.list 7 k]],false,true⟩,⟨0,1,3,b,false,true⟩])
def xdM (R:Int->Int->Int->Int->List UInt8->List UInt8->LA->LA->Option (Int×Int)) (a:LA):(Bool×(Int×Int×Nat×Int×Int×Int×Int×List UInt8×List UInt8×LA×LA)×(Nat×Int×Int×Int×Int×List UInt8×List UInt8×LA×LA))->LR:=fun p=>(.node p.1 (.leaf .ret [AV.list 1 a,AV.own 0 0 0 0,AV.int .i64 p.2.1.1,AV.int .i64 p.2.1.2.1,AV.osl 1 0 0 p.2.1.2.2.1] [⟨0,7,172,[AV.agg [AV.int .i64 p.2.1.2.2.2.1,AV.int .i64 p.2.1.2.2.2.2.1,AV.int .i64 p.2.1.2.2.2.2.2.1,AV.int .i64 p.2.1.2.2.2.2.2.2.1,AV.str p.2.1.2.2.2.2.2.2.2.1,AV.str p.2.1.2.2.2.2.2.2.2.2.1,AV.list 7 p.2.1.2.2.2.2.2.2.2.2.2.1]],false,true⟩,⟨0,1,3,p.2.1.2.2.2.2.2.2.2.2.2.2,false,true⟩]) (.leaf (.exit 0) [AV.list 1 a,AV.own 0 0 0 0,.top,.top,AV.osl 1 0 0 p.2.2.1] [⟨0,7,172,[AV.agg [AV.int .i64 p.2.2.2.1,AV.int .i64 p.2.2.2.2.1,AV.int .i64 p.2.2.2.2.2.1,AV.int .i64 p.2.2.2.2.2.2.1,AV.str p.2.2.2.2.2.2.2.1,AV.str p.2.2.2.2.2.2.2.2.1,AV.list 7 p.2.2.2.2.2.2.2.2.2.1]],false,true⟩,⟨0,1,3,p.2.2.2.2.2.2.2.2.2.2,false,true⟩]))
abbrev xtA (R:Int->Int->Int->Int->List UInt8->List UInt8->LA->LA->Option (Int×Int)) (a:LA) (H:List Box):=XR P0 (xgl R) [1,2,8,9] [1,2,4,5,8] [(8,1,3)] (xOw Tryz.f146 0) a H
theorem xzP (R:Int->Int->Int->Int->List UInt8->List UInt8->LA->LA->Option (Int×Int)) (a:LA) (s:Nat×Int×Int×Int×Int×Int×List UInt8×List UInt8×LA×LA):Enc (encR (xcI R a) (xdM R a)) (xbv R a s) (xtA R (xcI R a s).1 (xcI R a s).2):=by
 obtain ⟨c,i,d,e,f,g,j,k,l,b⟩:=s;have h:xtA R (xcI R a (c,i,d,e,f,g,j,k,l,b)).1 (xcI R a (c,i,d,e,f,g,j,k,l,b)).2=xgy R a c i d e f g j k l b none (fun s=>some (encR (xcI R a) (xdM R a) (.inl s))) (fun p=>some (encR (xcI R a) (xdM R a) (.inr p))):=by kernel_rfl
 rw [h];unfold xbv xgy;repeat' (first|refine Enc.br ?_ ?_|exact Enc.none|exact Enc.some rfl)
def xmn (R:Int->Int->Int->Int->List UInt8->List UInt8->LA->LA->Option (Int×Int)):Lp:=lpOf [1,2,8,9] [1,2,4,5,8] [(8,1,3)] (xPa (xPs 1 xPe) (xPa (xPn 0 0 0 0) (xPa (xPm 1 0 0) (xPa (pInt .i64) xPc)))) (xPa (xPp 0 7 172 false true (xPa (xPo (xPa (pInt .i64) (xPa (pInt .i64) (xPa (pInt .i64) (xPa (pInt .i64) (xPa pStr (xPa pStr (xPa (xPs 7 xPe) xPc)))))))) xPc)) (xPa (xPp 0 1 3 false true xPe) xPc)) fun (a,(_,(c,(i,_)))) (((d,(e,(f,(g,(h,(j,(k,_))))))),_),(b,_))=>((Iter (xbv R a) (c,i,d,e,f,g,h,j,k,b)).isSome,xdM R a ((Iter (xbv R a) (c,i,d,e,f,g,h,j,k,b)).getD (false,(0,0,0,0,0,0,0,[],[],[],[]),(0,0,0,0,0,[],[],[],[]))))
theorem xyg (R:Int->Int->Int->Int->List UInt8->List UInt8->LA->LA->Option (Int×Int)) (c:xmm R):LoopOk P0 (xO9.at (xgl R).pin) (xgl R).nt (xOw Tryz.f146 0) (xmn R):=xD2 fun n o r q=>by
 obtain ⟨a,⟨_,⟨d,⟨i,_⟩⟩⟩⟩:=n;obtain ⟨⟨⟨e,⟨f,⟨g,⟨h,⟨j,⟨k,⟨l,_⟩⟩⟩⟩⟩⟩⟩,_⟩,⟨b,_⟩⟩:=o;obtain ⟨m,rfl⟩:=Prod.mk.inj q;exact xsT xOC (xOD P0 _) rfl (xyN R c) (xu1 R c) (xcI R a) (xdM R a) (fun p=>by simp only [xdM,LR.eval];first|(simp;done)|(repeat' split<;>simp)) (xzP R a) (s:=(d,i,e,f,g,h,j,k,l,b)) (xaH m)
def xeL (R:Int->Int->Int->Int->List UInt8->List UInt8->LA->LA->Option (Int×Int)):Env:=(xz4.with 146 (xeM R)).fn 75 0 (lsOf []) (xOP [(10,xmn R)])
theorem xyO (R:Int->Int->Int->Int->List UInt8->List UInt8->LA->LA->Option (Int×Int)) (a:xec R):xOs P0 (xO9.at 0) (xeL R):=(xwP.with a).fn
theorem xv7 (R:Int->Int->Int->Int->List UInt8->List UInt8->LA->LA->Option (Int×Int)) (c:xec R):LoOk P0 (xO9.at (xeL R).pin) (xeL R) (Tryz.f146.body.getD .skip):=xfE (ls:=[xOw Tryz.f146 0]) (by kernel_rfl) (fun l b lp a=>by
 simp only [zC,List.not_mem_nil,or_false] at b;rcases b with rfl
 . rw [show (xeL R).lp (xOH (xOw Tryz.f146 0))=some (xmn R) by kernel_rfl] at a
   simp only [z6] at a;subst a;exact xyg R c)
def xo3 (R:Int->Int->Int->Int->List UInt8->List UInt8->LA->LA->Option (Int×Int)) (b i c d:Int) (e f:List UInt8) (a g:LA):Option
 (Bool ×
  (Int×Int×Nat×Int×Int×Int×Int×List UInt8×List UInt8×LA×LA) ×
   Nat×Int×Int×Int×Int×List UInt8×List UInt8×LA×LA):=Iter (xbv R g) (0,0,b,i,c,d,e,f,a,[])
def xo2 (R:Int->Int->Int->Int->List UInt8->List UInt8->LA->LA->Option (Int×Int)) (b i c d:Int) (e f:List UInt8) (a g:LA):Bool ×
 (Int×Int×Nat×Int×Int×Int×Int×List UInt8×List UInt8×LA×LA) ×
  Nat×Int×Int×Int×Int×List UInt8×List UInt8×LA×LA:=(xo3 R b i c d e f a g).getD (false,(0,0,0,0,0,0,0,[],[],[],[]),0,0,0,0,0,[],[],[],[])
def xo1 (R:Int->Int->Int->Int->List UInt8->List UInt8->LA->LA->Option (Int×Int)) (b i c d:Int) (e f:List UInt8) (a g:LA):(Int×Int×Nat×Int×Int×Int×Int×List UInt8×List UInt8×LA×LA) ×
 Nat×Int×Int×Int×Int×List UInt8×List UInt8×LA×LA:=(xo2 R b i c d e f a g).snd
def xox (R:Int->Int->Int->Int->List UInt8->List UInt8->LA->LA->Option (Int×Int)) (b i c d:Int) (e f:List UInt8) (a g:LA):Nat×Int×Int×Int×Int×List UInt8×List UInt8×LA×LA:=(xo1 R b i c d e f a g).snd
def xo0 (R:Int->Int->Int->Int->List UInt8->List UInt8->LA->LA->Option (Int×Int)) (b i c d:Int) (e f:List UInt8) (a g:LA):Int×Int×Nat×Int×Int×Int×Int×List UInt8×List UInt8×LA×LA:=(xo1 R b i c d e f a g).fst
def xqu (R:Int->Int->Int->Int->List UInt8->List UInt8->LA->LA->Option (Int×Int)) (b i c d:Int) (e f:List UInt8) (a g:LA):Int×Int×Int×Int×List UInt8×List UInt8×LA×LA:=(xox R b i c d e f a g).snd
def xoZ (R:Int->Int->Int->Int->List UInt8->List UInt8->LA->LA->Option (Int×Int)) (b i c d:Int) (e f:List UInt8) (a g:LA):Nat:=(xox R b i c d e f a g).fst
def xqt (R:Int->Int->Int->Int->List UInt8->List UInt8->LA->LA->Option (Int×Int)) (b i c d:Int) (e f:List UInt8) (a g:LA):Int×Int×Int×List UInt8×List UInt8×LA×LA:=(xqu R b i c d e f a g).snd
def xqs (R:Int->Int->Int->Int->List UInt8->List UInt8->LA->LA->Option (Int×Int)) (b i c d:Int) (e f:List UInt8) (a g:LA):Int×Int×List UInt8×List UInt8×LA×LA:=(xqt R b i c d e f a g).snd
def xqr (R:Int->Int->Int->Int->List UInt8->List UInt8->LA->LA->Option (Int×Int)) (b i c d:Int) (e f:List UInt8) (a g:LA):Int×List UInt8×List UInt8×LA×LA:=(xqs R b i c d e f a g).snd
def xqq (R:Int->Int->Int->Int->List UInt8->List UInt8->LA->LA->Option (Int×Int)) (b i c d:Int) (e f:List UInt8) (a g:LA):List UInt8×List UInt8×LA×LA:=(xqr R b i c d e f a g).snd
def xqp (R:Int->Int->Int->Int->List UInt8->List UInt8->LA->LA->Option (Int×Int)) (b i c d:Int) (e f:List UInt8) (a g:LA):List UInt8×LA×LA:=(xqq R b i c d e f a g).snd
def xqo (R:Int->Int->Int->Int->List UInt8->List UInt8->LA->LA->Option (Int×Int)) (b i c d:Int) (e f:List UInt8) (a g:LA):LA×LA:=(xqp R b i c d e f a g).snd
def xqn (R:Int->Int->Int->Int->List UInt8->List UInt8->LA->LA->Option (Int×Int)) (b i c d:Int) (e f:List UInt8) (a g:LA):LA:=(xqo R b i c d e f a g).snd
def xqm (R:Int->Int->Int->Int->List UInt8->List UInt8->LA->LA->Option (Int×Int)) (c i d e:Int) (f g:List UInt8) (a b:LA):Option (Int×Bool):=xiM (xqu R c i d e f g a b).fst (xqt R c i d e f g a b).fst (xqs R c i d e f g a b).fst (xqr R c i d e f g a b).fst (xqq R c i d e f g a b).fst (xqp R c i d e f g a b).fst (xqo R c i d e f g a b).fst (List.take (xoZ R c i d e f g a b) (List.drop 0 (xqn R c i d e f g a b))) b
def xql (R:Int->Int->Int->Int->List UInt8->List UInt8->LA->LA->Option (Int×Int)) (b i c d:Int) (e f:List UInt8) (a g:LA):Int×Bool:=(xqm R b i c d e f a g).getD (0,false)
def xkJ {T:Type} (R:Int->Int->Int->Int->List UInt8->List UInt8->LA->LA->Option (Int×Int)) (b i c d:Int) (e f:List UInt8) (a g:LA) (δ:T) (κ:Int×Int->T):T:=br ((xo3 R b i c d e f a g).isSome) (br ((xo2 R b i c d e f a g).fst) (κ ((xo0 R b i c d e f a g).fst,(xo0 R b i c d e f a g).snd.fst)) (br (decide (0+xoZ R b i c d e f a g<=(xqn R b i c d e f a g).length)&&true) (br ((xqm R b i c d e f a g).isSome) (br (!(xql R b i c d e f a g).snd) (κ (0,7)) (κ ((xql R b i c d e f a g).fst,0))) δ) δ)) δ
def xm2 {T:Type} (R:Int->Int->Int->Int->List UInt8->List UInt8->LA->LA->Option (Int×Int)) (b i c d:Int) (e f:List UInt8) (a g:LA) (δ:T) (κ:Int×Int->T):T:=br (decide ((xj6 b).fst<0)) (κ (0,7)) (br ((xoY b i c d e f a).isSome) (br (!(xoY b i c d e f a).getD false) (κ (0,8)) (br (b==2) (br (decide (i<0)) (κ (0,13)) (br (decide (i>=g.length)) (κ (0,13)) (xkJ R b i c d e f a g δ κ))) (xkJ R b i c d e f a g δ κ))) δ)
def xgb (R:Int->Int->Int->Int->List UInt8->List UInt8->LA->LA->Option (Int×Int)) (b i c d:Int) (e f:List UInt8) (a g:LA):=xm2 R b i c d e f a g none some
theorem xCW (R:Int->Int->Int->Int->List UInt8->List UInt8->LA->LA->Option (Int×Int)) (b i c d:Int) (e f:List UInt8) (a g:LA):Enc (fun (p:Int×Int)=>((AV.tuple [AV.int .i64 p.1,AV.int .i64 p.2]):AV)) (xgb R b i c d e f a g) (XF P0 (xeL R) Tryz.f146 (Tryz.f146.body.getD .skip) [AV.agg [AV.int .i64 b,AV.int .i64 i,AV.int .i64 c,AV.int .i64 d,AV.str e,AV.str f,AV.list 7 a],AV.list 1 g]):=by
 have h:XF P0 (xeL R) Tryz.f146 (Tryz.f146.body.getD .skip) [AV.agg [AV.int .i64 b,AV.int .i64 i,AV.int .i64 c,AV.int .i64 d,AV.str e,AV.str f,AV.list 7 a],AV.list 1 g]=xm2 R b i c d e f a g none (fun (p:Int×Int)=>some ((AV.tuple [AV.int .i64 p.1,AV.int .i64 p.2]):AV)):=by kernel_rfl
 rw [h];unfold xgb xm2 xkJ;repeat' (first|refine Enc.br ?_ ?_|exact Enc.none|exact Enc.some rfl)
def xCV (R:Int->Int->Int->Int->List UInt8->List UInt8->LA->LA->Option (Int×Int)):LA->Option (Bool×AV):=ocOf (xPb (xPr (xPb (sEq (pInt .i64)) (xPb (sEq (pInt .i64)) (xPb (sEq (pInt .i64)) (xPb (sEq (pInt .i64)) (xPb (sEq pStr) (xPb (sEq pStr) (xPb (xPq 7 xPe) xPd)))))))) (xPb (xPq 1 xPe) xPd)) fun ((b,(i,(c,(d,(e,(f,(a,_))))))),(g,_))=>((xgb R b i c d e f a g).isSome,(AV.tuple [AV.int .i64 ((xgb R b i c d e f a g).getD (0,0)).1,AV.int .i64 ((xgb R b i c d e f a g).getD (0,0)).2]))
theorem xCU (R:Int->Int->Int->Int->List UInt8->List UInt8->LA->LA->Option (Int×Int)) (a:xec R):OcOk P0 xO9 146 (xCV R):=xfn fun e h f=>by
 obtain ⟨⟨j,⟨i,⟨k,⟨l,⟨m,⟨n,⟨g,_⟩⟩⟩⟩⟩⟩⟩,⟨o,_⟩⟩:=e;obtain ⟨b,c⟩:=Prod.mk.inj f;refine xd5 (p:=(xeL R).pin) (xgh xOC (xOD P0 _) rfl (xyO R a) Tryz.func146 rfl (by kernel_rfl) (xv7 R a) ((xCW R _ _ _ _ _ _ _ _ _ (xaH (d:=(0,0)) b)).trans ?_))
 exact congrArg some c
def xdw:Nat->Int->Int->Int->Int->List UInt8->List UInt8->LA->LA->Option (Int×Int)
 | 0=>fun _ _ _ _ _ _ _ _=>none
 | fu_+1=>fun b i c d e f a g=>xgb (xdw fu_) b i c d e f a g
theorem xtz:∀ n,xec (xdw n)
 | 0=>xfn fun _ _ h=>absurd (Prod.mk.inj h).1 Bool.false_ne_true
 | fu_+1=>fun a r h=>xCU (xdw fu_) (xtz fu_) a r h
def xgx:Int->Int->Int->Int->List UInt8->List UInt8->LA->LA->Option (Int×Int):=fun b i c d e f a g=>limN fun n=>xdw n b i c d e f a g
theorem xzO:xec xgx:=xwJ 146 xdw xtz
def xH8:Env:=xz4.with 146 (xeM xgx)
theorem xIa:xOs P0 xO9 xH8:=xwP.with xzO
def xH9:EO:=EO.mk xH8 xIa
def xrY {T:Type} (b h c d:Int) (e f:List UInt8) (a g:LA) (δ:T) (κ:Int×Int->T):T:=br ((xjV b h c d e f a).isSome) (br (decide ((xjV b h c d e f a).getD 0>24)) (κ (0,26)) (br ((xgx b h c d e f a g).isSome) (κ (((xgx b h c d e f a g).getD (0,0)).fst,((xgx b h c d e f a g).getD (0,0)).snd)) δ)) δ
def xux (c h d e:Int) (f g:List UInt8) (a b:LA):=xrY c h d e f g a b none some
def xKV:EO:=xH9.f Tryz.func120 14 0 [] [] lk0 (u2 (xPr (u7 uI uI uI uI (sEq pStr) (sEq pStr) (uL 7))) (uL 1)) (fun ((c,i,d,e,g,h,a,_),b,_) _=>xrY c i d e g h a b) (fun _ p=>AV.tuple [AV.int .i64 p.1,AV.int .i64 p.2]) (0,0)
def xFi:LA:=(([AV.str [(97:UInt8),(100:UInt8),(100:UInt8)],AV.str [(97:UInt8),(102:UInt8),(116:UInt8),(101:UInt8),(114:UInt8)],AV.str [(97:UInt8),(108:UInt8),(108:UInt8)],AV.str [(97:UInt8),(108:UInt8),(116:UInt8),(101:UInt8),(114:UInt8)],AV.str [(97:UInt8),(110:UInt8),(100:UInt8)],AV.str [(97:UInt8),(115:UInt8)],AV.str [(98:UInt8),(101:UInt8),(102:UInt8),(111:UInt8),(114:UInt8),(101:UInt8)],AV.str [(98:UInt8),(101:UInt8),(103:UInt8),(105:UInt8),(110:UInt8)],AV.str [(98:UInt8),(101:UInt8),(116:UInt8),(119:UInt8),(101:UInt8),(101:UInt8),(110:UInt8)],AV.str [(98:UInt8),(111:UInt8),(111:UInt8),(108:UInt8)],AV.str [(98:UInt8),(121:UInt8)],AV.str [(99:UInt8),(104:UInt8),(101:UInt8),(99:UInt8),(107:UInt8)],AV.str [(99:UInt8),(111:UInt8),(97:UInt8),(108:UInt8),(101:UInt8),(115:UInt8),(99:UInt8),(101:UInt8)],AV.str [(99:UInt8),(111:UInt8),(109:UInt8),(109:UInt8),(105:UInt8),(116:UInt8)],AV.str [(99:UInt8),(111:UInt8),(110:UInt8),(116:UInt8),(97:UInt8),(105:UInt8),(110:UInt8),(115:UInt8)],AV.str [(99:UInt8),(111:UInt8),(117:UInt8),(110:UInt8),(116:UInt8)],AV.str [(99:UInt8),(114:UInt8),(101:UInt8),(97:UInt8),(116:UInt8),(101:UInt8)],AV.str [(100:UInt8),(101:UInt8),(102:UInt8),(97:UInt8),(117:UInt8),(108:UInt8),(116:UInt8)],AV.str [(100:UInt8),(101:UInt8),(108:UInt8),(101:UInt8),(116:UInt8),(101:UInt8)],AV.str [(100:UInt8),(101:UInt8),(115:UInt8),(99:UInt8)],AV.str [(100:UInt8),(105:UInt8),(115:UInt8),(116:UInt8),(105:UInt8),(110:UInt8),(99:UInt8),(116:UInt8)],AV.str [(100:UInt8),(114:UInt8),(111:UInt8),(112:UInt8)],AV.str [(100:UInt8),(117:UInt8),(114:UInt8),(105:UInt8),(110:UInt8),(103:UInt8)],AV.str [(101:UInt8),(113:UInt8),(117:UInt8),(97:UInt8),(108:UInt8),(115:UInt8)],AV.str [(101:UInt8),(120:UInt8),(99:UInt8),(101:UInt8),(112:UInt8),(116:UInt8)],AV.str [(102:UInt8),(97:UInt8),(108:UInt8),(115:UInt8),(101:UInt8)],AV.str [(102:UInt8),(105:UInt8),(110:UInt8),(105:UInt8),(115:UInt8),(104:UInt8),(101:UInt8),(100:UInt8),(98:UInt8),(121:UInt8)],AV.str [(102:UInt8),(105:UInt8),(110:UInt8),(105:UInt8),(115:UInt8),(104:UInt8),(101:UInt8),(115:UInt8)],AV.str [(102:UInt8),(111:UInt8),(114:UInt8),(101:UInt8),(105:UInt8),(103:UInt8),(110:UInt8)],AV.str [(102:UInt8),(111:UInt8),(114:UInt8),(101:UInt8),(118:UInt8),(101:UInt8),(114:UInt8)],AV.str [(102:UInt8),(114:UInt8),(111:UInt8),(109:UInt8)],AV.str [(103:UInt8),(114:UInt8),(111:UInt8),(117:UInt8),(112:UInt8)],AV.str [(104:UInt8),(111:UInt8),(108:UInt8),(100:UInt8)],AV.str [(105:UInt8),(102:UInt8)],AV.str [(105:UInt8),(110:UInt8),(115:UInt8),(101:UInt8),(114:UInt8),(116:UInt8)],AV.str [(105:UInt8),(110:UInt8),(116:UInt8)],AV.str [(105:UInt8),(110:UInt8),(116:UInt8),(101:UInt8),(114:UInt8),(115:UInt8),(101:UInt8),(99:UInt8),(116:UInt8)],AV.str [(105:UInt8),(110:UInt8),(116:UInt8),(111:UInt8)],AV.str [(105:UInt8),(115:UInt8)],AV.str [(106:UInt8),(111:UInt8),(105:UInt8),(110:UInt8)],AV.str [(107:UInt8),(101:UInt8),(121:UInt8)],AV.str [(108:UInt8),(101:UInt8),(102:UInt8),(116:UInt8)],AV.str [(108:UInt8),(101:UInt8),(110:UInt8),(103:UInt8),(116:UInt8),(104:UInt8)],AV.str [(108:UInt8),(105:UInt8),(109:UInt8),(105:UInt8),(116:UInt8)],AV.str [(109:UInt8),(97:UInt8),(120:UInt8)],AV.str [(109:UInt8),(101:UInt8),(101:UInt8),(116:UInt8),(115:UInt8)],AV.str [(109:UInt8),(101:UInt8),(116:UInt8),(98:UInt8),(121:UInt8)],AV.str [(109:UInt8),(105:UInt8),(110:UInt8)],AV.str [(110:UInt8),(111:UInt8),(110:UInt8),(115:UInt8),(101:UInt8),(113:UInt8),(117:UInt8),(101:UInt8),(110:UInt8),(99:UInt8),(101:UInt8),(100:UInt8)],AV.str [(110:UInt8),(111:UInt8),(116:UInt8)],AV.str [(110:UInt8),(111:UInt8),(119:UInt8)],AV.str [(110:UInt8),(117:UInt8),(108:UInt8),(108:UInt8)],AV.str [(111:UInt8),(102:UInt8)],AV.str [(111:UInt8),(110:UInt8)],AV.str [(111:UInt8),(114:UInt8)],AV.str [(111:UInt8),(114:UInt8),(100:UInt8),(101:UInt8),(114:UInt8)],AV.str [(111:UInt8),(118:UInt8),(101:UInt8),(114:UInt8),(108:UInt8),(97:UInt8),(112:UInt8),(112:UInt8),(101:UInt8),(100:UInt8),(98:UInt8),(121:UInt8)],AV.str [(111:UInt8),(118:UInt8),(101:UInt8),(114:UInt8),(108:UInt8),(97:UInt8),(112:UInt8),(115:UInt8)],AV.str [(112:UInt8),(114:UInt8),(105:UInt8),(109:UInt8),(97:UInt8),(114:UInt8),(121:UInt8)],AV.str [(112:UInt8),(114:UInt8),(117:UInt8),(110:UInt8),(101:UInt8)],AV.str [(114:UInt8),(101:UInt8),(102:UInt8),(101:UInt8),(114:UInt8),(101:UInt8),(110:UInt8),(99:UInt8),(101:UInt8),(115:UInt8)],AV.str [(114:UInt8),(101:UInt8),(108:UInt8),(101:UInt8),(97:UInt8),(115:UInt8),(101:UInt8)],AV.str [(114:UInt8),(101:UInt8),(110:UInt8),(97:UInt8),(109:UInt8),(101:UInt8)],AV.str [(114:UInt8),(101:UInt8),(116:UInt8),(97:UInt8),(105:UInt8),(110:UInt8)],AV.str [(114:UInt8),(111:UInt8),(108:UInt8),(108:UInt8),(98:UInt8),(97:UInt8),(99:UInt8),(107:UInt8)],AV.str [(115:UInt8),(101:UInt8),(108:UInt8),(101:UInt8),(99:UInt8),(116:UInt8)],AV.str [(115:UInt8),(101:UInt8),(113:UInt8),(117:UInt8),(101:UInt8),(110:UInt8),(99:UInt8),(101:UInt8),(100:UInt8)],AV.str [(115:UInt8),(101:UInt8),(116:UInt8)],AV.str [(115:UInt8),(116:UInt8),(97:UInt8),(114:UInt8),(116:UInt8),(101:UInt8),(100:UInt8),(98:UInt8),(121:UInt8)],AV.str [(115:UInt8),(116:UInt8),(97:UInt8),(114:UInt8),(116:UInt8),(115:UInt8)],AV.str [(115:UInt8),(117:UInt8),(109:UInt8)],AV.str [(115:UInt8),(121:UInt8),(115:UInt8),(116:UInt8),(101:UInt8),(109:UInt8)],AV.str [(115:UInt8),(121:UInt8),(115:UInt8),(116:UInt8),(101:UInt8),(109:UInt8),(102:UInt8),(114:UInt8),(111:UInt8),(109:UInt8)],AV.str [(115:UInt8),(121:UInt8),(115:UInt8),(116:UInt8),(101:UInt8),(109:UInt8),(116:UInt8),(111:UInt8)],AV.str [(116:UInt8),(97:UInt8),(98:UInt8),(108:UInt8),(101:UInt8)],AV.str [(116:UInt8),(101:UInt8),(120:UInt8),(116:UInt8)],AV.str [(116:UInt8),(111:UInt8)],AV.str [(116:UInt8),(114:UInt8),(117:UInt8),(101:UInt8)],AV.str [(116:UInt8),(120:UInt8)],AV.str [(117:UInt8),(110:UInt8),(100:UInt8),(101:UInt8),(114:UInt8)],AV.str [(117:UInt8),(110:UInt8),(105:UInt8),(111:UInt8),(110:UInt8)],AV.str [(117:UInt8),(112:UInt8),(100:UInt8),(97:UInt8),(116:UInt8),(101:UInt8)],AV.str [(118:UInt8),(97:UInt8),(108:UInt8),(105:UInt8),(100:UInt8)],AV.str [(118:UInt8),(97:UInt8),(108:UInt8),(105:UInt8),(100:UInt8),(102:UInt8),(114:UInt8),(111:UInt8),(109:UInt8)],AV.str [(118:UInt8),(97:UInt8),(108:UInt8),(105:UInt8),(100:UInt8),(116:UInt8),(111:UInt8)],AV.str [(118:UInt8),(97:UInt8),(108:UInt8),(117:UInt8),(101:UInt8),(115:UInt8)],AV.str [(119:UInt8),(104:UInt8),(101:UInt8),(114:UInt8),(101:UInt8)]]))
def xC2 {T:Type} (δ:T) (κ:LA->T):T:=κ ([AV.str [(97:UInt8),(100:UInt8),(100:UInt8)],AV.str [(97:UInt8),(102:UInt8),(116:UInt8),(101:UInt8),(114:UInt8)],AV.str [(97:UInt8),(108:UInt8),(108:UInt8)],AV.str [(97:UInt8),(108:UInt8),(116:UInt8),(101:UInt8),(114:UInt8)],AV.str [(97:UInt8),(110:UInt8),(100:UInt8)],AV.str [(97:UInt8),(115:UInt8)],AV.str [(98:UInt8),(101:UInt8),(102:UInt8),(111:UInt8),(114:UInt8),(101:UInt8)],AV.str [(98:UInt8),(101:UInt8),(103:UInt8),(105:UInt8),(110:UInt8)],AV.str [(98:UInt8),(101:UInt8),(116:UInt8),(119:UInt8),(101:UInt8),(101:UInt8),(110:UInt8)],AV.str [(98:UInt8),(111:UInt8),(111:UInt8),(108:UInt8)],AV.str [(98:UInt8),(121:UInt8)],AV.str [(99:UInt8),(104:UInt8),(101:UInt8),(99:UInt8),(107:UInt8)],AV.str [(99:UInt8),(111:UInt8),(97:UInt8),(108:UInt8),(101:UInt8),(115:UInt8),(99:UInt8),(101:UInt8)],AV.str [(99:UInt8),(111:UInt8),(109:UInt8),(109:UInt8),(105:UInt8),(116:UInt8)],AV.str [(99:UInt8),(111:UInt8),(110:UInt8),(116:UInt8),(97:UInt8),(105:UInt8),(110:UInt8),(115:UInt8)],AV.str [(99:UInt8),(111:UInt8),(117:UInt8),(110:UInt8),(116:UInt8)],AV.str [(99:UInt8),(114:UInt8),(101:UInt8),(97:UInt8),(116:UInt8),(101:UInt8)],AV.str [(100:UInt8),(101:UInt8),(102:UInt8),(97:UInt8),(117:UInt8),(108:UInt8),(116:UInt8)],AV.str [(100:UInt8),(101:UInt8),(108:UInt8),(101:UInt8),(116:UInt8),(101:UInt8)],AV.str [(100:UInt8),(101:UInt8),(115:UInt8),(99:UInt8)],AV.str [(100:UInt8),(105:UInt8),(115:UInt8),(116:UInt8),(105:UInt8),(110:UInt8),(99:UInt8),(116:UInt8)],AV.str [(100:UInt8),(114:UInt8),(111:UInt8),(112:UInt8)],AV.str [(100:UInt8),(117:UInt8),(114:UInt8),(105:UInt8),(110:UInt8),(103:UInt8)],AV.str [(101:UInt8),(113:UInt8),(117:UInt8),(97:UInt8),(108:UInt8),(115:UInt8)],AV.str [(101:UInt8),(120:UInt8),(99:UInt8),(101:UInt8),(112:UInt8),(116:UInt8)],AV.str [(102:UInt8),(97:UInt8),(108:UInt8),(115:UInt8),(101:UInt8)],AV.str [(102:UInt8),(105:UInt8),(110:UInt8),(105:UInt8),(115:UInt8),(104:UInt8),(101:UInt8),(100:UInt8),(98:UInt8),(121:UInt8)],AV.str [(102:UInt8),(105:UInt8),(110:UInt8),(105:UInt8),(115:UInt8),(104:UInt8),(101:UInt8),(115:UInt8)],AV.str [(102:UInt8),(111:UInt8),(114:UInt8),(101:UInt8),(105:UInt8),(103:UInt8),(110:UInt8)],AV.str [(102:UInt8),(111:UInt8),(114:UInt8),(101:UInt8),(118:UInt8),(101:UInt8),(114:UInt8)],AV.str [(102:UInt8),(114:UInt8),(111:UInt8),(109:UInt8)],AV.str [(103:UInt8),(114:UInt8),(111:UInt8),(117:UInt8),(112:UInt8)],AV.str [(104:UInt8),(111:UInt8),(108:UInt8),(100:UInt8)],AV.str [(105:UInt8),(102:UInt8)],AV.str [(105:UInt8),(110:UInt8),(115:UInt8),(101:UInt8),(114:UInt8),(116:UInt8)],AV.str [(105:UInt8),(110:UInt8),(116:UInt8)],AV.str [(105:UInt8),(110:UInt8),(116:UInt8),(101:UInt8),(114:UInt8),(115:UInt8),(101:UInt8),(99:UInt8),(116:UInt8)],AV.str [(105:UInt8),(110:UInt8),(116:UInt8),(111:UInt8)],AV.str [(105:UInt8),(115:UInt8)],AV.str [(106:UInt8),(111:UInt8),(105:UInt8),(110:UInt8)],AV.str [(107:UInt8),(101:UInt8),(121:UInt8)],AV.str [(108:UInt8),(101:UInt8),(102:UInt8),(116:UInt8)],AV.str [(108:UInt8),(101:UInt8),(110:UInt8),(103:UInt8),(116:UInt8),(104:UInt8)],AV.str [(108:UInt8),(105:UInt8),(109:UInt8),(105:UInt8),(116:UInt8)],AV.str [(109:UInt8),(97:UInt8),(120:UInt8)],AV.str [(109:UInt8),(101:UInt8),(101:UInt8),(116:UInt8),(115:UInt8)],AV.str [(109:UInt8),(101:UInt8),(116:UInt8),(98:UInt8),(121:UInt8)],AV.str [(109:UInt8),(105:UInt8),(110:UInt8)],AV.str [(110:UInt8),(111:UInt8),(110:UInt8),(115:UInt8),(101:UInt8),(113:UInt8),(117:UInt8),(101:UInt8),(110:UInt8),(99:UInt8),(101:UInt8),(100:UInt8)],AV.str [(110:UInt8),(111:UInt8),(116:UInt8)],AV.str [(110:UInt8),(111:UInt8),(119:UInt8)],AV.str [(110:UInt8),(117:UInt8),(108:UInt8),(108:UInt8)],AV.str [(111:UInt8),(102:UInt8)],AV.str [(111:UInt8),(110:UInt8)],AV.str [(111:UInt8),(114:UInt8)],AV.str [(111:UInt8),(114:UInt8),(100:UInt8),(101:UInt8),(114:UInt8)],AV.str [(111:UInt8),(118:UInt8),(101:UInt8),(114:UInt8),(108:UInt8),(97:UInt8),(112:UInt8),(112:UInt8),(101:UInt8),(100:UInt8),(98:UInt8),(121:UInt8)],AV.str [(111:UInt8),(118:UInt8),(101:UInt8),(114:UInt8),(108:UInt8),(97:UInt8),(112:UInt8),(115:UInt8)],AV.str [(112:UInt8),(114:UInt8),(105:UInt8),(109:UInt8),(97:UInt8),(114:UInt8),(121:UInt8)],AV.str [(112:UInt8),(114:UInt8),(117:UInt8),(110:UInt8),(101:UInt8)],AV.str [(114:UInt8),(101:UInt8),(102:UInt8),(101:UInt8),(114:UInt8),(101:UInt8),(110:UInt8),(99:UInt8),(101:UInt8),(115:UInt8)],AV.str [(114:UInt8),(101:UInt8),(108:UInt8),(101:UInt8),(97:UInt8),(115:UInt8),(101:UInt8)],AV.str [(114:UInt8),(101:UInt8),(110:UInt8),(97:UInt8),(109:UInt8),(101:UInt8)],AV.str [(114:UInt8),(101:UInt8),(116:UInt8),(97:UInt8),(105:UInt8),(110:UInt8)],AV.str [(114:UInt8),(111:UInt8),(108:UInt8),(108:UInt8),(98:UInt8),(97:UInt8),(99:UInt8),(107:UInt8)],AV.str [(115:UInt8),(101:UInt8),(108:UInt8),(101:UInt8),(99:UInt8),(116:UInt8)],AV.str [(115:UInt8),(101:UInt8),(113:UInt8),(117:UInt8),(101:UInt8),(110:UInt8),(99:UInt8),(101:UInt8),(100:UInt8)],AV.str [(115:UInt8),(101:UInt8),(116:UInt8)],AV.str [(115:UInt8),(116:UInt8),(97:UInt8),(114:UInt8),(116:UInt8),(101:UInt8),(100:UInt8),(98:UInt8),(121:UInt8)],AV.str [(115:UInt8),(116:UInt8),(97:UInt8),(114:UInt8),(116:UInt8),(115:UInt8)],AV.str [(115:UInt8),(117:UInt8),(109:UInt8)],AV.str [(115:UInt8),(121:UInt8),(115:UInt8),(116:UInt8),(101:UInt8),(109:UInt8)],AV.str [(115:UInt8),(121:UInt8),(115:UInt8),(116:UInt8),(101:UInt8),(109:UInt8),(102:UInt8),(114:UInt8),(111:UInt8),(109:UInt8)],AV.str [(115:UInt8),(121:UInt8),(115:UInt8),(116:UInt8),(101:UInt8),(109:UInt8),(116:UInt8),(111:UInt8)],AV.str [(116:UInt8),(97:UInt8),(98:UInt8),(108:UInt8),(101:UInt8)],AV.str [(116:UInt8),(101:UInt8),(120:UInt8),(116:UInt8)],AV.str [(116:UInt8),(111:UInt8)],AV.str [(116:UInt8),(114:UInt8),(117:UInt8),(101:UInt8)],AV.str [(116:UInt8),(120:UInt8)],AV.str [(117:UInt8),(110:UInt8),(100:UInt8),(101:UInt8),(114:UInt8)],AV.str [(117:UInt8),(110:UInt8),(105:UInt8),(111:UInt8),(110:UInt8)],AV.str [(117:UInt8),(112:UInt8),(100:UInt8),(97:UInt8),(116:UInt8),(101:UInt8)],AV.str [(118:UInt8),(97:UInt8),(108:UInt8),(105:UInt8),(100:UInt8)],AV.str [(118:UInt8),(97:UInt8),(108:UInt8),(105:UInt8),(100:UInt8),(102:UInt8),(114:UInt8),(111:UInt8),(109:UInt8)],AV.str [(118:UInt8),(97:UInt8),(108:UInt8),(105:UInt8),(100:UInt8),(116:UInt8),(111:UInt8)],AV.str [(118:UInt8),(97:UInt8),(108:UInt8),(117:UInt8),(101:UInt8),(115:UInt8)],AV.str [(119:UInt8),(104:UInt8),(101:UInt8),(114:UInt8),(101:UInt8)]])
def xIb:EO:=xKV.fT Tryz.func116 2 0 [] [] lk0 (fun _=>xC2 none) xPd (fun _=>xFi) (fun _ p=>(AV.list 1 p))
def xm4 {T:Type} (l:LA) (a:List UInt8) (i:Int) (δ:T) (κl:(Int)->T) (κr:(Bool×(Bool)×(Unit))->T):T:=br (decide (i<l.length)) (br (ixI l i) (br (decide (i.toNat<l.length)&&xOq Sh.str (gC l i 0)) (br ((gC l i 0).toStr==a) (κr (true,(true),())) (κl (i64.wrap (i+1)))) δ) δ) (κr (false,false,()))
def xdD (l:LA) (a:List UInt8):StT (Int) (Bool×(Bool)×(Unit)):=fun (i)=>xm4 l a i none inL inR
def xvB:=xIb.l 18 0 [] [] Tryz.f115 0 lk0 [0,1,5] [4] [] (q3 (qL 1) pStr qI) xPc (fun (l,a,i,_) _=>(xdD l a,(i),fun p=>(.node p.1 (.leaf .ret [AV.bool p.2.1] []) (.leaf (.exit 0) [.top] [])))) (false,false,()) fun (l,a,_,_) _ (i)=>(((l,a,i,()),()),xm4 l a i none)
def xv9 {T:Type} (l:LA) (a:List UInt8) (δ:T) (κ:Bool->T):T:=br ((Iter (xdD l a) 0).isSome) (br (((Iter (xdD l a) 0).getD (false,false,())).fst) (κ (((Iter (xdD l a) 0).getD (false,false,())).snd.fst)) (κ (false))) δ
def xzS (l:LA) (a:List UInt8):=xv9 l a none some
def xIc:EO:=xIb.f Tryz.func115 18 0 [] [(2,xvB.lp)] (lk1 xvB.ok) (u2 (uL 1) (sEq pStr)) (fun (l,a,_) _=>xv9 l a) (fun _ p=>AV.bool p) false
def xia {T:Type} (a:List UInt8) (i:Int) (κl:(Int)->T) (κr:(Bool×(Bool)×(Unit))->T):T:=br (!(↑(a.getD i.toNat (0:UInt8)).toNat:Int)==95) (κr (true,(false),())) (κl (i64.wrap (i+1)))
def xh9 {T:Type} (a:List UInt8) (i:Int) (κl:(Int)->T) (κr:(Bool×(Bool)×(Unit))->T):T:=br (decide ((↑(a.getD i.toNat (0:UInt8)).toNat:Int)>=48)) (br (decide ((↑(a.getD i.toNat (0:UInt8)).toNat:Int)<=57)) (κl (i64.wrap (i+1))) (xia a i κl κr)) (xia a i κl κr)
def xkL {T:Type} (a:List UInt8) (i:Int) (δ:T) (κl:(Int)->T) (κr:(Bool×(Bool)×(Unit))->T):T:=br (decide (i<a.length)) (br (decide (0<=i)&&decide (i<a.length)) (br (decide ((↑(a.getD i.toNat (0:UInt8)).toNat:Int)>=97)) (br (decide ((↑(a.getD i.toNat (0:UInt8)).toNat:Int)<=122)) (κl (i64.wrap (i+1))) (xh9 a i κl κr)) (xh9 a i κl κr)) δ) (κr (false,false,()))
def xcK (a:List UInt8):StT (Int) (Bool×(Bool)×(Unit)):=fun (i)=>xkL a i none inL inR
def xtF:=xIc.l 54 0 [] [] Tryz.f86 0 lk0 [0,3] [0,2] [] (q2 pStr qI) xPc (fun (a,i,_) _=>(xcK a,(i),fun p=>(.node p.1 (.leaf .ret [AV.str a,AV.bool p.2.1] []) (.leaf (.exit 0) [AV.str a,.top] [])))) (false,false,()) fun (a,_,_) _ (i)=>(((a,i,()),()),xkL a i none)
def xr5 (a:List UInt8):=xzS [AV.str [(97:UInt8),(100:UInt8),(100:UInt8)],AV.str [(97:UInt8),(102:UInt8),(116:UInt8),(101:UInt8),(114:UInt8)],AV.str [(97:UInt8),(108:UInt8),(108:UInt8)],AV.str [(97:UInt8),(108:UInt8),(116:UInt8),(101:UInt8),(114:UInt8)],AV.str [(97:UInt8),(110:UInt8),(100:UInt8)],AV.str [(97:UInt8),(115:UInt8)],AV.str [(98:UInt8),(101:UInt8),(102:UInt8),(111:UInt8),(114:UInt8),(101:UInt8)],AV.str [(98:UInt8),(101:UInt8),(103:UInt8),(105:UInt8),(110:UInt8)],AV.str [(98:UInt8),(101:UInt8),(116:UInt8),(119:UInt8),(101:UInt8),(101:UInt8),(110:UInt8)],AV.str [(98:UInt8),(111:UInt8),(111:UInt8),(108:UInt8)],AV.str [(98:UInt8),(121:UInt8)],AV.str [(99:UInt8),(104:UInt8),(101:UInt8),(99:UInt8),(107:UInt8)],AV.str [(99:UInt8),(111:UInt8),(97:UInt8),(108:UInt8),(101:UInt8),(115:UInt8),(99:UInt8),(101:UInt8)],AV.str [(99:UInt8),(111:UInt8),(109:UInt8),(109:UInt8),(105:UInt8),(116:UInt8)],AV.str [(99:UInt8),(111:UInt8),(110:UInt8),(116:UInt8),(97:UInt8),(105:UInt8),(110:UInt8),(115:UInt8)],AV.str [(99:UInt8),(111:UInt8),(117:UInt8),(110:UInt8),(116:UInt8)],AV.str [(99:UInt8),(114:UInt8),(101:UInt8),(97:UInt8),(116:UInt8),(101:UInt8)],AV.str [(100:UInt8),(101:UInt8),(102:UInt8),(97:UInt8),(117:UInt8),(108:UInt8),(116:UInt8)],AV.str [(100:UInt8),(101:UInt8),(108:UInt8),(101:UInt8),(116:UInt8),(101:UInt8)],AV.str [(100:UInt8),(101:UInt8),(115:UInt8),(99:UInt8)],AV.str [(100:UInt8),(105:UInt8),(115:UInt8),(116:UInt8),(105:UInt8),(110:UInt8),(99:UInt8),(116:UInt8)],AV.str [(100:UInt8),(114:UInt8),(111:UInt8),(112:UInt8)],AV.str [(100:UInt8),(117:UInt8),(114:UInt8),(105:UInt8),(110:UInt8),(103:UInt8)],AV.str [(101:UInt8),(113:UInt8),(117:UInt8),(97:UInt8),(108:UInt8),(115:UInt8)],AV.str [(101:UInt8),(120:UInt8),(99:UInt8),(101:UInt8),(112:UInt8),(116:UInt8)],AV.str [(102:UInt8),(97:UInt8),(108:UInt8),(115:UInt8),(101:UInt8)],AV.str [(102:UInt8),(105:UInt8),(110:UInt8),(105:UInt8),(115:UInt8),(104:UInt8),(101:UInt8),(100:UInt8),(98:UInt8),(121:UInt8)],AV.str [(102:UInt8),(105:UInt8),(110:UInt8),(105:UInt8),(115:UInt8),(104:UInt8),(101:UInt8),(115:UInt8)],AV.str [(102:UInt8),(111:UInt8),(114:UInt8),(101:UInt8),(105:UInt8),(103:UInt8),(110:UInt8)],AV.str [(102:UInt8),(111:UInt8),(114:UInt8),(101:UInt8),(118:UInt8),(101:UInt8),(114:UInt8)],AV.str [(102:UInt8),(114:UInt8),(111:UInt8),(109:UInt8)],AV.str [(103:UInt8),(114:UInt8),(111:UInt8),(117:UInt8),(112:UInt8)],AV.str [(104:UInt8),(111:UInt8),(108:UInt8),(100:UInt8)],AV.str [(105:UInt8),(102:UInt8)],AV.str [(105:UInt8),(110:UInt8),(115:UInt8),(101:UInt8),(114:UInt8),(116:UInt8)],AV.str [(105:UInt8),(110:UInt8),(116:UInt8)],AV.str [(105:UInt8),(110:UInt8),(116:UInt8),(101:UInt8),(114:UInt8),(115:UInt8),(101:UInt8),(99:UInt8),(116:UInt8)],AV.str [(105:UInt8),(110:UInt8),(116:UInt8),(111:UInt8)],AV.str [(105:UInt8),(115:UInt8)],AV.str [(106:UInt8),(111:UInt8),(105:UInt8),(110:UInt8)],AV.str [(107:UInt8),(101:UInt8),(121:UInt8)],AV.str [(108:UInt8),(101:UInt8),(102:UInt8),(116:UInt8)],AV.str [(108:UInt8),(101:UInt8),(110:UInt8),(103:UInt8),(116:UInt8),(104:UInt8)],AV.str [(108:UInt8),(105:UInt8),(109:UInt8),(105:UInt8),(116:UInt8)],AV.str [(109:UInt8),(97:UInt8),(120:UInt8)],AV.str [(109:UInt8),(101:UInt8),(101:UInt8),(116:UInt8),(115:UInt8)],AV.str [(109:UInt8),(101:UInt8),(116:UInt8),(98:UInt8),(121:UInt8)],AV.str [(109:UInt8),(105:UInt8),(110:UInt8)],AV.str [(110:UInt8),(111:UInt8),(110:UInt8),(115:UInt8),(101:UInt8),(113:UInt8),(117:UInt8),(101:UInt8),(110:UInt8),(99:UInt8),(101:UInt8),(100:UInt8)],AV.str [(110:UInt8),(111:UInt8),(116:UInt8)],AV.str [(110:UInt8),(111:UInt8),(119:UInt8)],AV.str [(110:UInt8),(117:UInt8),(108:UInt8),(108:UInt8)],AV.str [(111:UInt8),(102:UInt8)],AV.str [(111:UInt8),(110:UInt8)],AV.str [(111:UInt8),(114:UInt8)],AV.str [(111:UInt8),(114:UInt8),(100:UInt8),(101:UInt8),(114:UInt8)],AV.str [(111:UInt8),(118:UInt8),(101:UInt8),(114:UInt8),(108:UInt8),(97:UInt8),(112:UInt8),(112:UInt8),(101:UInt8),(100:UInt8),(98:UInt8),(121:UInt8)],AV.str [(111:UInt8),(118:UInt8),(101:UInt8),(114:UInt8),(108:UInt8),(97:UInt8),(112:UInt8),(115:UInt8)],AV.str [(112:UInt8),(114:UInt8),(105:UInt8),(109:UInt8),(97:UInt8),(114:UInt8),(121:UInt8)],AV.str [(112:UInt8),(114:UInt8),(117:UInt8),(110:UInt8),(101:UInt8)],AV.str [(114:UInt8),(101:UInt8),(102:UInt8),(101:UInt8),(114:UInt8),(101:UInt8),(110:UInt8),(99:UInt8),(101:UInt8),(115:UInt8)],AV.str [(114:UInt8),(101:UInt8),(108:UInt8),(101:UInt8),(97:UInt8),(115:UInt8),(101:UInt8)],AV.str [(114:UInt8),(101:UInt8),(110:UInt8),(97:UInt8),(109:UInt8),(101:UInt8)],AV.str [(114:UInt8),(101:UInt8),(116:UInt8),(97:UInt8),(105:UInt8),(110:UInt8)],AV.str [(114:UInt8),(111:UInt8),(108:UInt8),(108:UInt8),(98:UInt8),(97:UInt8),(99:UInt8),(107:UInt8)],AV.str [(115:UInt8),(101:UInt8),(108:UInt8),(101:UInt8),(99:UInt8),(116:UInt8)],AV.str [(115:UInt8),(101:UInt8),(113:UInt8),(117:UInt8),(101:UInt8),(110:UInt8),(99:UInt8),(101:UInt8),(100:UInt8)],AV.str [(115:UInt8),(101:UInt8),(116:UInt8)],AV.str [(115:UInt8),(116:UInt8),(97:UInt8),(114:UInt8),(116:UInt8),(101:UInt8),(100:UInt8),(98:UInt8),(121:UInt8)],AV.str [(115:UInt8),(116:UInt8),(97:UInt8),(114:UInt8),(116:UInt8),(115:UInt8)],AV.str [(115:UInt8),(117:UInt8),(109:UInt8)],AV.str [(115:UInt8),(121:UInt8),(115:UInt8),(116:UInt8),(101:UInt8),(109:UInt8)],AV.str [(115:UInt8),(121:UInt8),(115:UInt8),(116:UInt8),(101:UInt8),(109:UInt8),(102:UInt8),(114:UInt8),(111:UInt8),(109:UInt8)],AV.str [(115:UInt8),(121:UInt8),(115:UInt8),(116:UInt8),(101:UInt8),(109:UInt8),(116:UInt8),(111:UInt8)],AV.str [(116:UInt8),(97:UInt8),(98:UInt8),(108:UInt8),(101:UInt8)],AV.str [(116:UInt8),(101:UInt8),(120:UInt8),(116:UInt8)],AV.str [(116:UInt8),(111:UInt8)],AV.str [(116:UInt8),(114:UInt8),(117:UInt8),(101:UInt8)],AV.str [(116:UInt8),(120:UInt8)],AV.str [(117:UInt8),(110:UInt8),(100:UInt8),(101:UInt8),(114:UInt8)],AV.str [(117:UInt8),(110:UInt8),(105:UInt8),(111:UInt8),(110:UInt8)],AV.str [(117:UInt8),(112:UInt8),(100:UInt8),(97:UInt8),(116:UInt8),(101:UInt8)],AV.str [(118:UInt8),(97:UInt8),(108:UInt8),(105:UInt8),(100:UInt8)],AV.str [(118:UInt8),(97:UInt8),(108:UInt8),(105:UInt8),(100:UInt8),(102:UInt8),(114:UInt8),(111:UInt8),(109:UInt8)],AV.str [(118:UInt8),(97:UInt8),(108:UInt8),(105:UInt8),(100:UInt8),(116:UInt8),(111:UInt8)],AV.str [(118:UInt8),(97:UInt8),(108:UInt8),(117:UInt8),(101:UInt8),(115:UInt8)],AV.str [(119:UInt8),(104:UInt8),(101:UInt8),(114:UInt8),(101:UInt8)]] a
def xqC {T:Type} (a:List UInt8) (δ:T) (κ:Bool->T):T:=br ((Iter (xcK a) 0).isSome) (br (((Iter (xcK a) 0).getD (false,false,())).fst) (κ (((Iter (xcK a) 0).getD (false,false,())).snd.fst)) (br ((xr5 a).isSome) (κ (!(xr5 a).getD false)) δ)) δ
def xtG {T:Type} (a:List UInt8) (δ:T) (κ:Bool->T):T:=br (a==[]) (κ (false)) (br (decide ((↑a.length:Int)>24)) (κ (false)) (br (decide (0<(↑a.length:Int))) (br (decide ((↑(a.getD 0 (0:UInt8)).toNat:Int)>=48)) (br (decide (0<(↑a.length:Int))) (br (decide ((↑(a.getD 0 (0:UInt8)).toNat:Int)<=57)) (κ (false)) (xqC a δ κ)) δ) (xqC a δ κ)) δ))
def xhk (a:List UInt8):=xtG a none some
def xDj:EO:=xIc.f Tryz.func86 54 0 [] [(4,xtF.lp)] (lk1 xtF.ok) (u1 (sEq pStr)) (fun (a,_) _=>xtG a) (fun _ p=>AV.bool p) false
def xju {T:Type} (b:Nat) (i:Int) (d:List UInt8) (c e f g a:LA) (δ:T) (κl:(Nat×Int×List UInt8×LA×LA×LA×LA×LA)->T) (κr:(Nat×LA)->T):T:=br (decide (i<c.length)) (br (ixI c i) (br (ixS c i (Sh.int .i64) 1) (br (rmB b a 1 8) (κl (b+1,i64.wrap (i+1),d,c,e,f,g,a++[AV.int .i64 (gC c i 1).toInt])) δ) δ) δ) (κr (b,a))
def xdo:StT (Nat×Int×List UInt8×LA×LA×LA×LA×LA) (Nat×LA):=fun (b,i,c,d,e,f,g,a)=>xju b i c d e f g a none inL inR
def xsI:=xDj.l 23 0 [] [] Tryz.f53 0 lk0 [1,3,4] [3] [(3,1,3)] (q3 (xPn 0 0 0 0) (xPm 1 0 0) qI) (q2 (qB 0 5 27 (q1 (xPo (q5 pStr (qL 3) (qL 1) (qL 2) (qL 7))))) (qB 0 1 3 xPe)) (fun (_,b,i,_) (((c,d,e,f,g,_),_),a,_)=>(xdo,(b,i,c,d,e,f,g,a),fun p=>(.leaf (.exit 0) [AV.osl 0 0 0 p.1] [bF 0 1 3 p.2]))) (0,[]) fun _ _ (b,i,c,d,e,f,g,a)=>((((),b,i,()),(((c,d,e,f,g,()),()),a,())),xju b i c d e f g a none)
def xqB (e:List UInt8) (b a c d:LA):=Iter xdo (0,0,e,b,a,c,d,[])
def xqA (e:List UInt8) (b a c d:LA):=(xqB e b a c d).getD (0,[])
def xqy (e:List UInt8) (b a c d:LA):=(xqA e b a c d).snd
def xqz (e:List UInt8) (b a c d:LA):=(xqA e b a c d).fst
def xr4 {T:Type} (e:List UInt8) (b a c d:LA) (δ:T) (κ:LA->T):T:=br ((xqB e b a c d).isSome) (br (decide (0+xqz e b a c d<=(xqy e b a c d).length)&&true) (κ (List.take (xqz e b a c d) (List.drop 0 (xqy e b a c d)))) δ) δ
def xeX (e:List UInt8) (b a c d:LA):=xr4 e b a c d none some
def xC1:LA->Option (Bool×AV):=fnO (u1 (xPr (u5 (sEq pStr) (uL 3) (uL 1) (uL 2) (uL 7)))) (fun ((e,b,a,c,d,_),_) _=>xr4 e b a c d) (fun _ p=>AV.list 1 p) []
theorem xwv:OcOk P0 xO9 53 xC1:=fnC xDj.ok Tryz.func53 23 0 [] [(3,xsI.lp)] (lk1 xsI.ok)
def xId:EO:=xDj.w xwv
def xkK {T:Type} (b:List UInt8) (i:Int) (c:List UInt8) (a d e f:LA) (δ:T) (κl:(Int×List UInt8×LA×LA×LA×LA)->T) (κr:(Bool×(Int)×(Unit))->T):T:=br (decide (i<a.length)) (br (ixI a i) (br (decide (i.toNat<a.length)&&xOq Sh.str (gC a i 0)) (br ((gC a i 0).toStr==b) (κr (true,(i),())) (κl (i64.wrap (i+1),c,a,d,e,f))) δ) δ) (κr (false,0,()))
def xdO (a:List UInt8):StT (Int×List UInt8×LA×LA×LA×LA) (Bool×(Int)×(Unit)):=fun (i,b,c,d,e,f)=>xkK a i b c d e f none inL inR
def xtD:=xId.l 22 0 [] [] Tryz.f117 0 lk0 [1,2,5] [4] [] (q3 pStr (xPn 0 0 0 0) qI) (q1 (qB 0 5 27 (q1 (xPo (q5 pStr (qL 3) (qL 1) (qL 2) (qL 7)))))) (fun (a,_,i,_) (((b,c,d,e,f,_),_),_)=>(xdO a,(i,b,c,d,e,f),fun p=>(.node p.1 (.leaf .ret [AV.int .i64 p.2.1] []) (.leaf (.exit 0) [.top] [])))) (false,0,()) fun (a,_,_,_) _ (i,b,c,d,e,f)=>(((a,(),i,()),(((b,c,d,e,f,()),()),())),xkK a i b c d e f none)
def xr3 (e:List UInt8) (b a c d:LA) (f:List UInt8):=Iter (xdO f) (0,e,b,a,c,d)
def xr2 (e:List UInt8) (b a c d:LA) (f:List UInt8):=(xr3 e b a c d f).getD (false,0,())
def xtE {T:Type} (e:List UInt8) (b a c d:LA) (f:List UInt8) (δ:T) (κ:Int->T):T:=br ((xr3 e b a c d f).isSome) (br ((xr2 e b a c d f).fst) (κ ((xr2 e b a c d f).snd.fst)) (κ ((-1)))) δ
def xsX (e:List UInt8) (b a c d:LA) (f:List UInt8):=xtE e b a c d f none some
def xMw:EO:=xId.f Tryz.func117 22 0 [] [(2,xtD.lp)] (lk1 xtD.ok) (u2 (xPr (u5 (sEq pStr) (uL 3) (uL 1) (uL 2) (uL 7))) (sEq pStr)) (fun ((e,b,a,c,d,_),g,_) _=>xtE e b a c d g) (fun _ p=>AV.int .i64 p) 0
def xlp (e:List UInt8) (a b c d:LA) (i:Int):Bool:=(br (decide (i>=0)) ((decide (i<a.length))) ((false)))
def xBy {T:Type} (e:List UInt8) (a b c d:LA) (i:Int) (δ:T) (κ:Bool->T):T:=br (decide (i>=0)) (κ (decide (i<a.length))) (κ (false))
def xIe:EO:=xMw.fT Tryz.func118 14 0 [] [] lk0 (fun ((e,b,a,c,d,_),i,_)=>xBy e b a c d i none) (u2 (xPr (u5 (sEq pStr) (uL 3) (uL 1) (uL 2) (uL 7))) uI) (fun ((e,b,a,c,d,_),i,_)=>xlp e b a c d i) (fun _ p=>(AV.bool p))
def xhl {T:Type} (i:Int) (b:List UInt8) (a c d e:LA) (δ:T) (κl:(Int×List UInt8×LA×LA×LA×LA)->T) (κr:(Bool×(Int)×(Unit))->T):T:=br (decide (i<a.length)) (br (ixI a i) (br (ixT a i 3 [Sh.str,Sh.int .i64,Sh.bool] 0) (br ((xhk (gC a i 0).toStr).isSome) (br (!(xhk (gC a i 0).toStr).getD false) (κr (true,(1),())) (br (decide ((gC a i 1).toInt<1)) (κr (true,(7),())) (br (decide ((gC a i 1).toInt>3)) (κr (true,(7),())) (br ((xsX b a c d e (gC a i 0).toStr).isSome) (br (decide ((xsX b a c d e (gC a i 0).toStr).getD 0<i)) (κr (true,(10),())) (κl (i64.wrap (i+1),b,a,c,d,e))) δ)))) δ) δ) δ) (κr (false,0,()))
def xcp:StT (Int×List UInt8×LA×LA×LA×LA) (Bool×(Int)×(Unit)):=fun (i,a,b,c,d,e)=>xhl i a b c d e none inL inR
def xpU:=xIe.l 45 0 [] [] Tryz.f87 0 lk0 [1,3] [2] [] (q2 (xPn 0 0 0 0) qI) (q1 (qB 0 5 27 (q1 (xPo (q5 pStr (qL 3) (qL 1) (qL 2) (qL 7)))))) (fun (_,i,_) (((a,b,c,d,e,_),_),_)=>(xcp,(i,a,b,c,d,e),fun p=>(.node p.1 (.leaf .ret [AV.int .i64 p.2.1] []) (.leaf (.exit 0) [.top] [])))) (false,0,()) fun _ _ (i,a,b,c,d,e)=>((((),i,()),(((a,b,c,d,e,()),()),())),xhl i a b c d e none)
def xnw (e:List UInt8) (b a c d:LA):=Iter xcp (0,e,b,a,c,d)
def xnv (e:List UInt8) (b a c d:LA):=(xnw e b a c d).getD (false,0,())
def xo4 {T:Type} (e:List UInt8) (a b c d:LA) (δ:T) (κ:Int->T):T:=br (decide ((↑a.length:Int)<1)) (κ (13)) (br (decide ((↑a.length:Int)>12)) (κ (13)) (br ((xnw e a b c d).isSome) (br ((xnv e a b c d).fst) (κ ((xnv e a b c d).snd.fst)) (κ (0))) δ))
def xg0 (e:List UInt8) (b a c d:LA):=xo4 e b a c d none some
def xIf:EO:=xIe.f Tryz.func87 45 0 [] [(4,xpU.lp)] (lk1 xpU.ok) (u1 (xPr (u5 (sEq pStr) (uL 3) (uL 1) (uL 2) (uL 7)))) (fun ((e,b,a,c,d,_),_) _=>xo4 e b a c d) (fun _ p=>AV.int .i64 p) 0
def xfo (i:Int) (a:LA):=ixI a i
def xfp (i:Int) (a:LA):=decide (i.toNat<a.length)&&xOq (Sh.int .i64) (gC a i 0)
def xbJ (i:Int) (a:LA):=(gC a i 0).toInt
def xeP {T:Type} (i:Int) (c:List UInt8) (b a d e:LA) (δ:T) (κl:(Int×List UInt8×LA×LA×LA×LA)->T) (κr:(Bool×(Int)×(Unit))->T):T:=br (xfo i a) (br (xfp i a) (br (decide (0<=xbJ i a)&&decide (xbJ i a<b.length)) (br (decide ((xbJ i a).toNat<b.length)&&xOq Sh.bool ((b.getD (xbJ i a).toNat .top).cells.getD 2 .top)) (br (((b.getD (xbJ i a).toNat .top).cells.getD 2 .top).toBool) (κr (true,(12),())) (κl (i64.wrap (i+1),c,b,a,d,e))) δ) δ) δ) δ
def xgn {T:Type} (i:Int) (b:List UInt8) (c a d e:LA) (δ:T) (κl:(Int×List UInt8×LA×LA×LA×LA)->T) (κr:(Bool×(Int)×(Unit))->T):T:=br (decide (i<a.length)) (br (xfo i a) (br (xfp i a) (br (!xlp b c a d e (xbJ i a)) (κr (true,(25),())) (br (decide (i>0)) (br (xfo i a) (br (xfp i a) (br (decide (0<=i64.wrap (i - 1))&&decide (i64.wrap (i - 1)<(↑a.length:Int))) (br (decide ((i64.wrap (i - 1)).toNat<a.length)&&xOq (Sh.int .i64) ((a.getD (i64.wrap (i - 1)).toNat .top).cells.getD 0 .top)) (br (decide (xbJ i a<=((a.getD (i64.wrap (i - 1)).toNat .top).cells.getD 0 .top).toInt)) (κr (true,(25),())) (xeP i b c a d e δ κl κr)) δ) δ) δ) δ) (xeP i b c a d e δ κl κr))) δ) δ) (κr (false,0,()))
def xb9:StT (Int×List UInt8×LA×LA×LA×LA) (Bool×(Int)×(Unit)):=fun (i,a,b,c,d,e)=>xgn i a b c d e none inL inR
def xur:=xIf.l 51 0 [] [] Tryz.f88 0 lk0 [1,3] [2] [] (q2 (xPn 0 0 0 0) qI) (q1 (qB 0 5 27 (q1 (xPo (q5 pStr (qL 3) (qL 1) (qL 2) (qL 7)))))) (fun (_,i,_) (((a,b,c,d,e,_),_),_)=>(xb9,(i,a,b,c,d,e),fun p=>(.node p.1 (.leaf .ret [AV.int .i64 p.2.1] []) (.leaf (.exit 0) [.top] [])))) (false,0,()) fun _ _ (i,a,b,c,d,e)=>((((),i,()),(((a,b,c,d,e,()),()),())),xgn i a b c d e none)
def xtI (e:List UInt8) (b a c d:LA):=Iter xb9 (0,e,b,a,c,d)
def xtH (e:List UInt8) (b a c d:LA):=(xtI e b a c d).getD (false,0,())
def xu3 {T:Type} (e:List UInt8) (b a c d:LA) (δ:T) (κ:Int->T):T:=br ((↑a.length:Int)==0) (κ (25)) (br ((xtI e b a c d).isSome) (br ((xtH e b a c d).fst) (κ ((xtH e b a c d).snd.fst)) (κ (0))) δ)
def xrs (e:List UInt8) (b a c d:LA):=xu3 e b a c d none some
def xDk:EO:=xIf.f Tryz.func88 51 0 [] [(4,xur.lp)] (lk1 xur.ok) (u1 (xPr (u5 (sEq pStr) (uL 3) (uL 1) (uL 2) (uL 7)))) (fun ((e,b,a,c,d,_),_) _=>xu3 e b a c d) (fun _ p=>AV.int .i64 p) 0
def xhm {T:Type} (i k:Int) (b:List UInt8) (c d e f a:LA) (g:List UInt8) (δ:T) (κl:(Int×List UInt8×LA×LA×LA×LA×LA×List UInt8)->T) (κr:(Bool×(Int×List UInt8×LA×LA×LA×LA×LA×List UInt8)×(List UInt8×LA×LA×LA×LA×LA×List UInt8))->T):T:=br (decide (k<i)) (br (ixI a k) (br (ixS a k (Sh.int .i64) 0) (br (ixI a i) (br (ixS a i (Sh.int .i64) 0) (br ((gC a k 0).toInt==(gC a i 0).toInt) (κr (true,(25,b,c,d,e,f,a,g),([],[],[],[],[],[],[]))) (κl (i64.wrap (k+1),b,c,d,e,f,a,g))) δ) δ) δ) δ) (κr (false,(0,[],[],[],[],[],[],[]),(b,c,d,e,f,a,g)))
def xcq (i:Int):StT (Int×List UInt8×LA×LA×LA×LA×LA×List UInt8) (Bool×(Int×List UInt8×LA×LA×LA×LA×LA×List UInt8)×(List UInt8×LA×LA×LA×LA×LA×List UInt8)):=fun (k,a,b,c,d,e,f,g)=>xhm i k a b c d e f g none inL inR
def xgG:=xDk.l 46 0 [] [] Tryz.f119 1 lk0 [2,3,5,6] [2,3,4,5] [] (q4 (xPn 0 0 0 0) (xPn 1 0 0 0) qI qI) (q2 (qB 0 5 27 (q1 (xPo (q5 pStr (qL 3) (qL 1) (qL 2) (qL 7))))) (qB 0 2 34 (q1 (xPo (q2 (qL 1) pStr))))) (fun (_,_,i,k,_) (((a,b,c,d,e,_),_),((f,g,_),_),_)=>(xcq i,(k,a,b,c,d,e,f,g),fun p=>(.node p.1 (.leaf .ret [AV.own 0 0 0 0,AV.own 1 0 0 0,AV.int .i64 p.2.1.1,AV.int .i64 i] [bF 0 5 27 [AV.agg [AV.str p.2.1.2.1,AV.list 3 p.2.1.2.2.1,AV.list 1 p.2.1.2.2.2.1,AV.list 2 p.2.1.2.2.2.2.1,AV.list 7 p.2.1.2.2.2.2.2.1]],bF 0 2 34 [AV.agg [AV.list 1 p.2.1.2.2.2.2.2.2.1,AV.str p.2.1.2.2.2.2.2.2.2]]]) (.leaf (.exit 2) [AV.own 0 0 0 0,AV.own 1 0 0 0,.top,AV.int .i64 i] [bF 0 5 27 [AV.agg [AV.str p.2.2.1,AV.list 3 p.2.2.2.1,AV.list 1 p.2.2.2.2.1,AV.list 2 p.2.2.2.2.2.1,AV.list 7 p.2.2.2.2.2.2.1]],bF 0 2 34 [AV.agg [AV.list 1 p.2.2.2.2.2.2.2.1,AV.str p.2.2.2.2.2.2.2.2]]])))) (false,(0,[],[],[],[],[],[],[]),([],[],[],[],[],[],[])) fun (_,_,i,_,_) _ (k,a,b,c,d,e,f,g)=>((((),(),i,k,()),(((a,b,c,d,e,()),()),((f,g,()),()),())),xhm i k a b c d e f g none)
def xkv (i:Int) (a:List UInt8) (b c d e f:LA) (g:List UInt8):=Iter (xcq i) (0,a,b,c,d,e,f,g)
def xku (i:Int) (a:List UInt8) (b c d e f:LA) (g:List UInt8):=(xkv i a b c d e f g).getD (false,(0,[],[],[],[],[],[],[]),[],[],[],[],[],[],[])
def xkt (i:Int) (a:List UInt8) (b c d e f:LA) (g:List UInt8):=(xku i a b c d e f g).snd
def xks (i:Int) (a:List UInt8) (b c d e f:LA) (g:List UInt8):=(xkt i a b c d e f g).snd
def xkr (i:Int) (a:List UInt8) (b c d e f:LA) (g:List UInt8):=(xks i a b c d e f g).snd
def xkq (i:Int) (a:List UInt8) (b c d e f:LA) (g:List UInt8):=(xkr i a b c d e f g).snd
def xkp (i:Int) (a:List UInt8) (b c d e f:LA) (g:List UInt8):=(xkq i a b c d e f g).snd
def xko (i:Int) (a:List UInt8) (b c d e f:LA) (g:List UInt8):=(xkp i a b c d e f g).snd
def xkn (i:Int) (a:List UInt8) (b c d e f:LA) (g:List UInt8):=(xko i a b c d e f g).snd
def xe4 {T:Type} (i:Int) (b:List UInt8) (c d e f a:LA) (g:List UInt8) (δ:T) (κl:(Int×List UInt8×LA×LA×LA×LA×LA×List UInt8)->T) (κr:(Bool×(Int)×(Unit))->T):T:=br (decide (i<a.length)) (br (ixI a i) (br (ixS a i (Sh.int .i64) 0) (br (!xlp b c d e f (gC a i 0).toInt) (κr (true,(25),())) (br ((xkv i b c d e f a g).isSome) (br ((xku i b c d e f a g).fst) (κr (true,((xkt i b c d e f a g).fst.fst),())) (κl (i64.wrap (i+1),(xks i b c d e f a g).fst,(xkr i b c d e f a g).fst,(xkq i b c d e f a g).fst,(xkp i b c d e f a g).fst,(xko i b c d e f a g).fst,(xkn i b c d e f a g).fst,(xkn i b c d e f a g).snd))) δ)) δ) δ) (κr (false,0,()))
def xbD:StT (Int×List UInt8×LA×LA×LA×LA×LA×List UInt8) (Bool×(Int)×(Unit)):=fun (i,a,b,c,d,e,f,g)=>xe4 i a b c d e f g none inL inR
def xpV:=xDk.l 46 0 [] [(11,xgG.lp)] Tryz.f119 0 (lk1 xgG.ok) [2,3,5] [4] [] (q3 (xPn 0 0 0 0) (xPn 1 0 0 0) qI) (q2 (qB 0 5 27 (q1 (xPo (q5 pStr (qL 3) (qL 1) (qL 2) (qL 7))))) (qB 0 2 34 (q1 (xPo (q2 (qL 1) pStr))))) (fun (_,_,i,_) (((a,b,c,d,e,_),_),((f,g,_),_),_)=>(xbD,(i,a,b,c,d,e,f,g),fun p=>(.node p.1 (.leaf .ret [AV.int .i64 p.2.1] []) (.leaf (.exit 0) [.top] [])))) (false,0,()) fun _ _ (i,a,b,c,d,e,f,g)=>((((),(),i,()),(((a,b,c,d,e,()),()),((f,g,()),()),())),xe4 i a b c d e f g none)
def xnz (e:List UInt8) (b a c d f:LA) (g:List UInt8):=Iter xbD (0,e,b,a,c,d,f,g)
def xny (e:List UInt8) (b a c d f:LA) (g:List UInt8):=(xnz e b a c d f g).getD (false,0,())
def xo5 {T:Type} (g:List UInt8) (c a d e f:LA) (b:List UInt8) (δ:T) (κ:Int->T):T:=br ((xhk b).isSome) (br (!(xhk b).getD false) (κ (1)) (br ((↑f.length:Int)==0) (κ (25)) (br ((xnz g c a d e f b).isSome) (br ((xny g c a d e f b).fst) (κ ((xny g c a d e f b).snd.fst)) (κ (0))) δ))) δ
def xjW (e:List UInt8) (b a c d f:LA) (g:List UInt8):=xo5 e b a c d f g none some
def xDl:EO:=xDk.f Tryz.func119 46 0 [] [(11,xgG.lp),(6,xpV.lp)] (lks (lkC xpV.ok (lkC xgG.ok lkN))) (u2 (xPr (u5 (sEq pStr) (uL 3) (uL 1) (uL 2) (uL 7))) (xPr (u2 (uL 1) (sEq pStr)))) (fun ((e,b,a,c,d,_),(g,h,_),_) _=>xo5 e b a c d g h) (fun _ p=>AV.int .i64 p) 0
def xeY {T:Type} (i:Int) (b:List UInt8) (c d a e:LA) (δ:T) (κl:(Int×List UInt8×LA×LA×LA×LA)->T) (κr:(Bool×(Int×List UInt8×LA×LA×LA×LA)×(List UInt8×LA×LA×LA×LA))->T):T:=br (decide (i<a.length)) (br (ixI a i) (br (ixT a i 2 [Sh.list 1,Sh.str] 0) (br ((xjW b c d a e (gC a i 0).toList (gC a i 1).toStr).isSome) (br ((xjW b c d a e (gC a i 0).toList (gC a i 1).toStr).getD 0 != 0) (κr (true,((xjW b c d a e (gC a i 0).toList (gC a i 1).toStr).getD 0,b,c,d,a,e),([],[],[],[],[]))) (κl (i64.wrap (i+1),b,c,d,a,e))) δ) δ) δ) (κr (false,(0,[],[],[],[],[]),(b,c,d,a,e)))
def xbr:StT (Int×List UInt8×LA×LA×LA×LA) (Bool×(Int×List UInt8×LA×LA×LA×LA)×(List UInt8×LA×LA×LA×LA)):=fun (i,a,b,c,d,e)=>xeY i a b c d e none inL inR
def xgQ:=xDl.l 60 0 [] [] Tryz.f89 0 lk0 [1,3] [1,2] [] (q2 (xPn 0 0 0 0) qI) (q1 (qB 0 5 27 (q1 (xPo (q5 pStr (qL 3) (qL 1) (qL 2) (qL 7)))))) (fun (_,i,_) (((a,b,c,d,e,_),_),_)=>(xbr,(i,a,b,c,d,e),fun p=>(.node p.1 (.leaf .ret [AV.own 0 0 0 0,AV.int .i64 p.2.1.1] [bF 0 5 27 [AV.agg [AV.str p.2.1.2.1,AV.list 3 p.2.1.2.2.1,AV.list 1 p.2.1.2.2.2.1,AV.list 2 p.2.1.2.2.2.2.1,AV.list 7 p.2.1.2.2.2.2.2]]]) (.leaf (.exit 0) [AV.own 0 0 0 0,.top] [bF 0 5 27 [AV.agg [AV.str p.2.2.1,AV.list 3 p.2.2.2.1,AV.list 1 p.2.2.2.2.1,AV.list 2 p.2.2.2.2.2.1,AV.list 7 p.2.2.2.2.2.2]]])))) (false,(0,[],[],[],[],[]),([],[],[],[],[])) fun _ _ (i,a,b,c,d,e)=>((((),i,()),(((a,b,c,d,e,()),()),())),xeY i a b c d e none)
def xgU (i:Int) (b:List UInt8) (c d e a:LA):=xux (gC a i 0).toInt (gC a i 1).toInt (gC a i 2).toInt (gC a i 3).toInt (gC a i 4).toStr (gC a i 5).toStr (gC a i 6).toList ((xeX b c d e a).getD [])
def xgT (i:Int) (a:List UInt8) (b c d e:LA):=(xgU i a b c d e).getD (0,0)
def xgR (i:Int) (a:List UInt8) (b c d e:LA):=(xgT i a b c d e).fst
def xgS (i:Int) (a:List UInt8) (b c d e:LA):=(xgT i a b c d e).snd
def xeZ {T:Type} (i:Int) (b:List UInt8) (c d e a:LA) (δ:T) (κl:(Int×List UInt8×LA×LA×LA×LA)->T) (κr:(Bool×(Int)×(Unit))->T):T:=br (decide (i<a.length)) (br (ixI a i) (br (ixT a i 7 [Sh.int .i64,Sh.int .i64,Sh.int .i64,Sh.int .i64,Sh.str,Sh.str,Sh.list 7] 0) (br ((xeX b c d e a).isSome) (br ((xgU i b c d e a).isSome) (br (xgS i b c d e a != 0) (κr (true,(xgS i b c d e a),())) (br (xgR i b c d e a != 3) (br (xgR i b c d e a != 0) (κr (true,(7),())) (κl (i64.wrap (i+1),b,c,d,e,a))) (κl (i64.wrap (i+1),b,c,d,e,a)))) δ) δ) δ) δ) (κr (false,0,()))
def xbs:StT (Int×List UInt8×LA×LA×LA×LA) (Bool×(Int)×(Unit)):=fun (i,a,b,c,d,e)=>xeZ i a b c d e none inL inR
def xl9:=xDl.l 60 0 [] [(4,xgQ.lp)] Tryz.f89 1 lk0 [1,5] [2] [] (q2 (xPn 0 0 0 0) qI) (q1 (qB 0 5 27 (q1 (xPo (q5 pStr (qL 3) (qL 1) (qL 2) (qL 7)))))) (fun (_,i,_) (((a,b,c,d,e,_),_),_)=>(xbs,(i,a,b,c,d,e),fun p=>(.node p.1 (.leaf .ret [AV.int .i64 p.2.1] []) (.leaf (.exit 2) [.top] [])))) (false,0,()) fun _ _ (i,a,b,c,d,e)=>((((),i,()),(((a,b,c,d,e,()),()),())),xeZ i a b c d e none)
def xjF (e:List UInt8) (b a c d:LA):=Iter xbr (0,e,b,a,c,d)
def xjE (e:List UInt8) (b a c d:LA):=(xjF e b a c d).getD (false,(0,[],[],[],[],[]),[],[],[],[],[])
def xjD (e:List UInt8) (b a c d:LA):=(xjE e b a c d).snd
def xjC (e:List UInt8) (b a c d:LA):=(xjD e b a c d).snd
def xjB (e:List UInt8) (b a c d:LA):=(xjC e b a c d).snd
def xjA (e:List UInt8) (b a c d:LA):=(xjB e b a c d).snd
def xjz (e:List UInt8) (b a c d:LA):=(xjA e b a c d).snd
def xjy (e:List UInt8) (b a c d:LA):=(xjz e b a c d).snd
def xjw (e:List UInt8) (b a c d:LA):=Iter xbs (0,(xjC e b a c d).fst,(xjB e b a c d).fst,(xjA e b a c d).fst,(xjz e b a c d).fst,xjy e b a c d)
def xjv (e:List UInt8) (b a c d:LA):=(xjw e b a c d).getD (false,0,())
def xkm {T:Type} (e:List UInt8) (c a b d:LA) (δ:T) (κ:Int->T):T:=br (decide ((↑b.length:Int)>4)) (κ (5)) (br ((xjF e c a b d).isSome) (br ((xjE e c a b d).fst) (κ ((xjD e c a b d).fst.fst)) (br (decide ((↑(xjy e c a b d).length:Int)>4)) (κ (5)) (br ((xjw e c a b d).isSome) (br ((xjv e c a b d).fst) (κ ((xjv e c a b d).snd.fst)) (κ (0))) δ))) δ)
def xee (e:List UInt8) (b a c d:LA):=xkm e b a c d none some
def xKW:EO:=xDl.f Tryz.func89 60 0 [] [(4,xgQ.lp),(12,xl9.lp)] (lks (lkC xgQ.ok (lkC xl9.ok lkN))) (u1 (xPr (u5 (sEq pStr) (uL 3) (uL 1) (uL 2) (uL 7)))) (fun ((e,b,a,c,d,_),_) _=>xkm e b a c d) (fun _ p=>AV.int .i64 p) 0
def xr1 {T:Type} (e:List UInt8) (b a c d:LA) (δ:T) (κ:Int->T):T:=br ((xhk e).isSome) (br (!(xhk e).getD false) (κ (1)) (br ((xg0 e b a c d).isSome) (br ((xg0 e b a c d).getD 0==0) (br ((xrs e b a c d).isSome) (br ((xrs e b a c d).getD 0==0) (br ((xee e b a c d).isSome) (κ ((xee e b a c d).getD 0)) δ) (κ ((xrs e b a c d).getD 0))) δ) (br ((xg0 e b a c d).getD 0==0) (br ((xee e b a c d).isSome) (κ ((xee e b a c d).getD 0)) δ) (κ ((xg0 e b a c d).getD 0)))) δ)) δ
def xgc (e:List UInt8) (b a c d:LA):=xr1 e b a c d none some
def xC0:LA->Option (Bool×AV):=fnO (u1 (xPr (u5 (sEq pStr) (uL 3) (uL 1) (uL 2) (uL 7)))) (fun ((e,b,a,c,d,_),_) _=>xr1 e b a c d) (fun _ p=>AV.int .i64 p) 0
theorem xCx:OcOk P0 xO9 51 xC0:=fnC xKW.ok Tryz.func51 19 0 [] [] lk0
def xMB:EO:=xMn.w xwu
def xMC:EO:=xMB.w xCx
def xIk:EO:=xMC.w xwv
def xjq (a l:LA) (i:Int):=(xjm a (gC l i 0).toInt).getD (0,0,[])
def xjp (a l:LA) (i:Int):=(xjq a l i).snd
def xkH {T:Type} (c l:LA) (b:Nat) (i:Int) (a:LA) (δ:T) (κl:(Nat×Int×LA)->T) (κr:(Nat×LA)->T):T:=br (decide (i<l.length)) (br (ixI l i) (br (ixS l i (Sh.int .i64) 0) (br ((xjm c (gC l i 0).toInt).isSome) (br (rmB b a 1 32) (κl (b+1,i64.wrap (i+1),a++[AV.agg [AV.int .i64 (xjq c l i).fst,AV.int .i64 (xjp c l i).fst,AV.str (xjp c l i).snd]])) δ) δ) δ) δ) (κr (b,a))
def xdK (c l:LA):StT (Nat×Int×LA) (Nat×LA):=fun (b,i,a)=>xkH c l b i a none inL inR
def xts:=xIk.l 24 0 [] [] Tryz.f39 0 lk0 [0,1,5,6] [5] [(5,3,86)] (q4 (qL 3) (qL 1) (xPm 0 0 0) qI) (q1 (qB 0 3 86 xPe)) (fun (c,l,b,i,_) (a,_)=>(xdK c l,(b,i,a),fun p=>(.leaf (.exit 0) [AV.osl 0 0 0 p.1] [bF 0 3 86 p.2]))) (0,[]) fun (c,l,_,_,_) _ (b,i,a)=>(((c,l,b,i,()),(a,())),xkH c l b i a none)
def xrX (a l:LA):=(Iter (xdK a l) (0,0,[])).getD (0,[])
def xrV (a l:LA):=(xrX a l).fst
def xrW (a l:LA):=(xrX a l).snd
def xtt {T:Type} (a l:LA) (δ:T) (κ:LA->T):T:=br ((Iter (xdK a l) (0,0,[])).isSome) (br (decide (0+xrV a l<=(xrW a l).length)&&true) (κ (List.take (xrV a l) (List.drop 0 (xrW a l)))) δ) δ
def xjo (a l:LA):=xtt a l none some
def xHZ:EO:=xIk.f Tryz.func39 24 0 [] [(3,xts.lp)] (lk1 xts.ok) (u2 (uL 3) (uL 1)) (fun (a,l,_) _=>xtt a l) (fun _ p=>AV.list 3 p) []
def xhj {T:Type} (a l:LA) (i:Int) (δ:T) (κl:(Int)->T) (κr:(Bool×(Bool)×(Unit))->T):T:=br (decide (i<l.length)) (br (ixI l i) (br (ixS l i (Sh.int .i64) 0) (br ((xjm a (gC l i 0).toInt).isSome) (br (((xjm a (gC l i 0).toInt).getD (0,0,[])).fst==0) (κr (true,(true),())) (κl (i64.wrap (i+1)))) δ) δ) δ) (κr (false,false,()))
def xa4 (a l:LA):StT (Int) (Bool×(Bool)×(Unit)):=fun (i)=>xhj a l i none inL inR
def xpT:=xHZ.l 20 0 [] [] Tryz.f67 0 lk0 [0,1,5] [4] [] (q3 (qL 3) (qL 1) qI) xPc (fun (a,l,i,_) _=>(xa4 a l,(i),fun p=>(.node p.1 (.leaf .ret [AV.bool p.2.1] []) (.leaf (.exit 0) [.top] [])))) (false,false,()) fun (a,l,_,_) _ (i)=>(((a,l,i,()),()),xhj a l i none)
def xoR {T:Type} (a l:LA) (δ:T) (κ:Bool->T):T:=br ((Iter (xa4 a l) 0).isSome) (br (((Iter (xa4 a l) 0).getD (false,false,())).fst) (κ (((Iter (xa4 a l) 0).getD (false,false,())).snd.fst)) (κ (false))) δ
def xm1 (a l:LA):=xoR a l none some
def xHx:EO:=xHZ.f Tryz.func67 20 0 [] [(2,xpT.lp)] (lk1 xpT.ok) (u2 (uL 3) (uL 1)) (fun (a,l,_) _=>xoR a l) (fun _ p=>AV.bool p) false
def xjn (a:LA) (i:Int):=ixI a i
def xnt (a:LA) (i:Int):=xmG (gC a i 0).toInt (gC a i 1).toInt (gC a i 2).toStr
def xkG {T:Type} (a b:LA) (i:Int) (δ:T) (κl:(Int)->T) (κr:(Bool×(Bool)×(Unit))->T):T:=br (decide (i<a.length)) (br (xjn a i) (br (ixT a i 3 [Sh.int .i64,Sh.int .i64,Sh.str] 0) (br ((xnt a i).isSome) (br (!(xnt a i).getD false) (κr (true,(false),())) (br (xjn a i) (br (ixS a i (Sh.int .i64) 0) (br ((gC a i 0).toInt != 0) (br (xjn a i) (br (ixS a i (Sh.int .i64) 0) (br (ixI b i) (br (ixS b i (Sh.int .i64) 0) (br ((gC a i 0).toInt != (gC b i 0).toInt) (κr (true,(false),())) (κl (i64.wrap (i+1)))) δ) δ) δ) δ) (κl (i64.wrap (i+1)))) δ) δ)) δ) δ) δ) (κr (false,false,()))
def xcD (b a:LA):StT (Int) (Bool×(Bool)×(Unit)):=fun (i)=>xkG b a i none inL inR
def xtp:=xHx.l 43 0 [] [] Tryz.f90 0 lk0 [0,1,5] [4] [] (q3 (qL 3) (qL 1) qI) xPc (fun (b,a,i,_) _=>(xcD b a,(i),fun p=>(.node p.1 (.leaf .ret [AV.bool p.2.1] []) (.leaf (.exit 0) [.top] [])))) (false,false,()) fun (b,a,_,_) _ (i)=>(((b,a,i,()),()),xkG b a i none)
def xtq {T:Type} (b a:LA) (δ:T) (κ:Bool->T):T:=br ((↑b.length:Int) != (↑a.length:Int)) (κ (false)) (br ((Iter (xcD b a) 0).isSome) (br (((Iter (xcD b a) 0).getD (false,false,())).fst) (κ (((Iter (xcD b a) 0).getD (false,false,())).snd.fst)) (κ (true))) δ)
def xsW (b a:LA):=xtq b a none some
def xMo:EO:=xHx.f Tryz.func90 43 0 [] [(4,xtp.lp)] (lk1 xtp.ok) (u2 (uL 3) (uL 1)) (fun (b,a,_) _=>xtq b a) (fun _ p=>AV.bool p) false
def xAK (k:Int):Bool:=(br (k==1) ((true)) (br (k==2) ((true)) ((k==3))))
def xEs {T:Type} (k:Int) (δ:T) (κ:Bool->T):T:=br (k==1) (κ (true)) (br (k==2) (κ (true)) (κ (k==3)))
def xH0:EO:=xMo.fT Tryz.func122 13 0 [] [] lk0 (fun (k,_)=>xEs k none) (u1 uI) (fun (k,_)=>xAK k) (fun _ p=>(AV.bool p))
def xjG {T:Type} (l:LA) (i:Int) (δ:T) (κl:(Int)->T) (κr:(Bool×(Bool)×(Unit))->T):T:=br (decide (i<l.length)) (br (ixI l i) (br (ixS l i (Sh.int .i64) 0) (br (!xAK (gC l i 0).toInt) (κr (true,(false),())) (κl (i64.wrap (i+1)))) δ) δ) (κr (false,false,()))
def xcf (l:LA):StT (Int) (Bool×(Bool)×(Unit)):=fun (i)=>xjG l i none inL inR
def xsJ:=xH0.l 16 0 [] [] Tryz.f91 0 lk0 [0,3] [2] [] (q2 (qL 1) qI) xPc (fun (l,i,_) _=>(xcf l,(i),fun p=>(.node p.1 (.leaf .ret [AV.bool p.2.1] []) (.leaf (.exit 0) [.top] [])))) (false,false,()) fun (l,_,_) _ (i)=>(((l,i,()),()),xjG l i none)
def xr6 {T:Type} (l:LA) (δ:T) (κ:Bool->T):T:=br ((Iter (xcf l) 0).isSome) (br (((Iter (xcf l) 0).getD (false,false,())).fst) (κ (((Iter (xcf l) 0).getD (false,false,())).snd.fst)) (κ (true))) δ
def xu4 (l:LA):=xr6 l none some
def xH1:EO:=xH0.f Tryz.func91 16 0 [] [(2,xsJ.lp)] (lk1 xsJ.ok) (u1 (uL 1)) (fun (l,_) _=>xr6 l) (fun _ p=>AV.bool p) false
def xjH {T:Type} (i:Int) (b a:LA) (δ:T) (κl:(Int×LA×LA)->T) (κr:(Bool×(Bool×LA×LA)×(LA×LA))->T):T:=br (decide (i<a.length)) (br (ixI a i) (br (ixT a i 3 [Sh.int .i64,Sh.int .i64] 1) (br (!xeW (gC a i 1).toInt (gC a i 2).toInt) (κr (true,(false,b,a),([],[]))) (br (ixI a i) (br (ixS a i (Sh.list 3) 0) (br ((xsW (gC a i 0).toList b).isSome) (br (!(xsW (gC a i 0).toList b).getD false) (κr (true,(false,b,a),([],[]))) (κl (i64.wrap (i+1),b,a))) δ) δ) δ)) δ) δ) (κr (false,(false,[],[]),(b,a)))
def xcg:StT (Int×LA×LA) (Bool×(Bool×LA×LA)×(LA×LA)):=fun (i,a,b)=>xjH i a b none inL inR
def xsK:=xH1.l 46 0 [] [] Tryz.f52 0 lk0 [1,3] [1,2] [] (q2 (xPn 0 0 0 0) qI) (q1 (qB 0 2 93 (q1 (xPo (q2 (qL 1) (qL 3)))))) (fun (_,i,_) (((a,b,_),_),_)=>(xcg,(i,a,b),fun p=>(.node p.1 (.leaf .ret [AV.own 0 0 0 0,AV.bool p.2.1.1] [bF 0 2 93 [AV.agg [AV.list 1 p.2.1.2.1,AV.list 3 p.2.1.2.2]]]) (.leaf (.exit 0) [AV.own 0 0 0 0,.top] [bF 0 2 93 [AV.agg [AV.list 1 p.2.2.1,AV.list 3 p.2.2.2]]])))) (false,(false,[],[]),([],[])) fun _ _ (i,a,b)=>((((),i,()),(((a,b,()),()),())),xjH i a b none)
def xqJ (a b:LA):=(Iter xcg (0,a,b)).getD (false,(false,[],[]),[],[])
def xqI (a b:LA):=(xqJ a b).snd
def xqH (a b:LA):=(xqI a b).snd.fst
def xqF (a b:LA):=(↑(xqH a b).length:Int)
def xqG (a b:LA):=xu4 (xqH a b)
def xsb {T:Type} (a b:LA) (δ:T) (κ:Bool->T):T:=br ((Iter xcg (0,a,b)).isSome) (br ((xqJ a b).fst) (κ ((xqI a b).fst.fst)) (br (decide (xqF a b>0)) (br (decide (xqF a b<=48)) (br ((xqG a b).isSome) (κ ((xqG a b).getD false)) δ) (κ (false))) (κ (false)))) δ
def xrc (a b:LA):=xsb a b none some
def xH2:EO:=xH1.f Tryz.func52 46 0 [] [(2,xsK.lp)] (lk1 xsK.ok) (u1 (xPr (u2 (uL 1) (uL 3)))) (fun ((a,b,_),_) _=>xsb a b) (fun _ p=>AV.bool p) false
def xe3 (l:LA) (i:Int):=ixI l i
def xh3 {T:Type} (l a:LA) (i:Int) (δ:T) (κl:(LA×Int)->T) (κr:(LA)->T):T:=br (decide (i<l.length)) (br (xe3 l i) (br (ixT l i 2 [Sh.int .i64,Sh.int .i64] 0) (br (xeW (gC l i 0).toInt (gC l i 1).toInt) (br (xe3 l i) (br (ixS l i (Sh.int .i64) 0) (br ((xb2 a (gC l i 0).toInt).isSome) (br (xe3 l i) (br (ixS l i (Sh.int .i64) 1) (br ((xb2 ((xb2 a (gC l i 0).toInt).getD []) (gC l i 1).toInt).isSome) (κl ((xb2 ((xb2 a (gC l i 0).toInt).getD []) (gC l i 1).toInt).getD [],i64.wrap (i+1))) δ) δ) δ) δ) δ) δ) (κl (a,i64.wrap (i+1)))) δ) δ) (κr (a))
def xcO (l:LA):StT (LA×Int) (LA):=fun (a,i)=>xh3 l a i none inL inR
def xrj:=xH2.l 31 0 [] [] Tryz.f82 0 lk0 [0,3,4] [3] [(3,1,1073741824)] (q3 (qL 2) (qL 1) qI) xPc (fun (l,a,i,_) _=>(xcO l,(a,i),fun p=>(.leaf (.exit 0) [AV.list 1 p] []))) [] fun (l,_,_,_) _ (a,i)=>(((l,a,i,()),()),xh3 l a i none)
def xp8 {T:Type} (l:LA) (δ:T) (κ:LA->T):T:=br ((Iter (xcO l) ([],0)).isSome) (κ ((Iter (xcO l) ([],0)).getD [])) δ
def xto (l:LA):=xp8 l none some
def xH3:EO:=xH2.f Tryz.func82 31 0 [] [(3,xrj.lp)] (lk1 xrj.ok) (u1 (uL 2)) (fun (l,_) _=>xp8 l) (fun _ p=>AV.list 1 p) []
def xgF {T:Type} (l:LA) (t i:Int) (δ:T) (κl:(Int)->T) (κr:(Bool×(Bool)×(Unit))->T):T:=br (decide (i<l.length)) (br (ixI l i) (br (ixT l i 2 [Sh.int .i64,Sh.int .i64] 0) (br (xit (gC l i 0).toInt (gC l i 1).toInt t) (κr (true,(true),())) (κl (i64.wrap (i+1)))) δ) δ) (κr (false,false,()))
def xaV (l:LA) (t:Int):StT (Int) (Bool×(Bool)×(Unit)):=fun (i)=>xgF l t i none inL inR
def xoH:=xH3.l 18 0 [] [] Tryz.f84 0 lk0 [0,1,5] [4] [] (q3 (qL 2) qI qI) xPc (fun (l,t,i,_) _=>(xaV l t,(i),fun p=>(.node p.1 (.leaf .ret [AV.bool p.2.1] []) (.leaf (.exit 0) [.top] [])))) (false,false,()) fun (l,t,_,_) _ (i)=>(((l,t,i,()),()),xgF l t i none)
def xnl {T:Type} (l:LA) (t:Int) (δ:T) (κ:Bool->T):T:=br ((Iter (xaV l t) 0).isSome) (br (((Iter (xaV l t) 0).getD (false,false,())).fst) (κ (((Iter (xaV l t) 0).getD (false,false,())).snd.fst)) (κ (false))) δ
def xgi (l:LA) (t:Int):=xnl l t none some
def xMp:EO:=xH3.f Tryz.func84 18 0 [] [(2,xoH.lp)] (lk1 xoH.ok) (u2 (uL 2) uI) (fun (l,t,_) _=>xnl l t) (fun _ p=>AV.bool p) false
def xb3 (c:Int) (a b:Bool):Bool:=(br (c==1) (br (a) ((b)) ((false))) (br (c==2) (br (a) ((true)) ((b))) (br (c==3) (br (a) ((!b)) ((false))) (br (!a) ((!b)) ((false))))))
def xBw {T:Type} (c:Int) (a b:Bool) (δ:T) (κ:Bool->T):T:=br (c==1) (br (a) (κ (b)) (κ (false))) (br (c==2) (br (a) (κ (true)) (κ (b))) (br (c==3) (br (a) (κ (!b)) (κ (false))) (br (!a) (κ (!b)) (κ (false)))))
def xH4:EO:=xMp.fT Tryz.func83 32 0 [] [] lk0 (fun (c,a,b,_)=>xBw c a b none) (u3 uI (sEq pBool) (sEq pBool)) (fun (c,a,b,_)=>xb3 c a b) (fun _ p=>(AV.bool p))
def xd6 (a:LA) (i:Int):=decide (0<=i64.wrap (i - 1))&&decide (i64.wrap (i - 1)<(↑a.length:Int))
def xd7 (a:LA) (i:Int):=decide ((i64.wrap (i - 1)).toNat<a.length)&&xOq (Sh.int .i64) ((a.getD (i64.wrap (i - 1)).toNat .top).cells.getD 0 .top)
def xbg (a:LA) (i:Int):=((a.getD (i64.wrap (i - 1)).toNat .top).cells.getD 0 .top).toInt
def xf0 (c:LA) (b:Nat) (i:Int) (a:LA):=(xa0 b (xbg c i) (gC c i 0).toInt a).getD (false,(0,[],[]),0,[])
def xfZ (c:LA) (b:Nat) (i:Int) (a:LA):=(xf0 c b i a).fst
def xfx (c:LA) (b:Nat) (i:Int) (a:LA):=(xf0 c b i a).snd
def xfX (c:LA) (b:Nat) (i:Int) (a:LA):=(xfx c b i a).fst
def xfY (c:LA) (b:Nat) (i:Int) (a:LA):=(xfx c b i a).snd
def xer {T:Type} (f:Int) (a b e:LA) (d:Nat) (i:Int) (c:LA) (δ:T) (κl:(Nat×Int×LA)->T) (κr:(Nat×LA)->T):T:=br (decide (i<e.length)) (br (xd6 e i) (br (xd7 e i) (br ((xgi a (xbg e i)).isSome) (br (xd6 e i) (br (xd7 e i) (br ((xgi b (xbg e i)).isSome) (br (xb3 f ((xgi a (xbg e i)).getD false) ((xgi b (xbg e i)).getD false)) (br (xd6 e i) (br (xd7 e i) (br (ixI e i) (br (ixS e i (Sh.int .i64) 0) (br ((xa0 d (xbg e i) (gC e i 0).toInt c).isSome) (κl (br (xfZ e d i c) (xfX e d i c).fst (xfY e d i c).fst,i64.wrap (i+1),br (xfZ e d i c) (xfX e d i c).snd.snd (xfY e d i c).snd)) δ) δ) δ) δ) δ) (κl (d,i64.wrap (i+1),c))) δ) δ) δ) δ) δ) δ) (κr (d,c))
def xbp (e:Int) (a b f:LA):StT (Nat×Int×LA) (Nat×LA):=fun (d,i,c)=>xer e a b f d i c none inL inR
def xoI:=xH4.l 58 0 [] [] Tryz.f50 0 lk0 [0,1,2,8,9,10] [9] [(9,2,44)] (q6 qI (qL 2) (qL 2) (qL 1) (xPm 0 0 0) qI) (q1 (qB 0 2 44 xPe)) (fun (e,a,b,f,d,i,_) (c,_)=>(xbp e a b f,(d,i,c),fun p=>(.leaf (.exit 0) [AV.osl 0 0 0 p.1] [bF 0 2 44 p.2]))) (0,[]) fun (e,a,b,f,_,_,_) _ (d,i,c)=>(((e,a,b,f,d,i,()),(c,())),xer e a b f d i c none)
def xfJ (a b:LA):Nat:=1+a.length+b.length
def xmg (a b:LA):LA:=[AV.agg [AV.int .i64 0,AV.int .i64 1099511627776]]++a++b
def xmf (a b:LA):=xto (List.take (xfJ a b) (List.drop 0 (xmg a b)))
def xme (c:Int) (a b:LA):=Iter (xbp c a b ((xmf a b).getD [])) (0,1,[])
def xmd (c:Int) (a b:LA):=(xme c a b).getD (0,[])
def xmb (c:Int) (a b:LA):=(xmd c a b).snd
def xmc (c:Int) (a b:LA):=(xmd c a b).fst
def xno {T:Type} (c:Int) (a b:LA) (δ:T) (κ:LA->T):T:=br (decide ((1+a.length)*16<=140737488355328)&&decide (1+a.length<=4611686018427387904)) (br (1+a.length==([AV.agg [AV.int .i64 0,AV.int .i64 1099511627776]]++a).length&&(decide (xfJ a b*16<=140737488355328)&&decide (xfJ a b<=4611686018427387904))) (br (decide (0+xfJ a b<=(xmg a b).length)&&true) (br ((xmf a b).isSome) (br ((xme c a b).isSome) (br (decide (0+xmc c a b<=(xmb c a b).length)&&true) (κ (List.take (xmc c a b) (List.drop 0 (xmb c a b)))) δ) δ) δ) δ) δ) δ
def xgj (c:Int) (a b:LA):=xno c a b none some
def xMq:EO:=xH4.f Tryz.func50 58 0 [] [(8,xoI.lp)] (lk1 xoI.ok) (u3 uI (uL 2) (uL 2)) (fun (c,a,b,_) _=>xno c a b) (fun _ p=>AV.list 2 p) []
def xv5 {T:Type} (l:LA) (δ:T) (κ:LA->T):T:=br ((xgj 2 l []).isSome) (κ ((xgj 2 l []).getD [])) δ
def xv4 (l:LA):=xv5 l none some
def xMr:EO:=xMq.f Tryz.func68 5 0 [] [] lk0 (u1 (uL 2)) (fun (l,_) _=>xv5 l) (fun _ p=>AV.list 2 p) []
def xnn {T:Type} (a b:LA) (δ:T) (κ:LA->T):T:=br ((xgj 3 a b).isSome) (κ ((xgj 3 a b).getD [])) δ
def xiv (a b:LA):=xnn a b none some
def xMs:EO:=xMr.f Tryz.func26 8 0 [] [] lk0 (u2 (uL 2) (uL 2)) (fun (a,b,_) _=>xnn a b) (fun _ p=>AV.list 2 p) []
def xpo {T:Type} (e:List UInt8) (b a c d l:LA) (δ:T) (κ:Bool->T):T:=br ((xgc e b a c d).isSome) (br ((xgc e b a c d).getD 0==0) (br ((xeX e b a c d).isSome) (br ((xrc ((xeX e b a c d).getD []) l).isSome) (κ ((xrc ((xeX e b a c d).getD []) l).getD false)) δ) δ) (κ (false))) δ
def xg1 (e:List UInt8) (b a c d l:LA):=xpo e b a c d l none some
def xMy:EO:=xMs.f Tryz.func28 15 0 [] [] lk0 (u2 (xPr (u5 (sEq pStr) (uL 3) (uL 1) (uL 2) (uL 7))) (uL 3)) (fun ((e,b,a,c,d,_),l,_) _=>xpo e b a c d l) (fun _ p=>AV.bool p) false
def xu9 {T:Type} (f:List UInt8) (c a d e b:LA) (δ:T) (κ:LA->T):T:=br ((xjo b a).isSome) (κ ((xjo b a).getD [])) δ
def xrA (e:List UInt8) (b a c d f:LA):=xu9 e b a c d f none some
def xIg:EO:=xMy.f Tryz.func23 9 0 [] [] lk0 (u2 (xPr (u5 (sEq pStr) (uL 3) (uL 1) (uL 2) (uL 7))) (uL 3)) (fun ((e,b,a,c,d,_),g,_) _=>xu9 e b a c d g) (fun _ p=>AV.list 3 p) []
def xho {T:Type} (l h:LA) (b:Nat) (i:Int) (c:List UInt8) (d e f g a:LA) (δ:T) (κl:(Nat×Int×List UInt8×LA×LA×LA×LA×LA)->T) (κr:(Nat×LA)->T):T:=br (decide (i<l.length)) (br (ixI l i) (br (ixS l i (Sh.list 3) 0) (br ((xrA c d e f g (gC l i 0).toList).isSome) (br ((xaw ((xrA c d e f g (gC l i 0).toList).getD []) h).isSome) (br ((xaw ((xrA c d e f g (gC l i 0).toList).getD []) h).getD 0==0) (br (ixI l i) (br (ixT l i 3 [Sh.int .i64,Sh.int .i64] 1) (br (rmB b a 1 16) (κl (b+1,i64.wrap (i+1),c,d,e,f,g,a++[AV.agg [AV.int .i64 (gC l i 1).toInt,AV.int .i64 (gC l i 2).toInt]])) δ) δ) δ) (κl (b,i64.wrap (i+1),c,d,e,f,g,a))) δ) δ) δ) δ) (κr (b,a))
def xcr (l c:LA):StT (Nat×Int×List UInt8×LA×LA×LA×LA×LA) (Nat×LA):=fun (b,i,d,e,f,g,h,a)=>xho l c b i d e f g h a none inL inR
def xpW:=xIg.l 34 0 [] [] Tryz.f69 0 lk0 [1,2,3,7,8] [7] [(7,2,44)] (q5 (qL 3) (qL 3) (xPn 0 0 0 0) (xPm 1 0 0) qI) (q2 (qB 0 5 27 (q1 (xPo (q5 pStr (qL 3) (qL 1) (qL 2) (qL 7))))) (qB 0 2 44 xPe)) (fun (l,c,_,b,i,_) (((d,e,f,g,h,_),_),a,_)=>(xcr l c,(b,i,d,e,f,g,h,a),fun p=>(.leaf (.exit 0) [AV.osl 0 0 0 p.1] [bF 0 2 44 p.2]))) (0,[]) fun (l,c,_,_,_,_) _ (b,i,d,e,f,g,h,a)=>(((l,c,(),b,i,()),(((d,e,f,g,h,()),()),a,())),xho l c b i d e f g h a none)
def xnH (e:List UInt8) (b a c d l f:LA):=Iter (xcr l f) (0,0,e,b,a,c,d,[])
def xnG (e:List UInt8) (b a c d l f:LA):=(xnH e b a c d l f).getD (0,[])
def xnE (e:List UInt8) (b a c d l f:LA):=(xnG e b a c d l f).fst
def xnF (e:List UInt8) (b a c d l f:LA):=(xnG e b a c d l f).snd
def xpp {T:Type} (e:List UInt8) (b a c d l f:LA) (δ:T) (κ:LA->T):T:=br ((xnH e b a c d l f).isSome) (br (decide (0+xnE e b a c d l f<=(xnF e b a c d l f).length)&&true) (κ (List.take (xnE e b a c d l f) (List.drop 0 (xnF e b a c d l f)))) δ) δ
def xjY (e:List UInt8) (b a c d l f:LA):=xpp e b a c d l f none some
def xMz:EO:=xIg.f Tryz.func69 34 0 [] [(3,xpW.lp)] (lk1 xpW.ok) (u3 (xPr (u5 (sEq pStr) (uL 3) (uL 1) (uL 2) (uL 7))) (uL 3) (uL 3)) (fun ((e,b,a,c,d,_),l,g,_) _=>xpp e b a c d l g) (fun _ p=>AV.list 2 p) []
def xnD {T:Type} (e:List UInt8) (b a c d l f:LA) (δ:T) (κ:LA->T):T:=br ((xjY e b a c d l f).isSome) (br ((xv4 ((xjY e b a c d l f).getD [])).isSome) (κ ((xv4 ((xjY e b a c d l f).getD [])).getD [])) δ) δ
def xgo (e:List UInt8) (b a c d l f:LA):=xnD e b a c d l f none some
def xIh:EO:=xMz.f Tryz.func38 12 0 [] [] lk0 (u3 (xPr (u5 (sEq pStr) (uL 3) (uL 1) (uL 2) (uL 7))) (uL 3) (uL 3)) (fun ((e,b,a,c,d,_),l,g,_) _=>xnD e b a c d l g) (fun _ p=>AV.list 2 p) []
def xbc (b:LA) (i:Int):=ixI b i
def xbd (a:LA) (i:Int):=ixI a i
def xdY {T:Type} (a b:LA) (i:Int) (δ:T) (κl:(Int)->T) (κr:(Bool×(Bool)×(Unit))->T):T:=br (decide (i<a.length)) (br (xbd a i) (br (ixS a i (Sh.int .i64) 0) (br (xbc b i) (br (ixS b i (Sh.int .i64) 0) (br ((gC a i 0).toInt != (gC b i 0).toInt) (κr (true,(false),())) (br (xbd a i) (br (decide (i.toNat<a.length)&&xOq Sh.str (gC a i 1)) (br (xbc b i) (br (decide (i.toNat<b.length)&&xOq Sh.str (gC b i 1)) (br (!(gC a i 1).toStr==(gC b i 1).toStr) (κr (true,(false),())) (br (xbd a i) (br (ixS a i (Sh.int .i64) 2) (br (xbc b i) (br (ixS b i (Sh.int .i64) 2) (br ((gC a i 2).toInt != (gC b i 2).toInt) (κr (true,(false),())) (br (xbd a i) (br (ixT a i 6 [Sh.int .i64,Sh.int .i64] 4) (br (xbc b i) (br (ixT b i 6 [Sh.int .i64,Sh.int .i64] 4) (br (!((gC a i 4).toInt==(gC b i 4).toInt&&((gC a i 5).toInt==(gC b i 5).toInt&&true))) (κr (true,(false),())) (br (xbd a i) (br (ixS a i (Sh.list 3) 3) (br (xbc b i) (br (ixS b i (Sh.list 3) 3) (br ((xaw (gC a i 3).toList (gC b i 3).toList).isSome) (br ((xaw (gC a i 3).toList (gC b i 3).toList).getD 0 != 0) (κr (true,(false),())) (κl (i64.wrap (i+1)))) δ) δ) δ) δ) δ)) δ) δ) δ) δ)) δ) δ) δ) δ)) δ) δ) δ) δ)) δ) δ) δ) δ) (κr (false,false,()))
def xaI (a b:LA):StT (Int) (Bool×(Bool)×(Unit)):=fun (i)=>xdY a b i none inL inR
def xjX:=xIh.l 81 0 [] [] Tryz.f15 0 lk0 [0,1,5] [4] [] (q3 (qL 6) (qL 6) qI) xPc (fun (a,b,i,_) _=>(xaI a b,(i),fun p=>(.node p.1 (.leaf .ret [AV.bool p.2.1] []) (.leaf (.exit 0) [.top] [])))) (false,false,()) fun (a,b,_,_) _ (i)=>(((a,b,i,()),()),xdY a b i none)
def xhP {T:Type} (a b:LA) (δ:T) (κ:Bool->T):T:=br ((↑a.length:Int) != (↑b.length:Int)) (κ (false)) (br ((Iter (xaI a b) 0).isSome) (br (((Iter (xaI a b) 0).getD (false,false,())).fst) (κ (((Iter (xaI a b) 0).getD (false,false,())).snd.fst)) (κ (true))) δ)
def xb0 (a b:LA):=xhP a b none some
def xIi:EO:=xIh.f Tryz.func15 81 0 [] [(4,xjX.lp)] (lk1 xjX.ok) (u2 (uL 6) (uL 6)) (fun (a,b,_) _=>xhP a b) (fun _ p=>AV.bool p) false
def xkR {T:Type} (i:Int) (a:LA) (c:List UInt8) (b:LA) (d:List UInt8) (δ:T) (κl:(Int×LA×List UInt8×LA×List UInt8)->T) (κr:(Bool×(Bool)×(Unit))->T):T:=br (decide (i<a.length)) (br (ixI a i) (br (ixS a i (Sh.int .i64) 0) (br (ixI b i) (br (ixS b i (Sh.int .i64) 0) (br ((gC a i 0).toInt != (gC b i 0).toInt) (κr (true,(false),())) (κl (i64.wrap (i+1),a,c,b,d))) δ) δ) δ) δ) (κr (false,false,()))
def xdV:StT (Int×LA×List UInt8×LA×List UInt8) (Bool×(Bool)×(Unit)):=fun (i,a,b,c,d)=>xkR i a b c d none inL inR
def xtU:=xIi.l 38 0 [] [] Tryz.f54 0 lk0 [2,3,5] [4] [] (q3 (xPn 0 0 0 0) (xPn 1 0 0 0) qI) (q2 (qB 0 2 34 (q1 (xPo (q2 (qL 1) pStr)))) (qB 0 2 34 (q1 (xPo (q2 (qL 1) pStr))))) (fun (_,_,i,_) (((a,b,_),_),((c,d,_),_),_)=>(xdV,(i,a,b,c,d),fun p=>(.node p.1 (.leaf .ret [AV.bool p.2.1] []) (.leaf (.exit 0) [.top] [])))) (false,false,()) fun _ _ (i,a,b,c,d)=>((((),(),i,()),(((a,b,()),()),((c,d,()),()),())),xkR i a b c d none)
def xso (a:LA) (b:List UInt8) (c:LA) (d:List UInt8):=Iter xdV (0,a,b,c,d)
def xsn (a:LA) (b:List UInt8) (c:LA) (d:List UInt8):=(xso a b c d).getD (false,false,())
def xtV {T:Type} (a:LA) (b:List UInt8) (c:LA) (d:List UInt8) (δ:T) (κ:Bool->T):T:=br (!b==d) (κ (false)) (br ((↑a.length:Int) != (↑c.length:Int)) (κ (false)) (br ((xso a b c d).isSome) (br ((xsn a b c d).fst) (κ ((xsn a b c d).snd.fst)) (κ (true))) δ))
def xsx (a:LA) (b:List UInt8) (c:LA) (d:List UInt8):=xtV a b c d none some
def xDm:EO:=xIi.f Tryz.func54 38 0 [] [(4,xtU.lp)] (lk1 xtU.ok) (u2 (xPr (u2 (uL 1) (sEq pStr))) (xPr (u2 (uL 1) (sEq pStr)))) (fun ((a,b,_),(c,d,_),_) _=>xtV a b c d) (fun _ p=>AV.bool p) false
def xkP {T:Type} (j:Bool) (i:Int) (k:List UInt8) (l m a n g:LA) (h b:List UInt8) (c d e f:LA) (δ:T) (κl:(Bool×Int×List UInt8×LA×LA×LA×LA×LA×List UInt8×List UInt8×LA×LA×LA×LA)->T) (κr:(Bool×List UInt8×LA×LA×LA×LA×LA×List UInt8×List UInt8×LA×LA×LA×LA)->T):T:=br (decide (i<a.length)) (br (j) (κl (true,i64.wrap (i+1),k,l,m,a,n,g,h,b,c,d,e,f)) (br (ixI a i) (br (ixT a i 2 [Sh.list 1,Sh.str] 0) (br ((xsx (gC a i 0).toList (gC a i 1).toStr g h).isSome) (κl ((xsx (gC a i 0).toList (gC a i 1).toStr g h).getD false,i64.wrap (i+1),k,l,m,a,n,g,h,b,c,d,e,f)) δ) δ) δ)) (κr (j,k,l,m,a,n,g,h,b,c,d,e,f))
def xdT:StT (Bool×Int×List UInt8×LA×LA×LA×LA×LA×List UInt8×List UInt8×LA×LA×LA×LA) (Bool×List UInt8×LA×LA×LA×LA×LA×List UInt8×List UInt8×LA×LA×LA×LA):=fun (f,i,g,h,j,k,l,m,n,a,b,c,d,e)=>xkP f i g h j k l m n a b c d e none inL inR
def xnI:=xDm.l 76 0 [] [] Tryz.f29 0 lk0 [3,4,5,7,8] [3,4,5,7] [] (q5 (xPn 0 0 0 0) (xPn 1 0 0 0) (xPn 2 0 0 0) pBool qI) (q3 (qB 0 5 27 (q1 (xPo (q5 pStr (qL 3) (qL 1) (qL 2) (qL 7))))) (qB 0 2 34 (q1 (xPo (q2 (qL 1) pStr)))) (qB 0 5 27 (q1 (xPo (q5 pStr (qL 3) (qL 1) (qL 2) (qL 7)))))) (fun (_,_,_,f,i,_) (((g,h,j,k,m,_),_),((n,o,_),_),((a,b,c,d,e,_),_),_)=>(xdT,(f,i,g,h,j,k,m,n,o,a,b,c,d,e),fun p=>(.leaf (.exit 0) [AV.own 0 0 0 0,AV.own 1 0 0 0,AV.own 2 0 0 0,AV.bool p.1] [bF 0 5 27 [AV.agg [AV.str p.2.1,AV.list 3 p.2.2.1,AV.list 1 p.2.2.2.1,AV.list 2 p.2.2.2.2.1,AV.list 7 p.2.2.2.2.2.1]],bF 0 2 34 [AV.agg [AV.list 1 p.2.2.2.2.2.2.1,AV.str p.2.2.2.2.2.2.2.1]],bF 0 5 27 [AV.agg [AV.str p.2.2.2.2.2.2.2.2.1,AV.list 3 p.2.2.2.2.2.2.2.2.2.1,AV.list 1 p.2.2.2.2.2.2.2.2.2.2.1,AV.list 2 p.2.2.2.2.2.2.2.2.2.2.2.1,AV.list 7 p.2.2.2.2.2.2.2.2.2.2.2.2]]]))) (false,[],[],[],[],[],[],[],[],[],[],[],[]) fun _ _ (f,i,g,h,j,k,m,n,o,a,b,c,d,e)=>((((),(),(),f,i,()),(((g,h,j,k,m,()),()),((n,o,()),()),((a,b,c,d,e,()),()),())),xkP f i g h j k m n o a b c d e none)
def xkQ {T:Type} (a b:LA) (i:Int) (d:LA) (j e:List UInt8) (f c g h:LA) (δ:T) (κl:(Int×LA×List UInt8×List UInt8×LA×LA×LA×LA)->T) (κr:(Bool×(Bool)×(Unit))->T):T:=br (decide (i<d.length)) (br (ixI d i) (br (ixS d i (Sh.int .i64) 0) (br (decide (0<=(gC d i 0).toInt)&&decide ((gC d i 0).toInt<a.length)) (br (decide ((gC d i 0).toInt.toNat<a.length)&&xOq (Sh.int .i64) ((a.getD (gC d i 0).toInt.toNat .top).cells.getD 0 .top)) (br (ixI c i) (br (ixS c i (Sh.int .i64) 0) (br (decide (0<=(gC c i 0).toInt)&&decide ((gC c i 0).toInt<b.length)) (br (decide ((gC c i 0).toInt.toNat<b.length)&&xOq (Sh.int .i64) ((b.getD (gC c i 0).toInt.toNat .top).cells.getD 0 .top)) (br (((a.getD (gC d i 0).toInt.toNat .top).cells.getD 0 .top).toInt != ((b.getD (gC c i 0).toInt.toNat .top).cells.getD 0 .top).toInt) (κr (true,(false),())) (κl (i64.wrap (i+1),d,j,e,f,c,g,h))) δ) δ) δ) δ) δ) δ) δ) δ) (κr (false,false,()))
def xdU (a b:LA):StT (Int×LA×List UInt8×List UInt8×LA×LA×LA×LA) (Bool×(Bool)×(Unit)):=fun (i,h,j,c,d,e,f,g)=>xkQ a b i h j c d e f g none inL inR
def xtS:=xDm.l 76 0 [] [(5,xnI.lp)] Tryz.f29 1 lk0 [4,5,9,10,11] [6] [] (q5 (xPn 0 0 0 0) (xPn 1 0 0 0) (qL 1) (qL 1) qI) (q2 (qB 0 2 34 (q1 (xPo (q2 (qL 1) pStr)))) (qB 0 5 27 (q1 (xPo (q5 pStr (qL 3) (qL 1) (qL 2) (qL 7)))))) (fun (_,_,a,b,i,_) (((h,j,_),_),((c,d,e,f,g,_),_),_)=>(xdU a b,(i,h,j,c,d,e,f,g),fun p=>(.node p.1 (.leaf .ret [AV.bool p.2.1] []) (.leaf (.exit 2) [.top] [])))) (false,false,()) fun (_,_,a,b,_,_) _ (i,h,j,c,d,e,f,g)=>((((),(),a,b,i,()),(((h,j,()),()),((c,d,e,f,g,()),()),())),xkQ a b i h j c d e f g none)
def xqX (j:List UInt8) (g f h i k:LA) (l e:List UInt8) (b a c d:LA):=Iter xdT (false,0,j,g,f,h,i,k,l,e,b,a,c,d)
def xqW (j:List UInt8) (g f h i k:LA) (l e:List UInt8) (b a c d:LA):=(xqX j g f h i k l e b a c d).getD (false,[],[],[],[],[],[],[],[],[],[],[],[])
def xqV (j:List UInt8) (g f h i k:LA) (l e:List UInt8) (b a c d:LA):=(xqW j g f h i k l e b a c d).snd
def xqU (j:List UInt8) (g f h i k:LA) (l e:List UInt8) (b a c d:LA):=(xqV j g f h i k l e b a c d).snd
def xqT (j:List UInt8) (g f h i k:LA) (l e:List UInt8) (b a c d:LA):=(xqU j g f h i k l e b a c d).snd
def xqS (j:List UInt8) (g f h i k:LA) (l e:List UInt8) (b a c d:LA):=(xqT j g f h i k l e b a c d).snd
def xqR (j:List UInt8) (g f h i k:LA) (l e:List UInt8) (b a c d:LA):=(xqS j g f h i k l e b a c d).snd
def xsf (j:List UInt8) (g f h i k:LA) (l e:List UInt8) (b a c d:LA):=xeX (xqV j g f h i k l e b a c d).fst (xqU j g f h i k l e b a c d).fst (xqT j g f h i k l e b a c d).fst (xqS j g f h i k l e b a c d).fst (xqR j g f h i k l e b a c d).fst
def xqQ (j:List UInt8) (g f h i k:LA) (l e:List UInt8) (b a c d:LA):=(xqR j g f h i k l e b a c d).snd
def xqP (j:List UInt8) (g f h i k:LA) (l e:List UInt8) (b a c d:LA):=(xqQ j g f h i k l e b a c d).snd
def xqO (j:List UInt8) (g f h i k:LA) (l e:List UInt8) (b a c d:LA):=(xqP j g f h i k l e b a c d).snd
def xqM (j:List UInt8) (g f h i k:LA) (l e:List UInt8) (b a c d:LA):=(xqO j g f h i k l e b a c d).fst
def xqN (j:List UInt8) (g f h i k:LA) (l e:List UInt8) (b a c d:LA):=(xqO j g f h i k l e b a c d).snd
def xsk (j:List UInt8) (g f h i k:LA) (l e:List UInt8) (b a c d:LA):=(xqN j g f h i k l e b a c d).snd
def xsl (j:List UInt8) (g f h i k:LA) (l e:List UInt8) (b a c d:LA):=(xqN j g f h i k l e b a c d).fst
def xsi (j:List UInt8) (g f h i k:LA) (l e:List UInt8) (b a c d:LA):=(xsk j g f h i k l e b a c d).snd
def xsj (j:List UInt8) (g f h i k:LA) (l e:List UInt8) (b a c d:LA):=(xsk j g f h i k l e b a c d).fst
def xsg (j:List UInt8) (g f h i k:LA) (l e:List UInt8) (b a c d:LA):=(xsi j g f h i k l e b a c d).fst
def xsh (j:List UInt8) (g f h i k:LA) (l e:List UInt8) (b a c d:LA):=(xsi j g f h i k l e b a c d).snd
def xse (j:List UInt8) (g f h i k:LA) (l e:List UInt8) (b a c d:LA):=xeX (xqM j g f h i k l e b a c d) (xsl j g f h i k l e b a c d) (xsj j g f h i k l e b a c d) (xsg j g f h i k l e b a c d) (xsh j g f h i k l e b a c d)
def xsd (j:List UInt8) (g f h i k:LA) (l e:List UInt8) (b a c d:LA):=Iter (xdU ((xsf j g f h i k l e b a c d).getD []) ((xse j g f h i k l e b a c d).getD [])) (0,(xqQ j g f h i k l e b a c d).fst,(xqP j g f h i k l e b a c d).fst,xqM j g f h i k l e b a c d,xsl j g f h i k l e b a c d,xsj j g f h i k l e b a c d,xsg j g f h i k l e b a c d,xsh j g f h i k l e b a c d)
def xsc (j:List UInt8) (g f h i k:LA) (l e:List UInt8) (b a c d:LA):=(xsd j g f h i k l e b a c d).getD (false,false,())
def xtT {T:Type} (j:List UInt8) (g f h i k:LA) (l e:List UInt8) (b a c d:LA) (δ:T) (κ:Bool->T):T:=br ((xgc j g f h i).isSome) (br ((xgc j g f h i).getD 0 != 0) (κ (false)) (br ((xgc e b a c d).isSome) (br ((xgc e b a c d).getD 0 != 0) (κ (false)) (br ((↑k.length:Int) != (↑a.length:Int)) (κ (false)) (br ((xqX j g f h i k l e b a c d).isSome) (br (!(xqW j g f h i k l e b a c d).fst) (κ (false)) (br ((xsf j g f h i k l e b a c d).isSome) (br ((xse j g f h i k l e b a c d).isSome) (br ((xsd j g f h i k l e b a c d).isSome) (br ((xsc j g f h i k l e b a c d).fst) (κ ((xsc j g f h i k l e b a c d).snd.fst)) (κ (true))) δ) δ) δ)) δ))) δ)) δ
def xsZ (j:List UInt8) (g f h i k:LA) (l e:List UInt8) (b a c d:LA):=xtT j g f h i k l e b a c d none some
def xMA:EO:=xDm.f Tryz.func29 76 0 [] [(5,xnI.lp),(12,xtS.lp)] (lks (lkC xnI.ok (lkC xtS.ok lkN))) (u3 (xPr (u5 (sEq pStr) (uL 3) (uL 1) (uL 2) (uL 7))) (xPr (u2 (uL 1) (sEq pStr))) (xPr (u5 (sEq pStr) (uL 3) (uL 1) (uL 2) (uL 7)))) (fun ((k,h,g,i,j,_),(l,m,_),(e,b,a,c,d,_),_) _=>xtT k h g i j l m e b a c d) (fun _ p=>AV.bool p) false
def xqY {T:Type} (a:LA) (c:List UInt8) (b:LA) (δ:T) (κ:Bool->T):T:=br ((xm1 b a).isSome) (κ (!(xm1 b a).getD false)) δ
def xpr (a:LA) (b:List UInt8) (c:LA):=xqY a b c none some
def xIj:EO:=xMA.f Tryz.func37 10 0 [] [] lk0 (u2 (xPr (u2 (uL 1) (sEq pStr))) (uL 3)) (fun ((a,b,_),c,_) _=>xqY a b c) (fun _ p=>AV.bool p) false
def xdp (l:LA) (i:Int):=ixI l i
def xgK (l g:LA) (i:Int) (f:LA) (a:List UInt8) (b c d e:LA):=xiv [AV.agg [AV.int .i64 (gC l i 1).toInt,AV.int .i64 (gC l i 2).toInt]] ((xgo a b c d e g ((xjo (gC l i 0).toList f).getD [])).getD [])
def xeu (l:LA) (i:Int):=decide (i.toNat<l.length)&&xOq (Sh.list 3) (gC l i 0)
def xgJ (l g:LA) (i:Int) (f:LA) (a:List UInt8) (b c d e:LA):=xe5 (gC l i 0).toList ((xgK l g i f a b c d e).getD [])
def xgI (l g:LA) (i:Int) (f:LA) (a:List UInt8) (b c d e:LA):=(xgJ l g i f a b c d e).getD []
def xet (l h:LA) (f:Nat) (i:Int) (g:LA) (a:List UInt8) (b c d e:LA):=f+(xgI l h i g a b c d e).length
def xe8 {T:Type} (l j:LA) (g:Nat) (i:Int) (f:LA) (k a:List UInt8) (b c d e h:LA) (δ:T) (κl:(Nat×Int×LA×List UInt8×List UInt8×LA×LA×LA×LA×LA)->T) (κr:(Nat×LA)->T):T:=br (decide (i<l.length)) (br (xdp l i) (br (xeu l i) (br ((xpr f k (gC l i 0).toList).isSome) (br (!(xpr f k (gC l i 0).toList).getD false) (κl (g,i64.wrap (i+1),f,k,a,b,c,d,e,h)) (br (xdp l i) (br (xeu l i) (br ((xjo (gC l i 0).toList f).isSome) (br ((xgo a b c d e j ((xjo (gC l i 0).toList f).getD [])).isSome) (br (xdp l i) (br (xeu l i) (br (xdp l i) (br (ixT l i 3 [Sh.int .i64,Sh.int .i64] 1) (br ((xgK l j i f a b c d e).isSome) (br ((xgJ l j i f a b c d e).isSome) (br (g==h.length&&(decide (xet l j g i f a b c d e*40<=140737488355328)&&decide (xet l j g i f a b c d e<=4611686018427387904))) (κl (xet l j g i f a b c d e,i64.wrap (i+1),f,k,a,b,c,d,e,h++xgI l j i f a b c d e)) δ) δ) δ) δ) δ) δ) δ) δ) δ) δ) δ)) δ) δ) δ) (κr (g,h))
def xbE (l k:LA):StT (Nat×Int×LA×List UInt8×List UInt8×LA×LA×LA×LA×LA) (Nat×LA):=fun (g,i,h,j,a,b,c,d,e,f)=>xe8 l k g i h j a b c d e f none inL inR
def xpX:=xIj.l 55 0 [] [] Tryz.f12 0 lk0 [1,3,4,6,9,10] [9] [(9,3,54)] (q6 (qL 3) (qL 3) (xPn 0 0 0 0) (xPn 1 0 0 0) (xPm 2 0 0) qI) (q3 (qB 0 2 34 (q1 (xPo (q2 (qL 1) pStr)))) (qB 0 5 27 (q1 (xPo (q5 pStr (qL 3) (qL 1) (qL 2) (qL 7))))) (qB 0 3 54 xPe)) (fun (l,k,_,_,g,i,_) (((h,j,_),_),((a,b,c,d,e,_),_),f,_)=>(xbE l k,(g,i,h,j,a,b,c,d,e,f),fun p=>(.leaf (.exit 0) [AV.osl 0 0 0 p.1] [bF 0 3 54 p.2]))) (0,[]) fun (l,k,_,_,_,_,_) _ (g,i,h,j,a,b,c,d,e,f)=>(((l,k,(),(),g,i,()),(((h,j,()),()),((a,b,c,d,e,()),()),f,())),xe8 l k g i h j a b c d e f none)
def xnN (f:LA) (g:List UInt8) (l:LA) (e:List UInt8) (b a c d h:LA):=Iter (xbE l h) (0,0,f,g,e,b,a,c,d,[])
def xnM (f:LA) (g:List UInt8) (l:LA) (e:List UInt8) (b a c d h:LA):=(xnN f g l e b a c d h).getD (0,[])
def xnK (f:LA) (g:List UInt8) (l:LA) (e:List UInt8) (b a c d h:LA):=(xnM f g l e b a c d h).snd
def xnL (f:LA) (g:List UInt8) (l:LA) (e:List UInt8) (b a c d h:LA):=(xnM f g l e b a c d h).fst
def xnJ (f:LA) (g:List UInt8) (l:LA) (e:List UInt8) (b a c d h:LA):=xyi (List.take (xnL f g l e b a c d h) (List.drop 0 (xnK f g l e b a c d h)))
def xpq {T:Type} (f:LA) (g:List UInt8) (l:LA) (e:List UInt8) (b a c d h:LA) (δ:T) (κ:LA->T):T:=br ((xnN f g l e b a c d h).isSome) (br (decide (0+xnL f g l e b a c d h<=(xnK f g l e b a c d h).length)&&true) (br ((xnJ f g l e b a c d h).isSome) (κ ((xnJ f g l e b a c d h).getD [])) δ) δ) δ
def xbz (f:LA) (g:List UInt8) (l:LA) (e:List UInt8) (b a c d h:LA):=xpq f g l e b a c d h none some
def xKX:EO:=xIj.f Tryz.func12 55 0 [] [(3,xpX.lp)] (lk1 xpX.ok) (u4 (xPr (u2 (uL 1) (sEq pStr))) (uL 3) (xPr (u5 (sEq pStr) (uL 3) (uL 1) (uL 2) (uL 7))) (uL 3)) (fun ((g,h,_),l,(e,b,a,c,d,_),i,_) _=>xpq g h l e b a c d i) (fun _ p=>AV.list 3 p) []
def xsm {T:Type} (f:LA) (g:List UInt8) (l:LA) (e:List UInt8) (b a c d h:LA) (δ:T) (κ:Bool->T):T:=br ((xbz f g l e b a c d h).isSome) (κ ((↑((xbz f g l e b a c d h).getD []).length:Int)==0)) δ
def xmH (f:LA) (g:List UInt8) (l:LA) (e:List UInt8) (b a c d h:LA):=xsm f g l e b a c d h none some
def xyD:EO:=xKX.f Tryz.func14 16 0 [] [] lk0 (u4 (xPr (u2 (uL 1) (sEq pStr))) (uL 3) (xPr (u5 (sEq pStr) (uL 3) (uL 1) (uL 2) (uL 7))) (uL 3)) (fun ((g,h,_),l,(e,b,a,c,d,_),i,_) _=>xsm g h l e b a c d i) (fun _ p=>AV.bool p) false
def xfr {T:Type} (c:Int) (m:LA) (b:Nat) (i:Int) (d:List UInt8) (e f g h a:LA) (δ:T) (κl:(Nat×Int×List UInt8×LA×LA×LA×LA×LA)->T) (κr:(Nat×LA)->T):T:=br (decide (i<m.length)) (br (ixI m i) (br (ixS m i (Sh.list 3) 0) (br (ixI m i) (br (ixT m i 3 [Sh.int .i64,Sh.int .i64] 1) (br (rmB b a 1 72) (κl (b+1,i64.wrap (i+1),d,e,f,g,h,a++[AV.agg [AV.int .i64 3,AV.str d,AV.int .i64 c,AV.list 3 (gC m i 0).toList,AV.int .i64 (gC m i 1).toInt,AV.int .i64 (gC m i 2).toInt]])) δ) δ) δ) δ) δ) (κr (b,a))
def xbF (b:Int) (m:LA):StT (Nat×Int×List UInt8×LA×LA×LA×LA×LA) (Nat×LA):=fun (c,i,d,e,f,g,h,a)=>xfr b m c i d e f g h a none inL inR
def xmI:=xyD.l 57 0 [] [] Tryz.f17 0 lk0 [1,5,11,12,13] [12] [(12,6,67)] (q5 qI (xPn 0 0 0 0) (qL 3) (xPm 1 0 0) qI) (q2 (qB 0 5 27 (q1 (xPo (q5 pStr (qL 3) (qL 1) (qL 2) (qL 7))))) (qB 0 6 67 xPe)) (fun (b,_,m,c,i,_) (((d,e,f,g,h,_),_),a,_)=>(xbF b m,(c,i,d,e,f,g,h,a),fun p=>(.leaf (.exit 0) [AV.osl 0 0 0 p.1] [bF 0 6 67 p.2]))) (0,[]) fun (b,_,m,_,_,_) _ (c,i,d,e,f,g,h,a)=>(((b,(),m,c,i,()),(((d,e,f,g,h,()),()),a,())),xfr b m c i d e f g h a none)
def xdq:Env:=xyD.E.fn 57 0 (lsOf []) (xOP [(6,xmI.lp)])
theorem xva:xOs P0 (xO9.at 0) xdq:=xyD.ok.fn
theorem xtW:LoOk P0 (xO9.at xdq.pin) xdq (Tryz.f17.body.getD .skip):=xfE (ls:=[xOw Tryz.f17 0]) (by kernel_rfl) (lkC xmI.ok lkN)
def xkB (f:LA) (g:Int) (l:LA) (e:List UInt8) (b a c d h:LA):=xrv ((xbz (gC f g 0).toList (gC f g 1).toStr l e b a c d h).getD [])
def xkA (k:List UInt8) (i h f j:LA) (g:Int) (l:LA) (e:List UInt8) (b a c d m:LA):=Iter (xbF g ((xkB f g l e b a c d m).getD [])) (0,0,k,i,h,f,j,[])
def xkz (k:List UInt8) (g f h i:LA) (j:Int) (l:LA) (e:List UInt8) (b a c d m:LA):=(xkA k g f h i j l e b a c d m).getD (0,[])
def xkw (k:List UInt8) (g f h i:LA) (j:Int) (l:LA) (e:List UInt8) (b a c d m:LA):=(xkz k g f h i j l e b a c d m).fst
def xky (k:List UInt8) (g f h i:LA) (j:Int) (l:LA) (e:List UInt8) (b a c d m:LA):=(xkz k g f h i j l e b a c d m).snd
def xe9 {T:Type} (k:List UInt8) (i h g j:LA) (f:Int) (l:LA) (e:List UInt8) (b a c d m:LA) (δ:T) (κ:Bool×(Unit)×(LA)->T):T:=br (decide (f<0)) (κ (true,(),[])) (br (decide (f>=g.length)) (κ (true,(),[])) (br (ixI g f) (br (ixT g f 2 [Sh.list 1,Sh.str] 0) (br ((xbz (gC g f 0).toList (gC g f 1).toStr l e b a c d m).isSome) (br ((xkB g f l e b a c d m).isSome) (br ((xkA k i h g j f l e b a c d m).isSome) (br (decide (0+xkw k i h g j f l e b a c d m<=(xky k i h g j f l e b a c d m).length)&&true) (κ (false,(),(List.take (xkw k i h g j f l e b a c d m) (List.drop 0 (xky k i h g j f l e b a c d m))))) δ) δ) δ) δ) δ) δ))
def xaA (k:List UInt8) (g f h i:LA) (j:Int) (l:LA) (e:List UInt8) (b a c d m:LA):Option (LA):=xe9 k g f h i j l e b a c d m none (fun (p:Bool×(Unit)×(LA))=>some (br p.1 ([]) p.2.2))
theorem xym (m:List UInt8) (g f i j:LA) (k:Int) (l:LA) (e:List UInt8) (b a c d n:LA):EncS (fun (p:LA)=>(AV.list 6 p:AV)) (xaA m g f i j k l e b a c d n) (XF P0 xdq Tryz.f17 (Tryz.f17.body.getD .skip) [AV.agg [AV.str m,AV.list 3 g,AV.list 1 f,AV.list 2 i,AV.list 7 j],AV.int .i64 k,AV.list 3 l,AV.agg [AV.str e,AV.list 3 b,AV.list 1 a,AV.list 2 c,AV.list 7 d],AV.list 3 n]):=by
 have h:XF P0 xdq Tryz.f17 (Tryz.f17.body.getD .skip) [AV.agg [AV.str m,AV.list 3 g,AV.list 1 f,AV.list 2 i,AV.list 7 j],AV.int .i64 k,AV.list 3 l,AV.agg [AV.str e,AV.list 3 b,AV.list 1 a,AV.list 2 c,AV.list 7 d],AV.list 3 n]=xe9 m g f i j k l e b a c d n none (fun (p:Bool×(Unit)×(LA))=>some ((br p.1 (AV.nils) (AV.list 6 p.2.2)):AV)):=by kernel_rfl
 rw [h];unfold xaA xe9;repeat' (first|exact EncS.none|exact EncS.some (Sub.refl _)|exact EncS.some (xq2 _)|exact EncS.some (xwD _ _)|refine EncS.br ?_ ?_)
def xyl:LA->Option (Bool×AV):=ocOf (xPb (xPr (xPb (sEq pStr) (xPb (xPq 3 xPe) (xPb (xPq 1 xPe) (xPb (xPq 2 xPe) (xPb (xPq 7 xPe) xPd)))))) (xPb (sEq (pInt .i64)) (xPb (xPq 3 xPe) (xPb (xPr (xPb (sEq pStr) (xPb (xPq 3 xPe) (xPb (xPq 1 xPe) (xPb (xPq 2 xPe) (xPb (xPq 7 xPe) xPd)))))) (xPb (xPq 3 xPe) xPd))))) fun ((k,(g,(f,(h,(i,_))))),(j,(l,((e,(b,(a,(c,(d,_))))),(m,_)))))=>((xaA k g f h i j l e b a c d m).isSome,(AV.list 6 ((xaA k g f h i j l e b a c d m).getD [])))
theorem xyk:OcOk P0 xO9 17 (xyl):=xfn fun o u q=>by
 obtain ⟨⟨r,⟨j,⟨g,⟨k,⟨m,_⟩⟩⟩⟩⟩,⟨n,⟨l,⟨⟨f,⟨b,⟨a,⟨c,⟨e,_⟩⟩⟩⟩⟩,⟨v,_⟩⟩⟩⟩⟩:=o;obtain ⟨h,i⟩:=Prod.mk.inj q;obtain ⟨y,s,t⟩:=xym _ _ _ _ _ _ _ _ _ _ _ _ _ _ (xaH (d:=[]) h);have hg:Good P0 xO9 17 _ _:=xd5 (p:=xdq.pin) (xgh xOC (xOD P0 _) rfl xva Tryz.func17 rfl (by kernel_rfl) xtW s)
 rw [<-i];exact Good.sub hg t
def xKY:EO:=xyD.w xyk
def xL6:EO:=xHL.w xyq
def xDb:EO:=xL6.w xwG
def xj3:Env:=xDb.E.fn 24 1 (lsOf [8000000]) (xOP [])
theorem xBs:xOs P0 (xO9.at 1) xj3:=xDb.ok.fn
theorem xzD:LoOk P0 (xO9.at xj3.pin) xj3 (Tryz.f33.body.getD .skip):=xhM (by kernel_rfl)
def xhN (r a:LA) (b:List UInt8):=(xgg ((xeb a b r).getD ([],false)).fst).getD []
def xj4 (r a:LA) (c:List UInt8) (b:LA):=((b.getD (putIx b (xhN r a c)) .top).cells.getD 1 .top).toList.length
def xuT (r a:LA) (c:List UInt8) (b:LA):=xO7 2 ((b.getD (putIx b (xhN r a c)) .top).cells.getD 1 .top)
def xuS (r:LA) (f t:Int) (a:LA) (c:List UInt8) (b:LA):=xen [AV.agg [AV.int .i64 f,AV.int .i64 t]] (List.take (xj4 r a c b) (List.drop 0 ((b.getD (putIx b (xhN r a c)) .top).cells.getD 1 .top).toList))
def xoC {T:Type} (r:LA) (f t:Int) (a:LA) (b:List UInt8) (c:LA) (δ:T) (κ:Bool×(LA)×(LA×LA)->T):T:=br ((xeb a b r).isSome) (br (!((xeb a b r).getD ([],false)).snd) (κ (true,(c),([],[]))) (br ((xgg ((xeb a b r).getD ([],false)).fst).isSome) (br (decide ((xhN r a b).length<=4611686018427387904)) (br (xOX c (xhN r a b)) (br (xuT r a b c) (br (decide (putIx c (xhN r a b)<c.length)&&(xuT r a b c&&2*xj4 r a b c==2*xj4 r a b c)&&decide (0+xj4 r a b c<=xj4 r a b c)&&true) (br ((xuS r f t a b c).isSome) (κ (false,[],((xuS r f t a b c).getD [],c))) δ) δ) δ) (br ((xen [AV.agg [AV.int .i64 f,AV.int .i64 t]] []).isSome) (κ (false,[],((xen [AV.agg [AV.int .i64 f,AV.int .i64 t]] []).getD [],c))) δ)) δ) δ)) δ
def missing1 (r:LA) (f t:Int) (a:LA) (b:List UInt8) (c:LA):=xoC r f t a b c none some
theorem xG6 (r:LA) (f t:Int) (a:LA) (b:List UInt8) (xs:LA):Enc (fun (p:Bool×(LA)×(LA×LA))=>((br p.1 ((AV.nils,([⟨0,2,1208926125859592950775808,p.2.1,true,true⟩]:List Box))) ((AV.list 2 p.2.2.1,([⟨0,2,1208926125859592950775808,p.2.2.2,true,true⟩]:List Box)))):(AV×List Box))) (missing1 r f t a b xs) (XFM P0 xj3 Tryz.f33 (Tryz.f33.body.getD .skip) [AV.agg [AV.list 3 r,AV.int .i64 f,AV.int .i64 t],AV.eptr 2 [AV.agg [AV.list 1 a,AV.str b]] 0 0,AV.func (1099511627776:FuncId) [AV.own (0:Id) 0 0 0]] [{ ver:=0,sz:=2,ty:=(1208926125859592950775808:TypeId),xs:=xs,frz:=true,pm:=true }]):=by
 have h:XFM P0 xj3 Tryz.f33 (Tryz.f33.body.getD .skip) [AV.agg [AV.list 3 r,AV.int .i64 f,AV.int .i64 t],AV.eptr 2 [AV.agg [AV.list 1 a,AV.str b]] 0 0,AV.func (1099511627776:FuncId) [AV.own (0:Id) 0 0 0]] [{ ver:=0,sz:=2,ty:=(1208926125859592950775808:TypeId),xs:=xs,frz:=true,pm:=true }]=xoC r f t a b xs none (fun (p:Bool×(LA)×(LA×LA))=>some ((br p.1 ((AV.nils,([⟨0,2,1208926125859592950775808,p.2.1,true,true⟩]:List Box))) ((AV.list 2 p.2.2.1,([⟨0,2,1208926125859592950775808,p.2.2.2,true,true⟩]:List Box)))):(AV×List Box))):=by kernel_rfl
 rw [h];unfold missing1 xoC;repeat' (first|refine Enc.br ?_ ?_|exact Enc.none|exact Enc.some rfl)
def xfV (r:LA) (f t:Int) (a:LA) (b:List UInt8) (c:LA):Option (LA×LA):=(missing1 r f t a b c).map fun p=>br p.1 ([],p.2.1) p.2.2
def xG5:LA->List Box->Option (Bool×AV×List Box):=omOf (xPb (xPr (xPb (xPq 3 xPe) (xPb (sEq (pInt .i64)) (xPb (sEq (pInt .i64)) xPd)))) (xPb (sEq (xPt 2 0 0 (xPa (xPo (xPa (xPs 1 xPe) (xPa pStr xPc))) xPc))) (xPb (sEq (xOQ (1099511627776:FuncId) (xPa (xPn 0 0 0 0) xPc))) xPd))) (xPa (xPp 0 2 (1208926125859592950775808:TypeId) true true xPe) xPc) fun ((r,(f,(t,_))),(((a,(b,_)),_),((_,_),_))) (c,_)=>((xfV r f t a b c).isSome,(AV.list 2 ((xfV r f t a b c).getD ([],[])).1,([⟨0,2,1208926125859592950775808,((xfV r f t a b c).getD ([],[])).2,true,true⟩]:List Box)))
theorem xG4:OmOk P0 xO9 33 (xG5):=xp6 fun h i l k j=>by
 obtain ⟨⟨r,⟨f,⟨t,_⟩⟩⟩,⟨⟨⟨c,⟨e,_⟩⟩,_⟩,⟨⟨_,_⟩,_⟩⟩⟩:=h;obtain ⟨g,_⟩:=i;obtain ⟨d,a⟩:=Prod.mk.inj j;unfold xfV at d a;cases hf:missing1 r f t c e g with
 | none=>rw [hf] at d;simp at d
 | some p =>
  rw [hf] at a;have hx:=xG6 r f t c e g p hf;have hg:GoodM P0 xO9 33 _ _ _ _:=xga (p:=xj3.pin) (xg6 xOC (xOD P0 _) rfl xBs rfl Tryz.func33 rfl (by kernel_rfl) xzD hx)
  obtain ⟨b,m,n,o⟩:=p;cases b with
  | true =>
   obtain ⟨rfl,rfl⟩:=Prod.mk.inj a;exact GoodM.subR hg (xq2 2)
  | false =>
   obtain ⟨rfl,rfl⟩:=Prod.mk.inj a;exact hg
def xwN:EO:=xDb.wM xG4
def xae (a:List UInt8) (b c d e f:LA) (g:Int):=(xgg ((xpt a b c d e (gC f g 0).toList).getD [])).getD []
def xcm (a:List UInt8) (b c d e f:LA) (g:Int):=decide ((xae a b c d e f g).length<=4611686018427387904)
def xau (a:List UInt8) (b c d e g:LA) (h:Int) (f:LA):=((f.getD (putIx f (xae a b c d e g h)) .top).cells.getD 1 .top).toList.length
def xdH (a:List UInt8) (b c d e g:LA) (h:Int) (f:LA):=((f.getD (putIx f (xae a b c d e g h)) .top).cells.getD 1 .top).toList++[AV.agg [AV.int .i64 (gC g h 1).toInt,AV.int .i64 (gC g h 2).toInt]]
def xcn (a:List UInt8) (b c d e g:LA) (h:Int) (f:LA):=f.set (putIx f (xae a b c d e g h)) (AV.agg (List.take 1 (f.getD (putIx f (xae a b c d e g h)) .top).cells++[AV.int .i64 (↑(xau a b c d e g h f):Int)]++List.drop 2 (f.getD (putIx f (xae a b c d e g h)) .top).cells))
def xbC (a:List UInt8) (b c d e g:LA) (h:Int) (f:LA):=xau a b c d e g h f+1
def xd3 {T:Type} (l j:LA) (k a:List UInt8) (b c d e h:LA) (i g:Int) (f:LA) (δ:T) (κl:(Int×LA)->T) (κr:(LA)->T):T:=br (decide (g<i)) (br (ixI h g) (br (ixT h g 3 [Sh.list 3,Sh.int .i64,Sh.int .i64] 0) (br ((xpt a b c d e (gC h g 0).toList).isSome) (br ((xgg ((xpt a b c d e (gC h g 0).toList).getD [])).isSome) (br (xcm a b c d e h g) (br (xOX f (xae a b c d e h g)) (br (xO7 2 ((f.getD (putIx f (xae a b c d e h g)) .top).cells.getD 1 .top)) (br (decide (putIx f (xae a b c d e h g)<f.length)&&(xO7 2 ((f.getD (putIx f (xae a b c d e h g)) .top).cells.getD 1 .top)&&((f.getD (putIx f (xae a b c d e h g)) .top).cells.length==2&&(2*xau a b c d e h g f==2*xau a b c d e h g f&&(xau a b c d e h g f==xau a b c d e h g f&&(xau a b c d e h g f==xau a b c d e h g f&&(decide (xbC a b c d e h g f*16<=140737488355328)&&decide (xbC a b c d e h g f<=4611686018427387904)))))))) (br (xbC a b c d e h g f==(xdH a b c d e h g f).length&&(decide ((xcn a b c d e h g f).length<4611686018427387904)&&(xcm a b c d e h g&&deadR (xcn a b c d e h g f) (xae a b c d e h g) (xbC a b c d e h g f)))) (κl (i64.wrap (g+1),xOJ (xcn a b c d e h g f) (xae a b c d e h g) (AV.list 2 (xdH a b c d e h g f)))) δ) δ) δ) (br (decide (f.length<4611686018427387904)&&(xcm a b c d e h g&&deadR f (xae a b c d e h g) 1)) (κl (i64.wrap (g+1),xOJ f (xae a b c d e h g) (AV.list 2 [AV.agg [AV.int .i64 (gC h g 1).toInt,AV.int .i64 (gC h g 2).toInt]]))) δ)) δ) δ) δ) δ) δ) (κr (f))
def xa7 (l g:LA) (h a:List UInt8) (b c d e i:LA) (j:Int):StT (Int×LA) (LA):=fun (k,f)=>xd3 l g h a b c d e i j k f none inL inR
def xfj:=xwN.l 67 0 [1000034,1000027,8000000] [] Tryz.f11 0 lk0 [1,4,6,9,20,21,22] [1,4,9] [(9,0,1073741824)] (q7 (qL 3) (xPt 2 0 0 (q1 (xPo (q2 (qL 1) pStr)))) (xPt 5 0 0 (q1 (xPo (q5 pStr (qL 3) (qL 1) (qL 2) (qL 7))))) (xOQ 1099511627776 (q1 (xPn 0 0 0 0))) (qL 3) qI qI) (q1 (qB 0 2 1208926125859592950775808 xPe)) (fun (l,((g,h,_),_),((a,b,c,d,e,_),_),(_,_),i,j,k,_) (f,_)=>(xa7 l g h a b c d e i j,(k,f),fun p=>(.leaf (.exit 0) [AV.list 3 l,AV.eptr 2 [AV.agg [AV.list 1 g,AV.str h]] 0 0,AV.func 1099511627776 [AV.own 0 0 0 0]] [bF 0 2 1208926125859592950775808 p]))) [] fun (l,((g,h,_),_),((a,b,c,d,e,_),_),(_,_),i,j,_,_) _ (k,f)=>(((l,((g,h,()),()),((a,b,c,d,e,()),()),((),()),i,j,k,()),(f,())),xd3 l g h a b c d e i j k f none)
def xfS {T:Type} (f:LA) (g:List UInt8) (l:LA) (m n:Int) (d:LA) (i:Int) (c:Nat) (b:Int) (e a h:LA) (j k:Int) (δ:T) (κl:(Nat×Int×LA×LA×LA×Int×Int)->T) (κr:(Nat×LA×LA)->T):T:=br (decide (b<i)) (br (ixI d b) (br (ixT d b 2 [Sh.int .i64,Sh.int .i64] 0) (br (rmB c a 1 40) (κl (c+1,i64.wrap (b+1),e,a++[AV.agg [AV.list 3 h,AV.int .i64 (gC d b 0).toInt,AV.int .i64 (gC d b 1).toInt]],h,j,k)) δ) δ) δ) (κr (c,e,a))
def xbS (a:LA) (b:List UInt8) (f:LA) (g h:Int) (i:LA) (j:Int):StT (Nat×Int×LA×LA×LA×Int×Int) (Nat×LA×LA):=fun (d,k,e,c,l,m,n)=>xfS a b f g h i j d k e c l m n none inL inR
def xfk:=xwN.l 67 0 [1000034,1000027,8000000] [(3,xfj.lp)] Tryz.f11 2 lk0 [13,14,16,42,43,44,50,51,52] [13,14,42,43,44] [(14,3,54),(13,1,1073741824)] (q9 (xOQ 33 (q2 (xPt 2 0 0 (q1 (xPo (q2 (qL 1) pStr)))) (xOQ 1099511627776 (q1 (xPn 0 0 0 0))))) (xPm 1 0 0) (xPn 2 0 0 0) (qL 3) qI qI (qL 2) qI qI) (q3 (xPp 0 2 1208926125859592950775808 true true xPe) (qB 0 3 54 xPe) (qB 0 3 54 (q1 (xPo (q3 (qL 3) qI qI))))) (fun ((((a,b,_),_),(_,_),_),d,_,f,g,h,i,j,k,_) (e,c,((m,n,o,_),_),_)=>(xbS a b f g h i j,(d,k,e,c,m,n,o),fun p=>(.leaf (.exit 4) [AV.func 33 [AV.eptr 2 [AV.agg [AV.list 1 a,AV.str b]] 0 0,AV.func 1099511627776 [AV.own 0 0 0 0]],AV.osl 1 0 0 p.1,AV.list 3 f,AV.int .i64 g,AV.int .i64 h] [⟨0,2,1208926125859592950775808,p.2.1,true,true⟩,bF 0 3 54 p.2.2]))) (0,[],[]) fun ((((a,b,_),_),(_,_),_),_,_,f,g,h,i,j,_,_) _ (d,k,e,c,m,n,o)=>((((((a,b,()),()),((),()),()),d,(),f,g,h,i,j,k,()),(e,c,((m,n,o,()),()),())),xfS a b f g h i j d k e c m n o none)
def xil (a:LA) (b:List UInt8) (c:LA) (d:Int) (e:LA):=xfV (gC c d 0).toList (gC c d 1).toInt (gC c d 2).toInt a b e
def xik (a:LA) (b:List UInt8) (d:LA) (e:Int) (c:LA):=(xil a b d e c).getD ([],[])
def xij (a:LA) (b:List UInt8) (d:LA) (e:Int) (c:LA):=(xik a b d e c).fst
def xii (a:LA) (b:List UInt8) (c:LA) (h:Int) (g:Nat) (d:Int) (e f:LA):=Iter (xbS a b c h d (xij a b c d e) (↑(xij a b c d e).length:Int)) (g,0,(xik a b c d e).snd,f,(gC c d 0).toList,(gC c d 1).toInt,(gC c d 2).toInt)
def xih (a:LA) (b:List UInt8) (f:LA) (g:Int) (d:Nat) (h:Int) (e c:LA):=(xii a b f g d h e c).getD (0,[],[])
def xig (a:LA) (b:List UInt8) (f:LA) (g:Int) (d:Nat) (h:Int) (e c:LA):=(xih a b f g d h e c).snd
def xfR {T:Type} (a:LA) (b:List UInt8) (g:LA) (h:Int) (d:Nat) (e:Int) (f c:LA) (δ:T) (κl:(Nat×Int×LA×LA)->T) (κr:(Nat×LA)->T):T:=br (decide (e<h)) (br (ixI g e) (br (ixT g e 3 [Sh.list 3,Sh.int .i64,Sh.int .i64] 0) (br ((xil a b g e f).isSome) (br ((xii a b g h d e f c).isSome) (κl ((xih a b g h d e f c).fst,i64.wrap (e+1),(xig a b g h d e f c).fst,(xig a b g h d e f c).snd)) δ) δ) δ) δ) (κr (d,c))
def xbR (a:LA) (b:List UInt8) (f:LA) (g:Int):StT (Nat×Int×LA×LA) (Nat×LA):=fun (d,h,e,c)=>xfR a b f g d h e c none inL inR
def xnU:=xwN.l 67 0 [1000034,1000027,8000000] [(3,xfj.lp),(14,xfk.lp)] Tryz.f11 1 (lk1 xfk.ok) [13,14,42,43,44] [14] [(14,3,54),(13,1,1073741824)] (q5 (xOQ 33 (q2 (xPt 2 0 0 (q1 (xPo (q2 (qL 1) pStr)))) (xOQ 1099511627776 (q1 (xPn 0 0 0 0))))) (xPm 1 0 0) (qL 3) qI qI) (q2 (xPp 0 2 1208926125859592950775808 true true xPe) (qB 0 3 54 xPe)) (fun ((((a,b,_),_),(_,_),_),d,f,g,h,_) (e,c,_)=>(xbR a b f g,(d,h,e,c),fun p=>(.leaf (.exit 2) [AV.osl 0 0 0 p.1] [bF 0 3 54 p.2]))) (0,[]) fun ((((a,b,_),_),(_,_),_),_,f,g,_,_) _ (d,h,e,c)=>((((((a,b,()),()),((),()),()),d,f,g,h,()),(e,c,())),xfR a b f g d h e c none)
def xld (f:LA) (g:List UInt8) (l:LA) (e:List UInt8) (b a c d h:LA):=Iter (xbR f g l (↑l.length:Int)) (0,0,(Iter (xa7 l f g e b a c d h (↑h.length:Int)) (0,[])).getD [],[])
def xlc (f:LA) (g:List UInt8) (l:LA) (e:List UInt8) (b a c d h:LA):=(xld f g l e b a c d h).getD (0,[])
def xla (f:LA) (g:List UInt8) (l:LA) (e:List UInt8) (b a c d h:LA):=(xlc f g l e b a c d h).snd
def xlb (f:LA) (g:List UInt8) (l:LA) (e:List UInt8) (b a c d h:LA):=(xlc f g l e b a c d h).fst
def xk9 (f:LA) (g:List UInt8) (l:LA) (e:List UInt8) (b a c d h:LA):=xta (List.take (xlb f g l e b a c d h) (List.drop 0 (xla f g l e b a c d h)))
def xma {T:Type} (f:LA) (g:List UInt8) (l:LA) (e:List UInt8) (b a c d h:LA) (δ:T) (κ:LA->T):T:=br ((Iter (xa7 l f g e b a c d h (↑h.length:Int)) (0,[])).isSome) (br ((xld f g l e b a c d h).isSome) (br (decide (0+xlb f g l e b a c d h<=(xla f g l e b a c d h).length)&&true) (br ((xk9 f g l e b a c d h).isSome) (κ ((xk9 f g l e b a c d h).getD [])) δ) δ) δ) δ
def xaX (f:LA) (g:List UInt8) (l:LA) (e:List UInt8) (b a c d h:LA):=xma f g l e b a c d h none some
def xyL:LA->Option (Bool×AV):=fnO (u4 (xPr (u2 (uL 1) (sEq pStr))) (uL 3) (xPr (u5 (sEq pStr) (uL 3) (uL 1) (uL 2) (uL 7))) (uL 3)) (fun ((f,g,_),l,(e,b,a,c,d,_),h,_) _=>xma f g l e b a c d h) (fun _ p=>AV.list 3 p) []
theorem xsw:OcOk P0 xO9 11 xyL:=fnC xwN.ok Tryz.func11 67 0 [1000034,1000027,8000000] [(3,xfj.lp),(14,xfk.lp),(11,xnU.lp)] (lks (lkC xfj.ok (lkC xnU.ok (lkC xfk.ok lkN))))
def xHJ:EO:=xwN.w xsw
def xok {T:Type} (f:LA) (g:List UInt8) (l:LA) (e:List UInt8) (b a c d h:LA) (δ:T) (κ:Bool->T):T:=br ((xaX f g l e b a c d h).isSome) (κ ((↑((xaX f g l e b a c d h).getD []).length:Int)==0)) δ
def xjQ (f:LA) (g:List UInt8) (l:LA) (e:List UInt8) (b a c d h:LA):=xok f g l e b a c d h none some
def xAj:LA->Option (Bool×AV):=fnO (u4 (xPr (u2 (uL 1) (sEq pStr))) (uL 3) (xPr (u5 (sEq pStr) (uL 3) (uL 1) (uL 2) (uL 7))) (uL 3)) (fun ((f,g,_),l,(e,b,a,c,d,_),h,_) _=>xok f g l e b a c d h) (fun _ p=>AV.bool p) false
theorem xui:OcOk P0 xO9 13 xAj:=fnC xHJ.ok Tryz.func13 16 0 [] [] lk0
def xDa:EO:=xHJ.w xui
def xeo {T:Type} (e:Int) (d:LA) (g:Int) (c:Nat) (a:Int) (f:List UInt8) (h i j k b:LA) (δ:T) (κl:(Nat×Int×List UInt8×LA×LA×LA×LA×LA)->T) (κr:(Nat×LA)->T):T:=br (decide (a<g)) (br (ixI d a) (br (ixT d a 3 [Sh.list 3,Sh.int .i64,Sh.int .i64] 0) (br (rmB c b 1 72) (κl (c+1,i64.wrap (a+1),f,h,i,j,k,b++[AV.agg [AV.int .i64 3,AV.str f,AV.int .i64 e,AV.list 3 (gC d a 0).toList,AV.int .i64 (gC d a 1).toInt,AV.int .i64 (gC d a 2).toInt]])) δ) δ) δ) (κr (c,b))
def xbb (b:Int) (d:LA) (e:Int):StT (Nat×Int×List UInt8×LA×LA×LA×LA×LA) (Nat×LA):=fun (c,f,g,h,i,j,k,a)=>xeo b d e c f g h i j k a none inL inR
def xle:=xDa.l 51 0 [] [] Tryz.f16 0 lk0 [1,5,11,32,33,34] [11] [(11,6,67)] (q6 qI (xPn 0 0 0 0) (xPm 1 0 0) (qL 3) qI qI) (q2 (qB 0 5 27 (q1 (xPo (q5 pStr (qL 3) (qL 1) (qL 2) (qL 7))))) (qB 0 6 67 xPe)) (fun (b,_,c,d,e,f,_) (((g,h,i,j,k,_),_),a,_)=>(xbb b d e,(c,f,g,h,i,j,k,a),fun p=>(.leaf (.exit 0) [AV.osl 0 0 0 p.1] [bF 0 6 67 p.2]))) (0,[]) fun (b,_,_,d,e,_,_) _ (c,f,g,h,i,j,k,a)=>(((b,(),c,d,e,f,()),(((g,h,i,j,k,()),()),a,())),xeo b d e c f g h i j k a none)
def xco:Env:=xDa.E.fn 51 0 (lsOf []) (xOP [(5,xle.lp)])
theorem xte:xOs P0 (xO9.at 0) xco:=xDa.ok.fn
theorem xrP:LoOk P0 (xO9.at xco.pin) xco (Tryz.f16.body.getD .skip):=xfE (ls:=[xOw Tryz.f16 0]) (by kernel_rfl) (lkC xle.ok lkN)
def xir (f:LA) (g:Int) (l:LA) (e:List UInt8) (b a c d h:LA):=xkX ((xaX (gC f g 0).toList (gC f g 1).toStr l e b a c d h).getD [])
def xiq (f:LA) (g:Int) (l:LA) (e:List UInt8) (b a c d h:LA):=(xir f g l e b a c d h).getD []
def xip (k:List UInt8) (i h f j:LA) (g:Int) (l:LA) (e:List UInt8) (b a c d m:LA):=Iter (xbb g (xiq f g l e b a c d m) (↑(xiq f g l e b a c d m).length:Int)) (0,0,k,i,h,f,j,[])
def xio (k:List UInt8) (g f h i:LA) (j:Int) (l:LA) (e:List UInt8) (b a c d m:LA):=(xip k g f h i j l e b a c d m).getD (0,[])
def xim (k:List UInt8) (g f h i:LA) (j:Int) (l:LA) (e:List UInt8) (b a c d m:LA):=(xio k g f h i j l e b a c d m).fst
def xin (k:List UInt8) (g f h i:LA) (j:Int) (l:LA) (e:List UInt8) (b a c d m:LA):=(xio k g f h i j l e b a c d m).snd
def xd4 {T:Type} (k:List UInt8) (i h g j:LA) (f:Int) (l:LA) (e:List UInt8) (b a c d m:LA) (δ:T) (κ:Bool×(Unit)×(LA)->T):T:=br (decide (f<0)) (κ (true,(),[])) (br (decide (f>=g.length)) (κ (true,(),[])) (br (ixI g f) (br (ixT g f 2 [Sh.list 1,Sh.str] 0) (br ((xaX (gC g f 0).toList (gC g f 1).toStr l e b a c d m).isSome) (br ((xir g f l e b a c d m).isSome) (br ((xip k i h g j f l e b a c d m).isSome) (br (decide (0+xim k i h g j f l e b a c d m<=(xin k i h g j f l e b a c d m).length)&&true) (κ (false,(),(List.take (xim k i h g j f l e b a c d m) (List.drop 0 (xin k i h g j f l e b a c d m))))) δ) δ) δ) δ) δ) δ))
def xan (k:List UInt8) (g f h i:LA) (j:Int) (l:LA) (e:List UInt8) (b a c d m:LA):Option (LA):=xd4 k g f h i j l e b a c d m none (fun (p:Bool×(Unit)×(LA))=>some (br p.1 ([]) p.2.2))
theorem xvQ (m:List UInt8) (g f i j:LA) (k:Int) (l:LA) (e:List UInt8) (b a c d n:LA):EncS (fun (p:LA)=>(AV.list 6 p:AV)) (xan m g f i j k l e b a c d n) (XF P0 xco Tryz.f16 (Tryz.f16.body.getD .skip) [AV.agg [AV.str m,AV.list 3 g,AV.list 1 f,AV.list 2 i,AV.list 7 j],AV.int .i64 k,AV.list 3 l,AV.agg [AV.str e,AV.list 3 b,AV.list 1 a,AV.list 2 c,AV.list 7 d],AV.list 3 n]):=by
 have h:XF P0 xco Tryz.f16 (Tryz.f16.body.getD .skip) [AV.agg [AV.str m,AV.list 3 g,AV.list 1 f,AV.list 2 i,AV.list 7 j],AV.int .i64 k,AV.list 3 l,AV.agg [AV.str e,AV.list 3 b,AV.list 1 a,AV.list 2 c,AV.list 7 d],AV.list 3 n]=xd4 m g f i j k l e b a c d n none (fun (p:Bool×(Unit)×(LA))=>some ((br p.1 (AV.nils) (AV.list 6 p.2.2)):AV)):=by kernel_rfl
 rw [h];unfold xan xd4;repeat' (first|exact EncS.none|exact EncS.some (Sub.refl _)|exact EncS.some (xq2 _)|exact EncS.some (xwD _ _)|refine EncS.br ?_ ?_)
def xvP:LA->Option (Bool×AV):=ocOf (xPb (xPr (xPb (sEq pStr) (xPb (xPq 3 xPe) (xPb (xPq 1 xPe) (xPb (xPq 2 xPe) (xPb (xPq 7 xPe) xPd)))))) (xPb (sEq (pInt .i64)) (xPb (xPq 3 xPe) (xPb (xPr (xPb (sEq pStr) (xPb (xPq 3 xPe) (xPb (xPq 1 xPe) (xPb (xPq 2 xPe) (xPb (xPq 7 xPe) xPd)))))) (xPb (xPq 3 xPe) xPd))))) fun ((k,(g,(f,(h,(i,_))))),(j,(l,((e,(b,(a,(c,(d,_))))),(m,_)))))=>((xan k g f h i j l e b a c d m).isSome,(AV.list 6 ((xan k g f h i j l e b a c d m).getD [])))
theorem xvO:OcOk P0 xO9 16 (xvP):=xfn fun o u q=>by
 obtain ⟨⟨r,⟨j,⟨g,⟨k,⟨m,_⟩⟩⟩⟩⟩,⟨n,⟨l,⟨⟨f,⟨b,⟨a,⟨c,⟨e,_⟩⟩⟩⟩⟩,⟨v,_⟩⟩⟩⟩⟩:=o;obtain ⟨h,i⟩:=Prod.mk.inj q;obtain ⟨y,s,t⟩:=xvQ _ _ _ _ _ _ _ _ _ _ _ _ _ _ (xaH (d:=[]) h);have hg:Good P0 xO9 16 _ _:=xd5 (p:=xco.pin) (xgh xOC (xOD P0 _) rfl xte Tryz.func16 rfl (by kernel_rfl) xrP s)
 rw [<-i];exact Good.sub hg t
end Go.Sim.M
end
noncomputable section
set_option maxRecDepth 100000
namespace Go.Sim
def stepX (P:Program) (E:Env) (live liveO:List Nat) (conv:List (Nat×Nat×TypeId)) (c:Code) (s:List AV×List Box):Option ((List AV×List Box)⊕{r:Exit×List AV×List Box // r.1≠.normal}) :=
 match XR P E live liveO conv c s.1 s.2 with
 | some (.normal,v,H)=>some (.inl (v,H))
 | some (.exit i,v,H)=>some (.inr ⟨(.exit i,v,H),by simp⟩)
 | some (.ret,v,H)=>some (.inr ⟨(.ret,v,H),by simp⟩)
 | _=>none
def closedLp (P:Program) (E:Env) (live liveO:List Nat) (conv:List (Nat×Nat×TypeId)) (c:Code) (n:Nat):Lp:=⟨live,liveO,conv,fun vals H =>
 match iterN (stepX P E live liveO conv c) n (vals,H) with
 | some r=>some (true,.leaf r.1.1 r.1.2.1 r.1.2.2)
 | none=>none⟩
theorem xmy {P:Program} {Inv:IV} {E:Env} (U:P.follows .mixedOrders=true) (Q:InvOk Inv) (q:Inv.pin=E.pin) (J:xOs P Inv E) {c:Code} (O:LoOk P Inv E c) {live liveO:List Nat} {conv:List (Nat×Nat×TypeId)} {n:Nat} :
  LoopOk P Inv E.nt c (closedLp P E live liveO conv c n):=fun vals H r h=>by
 simp only [closedLp] at h;split at h
 case h_2=>simp at h
 rename_i r0 hr;simp only [z6,zb,true_and] at h;subst h;exact xsT U Q q J O (σ:=List AV×List Box) (ρ:={r:Exit×List AV×List Box // r.1≠.normal}) (step:=stepX P E live liveO conv c) (fun s=>s) (fun r=>.leaf r.1.1 r.1.2.1 r.1.2.2) (fun r=>r.2)
  (fun s r hs=>by
   unfold stepX at hs;split at hs<;>simp only [z6,reduceCtorEq] at hs;all_goals (subst hs;rename_i hx;exact hx)) (s:=(vals,H)) (r:=r0) (xp4.2 ⟨n,hr⟩)
end Go.Sim
namespace Go.Sim.M
open Go.RowKit Go.Proofs
def mmA (g:FuncId):Bool:=([55,57,128,152,175,136,164,190,100,133,154,131,153,183,138,99,166,85,33]:List Nat).contains g
noncomputable def EA0:Env:={ E0 with ls:=lsOf [42,54,141],fuel:=1000 }
theorem xC7:xOs P0 xO9 EA0:=xKH
noncomputable def runA (E:Env) (fn:Func):List AV->Option (Bool×AV):=fun xs=>match XF P0 E fn (fn.body.getD .skip) xs with
 | some r=>some (true,r)
 | none=>none
theorem xEy {E:Env} {f:FuncId} {fn:Func} (O:xOs P0 (xO9.at 0) E) (J:E.pin=0) (hf:P0.funcs[f]?=some fn) (hb:fn.body.isSome=true) (q:(fn.name == "runtime.NumGoroutine")=false) (Q:LoOk P0 (xO9.at 0) E (fn.body.getD .skip)):OcOk P0 xO9 f (runA E fn):=fun xs r h=>by
 unfold runA at h;split at h
 case h_2=>simp at h
 rename_i r0 hr;simp only [z6,zb,true_and] at h;subst h;exact xd5 (p:=0) (xgh xOC (xOD P0 _) J.symm O hf hb q Q hr)
noncomputable def EAr:Env:={ Env.deep P0 mmA EA0 10 with pin:=0,nt:=60,ls:=lsOf [] }
theorem xHE:xOs P0 (xO9.at 0) EAr:=xjk xOC mmA (xOD P0 0) xC7 (fun _=>rfl) 10
noncomputable def xHD:Lp:=closedLp P0 EAr [3,4,11,12,13] [4] [(4,2,189114876045)] (xOw Tryz.f98 0) 100
noncomputable def EAr1:Env:={ EAr with lp:=xOP [(xOH (xOw Tryz.f98 0),xHD)] }
theorem xKS:xOs P0 (xO9.at 0) EAr1:=xHE
noncomputable def xGk:List AV->Option (Bool×AV):=runA EAr1 Tryz.f98
theorem xLD:OcOk P0 xO9 98 xGk:=xEy xKS rfl Tryz.func98 rfl (by kernel_rfl) (xfE (ls:=[xOw Tryz.f98 0]) (by kernel_rfl) (fun l hl lp hs=>by
 simp only [zC,List.not_mem_nil,or_false] at hl;subst hl;rw [show EAr1.lp (xOH (xOw Tryz.f98 0))=some xHD by kernel_rfl] at hs
 cases hs;exact xmy (E:=EAr) xOC (xOD P0 _) rfl xHE (xe2 fun _=>rfl)))
noncomputable def EAlv (p:Nat):Env:={ Env.deep P0 mmA EA0 6 with pin:=p,nt:=71,ls:=lsOf [] }
theorem xFE (p:Nat):xOs P0 (xO9.at p) (EAlv p):=xll (xjk xOC mmA (xOD P0 0) xC7 (fun _=>rfl) 6)
noncomputable def xFD (p:Nat):Lp:=closedLp P0 (EAlv p) [0,1,2,3,4] [] [(3,0,0)] (xOw Tryz.f99 0) 100
noncomputable def EAlv1 (p:Nat):Env:={ EAlv p with lp:=xOP [(xOH (xOw Tryz.f99 0),xFD p)] }
theorem xJI (p:Nat):xOs P0 (xO9.at p) (EAlv1 p):=xFE p
noncomputable def xDZ:List AV->List Box->Option (Bool×AV×List Box):=fun xs H=>match XFM P0 (EAlv1 H.length) Tryz.f99 (Tryz.f99.body.getD .skip) xs H with
 | some (r,H')=>some (true,r,H')
 | none=>none
theorem xMR:OmOk P0 xO9 99 xDZ:=fun xs H r H' h=>by
 unfold xDZ at h;split at h
 case h_2=>simp at h
 rename_i r0 H0 hr;simp only [z6,zb,true_and] at h;obtain ⟨rfl,rfl⟩:=h;refine xga (p:=H.length) (xg6 xOC (xOD P0 _) rfl (xJI H.length) rfl Tryz.func99 rfl (by kernel_rfl) (xfE (ls:=[xOw Tryz.f99 0,xOw Tryz.f99 1]) (by kernel_rfl) (fun l hl lp hs=>?_)) hr)
 simp only [zC,List.not_mem_nil,or_false] at hl;rcases hl with rfl|rfl
 . rw [show (EAlv1 H.length).lp (xOH (xOw Tryz.f99 0))=some (xFD H.length) by kernel_rfl] at hs
   cases hs;exact xmy (E:=EAlv H.length) xOC (xOD P0 _) rfl (xFE H.length) (xe2 fun _=>rfl)
 . rw [show (EAlv1 H.length).lp (xOH (xOw Tryz.f99 1))=none by kernel_rfl] at hs
   simp at hs
noncomputable def EAs:Env:=(EA0.with 98 xGk).withM 99 xDZ
theorem xHF:xOs P0 xO9 EAs:=(xC7.with xLD).withM xMR
noncomputable def EAd:Env:={ Env.deep P0 mmA EAs 14 with pin:=0 }
theorem xC8:xOs P0 (xO9.at 0) EAd:=xll (xjk xOC mmA (xOD P0 0) xHF (fun _=>rfl) 14)
noncomputable def EAh:Env:={ EAd with ls:=lsOf [1000042] }
noncomputable def xIO:List AV->Option (Bool×AV):=runA EAh Tryz.f60
theorem xMM:OcOk P0 xO9 60 xIO:=xEy (E:=EAh) xC8 rfl Tryz.func60 rfl (by kernel_rfl) (xe2 fun _=>rfl)
noncomputable def EAs2:Env:=EAs.with 60 xIO
theorem xBb:xOs P0 xO9 EAs2:=xHF.with xMM
noncomputable def EAm (p:Nat):Env:={ Env.deep P0 mmA EAs2 14 with pin:=p,nt:=24,ls:=lsOf [8000000] }
theorem xLY (p:Nat):xOs P0 (xO9.at p) (EAm p):=xll (xjk xOC mmA (xOD P0 0) xBb (fun _=>rfl) 14)
noncomputable def xD6:List AV->List Box->Option (Bool×AV×List Box):=fun xs H=>match XFM P0 (EAm H.length) Tryz.f33 (Tryz.f33.body.getD .skip) xs H with
 | some (r,H')=>some (true,(match r with|.nils=>.list 2 []|x=>x),H')
 | none=>none
theorem xMS:OmOk P0 xO9 33 xD6:=fun xs H r H' h=>by
 unfold xD6 at h;split at h
 case h_2=>simp at h
 rename_i r0 H0 hr;simp only [z6,zb,true_and] at h;obtain ⟨rfl,rfl⟩:=h;have hg:GoodM P0 xO9 33 xs H r0 H0:=xga (p:=H.length) (xg6 xOC (xOD P0 _) rfl (xLY H.length) rfl Tryz.func33 rfl (by kernel_rfl) (xe2 fun _=>rfl) hr)
 refine GoodM.subR hg ?_;cases r0<;>first|exact Sub.refl _|exact xq2 2
noncomputable def EAn:Env:={ Env.deep P0 mmA (EAs2.withM 33 xD6) 14 with pin:=0,nt:=67,ls:=lsOf [1000034,1000027,8000000] }
theorem xz0:xOs P0 (xO9.at 0) EAn:=xll (xjk xOC mmA (xOD P0 0) (xBb.withM xMS) (fun _=>rfl) 14)
noncomputable def xzx:Lp:=closedLp P0 EAn [1,4,6,9,20,21,22] [1,4,9] [(9,0,1073741824)] (xOw Tryz.f11 0) 20
noncomputable def xwM:Lp:=closedLp P0 EAn [13,14,16,42,43,44,50,51,52] [13,14,42,43,44] [(14,3,54),(13,1,1073741824)] (xOw Tryz.f11 2) 20
noncomputable def EAn1:Env:={ EAn with lp:=xOP [(3,xzx),(14,xwM)] }
noncomputable def xC9:Lp:=closedLp P0 EAn1 [13,14,42,43,44] [14] [(14,3,54),(13,1,1073741824)] (xOw Tryz.f11 1) 20
noncomputable def EAn2:Env:={ EAn with lp:=xOP [(3,xzx),(14,xwM),(11,xC9)] }
theorem xLZ:LoopOk P0 (xO9.at 0) EAn.nt (xOw Tryz.f11 0) xzx:=xmy (E:=EAn) xOC (xOD P0 _) rfl xz0 (xe2 fun _=>rfl)
theorem xHC:LoopOk P0 (xO9.at 0) EAn.nt (xOw Tryz.f11 2) xwM:=xmy (E:=EAn) xOC (xOD P0 _) rfl xz0 (xe2 fun _=>rfl)
theorem xLx:LoopOk P0 (xO9.at 0) EAn.nt (xOw Tryz.f11 1) xC9:=xmy (E:=EAn1) xOC (xOD P0 _) rfl xz0 (xfE (ls:=[xOw Tryz.f11 2]) (by kernel_rfl) (fun l hl lp hs=>by
 simp only [zC,List.not_mem_nil,or_false] at hl;subst hl;rw [show EAn1.lp (xOH (xOw Tryz.f11 2))=some xwM by kernel_rfl] at hs
 cases hs;exact xHC))
noncomputable def xGa (xs:List AV):Option AV:=XF P0 EAn2 Tryz.f11 (Tryz.f11.body.getD .skip) xs
noncomputable def xF9:List AV->Option (Bool×AV):=ocOf (xPb (xPr (xPb (xPq (1:Nat) xPe) (xPb (sEq pStr) xPd))) (xPb (xPq (3:Nat) xPe) (xPb (xPr (xPb (sEq pStr) (xPb (xPq (3:Nat) xPe) (xPb (xPq (1:Nat) xPe) (xPb (xPq (2:Nat) xPe) (xPb (xPq (7:Nat) xPe) xPd)))))) (xPb (xPq (3:Nat) xPe) xPd)))) fun ((f_fc,(f_ft,_)),(l,((parent_tn,(parent_tcs,(parent_tkey,(parent_tfs,(parent_tck,_))))),(pl,_))))=>((xGa [AV.agg [AV.list 1 f_fc,AV.str f_ft],AV.list 3 l,AV.agg [AV.str parent_tn,AV.list 3 parent_tcs,AV.list 1 parent_tkey,AV.list 2 parent_tfs,AV.list 7 parent_tck],AV.list 3 pl]).isSome,(xGa [AV.agg [AV.list 1 f_fc,AV.str f_ft],AV.list 3 l,AV.agg [AV.str parent_tn,AV.list 3 parent_tcs,AV.list 1 parent_tkey,AV.list 2 parent_tfs,AV.list 7 parent_tck],AV.list 3 pl]).getD .top)
theorem xLl:OcOk P0 xO9 11 xF9:=xfn fun vv rr hh=>by
 obtain ⟨⟨f_fc,⟨f_ft,_⟩⟩,⟨l,⟨⟨parent_tn,⟨parent_tcs,⟨parent_tkey,⟨parent_tfs,⟨parent_tck,_⟩⟩⟩⟩⟩,⟨pl,_⟩⟩⟩⟩:=vv;obtain ⟨q,J⟩:=Prod.mk.inj hh;have hx:=xaH (d:=AV.top) q;refine xd5 (p:=0) (xgh (E:=EAn2) xOC (xOD P0 _) rfl xz0 Tryz.func11 rfl (by kernel_rfl) ?_ (hx.trans (congrArg some J)))
 exact (xfE (ls:=[xOw Tryz.f11 0,xOw Tryz.f11 1,xOw Tryz.f11 2]) (by kernel_rfl) (fun l hl lp hs=>by
 simp only [zC,List.not_mem_nil,or_false] at hl;rcases hl with rfl|rfl|rfl
 . rw [show EAn2.lp (xOH (xOw Tryz.f11 0))=some xzx by kernel_rfl] at hs
   cases hs;exact xLZ
 . rw [show EAn2.lp (xOH (xOw Tryz.f11 1))=some xC9 by kernel_rfl] at hs
   cases hs;exact xLx
 . rw [show EAn2.lp (xOH (xOw Tryz.f11 2))=some xwM by kernel_rfl] at hs
   cases hs;exact xHC))
noncomputable def EAc:Env:={ EAd with ls:=lsOf [] }
noncomputable def xFx:List AV->Option (Bool×AV):=runA EAc Tryz.f30
theorem xLb:OcOk P0 xO9 30 xFx:=xEy (E:=EAc) xC8 rfl Tryz.func30 rfl (by kernel_rfl) (xe2 fun _=>rfl)
end Go.Sim.M
end
noncomputable section
set_option maxRecDepth 100000
namespace Go.Sim.M
open Go.RowKit Go.Proofs
mutual
def eqV:AV->AV->Bool
 | .int k a,.int k' b=>decide (k=k')&&decide (a=b)
 | .bool a,.bool b=>a==b
 | .str a,.str b=>decide (a=b)
 | .list n a,.list m b=>Nat.beq n m&&eqVs a b
 | .agg a,.agg b=>eqVs a b
 | .nils,.nils=>true
 | _,_=>false
def eqVs:List AV->List AV->Bool
 | [],[]=>true
 | a::l,b::m=>eqV a b&&eqVs l m
 | _,_=>false
end
mutual
theorem xMI:∀ (a b:AV),eqV a b=true->a=b:=fun a b h=>by
 cases a<;>cases b<;>first|(simp [eqV] at h;done)|skip
 case nils.nils=>rfl
 all_goals simp only [eqV,zf,zl,beq_iff_eq] at h
 all_goals first|(rw [h.1,h.2];done)|(rw [h];done)|(rw [zg h.1,xyF _ _ h.2];done)|(rw [xyF _ _ h])
theorem xyF:∀ (a b:List AV),eqVs a b=true->a=b
 | [],[],_=>rfl
 | a::l,b::m,h=>by simp only [eqVs,zf] at h;rw [xMI a b h.1,xyF l m h.2]
 | [],_::_,h=>by simp [eqVs] at h
 | _::_,[],h=>by simp [eqVs] at h
end
def ptO (args:List AV) (r:AV):List AV->Option (Bool×AV):=fun xs=>match eqVs xs args with
 | true=>some (true,r)
 | false=>none
theorem xG9 {P:Program} {Inv:IV} {f:FuncId} {args:List AV} {r:AV} (h:Good P Inv f args r):OcOk P Inv f (ptO args r):=fun xs r0 h0=>by
 unfold ptO at h0;split at h0
 case h_2=>simp at h0
 rename_i he;simp only [z6,zb,true_and] at h0;subst h0;rw [xyF _ _ he];exact h
def vI (n:Int):AV:=.agg [.int .i64 1,.int .i64 n,.str []]
def vN:AV:=.agg [.int .i64 0,.int .i64 0,.str []]
def fA (f t:Int) (r:List AV):AV:=.agg [.list 3 r,.int .i64 f,.int .i64 t]
def frA:AV:=.agg [.list 1 [.int .i64 1],.str [112]]
def colA (n:UInt8) (b:Bool):AV:=.agg [.str [n],.int .i64 1,.bool b]
def paA:AV:=.agg [.str [112],.list 3 [colA 97 false],.list 1 [.int .i64 0],.nils,.nils]
def liA:AV:=.list 3 [fA 0 9 [vI 1,vI 7],fA 0 9 [vI 2,vN]]
def plA:AV:=.list 3 [fA 0 4 [vI 7],fA 6 1099511627776 [vI 7]]
def reA:AV:=.list 3 [fA 4 6 [vI 1,vI 7]]
def deA:AV:=.list 3 [fA 0 9 [vI 1,vI 7]]
def cuA:AV:=.list 3 [fA 3 5 [vI 1,vI 7]]
theorem xLn:xF9 [frA,liA,paA,plA]=some (true,reA):=by kernel_rfl
theorem xLm:OcOk P0 xO9 11 (ptO [frA,liA,paA,plA] reA):=xG9 (xLl _ _ xLn)
theorem xBx {f:FuncId} {fn:Func} {args:List AV} {r:AV} (hf:P0.funcs[f]?=some fn) (hb:fn.body.isSome=true) (q:(fn.name == "runtime.NumGoroutine")=false) (h:XF P0 EAd fn (fn.body.getD .skip) args=some r):Good P0 xO9 f args r :=
 xd5 (p:=0) (xgh xOC (xOD P0 _) rfl xC8 hf hb q (xe2 fun _=>rfl) h)
theorem xMx:XF P0 EAd Tryz.f41 (Tryz.f41.body.getD .skip) [reA]=some reA:=by kernel_rfl
theorem xMZ:OcOk P0 xO9 41 (ptO [reA] reA):=xG9 (xBx Tryz.func41 rfl (by kernel_rfl) xMx)
theorem xLC:XF P0 EAd Tryz.f44 (Tryz.f44.body.getD .skip) [deA,.agg [.int .i64 3,.int .i64 5]]=some cuA:=by kernel_rfl
theorem xLB:OcOk P0 xO9 44 (ptO [deA,.agg [.int .i64 3,.int .i64 5]] cuA):=xG9 (xBx Tryz.func44 rfl (by kernel_rfl) xLC)
noncomputable def EAv:Env:=(((EAs2.with 11 (ptO [frA,liA,paA,plA] reA)).with 41 (ptO [reA] reA)).with 44 (ptO [deA,.agg [.int .i64 3,.int .i64 5]] cuA)).with 30 xFx
theorem xL0:xOs P0 xO9 EAv:=(((xBb.with xLm).with xMZ).with xLB).with xLb
noncomputable def EAe:Env:={ Env.deep P0 mmA EAv 14 with pin:=0,ls:=lsOf [42,54,141,34,9000027,7000027,5000035,6000001,6000003] }
theorem xLX:xOs P0 (xO9.at 0) EAe:=xll (xjk xOC mmA (xOD P0 0) xL0 (fun _=>rfl) 14)
end Go.Sim.M
end
noncomputable section
set_option maxRecDepth 100000
namespace Go.Sim.M
open Go.RowKit Go.Proofs
theorem xK2:XF P0 EAe Tryz.f9 (Tryz.f9.body.getD .skip) []=some (.bool true):=by kernel_rfl
def xFL:List AV->Option (Bool×AV)
 | []=>some (true,.bool true)
 | _=>none
theorem xK1:OcOk P0 xO9 9 xFL:=fun xs r h=>by
 unfold xFL at h;split at h
 . simp only [z6,zb,true_and] at h;subst h;exact xd5 (p:=0) (xgh xOC (xOD P0 _) rfl xLX Tryz.func9 rfl (by kernel_rfl) (xe2 fun _=>rfl) xK2)
 . simp at h
end Go.Sim.M
end
noncomputable section
set_option maxRecDepth 100000
namespace Go.Sim.M
open Go.IntKind (i64 u64 u8)
open Go.RowKit Go.Proofs
def xL8:EO:=xKY.w xsw
def xL9:EO:=xL8.w xui
def xMa:EO:=xL9.w xvO
def xMb:EO:=xMa.w xK1
def xti {T:Type} (j:List UInt8) (c d a g:LA) (k:List UInt8) (e f h i:LA) (b:Int) (l m:LA) (δ:T) (κ:Bool->T):T:=br (decide ((↑c.length:Int)>12)) (κ (false)) (br (decide ((↑e.length:Int)>12)) (κ (false)) (br (decide (b<0)) (κ (false)) (br (decide (b>=a.length)) (κ (false)) (br ((xnY l 14).isSome) (br (!(xnY l 14).getD false) (κ (false)) (br ((xnY m 14).isSome) (br (!(xnY m 14).getD false) (κ (false)) (br ((xg1 j c d a g l).isSome) (br ((xg1 j c d a g l).getD false) (br ((xg1 k e f h i m).isSome) (br ((xg1 k e f h i m).getD false) (br (ixI a b) (br (ixT a b 2 [Sh.list 1,Sh.str] 0) (br ((xsZ j c d a g (gC a b 0).toList (gC a b 1).toStr k e f h i).isSome) (κ ((xsZ j c d a g (gC a b 0).toList (gC a b 1).toStr k e f h i).getD false)) δ) δ) δ) (κ (false))) δ) (κ (false))) δ)) δ)) δ))))
def xsS (i:List UInt8) (c a d e:LA) (j:List UInt8) (f b g h:LA) (k:Int) (l m:LA):=xti i c a d e j f b g h k l m none some
def xL7:EO:=xMb.f Tryz.func8 67 0 [1000030] [] lk0 (u1 (xPr (xPb (sEq pStr) (xPb (uL 3) (xPb (uL 1) (xPb (uL 2) (xPb (uL 7) (xPb (sEq pStr) (u7 (uL 3) (uL 1) (uL 2) (uL 7) uI (uL 3) (uL 3)))))))))) (fun ((j,c,a,d,e,k,g,b,h,i,l,m,n,_),_) _=>xti j c a d e k g b h i l m n) (fun _ p=>AV.bool p) false
def xgO (a:LA) (g:List UInt8) (d c e f:LA) (b:Int) (h i:LA):=xpe ((xaX (gC a b 0).toList (gC a b 1).toStr h g d c e f i).getD []) ((xbz (gC a b 0).toList (gC a b 1).toStr h g d c e f i).getD [])
def xgP (a:LA) (g:List UInt8) (d c e f:LA) (b:Int) (h i:LA):=(xjQ (gC a b 0).toList (gC a b 1).toStr h g d c e f i).getD false==(xmH (gC a b 0).toList (gC a b 1).toStr h g d c e f i).getD false
def xgM (b:LA) (f:List UInt8) (c a d e:LA) (g:Int) (h i:LA):=(xgO b f c a d e g h i).getD false
def xgN (b:LA) (f:List UInt8) (c a d e:LA) (g:Int) (h i:LA):=(xgO b f c a d e g h i).isSome
def xgr {T:Type} (n:List UInt8) (k j a l:LA) (f:List UInt8) (c b d e:LA) (i:Int) (g h:LA) (m:Int) (δ:T) (κ:Bool->T):T:=br ((xaX (gC a i 0).toList (gC a i 1).toStr g f c b d e h).isSome) (br ((xbz (gC a i 0).toList (gC a i 1).toStr g f c b d e h).isSome) (br (xgN a f c b d e i g h) (br (xgM a f c b d e i g h) (br ((xjQ (gC a i 0).toList (gC a i 1).toStr g f c b d e h).isSome) (br ((xmH (gC a i 0).toList (gC a i 1).toStr g f c b d e h).isSome) (br (xgP a f c b d e i g h) (br ((xan n k j a l m g f c b d e h).isSome) (br ((xaA n k j a l m g f c b d e h).isSome) (br ((xb0 ((xan n k j a l m g f c b d e h).getD []) ((xaA n k j a l m g f c b d e h).getD [])).isSome) (br ((xb0 ((xan n k j a l m g f c b d e h).getD []) ((xaA n k j a l m g f c b d e h).getD [])).getD false) (κ (true)) (κ (false))) δ) δ) δ) (κ (false))) δ) δ) (κ (false))) δ) δ) δ
def xhL {T:Type} (m:List UInt8) (k j a l:LA) (g:List UInt8) (d b e f:LA) (c:Int) (h i:LA) (n:Int) (δ:T) (κ:Bool->T):T:=br ((xsS m k j a l g d b e f c h i).isSome) (br (!(xsS m k j a l g d b e f c h i).getD false) (κ (true)) (br (ixI a c) (br (ixT a c 2 [Sh.list 1,Sh.str] 0) (br (decide (n>=0)) (br (decide (n<a.length)) (br ((xaX (gC a c 0).toList (gC a c 1).toStr h g d b e f i).isSome) (br ((xbz (gC a c 0).toList (gC a c 1).toStr h g d b e f i).isSome) (br (xgN a g d b e f c h i) (br (xgM a g d b e f c h i) (br ((xjQ (gC a c 0).toList (gC a c 1).toStr h g d b e f i).isSome) (br ((xmH (gC a c 0).toList (gC a c 1).toStr h g d b e f i).isSome) (br (xgP a g d b e f c h i) (br ((xan m k j a l c h g d b e f i).isSome) (br ((xaA m k j a l c h g d b e f i).isSome) (br ((xb0 ((xan m k j a l c h g d b e f i).getD []) ((xaA m k j a l c h g d b e f i).getD [])).isSome) (br ((xb0 ((xan m k j a l c h g d b e f i).getD []) ((xaA m k j a l c h g d b e f i).getD [])).getD false) (κ (true)) (κ (false))) δ) δ) δ) (κ (false))) δ) δ) (κ (false))) δ) δ) δ) (xgr m k j a l g d b e f c h i n δ κ)) (xgr m k j a l g d b e f c h i n δ κ)) δ) δ)) δ
def xjg (j:List UInt8) (c a d e:LA) (k:List UInt8) (f b g h:LA) (l:Int) (m n:LA) (i:Int):=xhL j c a d e k f b g h l m n i none some
def xuQ:LA->Option (Bool×AV):=fnO (u2 (xPr (xPb (sEq pStr) (xPb (uL 3) (xPb (uL 1) (xPb (uL 2) (xPb (uL 7) (xPb (sEq pStr) (u7 (uL 3) (uL 1) (uL 2) (uL 7) uI (uL 3) (uL 3))))))))) uI) (fun ((j,c,a,d,e,k,f,b,g,h,l,m,n,_),i,_) _=>xhL j c a d e k f b g h l m n i) (fun _ p=>AV.bool p) false
theorem xuP:OcOk P0 xO9 3 xuQ:=fnC xL7.ok Tryz.func3 91 0 [1000030,5000017,6000005] [] lk0
end Go.Sim.M
end
