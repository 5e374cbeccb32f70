/- Part 13 of the proof of the law. -/
import Derived.Test.YtnbckejindjgaaaGreatDoorQI12
import Derived.StillTailTactics
set_option linter.unusedVariables false
set_option linter.unusedSimpArgs false
noncomputable section
set_option maxRecDepth 100000
namespace Go.Sim.M
def cmpI (x y:Int):Int:=if x<y then -1 else if y<x then 1 else 0
def orI (x y:Int):Int:=if x=0 then y else x
end Go.Sim.M
namespace Go.Proofs
open Go.RowKit Go.Sim Go.Sim.M Go.Sort Go.Lib
theorem Tryz.cmp_walk (x y:Int) (w:World):Calls Tryz.prog 103 #[.int .i64 x,.int .i64 y] w fun e w'=>e=.returned (.int .i64 (cmpI x y))/\w'=w:=by
 unfold cmpI
 go_enter Tryz.func103,Tryz.ntmps103
 go_wp2
 all_goals (go_ret;exact ⟨rfl,rfl⟩)
theorem Tryz.or_walk (x y:Int) (b off c:Nat) (w:World) (h0:w.cell? ⟨b,off,none⟩=some (.int .i64 x)) (h1:w.cell? ⟨b,off+1,none⟩=some (.int .i64 y)):Calls Tryz.prog 102 #[.slice (some ⟨b,off,none⟩) 2 c] w fun e w'=>e=.returned (.int .i64 (orI x y))/\w'=w:=by
 unfold orI;by_cases hx:x=0
 . subst hx;rw [if_pos rfl];by_cases hy:y=0
   . subst hy
     go_enter Tryz.func102,Tryz.ntmps102
     go_wp2
     refine wp_loop_rounds 3 ?_;rw [rounds_succ]
     go_wp2
     rw [rounds_succ]
     go_wp2
     rw [rounds_succ]
     go_wp2
     go_ret
     exact ⟨rfl,rfl⟩
   . have hy':(y != 0)=true:=by simpa using hy
     go_enter Tryz.func102,Tryz.ntmps102
     go_wp2
     refine wp_loop_rounds 3 ?_;rw [rounds_succ]
     go_wp2
     rw [rounds_succ]
     go_wp2
     go_ret
     exact ⟨rfl,rfl⟩
 . have hx':(x != 0)=true:=by simpa using hx
   rw [if_neg hx]
   go_enter Tryz.func102,Tryz.ntmps102
   go_wp2
   refine wp_loop_rounds 3 ?_;rw [rounds_succ]
   go_wp2
   go_ret
   exact ⟨rfl,rfl⟩
theorem fill2I (u1 u2:Int):Instr.fill (fun i=>some (i*1,1)) ((Array.range (2*1)).map (fun x=>(Value.int .i64 0).cells[x % (Value.int .i64 0).cells.size]!)) [(0,.int .i64 u1),(1,.int .i64 u2)]=some #[.int .i64 u1,.int .i64 u2]:=by
 simp [Instr.fill,Array.range,Value.cells];apply Array.ext
 . simp
 . intro i h1 h2;rcases i with _|_|i
   . simp
   . simp
   . simp at h2;omega
set_option maxHeartbeats 2000000 in
theorem Tryz.levels2_walk (a b c d:Int) (w:World):Calls Tryz.prog 101 #[.agg #[.int .i64 a,.int .i64 b],.agg #[.int .i64 c,.int .i64 d]] w fun e w'=>e=.returned (.int .i64 (orI (cmpI a c) (cmpI b d)))/\∃ q J,w'=Sort.grow (w.drewN q) J:=by
 go_enter Tryz.func101,Tryz.ntmps101
 go_wp2_with (go_at_call 103;skip)
 have g0:(w.alloc (.cells #[.int .i64 a,.int .i64 b] 44)).heap[w.heap.size]?=some (.cells #[.int .i64 a,.int .i64 b] 44 (0,0)):=heap_alloc_new w _;have g1:((w.alloc (.cells #[.int .i64 a,.int .i64 b] 44)).alloc (.cells #[.int .i64 c,.int .i64 d] 44)).heap[w.heap.size+1]?=some (.cells #[.int .i64 c,.int .i64 d] 44 (0,0)):=by
  have:=heap_alloc_new (w.alloc (.cells #[.int .i64 a,.int .i64 b] 44)) (.cells #[.int .i64 c,.int .i64 d] 44);have e:(w.alloc (.cells #[.int .i64 a,.int .i64 b] 44)).heap.size=w.heap.size+1:=by simp
  rwa [e] at this
 have f0:((w.alloc (.cells #[.int .i64 a,.int .i64 b] 44)).alloc (.cells #[.int .i64 c,.int .i64 d] 44)).cell? ⟨w.heap.size,0,none⟩=some (.int .i64 a):=by
  rw [World.cell?_alloc_past _ _ _ (by simp)];simp only [World.cell?,g0];rfl
 have f1:((w.alloc (.cells #[.int .i64 a,.int .i64 b] 44)).alloc (.cells #[.int .i64 c,.int .i64 d] 44)).cell? ⟨w.heap.size,1,none⟩=some (.int .i64 b):=by
  rw [World.cell?_alloc_past _ _ _ (by simp)];simp only [World.cell?,g0];rfl
 have f2:((w.alloc (.cells #[.int .i64 a,.int .i64 b] 44)).alloc (.cells #[.int .i64 c,.int .i64 d] 44)).cell? ⟨w.heap.size+1,0,none⟩=some (.int .i64 c):=by
  simp only [World.cell?,g1];rfl
 have f3:((w.alloc (.cells #[.int .i64 a,.int .i64 b] 44)).alloc (.cells #[.int .i64 c,.int .i64 d] 44)).cell? ⟨w.heap.size+1,1,none⟩=some (.int .i64 d):=by
  simp only [World.cell?,g1];rfl
 have f4:∃ q J,((w.alloc (.cells #[.int .i64 a,.int .i64 b] 44)).alloc (.cells #[.int .i64 c,.int .i64 d] 44))=Sort.grow (w.drewN q) J:=⟨0,_,by rw [alloc_eq_grow,alloc_eq_grow,grow_grow];rfl⟩
 generalize ((w.alloc (.cells #[.int .i64 a,.int .i64 b] 44)).alloc (.cells #[.int .i64 c,.int .i64 d] 44))=W2 at f0 f1 f2 f3 f4 |-;refine wp_region_still_tail 10 (by kernel_rfl) (by kernel_rfl) ?_
 simp only [List.take_succ_cons,List.take_zero,List.drop_succ_cons,List.drop_zero];change wpStill _ _ (World.drew W2) _ _ _;have f0':W2.drew.cell? ⟨w.heap.size,0,none⟩=some (.int .i64 a):=f0;have f1':W2.drew.cell? ⟨w.heap.size,1,none⟩=some (.int .i64 b):=f1;have f2':W2.drew.cell? ⟨w.heap.size+1,0,none⟩=some (.int .i64 c):=f2;have f3':W2.drew.cell? ⟨w.heap.size+1,1,none⟩=some (.int .i64 d):=f3;have f4':∃ q J,W2.drew=Sort.grow (w.drewN q) J:=by obtain ⟨q,J,e⟩:=f4;exact ⟨q+1,J,by rw [e];rfl⟩
 iterate 4 still_step
 still_call (Tryz.cmp_walk _ _ _)
 iterate 4 still_step
 still_call (Tryz.cmp_walk _ _ _)
 refine wpStill_nil ?_;change wpList _ _ _ _ _ (World.drew W2);generalize World.drew W2=W at f0' f1' f2' f3' f4' |-;generalize O:cmpI a c=u1;generalize Q:cmpI b d=u2;obtain ⟨ie,q1,q2,q3⟩:∃ ie,Tryz.prog.info? 3=some ie/\ie.zero=some (.int .i64 0)/\ie.size=1:=⟨(Tryz.prog.info? 3).get (by kernel_rfl),(Option.some_get _).symm,by kernel_rfl,by kernel_rfl⟩
 refine wpList_buildSlice rfl 23 3 2 _ rfl #[.int .i64 u1,.int .i64 u2] ie (.int .i64 0) (by kernel_rfl) q1 q2 (by rw [q3];decide) (by rw [q3];decide) (by rw [q3];refine Eq.trans (congrArg _ ?_) (fill2I u1 u2);simp [Act.eval]) ?_
 simp only [Act.put]
 go_wp2_with fail
 have g2:(W.alloc (.cells #[.int .i64 u1,.int .i64 u2] 3)).heap[W.heap.size]?=some (.cells #[.int .i64 u1,.int .i64 u2] 3 (0,0)):=heap_alloc_new W _;refine (Tryz.or_walk u1 u2 W.heap.size 0 2 (W.alloc (.cells #[.int .i64 u1,.int .i64 u2] 3)) (by simp only [World.cell?,g2];rfl) (by simp only [World.cell?,g2];rfl)).mono ?_
 rintro e w' ⟨rfl,rfl⟩
 go_wp2
 go_ret
 obtain ⟨q,J,hq⟩:=f4';exact ⟨by rw [O,Q];rfl,q,_,by rw [hq,alloc_eq_grow,grow_grow]⟩
end Go.Proofs
namespace Go.Sim.M
abbrev TyE:Type:=Fin 1099511627777×Int×Int
def intsE (x:TyE):List Int:=[(x.1.val:Int),x.2.1,x.2.2]
def cmpE (x y:TyE):Int:=(x.1.val:Int) - (y.1.val:Int)
end Go.Sim.M
namespace Go.Proofs
open Go.RowKit Go.Sim Go.Sim.M Go.Sort
set_option maxHeartbeats 1000000 in
theorem Tryz.walkE (a b c a' b' c' r:Int) (hr:IntKind.i64.wrap (a - a')=r) (W:World):Calls Tryz.prog 129 #[.agg #[.int .i64 a,.int .i64 b,.int .i64 c],.agg #[.int .i64 a',.int .i64 b',.int .i64 c']] W fun e w'=>e=.returned (.int .i64 r)/\∃ q os',w'=Sort.grow (W.drewN q) os':=by
 go_enter Tryz.func129,Tryz.ntmps129
 go_wp2
 go_ret
 subst hr;exact ⟨rfl,0,_,by rw [alloc_eq_grow,alloc_eq_grow,grow_grow];rfl⟩
end Go.Proofs
namespace Go.Sim.M
open Go.RowKit Go.Proofs Go.Sort
def isE:AV->Bool
 | .agg [.int .i64 a,.int .i64 _,.int .i64 _]=>decide (0<=a)&&decide (a<=1099511627776)
 | _=>false
def decE:AV->TyE
 | .agg [.int _ a,.int _ b,.int _ c]=>(Fin.ofNat 1099511627777 a.toNat,b,c)
 | _=>default
noncomputable def srtE (xs:List AV):List AV:=(pdqL cmpE (xs.map decE)).map (encI intsE)
theorem xIA {x:AV} (h:isE x=true):encI intsE (decE x)=x:=by
 unfold isE at h;split at h
 . rename_i a b c;simp only [Bool.and_eq_true,decide_eq_true_eq] at h;have:a.toNat % 1099511627777=a.toNat:=Nat.mod_eq_of_lt (by omega)
   simp only [decE,encI,intsE,List.map_cons,List.map_nil,Fin.ofNat,this,Int.toNat_of_nonneg h.1]
 . simp at h
theorem xHi {xs:List AV} (h:xs.all isE=true):(xs.map decE).map (encI intsE)=xs:=by
 rw [List.map_map]
 conv=>rhs;rw [<-List.map_id xs]
 refine List.map_congr_left fun x hx=>?_
 exact xIA (List.all_eq_true.1 h x hx)
theorem ltE (x y:TyE):ltOf cmpE x y=decide (x.1.val<y.1.val):=by
 unfold ltOf cmpE;by_cases h:x.1.val<y.1.val
 . rw [decide_eq_true h,decide_eq_true (by omega)]
 . rw [decide_eq_false h,decide_eq_false (by omega)]
theorem swoE:SWO (ltOf cmpE) where
 irrefl x:=by rw [ltE];simp
 trans x y z h1 h2:=by rw [ltE] at *;simp at *;omega
 ntrans x y z h1 h2:=by rw [ltE] at *;simp at *;omega
noncomputable def xAv:List AV->List Box->Option (Bool×AV×List Box)
 | [.osl (.b 0) ver 0 n,.func g []],[⟨ver',3,ty,xs,false,true⟩]=>match Nat.beq g 129&&Nat.beq ty 137 with
  | true=>some (Nat.beq ver ver'&&(Nat.beq n xs.length&&(decide (n<4611686018427387904)&&xs.all isE)),.tuple [],[⟨ver',3,137,srtE xs,false,true⟩])
  | false=>none
 | _,_=>none
theorem xKk:OmOk Tryz.prog xNC 128 xAv:=fun Q H r H' h=>by
 unfold xAv at h;split at h
 . rename_i ver n g O ty xs;split at h
   case h_2=>simp at h
   rename_i hg;simp only [Bool.and_eq_true] at hg;obtain rfl:=Nat.eq_of_beq_eq_true hg.1;obtain rfl:=Nat.eq_of_beq_eq_true hg.2;simp only [Option.some.injEq,Prod.mk.injEq,Bool.and_eq_true,decide_eq_true_eq] at h;obtain ⟨⟨h1,h2,h3,h4⟩,rfl,rfl⟩:=h;obtain rfl:=Nat.eq_of_beq_eq_true h1;obtain rfl:=Nat.eq_of_beq_eq_true h2;have q:∃ ti,xMU Tryz.prog 137=some ti/\ti.sz=3/\ti.agg=true:=by
    have h:(match xMU Tryz.prog 137 with|some ti=>(ti.sz==3)&&ti.agg|none=>false)=true:=by kernel_rfl
    split at h
    . rename_i ti q;simp only [Bool.and_eq_true,beq_iff_eq] at h;exact ⟨ti,q,h.1,h.2⟩
    . simp at h
   obtain ⟨ti,q,hz,ha⟩:=q;have J:=xrn (P:=Tryz.prog) (Inv:=xNC) Tryz.srl128 3 (by decide) (fun w=>by rw [<-ha];exact xlj q w) (fun w=>by rw [<-hz];exact xcM q w)
    intsE (fun _=>rfl) cmpE swoE 129 rfl (xd2 Tryz.func128 rfl (by kernel_rfl)) (xnk (xd2 Tryz.func129 rfl (by kernel_rfl)))
    (fun x y W=>Tryz.walkE _ _ _ _ _ _ (cmpE x y) (by
     have:=x.1.isLt;have:=y.1.isLt;unfold cmpE;exact xbs (by omega) (by omega)) W)
    ver 137 rfl (xs.map decE) (by simpa using h3)
   rw [List.length_map,xHi h4] at J;exact J
 . simp at h
end Go.Sim.M
namespace Go.Sim.M
abbrev TyS:Type:=Fin 1099511627777×Int
def intsS (x:TyS):List Int:=[(x.1.val:Int),x.2]
def cmpS (x y:TyS):Int:=(x.1.val:Int) - (y.1.val:Int)
end Go.Sim.M
namespace Go.Proofs
open Go.RowKit Go.Sim Go.Sim.M Go.Sort
set_option maxHeartbeats 1000000 in
theorem Tryz.walkS (a b a' b' r:Int) (hr:IntKind.i64.wrap (a - a')=r) (W:World):Calls Tryz.prog 137 #[.agg #[.int .i64 a,.int .i64 b],.agg #[.int .i64 a',.int .i64 b']] W fun e w'=>e=.returned (.int .i64 r)/\∃ q os',w'=Sort.grow (W.drewN q) os':=by
 go_enter Tryz.func137,Tryz.ntmps137
 go_wp2
 go_ret
 subst hr;exact ⟨rfl,0,_,by rw [alloc_eq_grow,alloc_eq_grow,grow_grow];rfl⟩
end Go.Proofs
namespace Go.Sim.M
open Go.RowKit Go.Proofs Go.Sort
def isS:AV->Bool
 | .agg [.int .i64 a,.int .i64 _]=>decide (0<=a)&&decide (a<=1099511627776)
 | _=>false
def decS:AV->TyS
 | .agg [.int _ a,.int _ b]=>(Fin.ofNat 1099511627777 a.toNat,b)
 | _=>default
noncomputable def srtS (xs:List AV):List AV:=(pdqL cmpS (xs.map decS)).map (encI intsS)
theorem xIC {x:AV} (h:isS x=true):encI intsS (decS x)=x:=by
 unfold isS at h;split at h
 . rename_i a b;simp only [Bool.and_eq_true,decide_eq_true_eq] at h;have:a.toNat % 1099511627777=a.toNat:=Nat.mod_eq_of_lt (by omega)
   simp only [decS,encI,intsS,List.map_cons,List.map_nil,Fin.ofNat,this,Int.toNat_of_nonneg h.1]
 . simp at h
theorem xHk {xs:List AV} (h:xs.all isS=true):(xs.map decS).map (encI intsS)=xs:=by
 rw [List.map_map]
 conv=>rhs;rw [<-List.map_id xs]
 refine List.map_congr_left fun x hx=>?_
 exact xIC (List.all_eq_true.1 h x hx)
theorem ltS (x y:TyS):ltOf cmpS x y=decide (x.1.val<y.1.val):=by
 unfold ltOf cmpS;by_cases h:x.1.val<y.1.val
 . rw [decide_eq_true h,decide_eq_true (by omega)]
 . rw [decide_eq_false h,decide_eq_false (by omega)]
theorem swoS:SWO (ltOf cmpS) where
 irrefl x:=by rw [ltS];simp
 trans x y z h1 h2:=by rw [ltS] at *;simp at *;omega
 ntrans x y z h1 h2:=by rw [ltS] at *;simp at *;omega
noncomputable def xAy:List AV->List Box->Option (Bool×AV×List Box)
 | [.osl (.b 0) ver 0 n,.func g []],[⟨ver',2,ty,xs,false,true⟩]=>match Nat.beq g 137&&Nat.beq ty 148 with
  | true=>some (Nat.beq ver ver'&&(Nat.beq n xs.length&&(decide (n<4611686018427387904)&&xs.all isS)),.tuple [],[⟨ver',2,148,srtS xs,false,true⟩])
  | false=>none
 | _,_=>none
theorem xKm:OmOk Tryz.prog xNC 136 xAy:=fun Q H r H' h=>by
 unfold xAy at h;split at h
 . rename_i ver n g O ty xs;split at h
   case h_2=>simp at h
   rename_i hg;simp only [Bool.and_eq_true] at hg;obtain rfl:=Nat.eq_of_beq_eq_true hg.1;obtain rfl:=Nat.eq_of_beq_eq_true hg.2;simp only [Option.some.injEq,Prod.mk.injEq,Bool.and_eq_true,decide_eq_true_eq] at h;obtain ⟨⟨h1,h2,h3,h4⟩,rfl,rfl⟩:=h;obtain rfl:=Nat.eq_of_beq_eq_true h1;obtain rfl:=Nat.eq_of_beq_eq_true h2;have q:∃ ti,xMU Tryz.prog 148=some ti/\ti.sz=2/\ti.agg=true:=by
    have h:(match xMU Tryz.prog 148 with|some ti=>(ti.sz==2)&&ti.agg|none=>false)=true:=by kernel_rfl
    split at h
    . rename_i ti q;simp only [Bool.and_eq_true,beq_iff_eq] at h;exact ⟨ti,q,h.1,h.2⟩
    . simp at h
   obtain ⟨ti,q,hz,ha⟩:=q;have J:=xrn (P:=Tryz.prog) (Inv:=xNC) Tryz.srl136 2 (by decide) (fun w=>by rw [<-ha];exact xlj q w) (fun w=>by rw [<-hz];exact xcM q w)
    intsS (fun _=>rfl) cmpS swoS 137 rfl (xd2 Tryz.func136 rfl (by kernel_rfl)) (xnk (xd2 Tryz.func137 rfl (by kernel_rfl)))
    (fun x y W=>Tryz.walkS _ _ _ _ (cmpS x y) (by
     have:=x.1.isLt;have:=y.1.isLt;unfold cmpS;exact xbs (by omega) (by omega)) W)
    ver 148 rfl (xs.map decS) (by simpa using h3)
   rw [List.length_map,xHk h4] at J;exact J
 . simp at h
end Go.Sim.M
namespace Go.Sim.M
abbrev TyP:Type:=Int×Int
def intsP (x:TyP):List Int:=[x.1,x.2]
def cmpP (x y:TyP):Int:=orI (cmpI x.1 y.1) (cmpI x.2 y.2)
end Go.Sim.M
namespace Go.Sim.M
open Go.RowKit Go.Proofs Go.Sort
def isP:AV->Bool
 | .agg [.int .i64 _,.int .i64 _]=>true
 | _=>false
def decP:AV->TyP
 | .agg [.int _ a,.int _ b]=>(a,b)
 | _=>default
noncomputable def srtP (xs:List AV):List AV:=(pdqL cmpP (xs.map decP)).map (encI intsP)
theorem xIB {x:AV} (h:isP x=true):encI intsP (decP x)=x:=by
 unfold isP at h;split at h
 . rfl
 . simp at h
theorem xHj {xs:List AV} (h:xs.all isP=true):(xs.map decP).map (encI intsP)=xs:=by
 rw [List.map_map]
 conv=>rhs;rw [<-List.map_id xs]
 refine List.map_congr_left fun x hx=>?_
 exact xIB (List.all_eq_true.1 h x hx)
theorem ltP (x y:TyP):ltOf cmpP x y=decide (x.1<y.1\/x.1=y.1/\x.2<y.2):=by
 unfold ltOf cmpP orI cmpI;by_cases h:x.1<y.1\/x.1=y.1/\x.2<y.2
 . rw [decide_eq_true h];simp only [decide_eq_true_eq];rcases h with h|⟨h,h'⟩
   . simp [h]
   . simp [h,h']
 . rw [decide_eq_false h];simp only [decide_eq_false_iff_not];have h1:¬ x.1<y.1:=fun e=>h (.inl e)
   by_cases h2:y.1<x.1
   . simp [h1,h2]
   . have h3:x.1=y.1:=by omega
     have h4:¬ x.2<y.2:=fun e=>h (.inr ⟨h3,e⟩)
     by_cases h5:y.2<x.2
     . simp [h1,h2,h4,h5]
     . simp [h1,h2,h4,h5]
theorem swoP:SWO (ltOf cmpP) where
 irrefl x:=by rw [ltP];simp
 trans x y z h1 h2:=by rw [ltP] at *;simp only [decide_eq_true_eq] at *;omega
 ntrans x y z h1 h2:=by rw [ltP] at *;simp only [decide_eq_true_eq,decide_eq_false_iff_not] at *;omega
noncomputable def xAw:List AV->List Box->Option (Bool×AV×List Box)
 | [.osl (.b 0) ver 0 n,.func g []],[⟨ver',2,ty,xs,false,true⟩]=>match Nat.beq g 101&&Nat.beq ty 44 with
  | true=>some (Nat.beq ver ver'&&(Nat.beq n xs.length&&(decide (n<4611686018427387904)&&xs.all isP)),.tuple [],[⟨ver',2,44,srtP xs,false,true⟩])
  | false=>none
 | _,_=>none
theorem xKl:OmOk Tryz.prog xNC 100 xAw:=fun Q H r H' h=>by
 unfold xAw at h;split at h
 . rename_i ver n g O ty xs;split at h
   case h_2=>simp at h
   rename_i hg;simp only [Bool.and_eq_true] at hg;obtain rfl:=Nat.eq_of_beq_eq_true hg.1;obtain rfl:=Nat.eq_of_beq_eq_true hg.2;simp only [Option.some.injEq,Prod.mk.injEq,Bool.and_eq_true,decide_eq_true_eq] at h;obtain ⟨⟨h1,h2,h3,h4⟩,rfl,rfl⟩:=h;obtain rfl:=Nat.eq_of_beq_eq_true h1;obtain rfl:=Nat.eq_of_beq_eq_true h2;have q:∃ ti,xMU Tryz.prog 44=some ti/\ti.sz=2/\ti.agg=true:=by
    have h:(match xMU Tryz.prog 44 with|some ti=>(ti.sz==2)&&ti.agg|none=>false)=true:=by kernel_rfl
    split at h
    . rename_i ti q;simp only [Bool.and_eq_true,beq_iff_eq] at h;exact ⟨ti,q,h.1,h.2⟩
    . simp at h
   obtain ⟨ti,q,hz,ha⟩:=q;have J:=xrn (P:=Tryz.prog) (Inv:=xNC) Tryz.srl100 2 (by decide) (fun w=>by rw [<-ha];exact xlj q w) (fun w=>by rw [<-hz];exact xcM q w)
    intsP (fun _=>rfl) cmpP swoP 101 rfl (xd2 Tryz.func100 rfl (by kernel_rfl)) (xnk (xd2 Tryz.func101 rfl (by kernel_rfl)))
    (fun x y W=>Tryz.levels2_walk _ _ _ _ W)
    ver 44 rfl (xs.map decP) (by simpa using h3)
   rw [List.length_map,xHj h4] at J;exact J
 . simp at h
end Go.Sim.M
end
noncomputable section
namespace Go.Sim.M
open Go.RowKit Go.Proofs
noncomputable def E1:Env:=((xJq.E.withM 136 xAy).withM 100 xAw).withM 128 xAv
theorem xJn:xMV Tryz.prog xNC E1:=((xJq.ok.withM xKm).withM xKl).withM xKk
noncomputable def xLB:EO:=EO.mk E1 xJn
end Go.Sim.M
end
noncomputable section
set_option maxRecDepth 100000
namespace Go.Sim.M
open Go.IntKind (i64 u64 u8)
open Go.RowKit Go.Proofs
def xiu:Env:=E1.fn 29 1 (lsOf []) (xNg [])
theorem xzS:xMV P0 (xNC.at 1) xiu:=xJn.fn
theorem xwm:LoOk P0 (xNC.at xiu.pin) xiu (Tryz.f138.body.getD .skip):=xmE (by kernel_rfl)
def xrp {T:Type} (k:Nat) (a n:Int) (b:LA) (δ:T) (κ:Bool×(Nat×LA)×(Nat×LA)->T):T:=br (rmB k b 1 16) (κ (false,(0,[]),(k+1,b++[AV.agg [AV.int .i64 a,AV.int .i64 n]]))) δ
def xua {T:Type} (k:Nat) (b n:Int) (a:LA) (δ:T) (κ:Bool×(Nat×LA)×(Nat×LA)->T):T:=br (decide ((↑k:Int)>0)) (br (decide (0<=i64.wrap ((↑k:Int) - 1))&&decide (i64.wrap ((↑k:Int) - 1)<(↑k:Int))) (br (decide (0+(i64.wrap ((↑k:Int) - 1)).toNat<a.length)&&xMT (Sh.int .i64) ((a.getD (0+(i64.wrap ((↑k:Int) - 1)).toNat) .top).cells.getD 1 .top)) (br (((a.getD (0+(i64.wrap ((↑k:Int) - 1)).toNat) .top).cells.getD 1 .top).toInt==n) (κ (true,(k,a),(0,[]))) (xrp k b n a δ κ)) δ) δ) (xrp k b n a δ κ)
def xcP (k:Nat) (a n:Int) (b:LA):=xua k a n b none some
theorem xEq (k:Nat) (a n:Int) (xs:LA):Enc (fun (p:Bool×(Nat×LA)×(Nat×LA))=>((br p.1 ((AV.osl 0 0 0 p.2.1.1,([⟨0,2,148,p.2.1.2,false,true⟩]:List Box))) ((AV.osl 0 1 0 p.2.2.1,([⟨1,2,148,p.2.2.2,false,true⟩]:List Box)))):(AV×List Box))) (xcP k a n xs) (XFM P0 xiu Tryz.f138 (Tryz.f138.body.getD .skip) [AV.osl (0:Id) 0 0 k,AV.int .i64 a,AV.int .i64 n] [{ ver:=0,sz:=2,ty:=(148:TypeId),xs:=xs,frz:=false,pm:=true }]):=by
 have h:XFM P0 xiu Tryz.f138 (Tryz.f138.body.getD .skip) [AV.osl (0:Id) 0 0 k,AV.int .i64 a,AV.int .i64 n] [{ ver:=0,sz:=2,ty:=(148:TypeId),xs:=xs,frz:=false,pm:=true }]=xua k a n xs none (fun (p:Bool×(Nat×LA)×(Nat×LA))=>some ((br p.1 ((AV.osl 0 0 0 p.2.1.1,([⟨0,2,148,p.2.1.2,false,true⟩]:List Box))) ((AV.osl 0 1 0 p.2.2.1,([⟨1,2,148,p.2.2.2,false,true⟩]:List Box)))):(AV×List Box))):=by kernel_rfl
 rw [h];unfold xcP xua xrp;repeat' (first|refine Enc.br ?_ ?_|exact Enc.none|exact Enc.some rfl)
def xEp:LA->List Box->Option (Bool×AV×List Box):=omOf (xNE (sEq (xNP 0 0 0)) (xNE (sEq (pInt .i64)) (xNE (sEq (pInt .i64)) xNG))) (xND (xNS 0 2 (148:TypeId) false true xNH) xNF) fun (k,(a,(n,_))) (b,_)=>((xcP k a n b).isSome,(AV.osl 0 1 0 (br ((xcP k a n b).getD (false,(0,[]),(0,[]))).1 ((xcP k a n b).getD (false,(0,[]),(0,[]))).2.1.1 ((xcP k a n b).getD (false,(0,[]),(0,[]))).2.2.1),([⟨1,2,148,(br ((xcP k a n b).getD (false,(0,[]),(0,[]))).1 ((xcP k a n b).getD (false,(0,[]),(0,[]))).2.1.2 ((xcP k a n b).getD (false,(0,[]),(0,[]))).2.2.2),false,true⟩]:List Box)))
theorem xEo:OmOk P0 xNC 138 (xEp):=xul fun e f j i g=>by
 obtain ⟨k,⟨b,⟨n,_⟩⟩⟩:=e;obtain ⟨h,_⟩:=f;obtain ⟨c,a⟩:=Prod.mk.inj g;have hx:=xEq _ _ _ _ _ (xbN (d:=(false,(0,[]),(0,[]))) c);revert hx a;generalize ((xcP k b n h).getD (false,(0,[]),(0,[])))=p;intro a hx;obtain ⟨rfl,rfl⟩:=Prod.mk.inj a;obtain ⟨t,⟨l,m⟩,o,q⟩:=p;have hg:GoodM P0 xNC 138 _ _ _ _:=xiw (p:=xiu.pin) (xkv xM3 (xM4 P0 _) rfl xzS rfl Tryz.func138 rfl (by kernel_rfl) xwm hx)
 cases t
 . exact hg
 . exact GoodM.bump1 rfl (by decide) hg
def xvE:EO:=xLB.wM xEo
def xmr {T:Type} (d:LA) (e:Int) (b:Nat) (c:Int) (a:LA) (δ:T) (κl:(Nat×Int×LA)->T) (κr:(Nat×LA)->T):T:=br (decide (c<e)) (br (ixI d c) (br (ixT d c 3 [Sh.int .i64,Sh.int .i64,Sh.int .i64] 0) (br (xf5 (gC d c 0).toInt (gC d c 1).toInt) (br (rmB b a 2 16) (κl (b+2,i64.wrap (c+1),a++[AV.agg [AV.int .i64 (gC d c 0).toInt,AV.int .i64 (gC d c 2).toInt],AV.agg [AV.int .i64 (gC d c 1).toInt,AV.int .i64 (i64.wrap (0 - (gC d c 2).toInt))]])) δ) (κl (b,i64.wrap (c+1),a))) δ) δ) (κr (b,a))
def xev (c:LA) (d:Int):StT (Nat×Int×LA) (Nat×LA):=fun (b,e,a)=>xmr c d b e a none inL inR
def xii:=xvE.l 106 0 [] [] Tryz.f104 0 lk0 [3,10,11,12] [3] [(3,2,148)] (q4 (xNP 0 0 0) (qL 3) qI qI) (q1 (qB 0 2 148 xNH)) (fun (b,c,d,e,_) (a,_)=>(xev c d,(b,e,a),fun p=>(.leaf (.exit 0) [AV.osl 0 0 0 p.1] [bF 0 2 148 p.2]))) (0,[]) fun (_,c,d,_,_) _ (b,e,a)=>(((b,c,d,e,()),(a,())),xmr c d b e a none)
def xuz (i:Int) (a:LA):=decide (0+i.toNat<a.length)
def xvr {T:Type} (b e:Nat) (d i:Int) (a c:LA) (δ:T) (κl:(Int×Int×LA×LA)->T) (κr:(Int×Int×LA×LA)->T):T:=br (decide (i<(↑b:Int))) (br (decide (0<=i)&&decide (i<(↑b:Int))) (br (xuz i a&&xMT (Sh.int .i64) ((a.getD (0+i.toNat) .top).cells.getD 0 .top)) (br (((a.getD (0+i.toNat) .top).cells.getD 0 .top).toInt==0) (br (decide (0<=i)&&decide (i<(↑b:Int))) (br (xuz i a&&xMT (Sh.int .i64) ((a.getD (0+i.toNat) .top).cells.getD 1 .top)) (κl (i64.wrap (d+((a.getD (0+i.toNat) .top).cells.getD 1 .top).toInt),i64.wrap (i+1),a,c)) δ) δ) (κr (d,i,a,c))) δ) δ) (κr (d,i,a,c))
def xja (b d:Nat):StT (Int×Int×LA×LA) (Int×Int×LA×LA):=fun (e,i,a,c)=>xvr b d e i a c none inL inR
def xll:=xvE.l 106 0 [] [(3,xii.lp)] Tryz.f104 1 lk0 [3,6,7,8] [3,6,7,8] [(3,2,148),(6,2,148)] (q4 (xNP 0 0 0) (xNP 1 0 0) qI qI) (q2 (qB 0 2 148 xNH) (qB 0 2 148 xNH)) (fun (a,c,e,i,_) (b,d,_)=>(xja a c,(e,i,b,d),fun p=>(.leaf (.exit 2) [AV.osl 0 0 0 a,AV.osl 1 0 0 c,AV.int .i64 p.1,AV.int .i64 p.2.1] [bF 0 2 148 p.2.2.1,bF 0 2 148 p.2.2.2]))) (0,0,[],[]) fun (a,c,_,_,_) _ (e,i,b,d)=>(((a,c,e,i,()),(b,d,())),xvr a c e i b d none)
def xit (i:Int) (a:LA):=decide (0+i.toNat<a.length)
def xjp {T:Type} (b f:Nat) (e d i:Int) (a c:LA) (δ:T) (κl:(Int×Int×LA×LA)->T) (κr:(Int×Int×LA×LA)->T):T:=br (decide (i<(↑b:Int))) (br (decide (0<=i)&&decide (i<(↑b:Int))) (br (xit i a&&xMT (Sh.int .i64) ((a.getD (0+i.toNat) .top).cells.getD 0 .top)) (br (((a.getD (0+i.toNat) .top).cells.getD 0 .top).toInt==e) (br (decide (0<=i)&&decide (i<(↑b:Int))) (br (xit i a&&xMT (Sh.int .i64) ((a.getD (0+i.toNat) .top).cells.getD 1 .top)) (κl (i64.wrap (d+((a.getD (0+i.toNat) .top).cells.getD 1 .top).toInt),i64.wrap (i+1),a,c)) δ) δ) (κr (d,i,a,c))) δ) δ) (κr (d,i,a,c))
def xdj (b d:Nat) (e:Int):StT (Int×Int×LA×LA) (Int×Int×LA×LA):=fun (f,i,a,c)=>xjp b d e f i a c none inL inR
def xlm:=xvE.l 106 0 [] [(3,xii.lp),(11,xll.lp)] Tryz.f104 3 lk0 [3,6,7,8,9] [3,6,7,8,9] [(3,2,148),(6,2,148)] (q5 (xNP 0 0 0) (xNP 1 0 0) qI qI qI) (q2 (qB 0 2 148 xNH) (qB 0 2 148 xNH)) (fun (a,c,f,i,e,_) (b,d,_)=>(xdj a c e,(f,i,b,d),fun p=>(.leaf (.exit 6) [AV.osl 0 0 0 a,AV.osl 1 0 0 c,AV.int .i64 p.1,AV.int .i64 p.2.1,AV.int .i64 e] [bF 0 2 148 p.2.2.1,bF 0 2 148 p.2.2.2]))) (0,0,[],[]) fun (a,c,_,_,e,_) _ (f,i,b,d)=>(((a,c,f,i,e,()),(b,d,())),xjp a c e f i b d none)
def xg9 (i:Int) (a:LA):=decide (0+i.toNat<a.length)&&xMT (Sh.int .i64) ((a.getD (0+i.toNat) .top).cells.getD 0 .top)
def xe6 (i:Int) (a:LA):=((a.getD (0+i.toNat) .top).cells.getD 0 .top).toInt
def xha (b d:Nat) (e i:Int) (a c:LA):=Iter (xdj b d (xe6 i a)) (e,i,a,c)
def xis (b d:Nat) (e i:Int) (a c:LA):=(xha b d e i a c).getD (0,0,[],[])
def xiq (b d:Nat) (e i:Int) (a c:LA):=(xis b d e i a c).snd
def xir (b d:Nat) (e i:Int) (a c:LA):=(xis b d e i a c).fst
def xip (b d:Nat) (e i:Int) (a c:LA):=(xiq b d e i a c).snd
def xio (b c:Nat) (e i:Int) (a d:LA):=xcP c (xe6 i a) (xir b c e i a d) (xip b c e i a d).snd
def xin (b d:Nat) (e i:Int) (a c:LA):=(xio b d e i a c).getD (false,(0,[]),0,[])
def xil (b d:Nat) (e i:Int) (a c:LA):=(xin b d e i a c).fst
def xim (b d:Nat) (e i:Int) (a c:LA):=(xin b d e i a c).snd
def xij (b d:Nat) (e i:Int) (a c:LA):=(xim b d e i a c).snd
def xik (b d:Nat) (e i:Int) (a c:LA):=(xim b d e i a c).fst
def xjo {T:Type} (b d:Nat) (e i:Int) (a c:LA) (δ:T) (κl:(Nat×Int×Int×LA×LA)->T) (κr:(Nat×LA)->T):T:=br (decide (i<(↑b:Int))) (br (decide (0<=i)&&decide (i<(↑b:Int))) (br (xg9 i a) (br (decide (xe6 i a<1099511627776)) (br (decide (0<=i)&&decide (i<(↑b:Int))) (br (xg9 i a) (br ((xha b d e i a c).isSome) (br ((xio b d e i a c).isSome) (κl (br (xil b d e i a c) (xik b d e i a c).fst (xij b d e i a c).fst,xir b d e i a c,(xiq b d e i a c).fst,(xip b d e i a c).fst,br (xil b d e i a c) (xik b d e i a c).snd (xij b d e i a c).snd)) δ) δ) δ) δ) (κr (d,c))) δ) δ) (κr (d,c))
def xew (b:Nat):StT (Nat×Int×Int×LA×LA) (Nat×LA):=fun (d,e,i,a,c)=>xjo b d e i a c none inL inR
def xuA:=xvE.l 106 0 [] [(3,xii.lp),(11,xll.lp),(17,xlm.lp)] Tryz.f104 2 (lk1 xlm.ok) [3,6,7,8] [6] [(3,2,148),(6,2,148)] (q4 (xNP 0 0 0) (xNP 1 0 0) qI qI) (q2 (qB 0 2 148 xNH) (qB 0 2 148 xNH)) (fun (b,d,e,i,_) (a,c,_)=>(xew b,(d,e,i,a,c),fun p=>(.leaf (.exit 4) [AV.osl 0 0 0 p.1] [bF 0 2 148 p.2]))) (0,[]) fun (b,_,_,_,_) _ (d,e,i,a,c)=>(((b,d,e,i,()),(a,c,())),xjo b d e i a c none)
def xsx (l:LA):=(Iter (xev l (↑l.length:Int)) (0,0,[])).getD (0,[])
def xkx (l:LA):=(xsx l).fst
def xoQ (l:LA):=(xsx l).snd
def xsZ (l:LA):=Iter (xja (xkx l) 0) (0,0,srtS (xoQ l),[])
def xsY (l:LA):=(xsZ l).getD (0,0,[],[])
def xsW (l:LA):=(xsY l).fst
def xsX (l:LA):=(xsY l).snd
def xsV (l:LA):=(xsX l).snd
def xt9 (l:LA):=xcP 0 0 (xsW l) (xsV l).snd
def xt8 (l:LA):=(xt9 l).getD (false,(0,[]),0,[])
def xt6 (l:LA):=(xt8 l).fst
def xt7 (l:LA):=(xt8 l).snd
def xt4 (l:LA):=(xt7 l).fst
def xt5 (l:LA):=(xt7 l).snd
def xt3 (l:LA):=Iter (xew (xkx l)) (br (xt6 l) (xt4 l).fst (xt5 l).fst,xsW l,(xsX l).fst,(xsV l).fst,br (xt6 l) (xt4 l).snd (xt5 l).snd)
def xt2 (l:LA):=(xt3 l).getD (0,[])
def xt0 (l:LA):=(xt2 l).snd
def xt1 (l:LA):=(xt2 l).fst
def xu9 {T:Type} (l:LA) (δ:T) (κ:LA->T):T:=br ((Iter (xev l (↑l.length:Int)) (0,0,[])).isSome) (br ((xkx l).beq (xoQ l).length&&(decide (xkx l<4611686018427387904)&&(xoQ l).all isS)) (br ((xsZ l).isSome) (br ((xt9 l).isSome) (br ((xt3 l).isSome) (br (decide (0+xt1 l<=(xt0 l).length)&&true) (κ (List.take (xt1 l) (List.drop 0 (xt0 l)))) δ) δ) δ) δ) δ) δ
def xu8 (l:LA):=xu9 l none some
def xGH:EO:=xvE.f Tryz.func104 106 0 [] [(3,xii.lp),(11,xll.lp),(17,xlm.lp),(15,xuA.lp)] (lks (lkC xii.ok (lkC xll.ok (lkC xuA.ok (lkC xlm.ok lkN))))) (u1 (uL 3)) (fun (l,_) _=>xu9 l) (fun _ p=>AV.list 2 p) []
def xeS {T:Type} (d:LA) (e:Int) (c:Nat) (b:Int) (a:LA) (δ:T) (κl:(Nat×Int×LA)->T) (κr:(Nat×LA)->T):T:=br (decide (b<e)) (br (ixI d b) (br (ixT d b 2 [Sh.int .i64,Sh.int .i64] 0) (br (rmB c a 1 24) (κl (c+1,i64.wrap (b+1),a++[AV.agg [AV.int .i64 (gC d b 0).toInt,AV.int .i64 (gC d b 1).toInt,AV.int .i64 1]])) δ) δ) δ) (κr (c,a))
def xbn (c:LA) (d:Int):StT (Nat×Int×LA) (Nat×LA):=fun (b,e,a)=>xeS c d b e a none inL inR
def xlW:=xGH.l 20 0 [] [] Tryz.f66 0 lk0 [3,6,7,8] [3] [(3,3,155)] (q4 (xNP 0 0 0) (qL 2) qI qI) (q1 (qB 0 3 155 xNH)) (fun (b,c,d,e,_) (a,_)=>(xbn c d,(b,e,a),fun p=>(.leaf (.exit 0) [AV.osl 0 0 0 p.1] [bF 0 3 155 p.2]))) (0,[]) fun (_,c,d,_,_) _ (b,e,a)=>(((b,c,d,e,()),(a,())),xeS c d b e a none)
def xjI (l:LA):=(Iter (xbn l (↑l.length:Int)) (0,0,[])).getD (0,[])
def xjG (l:LA):=(xjI l).fst
def xjH (l:LA):=(xjI l).snd
def xjF (l:LA):=xu8 (List.take (xjG l) (List.drop 0 (xjH l)))
def xkg {T:Type} (l:LA) (δ:T) (κ:LA->T):T:=br ((Iter (xbn l (↑l.length:Int)) (0,0,[])).isSome) (br (decide (0+xjG l<=(xjH l).length)&&true) (br ((xjF l).isSome) (κ ((xjF l).getD [])) δ) δ) δ
def xed (l:LA):=xkg l none some
def xub:EO:=xGH.f Tryz.func66 20 0 [] [(3,xlW.lp)] (lk1 xlW.ok) (u1 (uL 2)) (fun (l,_) _=>xkg l) (fun _ p=>AV.list 2 p) []
def xjW {T:Type} (o n:Int) (e f:Nat) (k p m j:Int) (h l i g a:Nat) (b:LA) (d:Nat) (c:LA) (δ:T) (κl:(Int×Int×Nat×Nat×Nat×Nat×Nat×LA×Nat×LA)->T) (κr:(Int×Nat×Nat×Nat×Nat×LA×Nat×LA×Nat)->T):T:=br (decide (m<p)) (br (a==e) (br (a==e) (br (a==e&&(decide (f<b.length)&&xMT (Sh.int .i64) ((b.getD f .top).cells.getD 0 .top))) (br (d==g&&(rmB i c 1 16)) (κl (i64.wrap (m+1),j,h,l,i+1,g+1,a,List.take h b,g+1,c++[AV.agg [AV.int .i64 ((b.getD f .top).cells.getD 0 .top).toInt,AV.int .i64 o]])) δ) δ) δ) δ) (κr (j,l,h,g,i,b,a,c,d))
def xce (m n:Int) (e f:Nat) (k o:Int):StT (Int×Int×Nat×Nat×Nat×Nat×Nat×LA×Nat×LA) (Int×Nat×Nat×Nat×Nat×LA×Nat×LA×Nat):=fun (p,g,h,i,j,l,a,b,c,d)=>xjW m n e f k o p g h i j l a b c d none inL inR
def xiL:=xub.l 71 5 [] [] Tryz.f99 1 lk0 [0,1,2,3,4,7,8,37,38] [0,1,2,3,4,7,8] [(3,0,0)] (q9 qI qI (xNQ 0 0 0 0) (xNQ 1 0 0 0) (xNQ 2 0 0 0) (pOwnV 3 0) qI qI qI) (q5 (qB 0 1 3 (q1 qI)) (xNS 0 1 142 false false (q1 (pOslV 3 0))) (xNS 0 1 47 false false (q1 (pOslV 4 0))) (pBoxV 2 144 false true xNH) (pBoxV 2 44 false true xNH)) (fun (o,n,_,_,_,(e,f),k,q,r,_) ((g,_),((h,i),_),((j,m),_),(a,b),(c,d),_)=>(xce o n e f k q,(r,g,i,h,m,j,a,b,c,d),fun p=>(.leaf (.exit 2) [AV.int .i64 o,AV.int .i64 n,AV.own 0 0 0 0,AV.own 1 0 0 0,AV.own 2 0 0 0,AV.own 3 e f 0,AV.int .i64 k] [bF 0 1 3 [AV.int .i64 p.1],⟨0,1,142,[AV.osl 3 p.2.1 0 p.2.2.1],false,false⟩,⟨0,1,47,[AV.osl 4 p.2.2.2.1 0 p.2.2.2.2.1],false,false⟩,bF p.2.2.2.2.2.2.1 2 144 p.2.2.2.2.2.1,bF p.2.2.2.2.2.2.2.2 2 44 p.2.2.2.2.2.2.2.1]))) (0,0,0,0,0,[],0,[],0) fun (o,n,_,_,_,(e,f),k,q,_,_) _ (r,g,i,h,m,j,a,b,c,d)=>(((o,n,(),(),(),(e,f),k,q,r,()),((g,()),((h,i),()),((j,m),()),(a,b),(c,d),())),xjW o n e f k q r g i h m j a b c d none)
def xaz (a:Nat):Nat:=0+(i64.wrap ((↑a:Int) - 1)).toNat
def xcH (n b:Int) (c d:Nat) (a:LA):Int:=if i64.wrap (b - n)<((a.getD (xaz c) .top).cells.getD 1 .top).toInt then i64.wrap (b - n) else ((a.getD (xaz c) .top).cells.getD 1 .top).toInt
def xhy (j n d:Int) (c g h i a:Nat) (b:LA) (e:Nat) (f:LA):=Iter (xce j n g (xaz c) (xcH n d c a b) (xcH n d c a b)) (0,d,c,g,h,i,a,List.take c b,e,f)
def xfe (j n e:Int) (f g h i a:Nat) (b:LA) (c:Nat) (d:LA):=(xhy j n e f g h i a b c d).getD (0,0,0,0,0,[],0,[],0)
def xhw (j n e:Int) (f g h i a:Nat) (b:LA) (c:Nat) (d:LA):=(xfe j n e f g h i a b c d).snd
def xej (j n e:Int) (f g h i a:Nat) (b:LA) (c:Nat) (d:LA):=(xhw j n e f g h i a b c d).fst
def xhv (j n e:Int) (f g h i a:Nat) (b:LA) (c:Nat) (d:LA):=(xhw j n e f g h i a b c d).snd
def xei (j n e:Int) (f g h i a:Nat) (b:LA) (c:Nat) (d:LA):=(xhv j n e f g h i a b c d).fst
def xfd (j n e:Int) (f g h i a:Nat) (b:LA) (c:Nat) (d:LA):=(xhv j n e f g h i a b c d).snd
def xeh (j n e:Int) (f g h i a:Nat) (b:LA) (c:Nat) (d:LA):=i64.wrap ((↑(xei j n e f g h i a b c d):Int) - 1)
def xfc (j n e:Int) (f g h i a:Nat) (b:LA) (c:Nat) (d:LA):=(xfd j n e f g h i a b c d).snd
def xhu (j n e:Int) (f g h i a:Nat) (b:LA) (c:Nat) (d:LA):=(xfc j n e f g h i a b c d).snd
def xf4 (j n e:Int) (f g h i a:Nat) (b:LA) (c:Nat) (d:LA):=(xhu j n e f g h i a b c d).fst
def xiK (j n e:Int) (f g h i a:Nat) (b:LA) (c:Nat) (d:LA):=(xhu j n e f g h i a b c d).snd
def xcd (j n f:Int) (g e h i a:Nat) (b:LA) (c:Nat) (d:LA):=(xiK j n f g e h i a b c d).fst==e
def xiJ (j n f:Int) (e g h i a:Nat) (b:LA) (c:Nat) (d:LA):=decide (xaz e<(xf4 j n f e g h i a b c d).length)
def xeg (j n f:Int) (e g h i a:Nat) (b:LA) (c:Nat) (d:LA):=((xf4 j n f e g h i a b c d).getD (xaz e) .top).cells
def xek (j n e:Int) (f g h i a:Nat) (b:LA) (c:Nat) (d:LA):=(xiK j n e f g h i a b c d).snd
def xdf (j n f:Int) (e g h i a:Nat) (b:LA) (c:Nat) (d:LA):=(xf4 j n f e g h i a b c d).set (xaz e) (AV.agg (List.take 1 (xeg j n f e g h i a b c d)++[AV.int .i64 (i64.wrap (((xeg j n f e g h i a b c d).getD 1 .top).toInt - xcH n f e a b))]++List.drop 2 (xeg j n f e g h i a b c d)))
def xeW {T:Type} (j n g:Int) (f e h i a:Nat) (b:LA) (c:Nat) (d:LA) (δ:T) (κl:(Int×Nat×Nat×Nat×Nat×Nat×LA×Nat×LA)->T) (κr:(Int×Nat×Nat×Nat×Nat×LA×Nat×LA×Nat)->T):T:=br (decide (g>n)) (br (a==e) (br (a==e&&(decide (0<=i64.wrap ((↑f:Int) - 1))&&decide (i64.wrap ((↑f:Int) - 1)<(↑f:Int)))) (br (a==e) (br (a==e) (br (a==e&&(decide (xaz f<b.length)&&xMT (Sh.int .i64) ((b.getD (xaz f) .top).cells.getD 1 .top))) (br ((xhy j n g f e h i a b c d).isSome) (br (xcd j n g f e h i a b c d) (br (xcd j n g f e h i a b c d) (br (xcd j n g f e h i a b c d&&(xiJ j n g f e h i a b c d&&xMT (Sh.int .i64) ((xeg j n g f e h i a b c d).getD 1 .top))) (br (xcd j n g f e h i a b c d) (br (xcd j n g f e h i a b c d) (br (xcd j n g f e h i a b c d&&xiJ j n g f e h i a b c d) (br (e==e) (br (e==e) (br (e==e&&(decide (xaz f<(xdf j n g f e h i a b c d).length)&&xMT (Sh.int .i64) (((xdf j n g f e h i a b c d).getD (xaz f) .top).cells.getD 1 .top))) (br ((((xdf j n g f e h i a b c d).getD (xaz f) .top).cells.getD 1 .top).toInt==0) (br (e==xej j n g f e h i a b c d) (br (e==xej j n g f e h i a b c d&&(decide (0<=xeh j n g f e h i a b c d)&&decide (xeh j n g f e h i a b c d<=(↑(xei j n g f e h i a b c d):Int))&&true)) (κl (i64.wrap ((xfe j n g f e h i a b c d).fst - xcH n g f a b),(xeh j n g f e h i a b c d).toNat - 0,xej j n g f e h i a b c d,(xfc j n g f e h i a b c d).fst,(xfd j n g f e h i a b c d).fst,e,List.take ((xeh j n g f e h i a b c d).toNat - 0) (xdf j n g f e h i a b c d),(xek j n g f e h i a b c d).snd,(xek j n g f e h i a b c d).fst)) δ) δ) (κl (i64.wrap ((xfe j n g f e h i a b c d).fst - xcH n g f a b),xei j n g f e h i a b c d,xej j n g f e h i a b c d,(xfc j n g f e h i a b c d).fst,(xfd j n g f e h i a b c d).fst,e,List.take (xei j n g f e h i a b c d) (xdf j n g f e h i a b c d),(xek j n g f e h i a b c d).snd,(xek j n g f e h i a b c d).fst))) δ) δ) δ) δ) δ) δ) δ) δ) δ) δ) δ) δ) δ) δ) δ) (κr (g,e,f,i,h,b,a,d,c))
def xbA (j n:Int):StT (Int×Nat×Nat×Nat×Nat×Nat×LA×Nat×LA) (Int×Nat×Nat×Nat×Nat×LA×Nat×LA×Nat):=fun (e,f,g,h,i,a,b,c,d)=>xeW j n e f g h i a b c d none inL inR
def xsb:=xub.l 71 5 [] [(7,xiL.lp)] Tryz.f99 0 (lk1 xiL.ok) [0,1,2,3,4] [] [(3,0,0)] (q5 qI qI (xNQ 0 0 0 0) (xNQ 1 0 0 0) (xNQ 2 0 0 0)) (q5 (qB 0 1 3 (q1 qI)) (xNS 0 1 142 false false (q1 (pOslV 3 0))) (xNS 0 1 47 false false (q1 (pOslV 4 0))) (pBoxV 2 144 false true xNH) (pBoxV 2 44 false true xNH)) (fun (j,n,_,_,_,_) ((e,_),((f,g),_),((h,i),_),(a,b),(c,d),_)=>(xbA j n,(e,g,f,i,h,a,b,c,d),fun p=>(.leaf (.exit 0) [] [bF 0 1 3 [AV.int .i64 p.1],⟨0,1,142,[AV.osl 3 p.2.1 0 p.2.2.1],false,false⟩,⟨0,1,47,[AV.osl 4 p.2.2.2.1 0 p.2.2.2.2.1],false,false⟩,bF p.2.2.2.2.2.2.1 2 144 p.2.2.2.2.2.1,bF p.2.2.2.2.2.2.2.2 2 44 p.2.2.2.2.2.2.2.1]))) (0,0,0,0,0,[],0,[],0) fun (j,n,_,_,_,_) _ (e,g,f,i,h,a,b,c,d)=>(((j,n,(),(),(),()),((e,()),((f,g),()),((h,i),()),(a,b),(c,d),())),xeW j n e g f i h a b c d none)
def xgz:Env:=xub.E.fn 71 5 (lsOf []) (xNg [(7,xiL.lp),(3,xsb.lp)])
theorem xyz:xMV P0 (xNC.at 5) xgz:=xub.ok.fn
theorem xvW:LoOk P0 (xNC.at xgz.pin) xgz (Tryz.f99.body.getD .skip):=xhj (ls:=[xMZ Tryz.f99 0,xMZ Tryz.f99 1]) (by kernel_rfl) (lkC xsb.ok (lkC xiL.ok lkN))
def xlc (a n h:Int) (b c:Nat) (d e:LA):=Iter (xbA a n) (n,b+1,1,c,0,1,List.take (b+1) (d++[AV.agg [AV.int .i64 a,AV.int .i64 (i64.wrap (n - h))]]),0,e)
def xld (a n h:Int) (b c:Nat) (d e:LA):=Iter (xbA a n) (h,b,0,c,0,0,List.take b d,0,e)
def xk7 (a n h:Int) (b c:Nat) (d e:LA):=(xlc a n h b c d e).getD (0,0,0,0,0,[],0,[],0)
def xlb (a n h:Int) (b c:Nat) (d e:LA):=(xld a n h b c d e).getD (0,0,0,0,0,[],0,[],0)
def xmd (a n h:Int) (b c:Nat) (d e:LA):=(xk7 a n h b c d e).snd
def xla (a n h:Int) (b c:Nat) (d e:LA):=(xlb a n h b c d e).snd
def xma (a n h:Int) (b c:Nat) (d e:LA):=(xmd a n h b c d e).snd
def xk9 (a n h:Int) (b c:Nat) (d e:LA):=(xla a n h b c d e).snd
def xl9 (a n h:Int) (b c:Nat) (d e:LA):=(xma a n h b c d e).snd
def xk8 (a n h:Int) (b c:Nat) (d e:LA):=(xk9 a n h b c d e).snd
def xl8 (a n h:Int) (b c:Nat) (d e:LA):=(xl9 a n h b c d e).snd
def xk6 (a n h:Int) (b c:Nat) (d e:LA):=(xk8 a n h b c d e).snd
def xl7 (a n h:Int) (b c:Nat) (d e:LA):=(xl8 a n h b c d e).snd
def xme (a n h:Int) (b c:Nat) (d e:LA):=(xk6 a n h b c d e).snd
def xl6 (a n h:Int) (b c:Nat) (d e:LA):=(xl7 a n h b c d e).snd
def xmc (a n h:Int) (b c:Nat) (d e:LA):=(xme a n h b c d e).snd
def xl5 (a n h:Int) (b c:Nat) (d e:LA):=(xl6 a n h b c d e).snd
def xmb (a n h:Int) (b c:Nat) (d e:LA):=(xmc a n h b c d e).snd
def xkA {T:Type} (a n h:Int) (b d:Nat) (c e:LA) (δ:T) (κ:Int×Nat×Nat×Nat×Nat×LA×Nat×LA×Nat->T):T:=br (decide (n>h)) (br (rmB b c 1 16) (br ((xlc a n h b d c e).isSome) (κ ((xk7 a n h b d c e).fst,(xmd a n h b d c e).fst,(xma a n h b d c e).fst,(xl9 a n h b d c e).fst,(xl8 a n h b d c e).fst,(xl7 a n h b d c e).fst,(xl6 a n h b d c e).fst,(xl5 a n h b d c e).fst,(xl5 a n h b d c e).snd)) δ) δ) (br ((xld a n h b d c e).isSome) (κ ((xlb a n h b d c e).fst,(xla a n h b d c e).fst,(xk9 a n h b d c e).fst,(xk8 a n h b d c e).fst,(xk6 a n h b d c e).fst,(xme a n h b d c e).fst,(xmc a n h b d c e).fst,(xmb a n h b d c e).fst,(xmb a n h b d c e).snd)) δ)
def xk5 (a n h:Int) (b c:Nat) (d e:LA):=xkA a n h b c d e none some
theorem xCx (a n h:Int) (b c:Nat) (d e:LA):Enc (fun (p:Int×Nat×Nat×Nat×Nat×LA×Nat×LA×Nat)=>(((AV.tuple [],([⟨0,1,3,[AV.int .i64 p.1],false,true⟩,⟨0,1,142,[AV.osl 3 p.2.1 0 p.2.2.1],false,false⟩,⟨0,1,47,[AV.osl 4 p.2.2.2.1 0 p.2.2.2.2.1],false,false⟩,⟨p.2.2.2.2.2.2.1,2,144,p.2.2.2.2.2.1,false,true⟩,⟨p.2.2.2.2.2.2.2.2,2,44,p.2.2.2.2.2.2.2.1,false,true⟩]:List Box))):(AV×List Box))) (xk5 a n h b c d e) (XFM P0 xgz Tryz.f99 (Tryz.f99.body.getD .skip) [AV.int .i64 a,AV.int .i64 n,AV.own (0:Id) 0 0 0,AV.own (1:Id) 0 0 0,AV.own (2:Id) 0 0 0] [{ ver:=0,sz:=1,ty:=(3:TypeId),xs:=[AV.int .i64 h],frz:=false,pm:=true },{ ver:=0,sz:=1,ty:=(142:TypeId),xs:=[AV.osl (3:Id) 0 0 b],frz:=false,pm:=false },{ ver:=0,sz:=1,ty:=(47:TypeId),xs:=[AV.osl (4:Id) 0 0 c],frz:=false,pm:=false },{ ver:=0,sz:=2,ty:=(144:TypeId),xs:=d,frz:=false,pm:=true },{ ver:=0,sz:=2,ty:=(44:TypeId),xs:=e,frz:=false,pm:=true }]):=by
 have h:XFM P0 xgz Tryz.f99 (Tryz.f99.body.getD .skip) [AV.int .i64 a,AV.int .i64 n,AV.own (0:Id) 0 0 0,AV.own (1:Id) 0 0 0,AV.own (2:Id) 0 0 0] [{ ver:=0,sz:=1,ty:=(3:TypeId),xs:=[AV.int .i64 h],frz:=false,pm:=true },{ ver:=0,sz:=1,ty:=(142:TypeId),xs:=[AV.osl (3:Id) 0 0 b],frz:=false,pm:=false },{ ver:=0,sz:=1,ty:=(47:TypeId),xs:=[AV.osl (4:Id) 0 0 c],frz:=false,pm:=false },{ ver:=0,sz:=2,ty:=(144:TypeId),xs:=d,frz:=false,pm:=true },{ ver:=0,sz:=2,ty:=(44:TypeId),xs:=e,frz:=false,pm:=true }]=xkA a n h b c d e none (fun (p:Int×Nat×Nat×Nat×Nat×LA×Nat×LA×Nat)=>some (((AV.tuple [],([⟨0,1,3,[AV.int .i64 p.1],false,true⟩,⟨0,1,142,[AV.osl 3 p.2.1 0 p.2.2.1],false,false⟩,⟨0,1,47,[AV.osl 4 p.2.2.2.1 0 p.2.2.2.2.1],false,false⟩,⟨p.2.2.2.2.2.2.1,2,144,p.2.2.2.2.2.1,false,true⟩,⟨p.2.2.2.2.2.2.2.2,2,44,p.2.2.2.2.2.2.2.1,false,true⟩]:List Box))):(AV×List Box))):=by kernel_rfl
 rw [h];unfold xk5 xkA;repeat' (first|refine Enc.br ?_ ?_|exact Enc.none|exact Enc.some rfl)
end Go.Sim.M
end
noncomputable section
set_option maxRecDepth 100000
namespace Go.Sim
open Go.RowKit
theorem GoodM.aged {P:Program} {Inv:IV} {f:FuncId} {args:List AV} {H E:List Box} {p q v k t s y:Nat} {xs:List AV}
  (h:GoodM P Inv f args H (.tuple []) E) (hz:∀ bx,H[q]?=some bx->bx.ver=0)
  (ep:E[p]?=some ⟨0,1,t,[.osl (.b q) v 0 k],false,false⟩) (eq:E[q]?=some ⟨v,s,y,xs,false,true⟩) (pt:isC t=false) (py:isC y=false)
  (ho:∀ n bx,E[n]?=some bx->isC bx.ty=false/\(n=p\/n=q\/bx.pm=true\/∃ n' v' k',n'≠q/\bx.xs=[.osl (.b n') v' 0 k'])) :
  GoodM P Inv f args H (.tuple []) ((E.set p ⟨0,1,t,[.osl (.b q) 1 0 k],false,false⟩).set q ⟨1,s,y,xs,false,true⟩):=by
 have pq:p≠q:=fun e=>by
  subst e;rw [ep] at eq;simp at eq
 refine ⟨h.1,fun w0 w A M vs hI hB hR ac=>(h.2 w0 w A M vs hI hB hR ac).mono ?_⟩
 rintro e w' ⟨u,A',M',rfl,h1,h2,h3,h4,h5⟩;let M'':Id->Option MB:=fun id=>if id=.b q then (M' id).map fun m=>⟨m.b,1,m.sz,m.cap,m.ty⟩ else M' id
 have eo:∀ id,id≠.b q->M'' id=M' id:=fun id g1=>if_neg g1
 have e4:∀ m,M' (.b q)=some m->M'' (.b q)=some ⟨m.b,1,m.sz,m.cap,m.ty⟩:=fun m hm=>(if_pos rfl).trans (by rw [hm];rfl)
 have O:∀ id m1,M'' id=some m1->∃ m0,M' id=some m0/\m1.b=m0.b/\m1.cap=m0.cap:=fun id m1 J=>by
  by_cases g3:id=.b q
  . subst g3;cases hm:M' (.b q) with
    | none=>simp [M'',hm] at J
    | some m=>rw [e4 m hm] at J;simp only [z6] at J;subst J;exact ⟨m,rfl,rfl,rfl⟩
  . exact ⟨m1,eo id g3▸J,rfl,rfl⟩
 have Q:∀ n bx m,E[n]?=some bx->M' (.b n)=some m->BoxAt w' A' M' w0.heap.size (.b n) m bx:=fun n bx m hn hm=>by
  obtain ⟨bx',g1,g2⟩:=h4.box _ m hm;rw [xbz,hn] at g1;cases g1;exact g2
 have hv:∀ m,M' (.b q)=some m->v=m.ver:=fun m hm=>(Q q _ m eq hm).ver
 have hx:∀ c n' v' k',n'≠q->Rel w' A' M' c (.osl (.b n') v' 0 k')->Rel w' A' M'' c (.osl (.b n') v' 0 k'):=fun c n' v' k' hn hr=>by
  obtain ⟨m0,g1,g2,g3,g4⟩:=Rel.osl_inv hr;exact .osl c _ v' 0 k' m0 ((eo _ fun e=>hn (by cases e;rfl)).trans g1) g2 g3 g4
 have hy:∀ c,Rel w' A' M' c (.osl (.b q) v 0 k)->Rel w' A' M'' c (.osl (.b q) 1 0 k):=fun c hr=>by
  obtain ⟨m0,g1,g2,g3,g4⟩:=Rel.osl_inv hr;exact .osl c _ 1 0 k _ (e4 m0 g1) (zd _) g3 fun _=>g4 (hv m0 g1)
 have hb:∀ id (bx bx':Box) (m m':MB),isC bx.ty=false->bx'=⟨m'.ver,bx.sz,bx.ty,bx'.xs,bx.frz,bx.pm⟩->m'=⟨m.b,m'.ver,m.sz,m.cap,m.ty⟩->bx'.xs.length=bx.xs.length->(∀ x,x∈bx'.xs->x.okElem m.sz=true) ->
   (∀ c i j,Rel w' A' (MP M' bx.pm) c ((bx.xs.getD i .top).cells.getD j .top)->Rel w' A' (MP M'' bx.pm) c ((bx'.xs.getD i .top).cells.getD j .top))->BoxAt w' A' M' w0.heap.size id m bx->BoxAt w' A' M'' w0.heap.size id m' bx':=fun id bx bx' m m' U ab Y hl Z hc g=>by
  rw [ab,Y];have V:xMX m.ty=false:=g.nomap (xas U);refine ⟨rfl,g.sz,g.ty,g.capm,hl▸g.fits,Z,g.low,g.lt,fun h0=>?_,g.guard⟩
  obtain ⟨c,c1,c2,c3⟩:=g.cells h0;refine ⟨c,.of V (c1.plain V),c2,fun i j hi hj=>?_⟩
  have:=c3 i j (hl▸hi) hj;rw [xam U,xaO U] at this;rw [xam U,xaO (bx:=⟨m'.ver,bx.sz,bx.ty,bx'.xs,bx.frz,bx.pm⟩) U];exact hc _ i j this
 have ht:∀ a v1 v2 d,(∀ c,Rel w' A' M' c (.osl a v1 0 d)->Rel w' A' M'' c (.osl a v2 0 d))->∀ c i j,Rel w' A' M' c ((([.osl a v1 0 d]:List AV).getD i .top).cells.getD j .top)->Rel w' A' M'' c ((([.osl a v2 0 d]:List AV).getD i .top).cells.getD j .top):=fun a v1 v2 d hh c i j hr=>by
  match i,j with
  | 0,0=>exact hh c hr
  | 0,j+1=>exact .top _
  | i+1,0=>exact .top _
  | i+1,j+1=>exact .top _
 have hg:∀ n bx,E[n]?=some bx->∃ bx',((E.set p ⟨0,1,t,[.osl (.b q) 1 0 k],false,false⟩).set q ⟨1,s,y,xs,false,true⟩)[n]?=some bx'/\isC bx'.ty=false/\(∀ m m1,M' (.b n)=some m->M'' (.b n)=some m1->BoxAt w' A' M'' w0.heap.size (.b n) m1 bx'):=fun n bx hn=>by
  have hn':=xcG hn;obtain ⟨hC,hc⟩:=ho n bx hn;by_cases g1:n=q
  . subst g1;rw [hn] at eq;cases eq;refine ⟨_,zL (by simpa using hn'),py,fun m m1 e1 e2=>?_⟩
    rw [e4 m e1] at e2;cases e2;have g:=Q n _ m hn e1;exact hb _ ⟨v,s,y,xs,false,true⟩ ⟨1,s,y,xs,false,true⟩ m _ py rfl rfl rfl g.ok (fun c i j hr=>hr) g
  . have ge:∀ m m1,M' (.b n)=some m->M'' (.b n)=some m1->m1=m:=fun m m1 e1 e2=>by
     rw [eo _ fun e=>g1 (by cases e;rfl),e1] at e2;cases e2;rfl
    by_cases g2:n=p
    . subst g2;rw [hn] at ep;cases ep;refine ⟨_,(zX (Ne.symm g1)).trans (zL hn'),pt,fun m m1 e1 e2=>?_⟩
      cases ge m m1 e1 e2;have g:=Q n _ m hn e1;have hv:0=m.ver:=g.ver;have hz:m.sz=1:=g.sz.symm;exact hb _ ⟨0,1,t,[.osl (.b q) v 0 k],false,false⟩ ⟨0,1,t,[.osl (.b q) 1 0 k],false,false⟩ m m pt (by rw [<-hv]) rfl rfl (fun x hx=>by simp only [zv] at hx;subst hx;rw [hz];rfl) (ht _ _ _ _ hy) g
    . refine ⟨bx,(zX (Ne.symm g1)).trans ((zX (Ne.symm g2)).trans hn),hC,fun m m1 e1 e2=>?_⟩
      cases ge m m1 e1 e2;have g:=Q n _ m hn e1;refine hb _ bx bx m m hC (by rw [<-g.ver]) rfl rfl g.ok ?_ g
      rcases hc with hc|hc|hc|⟨n',v',k',hc,hd⟩
      . exact absurd hc g2
      . exact absurd hc g1
      . rw [hc];exact fun c i j hr=>hr
      . cases ad:bx.pm with
        | true=>exact fun c i j hr=>hr
        | false=>rw [hd];exact ht _ _ _ _ fun c=>hx c n' v' k' hc
 have hR':HR w' A' M'' w0.heap.size ((E.set p ⟨0,1,t,[.osl (.b q) 1 0 k],false,false⟩).set q ⟨1,s,y,xs,false,true⟩):=by
  refine ⟨fun id m1 J=>?_,fun id id' m1 m2 k1 k2 c1 c2 he=>?_,h4.lt⟩
  . obtain ⟨m0,g1,_⟩:=O id m1 J;obtain ⟨bx,q1,q2⟩:=h4.box _ m0 g1;cases id with
    | r n i j =>
     rw [eo _ (fun e=>by cases e),g1] at J
     cases J;obtain ⟨c0,r1,_⟩:=xqh q1;obtain ⟨bx',r2,r3,_⟩:=hg n c0 r1;rw [xdo r1 (ho n c0 r1).1] at q1;cases q1;exact ⟨_,xdo r2 r3,hb _ tombB tombB m1 m1 rfl (by rw [<-q2.ver]) rfl rfl q2.ok (fun c i j hr=>hr) q2⟩
    | b n =>
     obtain ⟨bx',r2,_,r3⟩:=hg n bx q1;exact ⟨bx',r2,r3 _ _ g1 J⟩
  . obtain ⟨n1,a1,a2,a3⟩:=O id m1 k1;obtain ⟨n2,b1,b2,b3⟩:=O id' m2 k2;exact h4.inj id id' n1 n2 a1 b1 (a3▸c1) (b3▸c2) (by rw [<-a2,<-b2,he])
 refine ⟨u,A',M'',rfl,h1,h2,⟨h3.size,h3.keep,h3.less,h3.more,fun id m W hm=>?_,fun id m1 J h0=>?_⟩,hR',?_⟩
 . obtain ⟨m',g1,g2⟩:=h3.ids id m W hm;by_cases q4:id=.b q
   . subst q4;obtain ⟨bx,r1,r2⟩:=hR.box _ m hm;exact ⟨_,e4 m' g1,.inr (by rw [<-r2.ver,hz bx r1];exact Nat.zero_lt_one)⟩
   . exact ⟨m',(eo id q4).trans g1,g2⟩
 . obtain ⟨m0,g1,g2,g3⟩:=O id m1 J;rw [g2];exact h3.src id m0 g1 (g3▸h0)
 . obtain ⟨aa,rfl,q1,_⟩:=h5.tuple_inv;exact .tuple aa [] q1 (by simp)
namespace M
open Go.Proofs
noncomputable def set2 (q n h:Int) (ns no:Nat) (sx ox:List AV):Option (Int×Nat×Nat×List AV×List AV):=(xk5 q n h ns no sx ox).bind fun p =>
 br (Nat.beq p.2.1 p.2.2.2.2.2.2.1&&Nat.beq p.2.2.2.1 p.2.2.2.2.2.2.2.2) (some (p.1,p.2.2.1,p.2.2.2.2.1,p.2.2.2.2.2.1,p.2.2.2.2.2.2.2.1)) none
noncomputable def xIa:List AV->List Box->Option (Bool×AV×List Box):=omOf (xNE (sEq (pInt IntKind.i64)) (xNE (sEq (pInt IntKind.i64)) (xNE (sEq (xNQ 0 0 0 0)) (xNE (sEq (xNQ 1 0 0 0)) (xNE (sEq (xNQ 2 0 0 0)) xNG)))))
 (xND (xNS 0 1 3 false true (xND (pInt IntKind.i64) xNF)) (xND (xNS 0 1 142 false false (xND (xNP 3 0 0) xNF)) (xND (xNS 0 1 47 false false (xND (xNP 4 0 0) xNF)) (xND (xNS 0 2 144 false true xNH) (xND (xNS 0 2 44 false true xNH) xNF)))))
 fun (q,(n,(_,(_,(_,_))))) ((h,_),((ns,_),((no,_),(sx,(ox,_)))))=>((set2 q n h ns no sx ox).isSome,(.tuple [],[⟨0,1,3,[.int .i64 ((set2 q n h ns no sx ox).getD (0,0,0,[],[])).1],false,true⟩,⟨0,1,142,[.osl (.b 3) 1 0 ((set2 q n h ns no sx ox).getD (0,0,0,[],[])).2.1],false,false⟩,⟨0,1,47,[.osl (.b 4) 1 0 ((set2 q n h ns no sx ox).getD (0,0,0,[],[])).2.2.1],false,false⟩,⟨1,2,144,((set2 q n h ns no sx ox).getD (0,0,0,[],[])).2.2.2.1,false,true⟩,⟨1,2,44,((set2 q n h ns no sx ox).getD (0,0,0,[],[])).2.2.2.2,false,true⟩]))
theorem xLp:OmOk P0 xNC 99 xIa:=xul fun vv bb rr Y hh=>by
 obtain ⟨J,⟨n,⟨_,⟨_,⟨_,_⟩⟩⟩⟩⟩:=vv;obtain ⟨⟨h,_⟩,⟨⟨ns,_⟩,⟨⟨no,_⟩,⟨sx,⟨ox,_⟩⟩⟩⟩⟩:=bb;obtain ⟨O,V⟩:=Prod.mk.inj hh;cases hs:xk5 J n h ns no sx ox with
 | none=>rw [show set2 J n h ns no sx ox=none by unfold set2;rw [hs];rfl] at O;simp at O
 | some p =>
  have Q:set2 J n h ns no sx ox=br (Nat.beq p.2.1 p.2.2.2.2.2.2.1&&Nat.beq p.2.2.2.1 p.2.2.2.2.2.2.2.2) (some (p.1,p.2.2.1,p.2.2.2.2.1,p.2.2.2.2.2.1,p.2.2.2.2.2.2.2.1)) none:=by unfold set2;rw [hs];rfl
  cases ht:Nat.beq p.2.1 p.2.2.2.2.2.2.1&&Nat.beq p.2.2.2.1 p.2.2.2.2.2.2.2.2 with
  | false=>rw [Q,ht] at O;simp [br] at O
  | true =>
   rw [ht] at Q;have W:set2 J n h ns no sx ox=some (p.1,p.2.2.1,p.2.2.2.2.1,p.2.2.2.2.2.1,p.2.2.2.2.2.2.2.1):=Q;rw [W] at V;simp only [zh] at V;simp only [zf] at ht;have e1:=zg ht.1;have e2:=zg ht.2;have hx:=xCx J n h ns no sx ox p hs;have hg:GoodM P0 xNC 99 _ _ _ _:=xiw (p:=xgz.pin) (xkv xM3 (xM4 P0 _) rfl xyz rfl Tryz.func99 rfl (by kernel_rfl) xvW hx)
   rw [<-e1,<-e2] at hg;have U:=GoodM.aged (p:=1) (q:=3) hg (fun bx hb=>by cases hb;rfl) rfl rfl rfl rfl (fun n bx hn=>by
    match n with
    | 0=>cases hn;exact ⟨rfl,.inr (.inr (.inl rfl))⟩
    | 1=>cases hn;exact ⟨rfl,.inl rfl⟩
    | 2=>cases hn;exact ⟨rfl,.inr (.inr (.inr ⟨_,_,_,by decide,rfl⟩))⟩
    | 3=>cases hn;exact ⟨rfl,.inr (.inl rfl)⟩
    | 4=>cases hn;exact ⟨rfl,.inr (.inr (.inl rfl))⟩
    | n+5=>simp at hn)
   have U:=GoodM.aged (p:=2) (q:=4) U (fun bx hb=>by cases hb;rfl) rfl rfl rfl rfl (fun n bx hn=>by
    match n with
    | 0=>cases hn;exact ⟨rfl,.inr (.inr (.inl rfl))⟩
    | 1=>cases hn;exact ⟨rfl,.inr (.inr (.inr ⟨_,_,_,by decide,rfl⟩))⟩
    | 2=>cases hn;exact ⟨rfl,.inl rfl⟩
    | 3=>cases hn;exact ⟨rfl,.inr (.inr (.inl rfl))⟩
    | 4=>cases hn;exact ⟨rfl,.inr (.inl rfl)⟩
    | n+5=>simp at hn)
   obtain ⟨rfl,rfl⟩:=Prod.mk.inj V;exact U
noncomputable def ESet:Env:=xub.E.withM 99 xIa
theorem xJC:xMV P0 xNC ESet:=xub.ok.withM xLp
noncomputable def xED:EO:=EO.mk ESet xJC
end M
end Go.Sim
end
noncomputable section
set_option maxRecDepth 100000
namespace Go.Sim.M
open Go.IntKind (i64 u64 u8)
open Go.RowKit Go.Proofs
def xkZ (a:LA) (h b:Int) (f c:Nat) (g:Int) (d e:LA):Int:=if 0>(gC a b 1).toInt then 0 else (gC a b 1).toInt
def xkY (f:LA) (h g:Int) (d a:Nat) (e:Int) (b c:LA):=set2 (gC f g 0).toInt (if 1048576<xkZ f h g d a e b c then 1048576 else xkZ f h g d a e b c) e a d c b
def xkX (f:LA) (g h:Int) (d a:Nat) (e:Int) (b c:LA):=(xkY f g h d a e b c).getD (0,0,0,[],[])
def xkW (f:LA) (g h:Int) (d a:Nat) (e:Int) (b c:LA):=(xkX f g h d a e b c).snd
def xkU (f:LA) (g h:Int) (d a:Nat) (e:Int) (b c:LA):=(xkW f g h d a e b c).fst
def xkV (f:LA) (g h:Int) (d a:Nat) (e:Int) (b c:LA):=(xkW f g h d a e b c).snd
def xkT (f:LA) (g h:Int) (d a:Nat) (e:Int) (b c:LA):=(xkV f g h d a e b c).snd
def xhI {T:Type} (g:LA) (h e:Int) (d a:Nat) (f:Int) (b c:LA) (δ:T) (κl:(Int×Nat×Nat×Int×LA×LA)->T) (κr:(Nat×Int×Nat×LA×LA)->T):T:=br (decide (e<h)) (br (ixI g e) (br (ixT g e 2 [Sh.int .i64,Sh.int .i64] 0) (br ((xkY g h e d a f b c).isSome) (κl (i64.wrap (e+1),(xkV g h e d a f b c).fst,xkU g h e d a f b c,(xkX g h e d a f b c).fst,(xkT g h e d a f b c).snd,List.take (xkU g h e d a f b c) (xkT g h e d a f b c).fst)) δ) δ) δ) (κr (d,f,a,b,c))
def xcE (f:LA) (g:Int):StT (Int×Nat×Nat×Int×LA×LA) (Nat×Int×Nat×LA×LA):=fun (h,d,a,e,b,c)=>xhI f g h d a e b c none inL inR
def xqI:=xED.l 30 0 [] [] Tryz.f65 0 lk0 [3,4,6,10,11,12] [3,6] [(3,2,44),(4,2,144),(4,0,0)] (q6 (xNQ 0 0 0 0) (xNQ 1 0 0 0) (xNh 99 (q3 (xNQ 2 0 0 0) (xNQ 1 0 0 0) (xNQ 0 0 0 0))) (qL 2) qI qI) (q5 (xNS 0 1 47 false false (q1 (xNP 3 0 0))) (xNS 0 1 142 false false (q1 (xNP 4 0 0))) (qB 0 1 3 (q1 qI)) (qB 0 2 44 xNH) (qB 0 2 144 xNH)) (fun (_,_,(_,_,_,_),f,g,h,_) ((d,_),(a,_),(e,_),b,c,_)=>(xcE f g,(h,d,a,e,b,c),fun p=>(.leaf (.exit 0) [AV.own 0 0 0 0,AV.func 99 [AV.own 1 0 0 0,AV.own 2 0 0 0,AV.own 0 0 0 0]] [⟨0,1,47,[AV.osl 3 0 0 p.1],false,false⟩,bF 0 1 3 [AV.int .i64 p.2.1],⟨0,1,142,[AV.osl 4 0 0 p.2.2.1],false,false⟩,bF 0 2 44 p.2.2.2.1,bF 0 2 144 p.2.2.2.2]))) (0,0,0,[],[]) fun (_,_,(_,_,_,_),f,g,_,_) _ (h,d,a,e,b,c)=>((((),(),((),(),(),()),f,g,h,()),((d,()),(a,()),(e,()),b,c,())),xhI f g h d a e b c none)
def xoP (l:LA):=Iter (xcE l (↑l.length:Int)) (0,0,0,0,[],[])
def xoO (l:LA):=(xoP l).getD (0,0,0,[],[])
def xoN (l:LA):=(xoO l).snd
def xoM (l:LA):=(xoN l).snd
def xoL (l:LA):=(xoM l).snd
def xoK (l:LA):=set2 1099511627776 0 (xoN l).fst (xoM l).fst (xoO l).fst (xoL l).snd (xoL l).fst
def xoJ (l:LA):=((xoK l).getD (0,0,0,[],[])).snd.snd
def xg7 (l:LA):=(xoJ l).fst
def xg8 (l:LA):=(xoJ l).snd.snd
def xp0 {T:Type} (l:LA) (δ:T) (κ:LA->T):T:=br ((xoP l).isSome) (br ((xoK l).isSome) (br ((xg7 l).beq (xg8 l).length&&(decide (xg7 l<4611686018427387904)&&(xg8 l).all isP)) (br (decide (0+xg7 l<=(srtP (xg8 l)).length)&&true) (κ (List.take (xg7 l) (List.drop 0 (srtP (xg8 l))))) δ) δ) δ) δ
def xoI (l:LA):=xp0 l none some
def xKL:EO:=xED.f Tryz.func65 30 0 [] [(6,xqI.lp)] (lk1 xqI.ok) (u1 (uL 2)) (fun (l,_) _=>xp0 l) (fun _ p=>AV.list 2 p) []
def xnm {T:Type} (a:LA) (δ:T) (κ:LA->T):T:=br ((↑a.length:Int)==1) (κ (a)) (br ((xed a).isSome) (br ((xoI ((xed a).getD [])).isSome) (κ ((xoI ((xed a).getD [])).getD [])) δ) δ)
def xe7 (a:LA):=xnm a none some
def xCe:EO:=xKL.f Tryz.func64 10 0 [] [] lk0 (u1 (uL 2)) (fun (a,_) _=>xnm a) (fun _ p=>AV.list 2 p) []
def xj9 {T:Type} (b e:LA) (f:Int) (c:Nat) (a:Int) (d:LA) (δ:T) (κl:(Nat×Int×LA)->T) (κr:(Nat×LA)->T):T:=br (decide (a<f)) (br (decide (0<=a)&&decide (a<e.length)) (br (decide (a.toNat<e.length)&&((e.getD a.toNat .top).cells.length==2&&xMx [Sh.int .i64,Sh.int .i64] (e.getD a.toNat .top).cells 0)) (br (xf5 ((e.getD a.toNat .top).cells.getD 0 .top).toInt ((e.getD a.toNat .top).cells.getD 1 .top).toInt) (br (c==d.length&&(decide ((c+2)*24<=140737488355328)&&decide (c+2<=4611686018427387904))) (κl (c+2,i64.wrap (a+1),d++[AV.agg [AV.int .i64 ((e.getD a.toNat .top).cells.getD 0 .top).toInt,AV.int .i64 1,AV.int .i64 0],AV.agg [AV.int .i64 ((e.getD a.toNat .top).cells.getD 1 .top).toInt,AV.int .i64 (-1),AV.int .i64 0]])) δ) (κl (c,i64.wrap (a+1),d))) δ) δ) (κr (c,d))
def xbC (b d:LA) (e:Int):StT (Nat×Int×LA) (Nat×LA):=fun (c,f,a)=>xj9 b d e c f a none inL inR
def xm3:=xCe.l 49 0 [] [] Tryz.f97 0 lk0 [1,5,10,11,12] [1,5] [(5,3,137)] (q5 (qL 2) (xNP 0 0 0) (qL 2) qI qI) (q1 (qB 0 3 137 xNH)) (fun (b,c,d,e,f,_) (a,_)=>(xbC b d e,(c,f,a),fun p=>(.leaf (.exit 0) [AV.list 2 b,AV.osl 0 0 0 p.1] [bF 0 3 137 p.2]))) (0,[]) fun (b,_,d,e,_,_) _ (c,f,a)=>(((b,c,d,e,f,()),(a,())),xj9 b d e c f a none)
def xka {T:Type} (d:LA) (e:Int) (b:Nat) (a:Int) (c:LA) (δ:T) (κl:(Nat×Int×LA)->T) (κr:(Nat×LA)->T):T:=br (decide (a<e)) (br (decide (0<=a)&&decide (a<d.length)) (br (decide (a.toNat<d.length)&&((d.getD a.toNat .top).cells.length==2&&xMx [Sh.int .i64,Sh.int .i64] (d.getD a.toNat .top).cells 0)) (br (xf5 ((d.getD a.toNat .top).cells.getD 0 .top).toInt ((d.getD a.toNat .top).cells.getD 1 .top).toInt) (br (b==c.length&&(decide ((b+2)*24<=140737488355328)&&decide (b+2<=4611686018427387904))) (κl (b+2,i64.wrap (a+1),c++[AV.agg [AV.int .i64 ((d.getD a.toNat .top).cells.getD 0 .top).toInt,AV.int .i64 0,AV.int .i64 1],AV.agg [AV.int .i64 ((d.getD a.toNat .top).cells.getD 1 .top).toInt,AV.int .i64 0,AV.int .i64 (-1)]])) δ) (κl (b,i64.wrap (a+1),c))) δ) δ) (κr (b,c))
def xdG (c:LA) (d:Int):StT (Nat×Int×LA) (Nat×LA):=fun (b,e,a)=>xka c d b e a none inL inR
def xsS:=xCe.l 49 0 [] [(3,xm3.lp)] Tryz.f97 1 lk0 [5,28,29,30] [5] [(5,3,137)] (q4 (xNP 0 0 0) (qL 2) qI qI) (q1 (qB 0 3 137 xNH)) (fun (b,c,d,e,_) (a,_)=>(xdG c d,(b,e,a),fun p=>(.leaf (.exit 2) [AV.osl 0 0 0 p.1] [bF 0 3 137 p.2]))) (0,[]) fun (_,c,d,_,_) _ (b,e,a)=>(((b,c,d,e,()),(a,())),xka c d b e a none)
def xmq (a b:LA):=(Iter (xbC b a (↑a.length:Int)) (0,0,[])).getD (0,[])
def xmp (a b:LA):=Iter (xdG b (↑b.length:Int)) ((xmq a b).fst,0,(xmq a b).snd)
def xmo (a b:LA):=(xmp a b).getD (0,[])
def xgE (a b:LA):=(xmo a b).fst
def xgF (a b:LA):=(xmo a b).snd
def xsT {T:Type} (a b:LA) (δ:T) (κ:LA->T):T:=br ((Iter (xbC b a (↑a.length:Int)) (0,0,[])).isSome) (br ((xmp a b).isSome) (br ((xgE a b).beq (xgF a b).length&&(decide (xgE a b<4611686018427387904)&&(xgF a b).all isE)) (br (decide (0+xgE a b<=(srtE (xgF a b)).length)&&true) (κ (List.take (xgE a b) (List.drop 0 (srtE (xgF a b))))) δ) δ) δ) δ
def xg1 (a b:LA):=xsT a b none some
def xKM:EO:=xCe.f Tryz.func97 49 0 [] [(3,xm3.lp),(9,xsS.lp)] (lks (lkC xm3.ok (lkC xsS.ok lkN))) (u2 (uL 2) (uL 2)) (fun (a,b,_) _=>xsT a b) (fun _ p=>AV.list 3 p) []
def xIc (a b:Bool):Bool:=((a))
def xe5 (a b:Bool):Bool:=(br (a) ((!b)) ((false)))
def xwL {T:Type} (a b:Bool) (δ:T) (κ:Bool->T):T:=br (a) (κ (!b)) (κ (false))
def xCf:EO:=xKM.fT Tryz.func62 10 0 [] [] lk0 (fun (a,b,_)=>xwL a b none) (u2 (sEq pBool) (sEq pBool)) (fun (a,b,_)=>xe5 a b) (fun _ p=>(AV.bool p))
def xkR (l:LA) (i:Int):=decide (0<=i)&&decide (i<l.length)
def xwN {T:Type} (l:LA) (e:Nat) (d b c i:Int) (a:LA) (δ:T) (κl:(Int×Int×Int×LA)->T) (κr:(Int×Int×Int×LA)->T):T:=br (decide (i<l.length)) (br (xkR l i) (br (decide (i.toNat<l.length)&&xMT (Sh.int .i64) ((l.getD i.toNat .top).cells.getD 0 .top)) (br (((l.getD i.toNat .top).cells.getD 0 .top).toInt==d) (br (xkR l i) (br (decide (i.toNat<l.length)&&xMT (Sh.int .i64) ((l.getD i.toNat .top).cells.getD 1 .top)) (br (xkR l i) (br (decide (i.toNat<l.length)&&xMT (Sh.int .i64) ((l.getD i.toNat .top).cells.getD 2 .top)) (κl (i64.wrap (b+((l.getD i.toNat .top).cells.getD 1 .top).toInt),i64.wrap (c+((l.getD i.toNat .top).cells.getD 2 .top).toInt),i64.wrap (i+1),a)) δ) δ) δ) δ) (κr (b,c,i,a))) δ) δ) (κr (b,c,i,a))
def xoG (l:LA) (b:Nat) (c:Int):StT (Int×Int×Int×LA) (Int×Int×Int×LA):=fun (d,e,i,a)=>xwN l b c d e i a none inL inR
def xg3 (a:Nat):=decide (0<=i64.wrap ((↑a:Int) - 1))&&decide (i64.wrap ((↑a:Int) - 1)<(↑a:Int))
def xo4 (l:LA) (b:Nat) (d e i c:Int) (a:LA):=(Iter (xoG l b c) (d,e,i,a)).getD (0,0,0,[])
def xaB (a:Nat):Nat:=0+(i64.wrap ((↑a:Int) - 1)).toNat
def xqC (l:LA) (b:Nat) (d e i c:Int) (a:LA):=(xo4 l b d e i c a).snd
def xba (l:LA) (b:Nat) (d e i c:Int) (a:LA):=(xo4 l b d e i c a).fst
def xqB (l:LA) (b:Nat) (d e i c:Int) (a:LA):=(xqC l b d e i c a).snd
def xa9 (l:LA) (b:Nat) (d e i c:Int) (a:LA):=(xqC l b d e i c a).fst
def xaf (l:LA) (b:Nat) (d e i c:Int) (a:LA):=(xqB l b d e i c a).snd
def xqz (l:LA) (b:Nat) (d e i c:Int) (a:LA):=xIc (decide (xba l b d e i c a>0)) (decide (xa9 l b d e i c a>0))
def xah (l:LA) (b:Nat) (d e i c:Int) (a:LA):=(xqB l b d e i c a).fst
def xg2 (l:LA) (a:Nat) (d e i c:Int) (b:LA):=decide (xaB a<(xaf l a d e i c b).length)
def xqA (l:LA) (b:Nat) (d e i c:Int) (a:LA):=decide (xah l b d e i c a<l.length)
def xwM {T:Type} (l:LA) (a:Nat) (d e i c:Int) (b:LA) (δ:T) (κl:(Nat×Int×Int×Int×Int×LA)->T) (κr:(Nat×LA)->T):T:=br (decide (c<1099511627776)) (br ((Iter (xoG l a c) (d,e,i,b)).isSome) (br (xqA l a d e i c b) (br (decide (0<=xah l a d e i c b)&&xqA l a d e i c b) (br (decide ((xah l a d e i c b).toNat<l.length)&&xMT (Sh.int .i64) ((l.getD (xah l a d e i c b).toNat .top).cells.getD 0 .top)) (br (xqz l a d e i c b) (br (decide ((↑a:Int)>0)) (br (xg3 a) (br (xg2 l a d e i c b&&xMT (Sh.int .i64) (((xaf l a d e i c b).getD (xaB a) .top).cells.getD 1 .top)) (br ((((xaf l a d e i c b).getD (xaB a) .top).cells.getD 1 .top).toInt==c) (br (xg3 a) (br (xg2 l a d e i c b) (κl (a,xba l a d e i c b,xa9 l a d e i c b,xah l a d e i c b,((l.getD (xah l a d e i c b).toNat .top).cells.getD 0 .top).toInt,(xaf l a d e i c b).set (xaB a) (AV.agg (List.take 1 ((xaf l a d e i c b).getD (xaB a) .top).cells++[AV.int .i64 ((l.getD (xah l a d e i c b).toNat .top).cells.getD 0 .top).toInt]++List.drop 2 ((xaf l a d e i c b).getD (xaB a) .top).cells)))) δ) δ) (br (a==(xaf l a d e i c b).length&&(decide ((a+1)*16<=140737488355328)&&decide (a+1<=4611686018427387904))) (κl (a+1,xba l a d e i c b,xa9 l a d e i c b,xah l a d e i c b,((l.getD (xah l a d e i c b).toNat .top).cells.getD 0 .top).toInt,xaf l a d e i c b++[AV.agg [AV.int .i64 c,AV.int .i64 ((l.getD (xah l a d e i c b).toNat .top).cells.getD 0 .top).toInt]])) δ)) δ) δ) (br (a==(xaf l a d e i c b).length&&(decide ((a+1)*16<=140737488355328)&&decide (a+1<=4611686018427387904))) (κl (a+1,xba l a d e i c b,xa9 l a d e i c b,xah l a d e i c b,((l.getD (xah l a d e i c b).toNat .top).cells.getD 0 .top).toInt,xaf l a d e i c b++[AV.agg [AV.int .i64 c,AV.int .i64 ((l.getD (xah l a d e i c b).toNat .top).cells.getD 0 .top).toInt]])) δ)) (κl (a,xba l a d e i c b,xa9 l a d e i c b,xah l a d e i c b,((l.getD (xah l a d e i c b).toNat .top).cells.getD 0 .top).toInt,xaf l a d e i c b))) δ) δ) (br (xqz l a d e i c b) (br (decide ((↑a:Int)>0)) (br (xg3 a) (br (xg2 l a d e i c b&&xMT (Sh.int .i64) (((xaf l a d e i c b).getD (xaB a) .top).cells.getD 1 .top)) (br ((((xaf l a d e i c b).getD (xaB a) .top).cells.getD 1 .top).toInt==c) (br (xg3 a) (br (xg2 l a d e i c b) (κl (a,xba l a d e i c b,xa9 l a d e i c b,xah l a d e i c b,1099511627776,(xaf l a d e i c b).set (xaB a) (AV.agg (List.take 1 ((xaf l a d e i c b).getD (xaB a) .top).cells++[AV.int .i64 1099511627776]++List.drop 2 ((xaf l a d e i c b).getD (xaB a) .top).cells)))) δ) δ) (br (a==(xaf l a d e i c b).length&&(decide ((a+1)*16<=140737488355328)&&decide (a+1<=4611686018427387904))) (κl (a+1,xba l a d e i c b,xa9 l a d e i c b,xah l a d e i c b,1099511627776,xaf l a d e i c b++[AV.agg [AV.int .i64 c,AV.int .i64 1099511627776]])) δ)) δ) δ) (br (a==(xaf l a d e i c b).length&&(decide ((a+1)*16<=140737488355328)&&decide (a+1<=4611686018427387904))) (κl (a+1,xba l a d e i c b,xa9 l a d e i c b,xah l a d e i c b,1099511627776,xaf l a d e i c b++[AV.agg [AV.int .i64 c,AV.int .i64 1099511627776]])) δ)) (κl (a,xba l a d e i c b,xa9 l a d e i c b,xah l a d e i c b,1099511627776,xaf l a d e i c b)))) δ) (κr (a,b))
def xu7 (l:LA):StT (Nat×Int×Int×Int×Int×LA) (Nat×LA):=fun (b,d,e,i,c,a)=>xwM l b d e i c a none inL inR
def xto (a b:LA):=Iter (xu7 ((xg1 a b).getD [])) (0,0,0,0,0,[])
def xtn (a b:LA):=(xto a b).getD (0,[])
def xtl (a b:LA):=(xtn a b).fst
def xtm (a b:LA):=(xtn a b).snd
def xAz {T:Type} (a b:LA) (δ:T) (κ:LA->T):T:=br ((xg1 a b).isSome) (br ((xto a b).isSome) (br (decide (0+xtl a b<=(xtm a b).length)&&true) (κ (List.take (xtl a b) (List.drop 0 (xtm a b)))) δ) δ) δ
def xwk (a b:LA):=xAz a b none some
def xId {T:Type} (l:LA) (δ:T) (κ:LA->T):T:=br ((xwk l []).isSome) (κ ((xwk l []).getD [])) δ
def xwC (l:LA):=xId l none some
def xkS (l:LA) (i:Int):=decide (0<=i)&&decide (i<l.length)
def xrI {T:Type} (l:LA) (e:Nat) (d b c i:Int) (a:LA) (δ:T) (κl:(Int×Int×Int×LA)->T) (κr:(Int×Int×Int×LA)->T):T:=br (decide (i<l.length)) (br (xkS l i) (br (decide (i.toNat<l.length)&&xMT (Sh.int .i64) ((l.getD i.toNat .top).cells.getD 0 .top)) (br (((l.getD i.toNat .top).cells.getD 0 .top).toInt==d) (br (xkS l i) (br (decide (i.toNat<l.length)&&xMT (Sh.int .i64) ((l.getD i.toNat .top).cells.getD 1 .top)) (br (xkS l i) (br (decide (i.toNat<l.length)&&xMT (Sh.int .i64) ((l.getD i.toNat .top).cells.getD 2 .top)) (κl (i64.wrap (b+((l.getD i.toNat .top).cells.getD 1 .top).toInt),i64.wrap (c+((l.getD i.toNat .top).cells.getD 2 .top).toInt),i64.wrap (i+1),a)) δ) δ) δ) δ) (κr (b,c,i,a))) δ) δ) (κr (b,c,i,a))
def xi9 (l:LA) (b:Nat) (c:Int):StT (Int×Int×Int×LA) (Int×Int×Int×LA):=fun (d,e,i,a)=>xrI l b c d e i a none inL inR
def xg6:=xCf.l 92 0 [] [] Tryz.f61 1 lk0 [2,7,8,9,10,11,12] [2,7,8,9,10,11,12] [(8,2,44)] (q7 (xNh 62 xNF) (qL 3) (xNP 0 0 0) qI qI qI qI) (q1 (qB 0 2 44 xNH)) (fun (_,l,a,d,e,i,c,_) (b,_)=>(xi9 l a c,(d,e,i,b),fun p=>(.leaf (.exit 2) [AV.func 62 [],AV.list 3 l,AV.osl 0 0 0 a,AV.int .i64 p.1,AV.int .i64 p.2.1,AV.int .i64 p.2.2.1,AV.int .i64 c] [bF 0 2 44 p.2.2.2]))) (0,0,0,[]) fun (_,l,a,_,_,_,c,_) _ (d,e,i,b)=>((((),l,a,d,e,i,c,()),(b,())),xrI l a c d e i b none)
def xg5 (a:Nat):=decide (0<=i64.wrap ((↑a:Int) - 1))&&decide (i64.wrap ((↑a:Int) - 1)<(↑a:Int))
def xo5 (l:LA) (b:Nat) (d e i c:Int) (a:LA):=(Iter (xi9 l b c) (d,e,i,a)).getD (0,0,0,[])
def xaC (a:Nat):Nat:=0+(i64.wrap ((↑a:Int) - 1)).toNat
def xbc (l:LA) (b:Nat) (d e i c:Int) (a:LA):=(xo5 l b d e i c a).fst
def xqH (l:LA) (b:Nat) (d e i c:Int) (a:LA):=(xo5 l b d e i c a).snd
def xbb (l:LA) (b:Nat) (d e i c:Int) (a:LA):=(xqH l b d e i c a).fst
def xqG (l:LA) (b:Nat) (d e i c:Int) (a:LA):=(xqH l b d e i c a).snd
def xag (l:LA) (b:Nat) (d e i c:Int) (a:LA):=(xqG l b d e i c a).snd
def xqE (l:LA) (b:Nat) (d e i c:Int) (a:LA):=xe5 (decide (xbc l b d e i c a>0)) (decide (xbb l b d e i c a>0))
def xai (l:LA) (b:Nat) (d e i c:Int) (a:LA):=(xqG l b d e i c a).fst
def xg4 (l:LA) (a:Nat) (d e i c:Int) (b:LA):=decide (xaC a<(xag l a d e i c b).length)
def xqF (l:LA) (b:Nat) (d e i c:Int) (a:LA):=decide (xai l b d e i c a<l.length)
def xrH {T:Type} (l:LA) (a:Nat) (d e i c:Int) (b:LA) (δ:T) (κl:(Nat×Int×Int×Int×Int×LA)->T) (κr:(Nat×LA)->T):T:=br (decide (c<1099511627776)) (br ((Iter (xi9 l a c) (d,e,i,b)).isSome) (br (xqF l a d e i c b) (br (decide (0<=xai l a d e i c b)&&xqF l a d e i c b) (br (decide ((xai l a d e i c b).toNat<l.length)&&xMT (Sh.int .i64) ((l.getD (xai l a d e i c b).toNat .top).cells.getD 0 .top)) (br (xqE l a d e i c b) (br (decide ((↑a:Int)>0)) (br (xg5 a) (br (xg4 l a d e i c b&&xMT (Sh.int .i64) (((xag l a d e i c b).getD (xaC a) .top).cells.getD 1 .top)) (br ((((xag l a d e i c b).getD (xaC a) .top).cells.getD 1 .top).toInt==c) (br (xg5 a) (br (xg4 l a d e i c b) (κl (a,xbc l a d e i c b,xbb l a d e i c b,xai l a d e i c b,((l.getD (xai l a d e i c b).toNat .top).cells.getD 0 .top).toInt,(xag l a d e i c b).set (xaC a) (AV.agg (List.take 1 ((xag l a d e i c b).getD (xaC a) .top).cells++[AV.int .i64 ((l.getD (xai l a d e i c b).toNat .top).cells.getD 0 .top).toInt]++List.drop 2 ((xag l a d e i c b).getD (xaC a) .top).cells)))) δ) δ) (br (a==(xag l a d e i c b).length&&(decide ((a+1)*16<=140737488355328)&&decide (a+1<=4611686018427387904))) (κl (a+1,xbc l a d e i c b,xbb l a d e i c b,xai l a d e i c b,((l.getD (xai l a d e i c b).toNat .top).cells.getD 0 .top).toInt,xag l a d e i c b++[AV.agg [AV.int .i64 c,AV.int .i64 ((l.getD (xai l a d e i c b).toNat .top).cells.getD 0 .top).toInt]])) δ)) δ) δ) (br (a==(xag l a d e i c b).length&&(decide ((a+1)*16<=140737488355328)&&decide (a+1<=4611686018427387904))) (κl (a+1,xbc l a d e i c b,xbb l a d e i c b,xai l a d e i c b,((l.getD (xai l a d e i c b).toNat .top).cells.getD 0 .top).toInt,xag l a d e i c b++[AV.agg [AV.int .i64 c,AV.int .i64 ((l.getD (xai l a d e i c b).toNat .top).cells.getD 0 .top).toInt]])) δ)) (κl (a,xbc l a d e i c b,xbb l a d e i c b,xai l a d e i c b,((l.getD (xai l a d e i c b).toNat .top).cells.getD 0 .top).toInt,xag l a d e i c b))) δ) δ) (br (xqE l a d e i c b) (br (decide ((↑a:Int)>0)) (br (xg5 a) (br (xg4 l a d e i c b&&xMT (Sh.int .i64) (((xag l a d e i c b).getD (xaC a) .top).cells.getD 1 .top)) (br ((((xag l a d e i c b).getD (xaC a) .top).cells.getD 1 .top).toInt==c) (br (xg5 a) (br (xg4 l a d e i c b) (κl (a,xbc l a d e i c b,xbb l a d e i c b,xai l a d e i c b,1099511627776,(xag l a d e i c b).set (xaC a) (AV.agg (List.take 1 ((xag l a d e i c b).getD (xaC a) .top).cells++[AV.int .i64 1099511627776]++List.drop 2 ((xag l a d e i c b).getD (xaC a) .top).cells)))) δ) δ) (br (a==(xag l a d e i c b).length&&(decide ((a+1)*16<=140737488355328)&&decide (a+1<=4611686018427387904))) (κl (a+1,xbc l a d e i c b,xbb l a d e i c b,xai l a d e i c b,1099511627776,xag l a d e i c b++[AV.agg [AV.int .i64 c,AV.int .i64 1099511627776]])) δ)) δ) δ) (br (a==(xag l a d e i c b).length&&(decide ((a+1)*16<=140737488355328)&&decide (a+1<=4611686018427387904))) (κl (a+1,xbc l a d e i c b,xbb l a d e i c b,xai l a d e i c b,1099511627776,xag l a d e i c b++[AV.agg [AV.int .i64 c,AV.int .i64 1099511627776]])) δ)) (κl (a,xbc l a d e i c b,xbb l a d e i c b,xai l a d e i c b,1099511627776,xag l a d e i c b)))) δ) (κr (a,b))
def xoH (l:LA):StT (Nat×Int×Int×Int×Int×LA) (Nat×LA):=fun (b,d,e,i,c,a)=>xrH l b d e i c a none inL inR
def xqD:=xCf.l 92 0 [] [(6,xg6.lp)] Tryz.f61 0 (lk1 xg6.ok) [2,7,8,9,10,11,12] [8] [(8,2,44)] (q7 (xNh 62 xNF) (qL 3) (xNP 0 0 0) qI qI qI qI) (q1 (qB 0 2 44 xNH)) (fun (_,l,b,d,e,i,c,_) (a,_)=>(xoH l,(b,d,e,i,c,a),fun p=>(.leaf (.exit 0) [AV.osl 0 0 0 p.1] [bF 0 2 44 p.2]))) (0,[]) fun (_,l,_,_,_,_,_,_) _ (b,d,e,i,c,a)=>((((),l,b,d,e,i,c,()),(a,())),xrH l b d e i c a none)
def xts (a b:LA):=Iter (xoH ((xg1 a b).getD [])) (0,0,0,0,0,[])
def xtr (a b:LA):=(xts a b).getD (0,[])
def xtp (a b:LA):=(xtr a b).fst
def xtq (a b:LA):=(xtr a b).snd
def xuy {T:Type} (a b:LA) (δ:T) (κ:LA->T):T:=br ((xg1 a b).isSome) (br ((xts a b).isSome) (br (decide (0+xtp a b<=(xtq a b).length)&&true) (κ (List.take (xtp a b) (List.drop 0 (xtq a b)))) δ) δ) δ
def xsU (a b:LA):=xuy a b none some
def xKN:EO:=xCf.f Tryz.func61 92 0 [] [(6,xg6.lp),(5,xqD.lp)] (lks (lkC xqD.ok (lkC xg6.ok lkN))) (u3 (uL 2) (uL 2) (sEq (xNh (62:FuncId) xNF))) (fun (a,b,_,_) _=>xuy a b) (fun _ p=>AV.list 2 p) []
def xoF {T:Type} (a b:LA) (δ:T) (κ:LA->T):T:=br ((xsU a b).isSome) (κ ((xsU a b).getD [])) δ
def xd8 (a b:LA):=xoF a b none some
def xCg:EO:=xKN.f Tryz.func35 8 0 [] [] lk0 (u2 (uL 2) (uL 2)) (fun (a,b,_) _=>xoF a b) (fun _ p=>AV.list 2 p) []
def xeR {T:Type} (h:LA) (i j:Int) (e:LA) (f:Int) (d:Nat) (c:Int) (a b g:LA) (δ:T) (κl:(Nat×Int×LA×LA×LA)->T) (κr:(Nat×LA)->T):T:=br (decide (c<f)) (br (ixI e c) (br (ixT e c 2 [Sh.int .i64,Sh.int .i64] 0) (br (decide (b.length*32<=140737488355328)&&decide (b.length<=4611686018427387904)) (br (decide (0+b.length<=b.length)&&true&&true&&true&&true) (br (rmB d a 1 40) (κl (d+1,i64.wrap (c+1),a++[AV.agg [AV.list 3 (List.take b.length (List.drop 0 b)),AV.int .i64 (gC e c 0).toInt,AV.int .i64 (gC e c 1).toInt]],b,g)) δ) δ) δ) δ) δ) (κr (d,a))
def xbm (c:LA) (d e:Int) (f:LA) (g:Int):StT (Nat×Int×LA×LA×LA) (Nat×LA):=fun (b,h,a,i,j)=>xeR c d e f g b h a i j none inL inR
def xez:=xCg.l 38 0 [54] [] Tryz.f63 1 lk0 [1,5,7,11,12,13,20,21,22] [1,5,11,12,13] [(5,3,54)] (q9 (xNh 64 xNF) (xNP 0 0 0) (xNQ 1 0 0 0) (qL 2) qI qI (qL 2) qI qI) (q2 (qB 0 3 54 xNH) (qB 0 2 141 (q1 (xNR (q2 (qL 3) (qL 2)))))) (fun (_,b,_,c,d,e,f,g,h,_) (a,((i,j,_),_),_)=>(xbm c d e f g,(b,h,a,i,j),fun p=>(.leaf (.exit 2) [AV.func 64 [],AV.osl 0 0 0 p.1,AV.list 2 c,AV.int .i64 d,AV.int .i64 e] [bF 0 3 54 p.2]))) (0,[]) fun (_,_,_,c,d,e,f,g,_,_) _ (b,h,a,i,j)=>((((),b,(),c,d,e,f,g,h,()),(a,((i,j,()),()),())),xeR c d e f g b h a i j none)
def xhe (a:LA) (e:Int) (d:Nat) (b:Int) (c:LA):=Iter (xbm a e b ((xe7 (gC a b 1).toList).getD []) (↑((xe7 (gC a b 1).toList).getD []).length:Int)) (d,0,c,(gC a b 0).toList,(gC a b 1).toList)
def xhd (c:LA) (d:Int) (b:Nat) (e:Int) (a:LA):=(xhe c d b e a).getD (0,[])
def xeQ {T:Type} (d:LA) (e:Int) (c:Nat) (b:Int) (a:LA) (δ:T) (κl:(Nat×Int×LA)->T) (κr:(Nat×LA)->T):T:=br (decide (b<e)) (br (ixI d b) (br (ixT d b 2 [Sh.list 3,Sh.list 2] 0) (br ((xe7 (gC d b 1).toList).isSome) (br ((xhe d e c b a).isSome) (κl ((xhd d e c b a).fst,i64.wrap (b+1),(xhd d e c b a).snd)) δ) δ) δ) δ) (κr (c,a))
def xb9 (c:LA) (d:Int):StT (Nat×Int×LA) (Nat×LA):=fun (b,e,a)=>xeQ c d b e a none inL inR
def xlV:=xCg.l 38 0 [54] [(6,xez.lp)] Tryz.f63 0 (lk1 xez.ok) [1,5,11,12,13] [5] [(5,3,54)] (q5 (xNh 64 xNF) (xNP 0 0 0) (qL 2) qI qI) (q1 (qB 0 3 54 xNH)) (fun (_,b,c,d,e,_) (a,_)=>(xb9 c d,(b,e,a),fun p=>(.leaf (.exit 0) [AV.osl 0 0 0 p.1] [bF 0 3 54 p.2]))) (0,[]) fun (_,_,c,d,_,_) _ (b,e,a)=>((((),b,c,d,e,()),(a,())),xeQ c d b e a none)
def xjE (l:LA):=Iter (xb9 ((xjf l).getD []) (↑((xjf l).getD []).length:Int)) (0,0,[])
def xjD (l:LA):=(xjE l).getD (0,[])
def xjB (l:LA):=(xjD l).fst
def xjC (l:LA):=(xjD l).snd
def xke {T:Type} (l:LA) (δ:T) (κ:LA->T):T:=br ((xjf l).isSome) (br ((xjE l).isSome) (br (decide (0+xjB l<=(xjC l).length)&&true) (κ (List.take (xjB l) (List.drop 0 (xjC l)))) δ) δ) δ
def xmv (l:LA):=xke l none some
def xKO:EO:=xCg.f Tryz.func63 38 0 [54] [(6,xez.lp),(3,xlV.lp)] (lks (lkC xlV.ok (lkC xez.ok lkN))) (u2 (uL 3) (sEq (xNh (64:FuncId) xNF))) (fun (l,_,_) _=>xke l) (fun _ p=>AV.list 3 p) []
def xo6 {T:Type} (l:LA) (δ:T) (κ:LA->T):T:=br ((xmv l).isSome) (κ ((xmv l).getD [])) δ
def xr4 (l:LA):=xo6 l none some
def xGI:EO:=xKO.f Tryz.func36 5 0 [] [] lk0 (u1 (uL 3)) (fun (l,_) _=>xo6 l) (fun _ p=>AV.list 3 p) []
def xuh {T:Type} (h:LA) (i j:Int) (e:LA) (f:Int) (d:Nat) (c:Int) (a b g:LA) (δ:T) (κl:(Nat×Int×LA×LA×LA)->T) (κr:(Nat×LA)->T):T:=br (decide (c<f)) (br (ixI e c) (br (ixT e c 2 [Sh.int .i64,Sh.int .i64] 0) (br (decide (b.length*32<=140737488355328)&&decide (b.length<=4611686018427387904)) (br (decide (0+b.length<=b.length)&&true&&true&&true&&true) (br (rmB d a 1 40) (κl (d+1,i64.wrap (c+1),a++[AV.agg [AV.list 3 (List.take b.length (List.drop 0 b)),AV.int .i64 (gC e c 0).toInt,AV.int .i64 (gC e c 1).toInt]],b,g)) δ) δ) δ) δ) δ) (κr (d,a))
def xkf (c:LA) (d e:Int) (f:LA) (g:Int):StT (Nat×Int×LA×LA×LA) (Nat×LA):=fun (b,h,a,i,j)=>xuh c d e f g b h a i j none inL inR
def xhg (a:LA) (e:Int) (d:Nat) (b:Int) (c:LA):=Iter (xkf a e b ((xwC (gC a b 1).toList).getD []) (↑((xwC (gC a b 1).toList).getD []).length:Int)) (d,0,c,(gC a b 0).toList,(gC a b 1).toList)
def xhf (c:LA) (d:Int) (b:Nat) (e:Int) (a:LA):=(xhg c d b e a).getD (0,[])
def xhJ {T:Type} (d:LA) (e:Int) (c:Nat) (b:Int) (a:LA) (δ:T) (κl:(Nat×Int×LA)->T) (κr:(Nat×LA)->T):T:=br (decide (b<e)) (br (ixI d b) (br (ixT d b 2 [Sh.list 3,Sh.list 2] 0) (br ((xwC (gC d b 1).toList).isSome) (br ((xhg d e c b a).isSome) (κl ((xhf d e c b a).fst,i64.wrap (b+1),(xhf d e c b a).snd)) δ) δ) δ) δ) (κr (c,a))
def xfZ (c:LA) (d:Int):StT (Nat×Int×LA) (Nat×LA):=fun (b,e,a)=>xhJ c d b e a none inL inR
def xgT (b a:Bool):Int:=(br (b) (((-1))) (br (a) ((1)) ((0))))
def xDq {T:Type} (b a:Bool) (δ:T) (κ:Int->T):T:=br (b) (κ ((-1))) (br (a) (κ (1)) (κ (0)))
def xKP:EO:=xGI.fT Tryz.func81 7 0 [] [] lk0 (fun (b,a,_)=>xDq b a none) (u2 (sEq pBool) (sEq pBool)) (fun (b,a,_)=>xgT b a) (fun _ p=>(AV.int .i64 p))
def xgA (a b:Int) (c:List UInt8) (d e:Int) (f:List UInt8):Int:=(br (a != d) ((xgT (decide (a<d)) (decide (a>d)))) (br (b != e) ((xgT (decide (b<e)) (decide (b>e)))) ((xgT (Op.bytesLess c f) !(Op.bytesLess c f || c==f)))))
def xzH {T:Type} (a b:Int) (c:List UInt8) (d e:Int) (f:List UInt8) (δ:T) (κ:Int->T):T:=br (a != d) (κ (xgT (decide (a<d)) (decide (a>d)))) (br (b != e) (κ (xgT (decide (b<e)) (decide (b>e)))) (κ (xgT (Op.bytesLess c f) !(Op.bytesLess c f || c==f))))
def xGJ:EO:=xKP.fT Tryz.func49 48 0 [] [] lk0 (fun ((a,b,c,_),(d,e,f,_),_)=>xzH a b c d e f none) (u2 (xNU (u3 uI uI (sEq pStr))) (xNU (u3 uI uI (sEq pStr)))) (fun ((a,b,c,_),(d,e,f,_),_)=>xgA a b c d e f) (fun _ p=>(AV.int .i64 p))
def xc3 (a b:LA) (i:Int):=xgA (gC a i 0).toInt (gC a i 1).toInt (gC a i 2).toStr (gC b i 0).toInt (gC b i 1).toInt (gC b i 2).toStr
def xdq {T:Type} (a b:LA) (i:Int) (δ:T) (κl:(Int)->T) (κr:(Bool×(Int)×(Unit))->T):T:=br (decide (i<a.length)) (br (decide (i<b.length)) (br (ixI a i) (br (ixT a i 3 [Sh.int .i64,Sh.int .i64,Sh.str] 0) (br (ixI b i) (br (ixT b i 3 [Sh.int .i64,Sh.int .i64,Sh.str] 0) (br (xc3 a b i != 0) (κr (true,(xc3 a b i),())) (κl (i64.wrap (i+1)))) δ) δ) δ) δ) (κr (false,0,()))) (κr (false,0,()))
def xaJ (a b:LA):StT (Int) (Bool×(Int)×(Unit)):=fun (i)=>xdq a b i none inL inR
def xo0:=xGJ.l 41 0 [] [] Tryz.f24 0 lk0 [0,1,5] [0,1,4] [] (q3 (qL 3) (qL 3) qI) xNF (fun (a,b,i,_) _=>(xaJ a b,(i),fun p=>(.node p.1 (.leaf .ret [AV.list 3 a,AV.list 3 b,AV.int .i64 p.2.1] []) (.leaf (.exit 0) [AV.list 3 a,AV.list 3 b,.top] [])))) (false,0,()) fun (a,b,_,_) _ (i)=>(((a,b,i,()),()),xdq a b i none)
def xnY {T:Type} (a b:LA) (δ:T) (κ:Int->T):T:=br ((Iter (xaJ a b) 0).isSome) (br (((Iter (xaJ a b) 0).getD (false,0,())).fst) (κ (((Iter (xaJ a b) 0).getD (false,0,())).snd.fst)) (br (decide ((↑a.length:Int)<(↑b.length:Int))) (κ ((-1))) (br (decide ((↑a.length:Int)>(↑b.length:Int))) (κ (1)) (κ (0))))) δ
def xaL (a b:LA):=xnY a b none some
def xKQ:EO:=xGJ.f Tryz.func24 41 0 [] [(2,xo0.lp)] (lk1 xo0.ok) (u2 (uL 3) (uL 3)) (fun (a,b,_) _=>xnY a b) (fun _ p=>AV.int .i64 p) 0
def xvm {T:Type} (a b:LA) (δ:T) (κ:Bool->T):T:=br ((xaL a b).isSome) (κ ((xaL a b).getD 0==0)) δ
def xtL (a b:LA):=xvm a b none some
def xdz (a b:LA) (i k:Int):=decide ((xaL (gC b k 0).toList (gC a i 0).toList).getD 0<0)
def xdA (b:LA) (k:Int):=decide (k.toNat<b.length)&&((b.getD k.toNat .top).cells.length==3&&xMx [Sh.list 3,Sh.int .i64,Sh.int .i64] (b.getD k.toNat .top).cells 0)
def xdB (a:LA) (i:Int):=decide (i.toNat<a.length)&&((a.getD i.toNat .top).cells.length==3&&xMx [Sh.list 3,Sh.int .i64,Sh.int .i64] (a.getD i.toNat .top).cells 0)
def xco (b:LA) (k:Int):=ixI b k
def xcp (a:LA) (i:Int):=ixI a i
def xbx {T:Type} (b:LA) (c:Nat) (i k:Int) (a:LA) (δ:T) (κl:(Nat×Int×Int×LA)->T):T:=br (xco b k) (br (xdA b k) (br (rmB c a 1 40) (κl (c+1,i,i64.wrap (k+1),a++[AV.agg [AV.list 3 (gC b k 0).toList,AV.int .i64 (gC b k 1).toInt,AV.int .i64 (gC b k 2).toInt]])) δ) δ) δ
def xb0 {T:Type} (a:LA) (c:Nat) (i k:Int) (b:LA) (δ:T) (κl:(Nat×Int×Int×LA)->T):T:=br (xcp a i) (br (xdB a i) (br (rmB c b 1 40) (κl (c+1,i64.wrap (i+1),k,b++[AV.agg [AV.list 3 (gC a i 0).toList,AV.int .i64 (gC a i 1).toInt,AV.int .i64 (gC a i 2).toInt]])) δ) δ) δ
def xbZ {T:Type} (a b:LA) (d:Nat) (i k:Int) (c:LA) (δ:T) (κl:(Nat×Int×Int×LA)->T):T:=br (i==(↑a.length:Int)) (xbx b d i k c δ κl) (br (decide (k<b.length)) (br (xco b k) (br (ixS b k (Sh.list 3) 0) (br (xcp a i) (br (ixS a i (Sh.list 3) 0) (br ((xaL (gC b k 0).toList (gC a i 0).toList).isSome) (br (xdz a b i k) (xbx b d i k c δ κl) (xb0 a d i k c δ κl)) δ) δ) δ) δ) δ) (xb0 a d i k c δ κl))
def xd1 {T:Type} (a b:LA) (d:Nat) (i k:Int) (c:LA) (δ:T) (κl:(Nat×Int×Int×LA)->T) (κr:(Nat×LA)->T):T:=br (decide (i<a.length)) (xbZ a b d i k c δ κl) (br (decide (k<b.length)) (xbZ a b d i k c δ κl) (κr (d,c)))
def xa7 (a b:LA):StT (Nat×Int×Int×LA) (Nat×LA):=fun (d,i,k,c)=>xd1 a b d i k c none inL inR
def xoB (a b:LA):=Iter (xa7 a b) (0,0,0,[])
def xoA (a b:LA):=(xoB a b).getD (0,[])
def xoy (a b:LA):=(xoA a b).snd
def xoz (a b:LA):=(xoA a b).fst
def xuv {T:Type} (a b:LA) (δ:T) (κ:LA->T):T:=br ((xoB a b).isSome) (br (decide (0+xoz a b<=(xoy a b).length)&&true) (κ (List.take (xoz a b) (List.drop 0 (xoy a b)))) δ) δ
def xsK (a b:LA):=xuv a b none some
def xmR (l:LA):=decide (0<=i64.wrap ((↑l.length:Int).tdiv 2))&&decide (i64.wrap ((↑l.length:Int).tdiv 2)<=(↑l.length:Int))
def xmS (R:LA->Option (LA)) (l:LA):Option (LA):=R (List.take (l.length - (i64.wrap ((↑l.length:Int).tdiv 2)).toNat) (List.drop (i64.wrap ((↑l.length:Int).tdiv 2)).toNat l))
def xmQ (R:LA->Option (LA)) (l:LA):Option (LA):=xsK ((R (List.take ((i64.wrap ((↑l.length:Int).tdiv 2)).toNat - 0) (List.drop 0 l))).getD []) ((xmS R l).getD [])
def xj5 {T:Type} (R:LA->Option (LA)) (l:LA) (δ:T) (κ:LA->T):T:=br (decide ((↑l.length:Int)<2)) (κ (l)) (br (xmR l&&true) (br ((R (List.take ((i64.wrap ((↑l.length:Int).tdiv 2)).toNat - 0) (List.drop 0 l))).isSome) (br (xmR l) (br ((xmS R l).isSome) (br ((xmQ R l).isSome) (κ ((xmQ R l).getD [])) δ) δ) δ) δ) δ)
def xfb (R:LA->Option (LA)) (l:LA):=xj5 R l none some
def xcO:Nat->LA->Option (LA)
 | 0=>fun _=>none
 | fu_+1=>fun l=>xfb (xcO fu_) l
def xdK (a b:Int):Bool:=(br (decide (a>=0)) (br (decide (a<b)) ((decide (b<=1099511627776))) ((false))) ((false)))
def xBQ {T:Type} (a b:Int) (δ:T) (κ:Bool->T):T:=br (decide (a>=0)) (br (decide (a<b)) (κ (decide (b<=1099511627776))) (κ (false))) (κ (false))
def xKR:EO:=xKQ.fT Tryz.func78 18 0 [] [] lk0 (fun ((a,b,_),_)=>xBQ a b none) (u1 (xNU (u2 uI uI))) (fun ((a,b,_),_)=>xdK a b) (fun _ p=>(AV.bool p))
def xfQ (a b t:Int):Bool:=(br (xdK a b) (br (decide (a<=t)) ((decide (t<b))) ((false))) ((false)))
def xyK {T:Type} (a b t:Int) (δ:T) (κ:Bool->T):T:=br (xdK a b) (br (decide (a<=t)) (κ (decide (t<b))) (κ (false))) (κ (false))
def xKS:EO:=xKR.fT Tryz.func47 19 0 [] [] lk0 (fun ((a,b,_),t,_)=>xyK a b t none) (u2 (xNU (u2 uI uI)) uI) (fun ((a,b,_),t,_)=>xfQ a b t) (fun _ p=>(AV.bool p))
def xqO (a b c d:Int):Int:=(br (a==c&&(b==d&&true)) ((0)) (br (decide (a<c)) (((-1))) (br (a==c) (br (decide (b<d)) (((-1))) ((1))) ((1)))))
def xGb:Int×Int×List UInt8:=((0,0,[]))
def xDp {T:Type} (δ:T) (κ:Int×Int×List UInt8->T):T:=κ (0,0,[])
def xJz:EO:=xKS.fT Tryz.func105 2 0 [] [] lk0 (fun _=>xDp none) xNG (fun _=>xGb) (fun _ p=>(AV.agg [AV.int .i64 p.1,AV.int .i64 p.2.1,AV.str p.2.2]))
def xzI {T:Type} (a:LA) (i:Int) (δ:T) (κ:Int×Int×List UInt8->T):T:=br (decide (i<0)) (κ (0,0,[])) (br (decide (i>=a.length)) (κ (0,0,[])) (br (ixI a i) (br (ixT a i 3 [Sh.int .i64,Sh.int .i64,Sh.str] 0) (κ ((gC a i 0).toInt,(gC a i 1).toInt,(gC a i 2).toStr)) δ) δ))
def xiP (a:LA) (i:Int):=xzI a i none some
def xEA:EO:=xJz.f Tryz.func70 18 0 [] [] lk0 (u2 (uL 3) uI) (fun (a,i,_) _=>xzI a i) (fun _ p=>AV.agg [AV.int .i64 p.1,AV.int .i64 p.2.1,AV.str p.2.2]) (0,0,[])
def xkF (o:LA) (i:Int):=ixI o i
def xqq (b o:LA) (i:Int):=(xiP b (gC o i 0).toInt).getD (0,0,[])
def xqr (a o:LA) (i:Int):=(xiP a (gC o i 0).toInt).getD (0,0,[])
def xqo (b o:LA) (i:Int):=(xqq b o i).snd
def xqp (a o:LA) (i:Int):=(xqr a o i).snd
def xqn (a b o:LA) (i:Int):=xgA (xqr a o i).fst (xqp a o i).fst (xqp a o i).snd (xqq b o i).fst (xqo b o i).fst (xqo b o i).snd
def xlG {T:Type} (a b o:LA) (i:Int) (δ:T) (κl:(Int)->T) (κr:(Bool×(Bool)×(Unit))->T):T:=br (decide (i<o.length)) (br (xkF o i) (br (ixS o i (Sh.int .i64) 0) (br ((xiP a (gC o i 0).toInt).isSome) (br (xkF o i) (br (ixS o i (Sh.int .i64) 0) (br ((xiP b (gC o i 0).toInt).isSome) (br (xqn a b o i != 0) (br (xkF o i) (br (decide (i.toNat<o.length)&&xMT Sh.bool (gC o i 1)) (κr (true,(!decide (xqn a b o i<0)==(gC o i 1).toBool),())) δ) δ) (κl (i64.wrap (i+1)))) δ) δ) δ) δ) δ) δ) (κr (false,false,()))
def xcw (a b o:LA):StT (Int) (Bool×(Bool)×(Unit)):=fun (i)=>xlG a b o i none inL inR
def xqm:=xEA.l 44 0 [] [] Tryz.f144 0 lk0 [0,1,2,7] [0,1,6] [] (q4 (qL 3) (qL 3) (qL 2) qI) xNF (fun (a,b,o,i,_) _=>(xcw a b o,(i),fun p=>(.node p.1 (.leaf .ret [AV.list 3 a,AV.list 3 b,AV.bool p.2.1] []) (.leaf (.exit 0) [AV.list 3 a,AV.list 3 b,.top] [])))) (false,false,()) fun (a,b,o,_,_) _ (i)=>(((a,b,o,i,()),()),xlG a b o i none)
def xpj {T:Type} (a b o:LA) (δ:T) (κ:Bool->T):T:=br ((Iter (xcw a b o) 0).isSome) (br (((Iter (xcw a b o) 0).getD (false,false,())).fst) (κ (((Iter (xcw a b o) 0).getD (false,false,())).snd.fst)) (br ((xaL a b).isSome) (κ (decide ((xaL a b).getD 0<0))) δ)) δ
def xnx (a b o:LA):=xpj a b o none some
def xEB:EO:=xEA.f Tryz.func144 44 0 [] [(2,xqm.lp)] (lk1 xqm.ok) (u3 (uL 3) (uL 3) (uL 2)) (fun (a,b,o,_) _=>xpj a b o) (fun _ p=>AV.bool p) false
def xch (b:LA) (k:Int):=decide (k.toNat<b.length)&&xMT (Sh.list 3) (gC b k 0)
def xci (a:LA) (i:Int):=decide (i.toNat<a.length)&&xMT (Sh.list 3) (gC a i 0)
def xcj (a:LA) (i:Int):=ixI a i
def xck (b:LA) (k:Int):=ixI b k
def xbV {T:Type} (b:LA) (c:Nat) (i k:Int) (a:LA) (δ:T) (κl:(Nat×Int×Int×LA)->T):T:=br (xck b k) (br (xch b k) (br (rmB c a 1 24) (κl (c+1,i,i64.wrap (k+1),a++[AV.list 3 (gC b k 0).toList])) δ) δ) δ
def xbW {T:Type} (a:LA) (c:Nat) (i k:Int) (b:LA) (δ:T) (κl:(Nat×Int×Int×LA)->T):T:=br (xcj a i) (br (xci a i) (br (rmB c b 1 24) (κl (c+1,i64.wrap (i+1),k,b++[AV.list 3 (gC a i 0).toList])) δ) δ) δ
def xbU {T:Type} (a b o:LA) (d:Nat) (i k:Int) (c:LA) (δ:T) (κl:(Nat×Int×Int×LA)->T):T:=br (i==(↑a.length:Int)) (xbV b d i k c δ κl) (br (decide (k<b.length)) (br (xck b k) (br (xch b k) (br (xcj a i) (br (xci a i) (br ((xnx (gC b k 0).toList (gC a i 0).toList o).isSome) (br ((xnx (gC b k 0).toList (gC a i 0).toList o).getD false) (xbV b d i k c δ κl) (xbW a d i k c δ κl)) δ) δ) δ) δ) δ) (xbW a d i k c δ κl))
def xcI {T:Type} (a b o:LA) (d:Nat) (i k:Int) (c:LA) (δ:T) (κl:(Nat×Int×Int×LA)->T) (κr:(Nat×LA)->T):T:=br (decide (i<a.length)) (xbU a b o d i k c δ κl) (br (decide (k<b.length)) (xbU a b o d i k c δ κl) (κr (d,c)))
def xaQ (a b o:LA):StT (Nat×Int×Int×LA) (Nat×LA):=fun (d,i,k,c)=>xcI a b o d i k c none inL inR
def xqs:=xEB.l 62 0 [] [] Tryz.f114 0 lk0 [0,1,2,7,8,9] [7] [(7,1,42)] (q6 (qL 1) (qL 1) (qL 2) (xNP 0 0 0) qI qI) (q1 (qB 0 1 42 xNH)) (fun (a,b,o,d,i,k,_) (c,_)=>(xaQ a b o,(d,i,k,c),fun p=>(.leaf (.exit 0) [AV.osl 0 0 0 p.1] [bF 0 1 42 p.2]))) (0,[]) fun (a,b,o,_,_,_,_) _ (d,i,k,c)=>(((a,b,o,d,i,k,()),(c,())),xcI a b o d i k c none)
def xn3 (a b o:LA):=Iter (xaQ a b o) (0,0,0,[])
def xn2 (a b o:LA):=(xn3 a b o).getD (0,[])
def xn0 (a b o:LA):=(xn2 a b o).snd
def xn1 (a b o:LA):=(xn2 a b o).fst
def xpk {T:Type} (a b o:LA) (δ:T) (κ:LA->T):T:=br ((xn3 a b o).isSome) (br (decide (0+xn1 a b o<=(xn0 a b o).length)&&true) (κ (List.take (xn1 a b o) (List.drop 0 (xn0 a b o)))) δ) δ
def xst (a b o:LA):=xpk a b o none some
def xwt:EO:=xEB.f Tryz.func114 62 0 [] [(3,xqs.lp)] (lk1 xqs.ok) (u3 (uL 1) (uL 1) (uL 2)) (fun (a,b,o,_) _=>xpk a b o) (fun _ p=>AV.list 1 p) []
def xmL (R:LA->LA->Option (LA)):LA->Option (Bool×AV):=ocOf (xNE (xNT 1 xNH) (xNE (xNT 2 xNH) xNG)) fun (l,(o,_))=>((R l o).isSome,AV.list 1 ((R l o).getD []))
def xhB (R:LA->LA->Option (LA)):Prop:=OcOk P0 xNC 80 (xmL R)
def xfT (R:LA->LA->Option (LA)):Env:=(xwt.E.with 80 (xmL R)).fn 34 0 (lsOf []) (xNg [])
theorem xwG (R:LA->LA->Option (LA)) (a:xhB R):xMV P0 (xNC.at 0) (xfT R):=(xwt.ok.with a).fn
theorem xvz (R:LA->LA->Option (LA)) (a:xhB R):LoOk P0 (xNC.at (xfT R).pin) (xfT R) (Tryz.f80.body.getD .skip):=xmE (by kernel_rfl)
def xh5 (l:LA):=decide (0<=i64.wrap ((↑l.length:Int).tdiv 2))&&decide (i64.wrap ((↑l.length:Int).tdiv 2)<=(↑l.length:Int))
def xeo (l:LA):Nat:=0+((l.getD 0 .top).cells.getD 0 .top).toList.length
def xh6 (R:LA->LA->Option (LA)) (l o:LA):Option (LA):=R (List.take (l.length - (i64.wrap ((↑l.length:Int).tdiv 2)).toNat) (List.drop (i64.wrap ((↑l.length:Int).tdiv 2)).toNat l)) o
def xh4 (R:LA->LA->Option (LA)) (l o:LA):Option (LA):=xst ((R (List.take ((i64.wrap ((↑l.length:Int).tdiv 2)).toNat - 0) (List.drop 0 l)) o).getD []) ((xh6 R l o).getD []) o
def xd6 {T:Type} (R:LA->LA->Option (LA)) (l o:LA) (δ:T) (κ:LA->T):T:=br ((↑l.length:Int)==0) (κ ([])) (br ((↑l.length:Int)==1) (br (decide (0<(↑l.length:Int))) (br (decide (0<l.length)&&xMT (Sh.list 3) ((l.getD 0 .top).cells.getD 0 .top)) (br (decide (xeo l*32<=140737488355328)&&decide (xeo l<=4611686018427387904)) (br (decide (0+xeo l<=([]++((l.getD 0 .top).cells.getD 0 .top).toList).length)&&true&&true&&true) (κ ([AV.list 3 (List.take (xeo l) (List.drop 0 ([]++((l.getD 0 .top).cells.getD 0 .top).toList)))])) δ) δ) δ) δ) (br (xh5 l&&true) (br ((R (List.take ((i64.wrap ((↑l.length:Int).tdiv 2)).toNat - 0) (List.drop 0 l)) o).isSome) (br (xh5 l) (br ((xh6 R l o).isSome) (br ((xh4 R l o).isSome) (κ ((xh4 R l o).getD [])) δ) δ) δ) δ) δ))
def xbt (R:LA->LA->Option (LA)) (l o:LA):=xd6 R l o none some
theorem xBU (R:LA->LA->Option (LA)) (l o:LA):Enc (fun (p:LA)=>((AV.list 1 p):AV)) (xbt R l o) (XF P0 (xfT R) Tryz.f80 (Tryz.f80.body.getD .skip) [AV.list 1 l,AV.list 2 o]):=by
 have h:XF P0 (xfT R) Tryz.f80 (Tryz.f80.body.getD .skip) [AV.list 1 l,AV.list 2 o]=xd6 R l o none (fun (p:LA)=>some ((AV.list 1 p):AV)):=by kernel_rfl
 rw [h];unfold xbt xd6;repeat' (first|refine Enc.br ?_ ?_|exact Enc.none|exact Enc.some rfl)
def xBT (R:LA->LA->Option (LA)):LA->Option (Bool×AV):=ocOf (xNE (xNT 1 xNH) (xNE (xNT 2 xNH) xNG)) fun (l,(o,_))=>((xbt R l o).isSome,(AV.list 1 ((xbt R l o).getD [])))
theorem xBS (R:LA->LA->Option (LA)) (a:xhB R):OcOk P0 xNC 80 (xBT R):=xjv fun e g f=>by
 obtain ⟨l,⟨o,_⟩⟩:=e;obtain ⟨b,c⟩:=Prod.mk.inj f;refine xfx (p:=(xfT R).pin) (xjs xM3 (xM4 P0 _) rfl (xwG R a) Tryz.func80 rfl (by kernel_rfl) (xvz R a) ((xBU R _ _ _ (xbN (d:=[]) b)).trans ?_))
 exact congrArg some c
def xbl:Nat->LA->LA->Option (LA)
 | 0=>fun _ _=>none
 | fu_+1=>fun l o=>xbt (xbl fu_) l o
theorem xsp:∀ n,xhB (xbl n)
 | 0=>xjv fun _ _ h=>absurd (Prod.mk.inj h).1 Bool.false_ne_true
 | fu_+1=>fun a r h=>xBS (xbl fu_) (xsp fu_) a r h
def xEC:Env:=xwt.E.with 80 (xmL (xbl 1000))
theorem xFu:xMV P0 xNC xEC:=xwt.ok.with (xsp _)
def xFt:EO:=EO.mk xEC xFu
def xss {T:Type} (l:LA) (δ:T) (κ:LA->T):T:=br ((xbl 1000 l []).isSome) (κ ((xbl 1000 l []).getD [])) δ
def xlg (l:LA):=xss l none some
def xuc:EO:=xFt.f Tryz.func48 5 0 [] [] lk0 (u1 (uL 1)) (fun (l,_) _=>xss l) (fun _ p=>AV.list 1 p) []
def xfC (a:LA) (i:Int):=decide (i.toNat<a.length)&&xMT (Sh.list 3) (gC a i 0)
def xfD (a:LA) (i:Int):=ixI a i
def xfE (a:LA) (i:Int):=xtL ((a.getD (i64.wrap (i - 1)).toNat .top).cells.getD 0 .top).toList (gC a i 0).toList
def xdr {T:Type} (c:LA) (b:Nat) (i:Int) (a:LA) (δ:T) (κl:(Nat×Int×LA)->T):T:=br (xfD c i) (br (xfC c i) (br (rmB b a 1 24) (κl (b+1,i64.wrap (i+1),a++[AV.list 3 (gC c i 0).toList])) δ) δ) δ
def xgl {T:Type} (a:LA) (c:Nat) (i:Int) (b:LA) (δ:T) (κl:(Nat×Int×LA)->T) (κr:(Nat×LA)->T):T:=br (decide (i<a.length)) (br (i==0) (xdr a c i b δ κl) (br (decide (0<=i64.wrap (i - 1))&&decide (i64.wrap (i - 1)<(↑a.length:Int))) (br (decide ((i64.wrap (i - 1)).toNat<a.length)&&xMT (Sh.list 3) ((a.getD (i64.wrap (i - 1)).toNat .top).cells.getD 0 .top)) (br (xfD a i) (br (xfC a i) (br ((xfE a i).isSome) (br (!(xfE a i).getD false) (xdr a c i b δ κl) (κl (c,i64.wrap (i+1),b))) δ) δ) δ) δ) δ)) (κr (c,b))
def xbQ (c:LA):StT (Nat×Int×LA) (Nat×LA):=fun (b,i,a)=>xgl c b i a none inL inR
def xlF (l:LA):=(Iter (xbQ ((xlg l).getD [])) (0,0,[])).getD (0,[])
def xlD (l:LA):=(xlF l).snd
def xlE (l:LA):=(xlF l).fst
def xsm {T:Type} (l:LA) (δ:T) (κ:LA->T):T:=br ((xlg l).isSome) (br ((Iter (xbQ ((xlg l).getD [])) (0,0,[])).isSome) (br (decide (0+xlE l<=(xlD l).length)&&true) (κ (List.take (xlE l) (List.drop 0 (xlD l)))) δ) δ) δ
def xpi (l:LA):=xsm l none some
def xos {T:Type} (l:LA) (b:Nat) (i:Int) (a:LA) (δ:T) (κl:(Nat×Int×LA)->T) (κr:(Nat×LA)->T):T:=br (decide (i<l.length)) (br (ixI l i) (br (ixT l i 3 [Sh.int .i64,Sh.int .i64] 1) (br (xdK (gC l i 1).toInt (gC l i 2).toInt) (br (ixI l i) (br (ixS l i (Sh.list 3) 0) (br (rmB b a 1 24) (κl (b+1,i64.wrap (i+1),a++[AV.list 3 (gC l i 0).toList])) δ) δ) δ) (κl (b,i64.wrap (i+1),a))) δ) δ) (κr (b,a))
def xeK (l:LA):StT (Nat×Int×LA) (Nat×LA):=fun (b,i,a)=>xos l b i a none inL inR
def xq7 (l:LA):=(Iter (xeK l) (0,0,[])).getD (0,[])
def xq5 (l:LA):=(xq7 l).fst
def xq6 (l:LA):=(xq7 l).snd
def xq4 (l:LA):=xpi (List.take (xq5 l) (List.drop 0 (xq6 l)))
def xwd {T:Type} (l:LA) (δ:T) (κ:LA->T):T:=br ((Iter (xeK l) (0,0,[])).isSome) (br (decide (0+xq5 l<=(xq6 l).length)&&true) (br ((xq4 l).isSome) (κ ((xq4 l).getD [])) δ) δ) δ
def xrU (l:LA):=xwd l none some
def xdb (k:Nat) (a:LA):=(List.take ((i64.wrap ((↑k:Int) - 1)).toNat - 0) (List.drop 0 a)).length
def xmg (k:Nat) (a:LA):=decide (0+(i64.wrap ((↑k:Int) - 1)).toNat<a.length)
def xji (k:Nat) (a:LA):=((a.getD (0+(i64.wrap ((↑k:Int) - 1)).toNat) .top).cells.getD 1 .top).toInt
def xmh (k:Nat):=decide (0<=i64.wrap ((↑k:Int) - 1))
def xjh (k:Nat):=xmh k&&decide (i64.wrap ((↑k:Int) - 1)<(↑k:Int))
def xmf (k:Nat) (a:LA):=xmg k a&&xMT (Sh.int .i64) ((a.getD (0+(i64.wrap ((↑k:Int) - 1)).toNat) .top).cells.getD 1 .top)
def xlf {T:Type} (k:Nat) (a b:Int) (c:LA) (δ:T) (κ:Bool×(Nat×LA×LA)×(Nat×LA)->T):T:=br (rmB k c 1 16) (κ (false,(0,[],[]),(k+1,c++[AV.agg [AV.int .i64 a,AV.int .i64 b]]))) δ
def xsi {T:Type} (k:Nat) (b c:Int) (a:LA) (δ:T) (κ:Bool×(Nat×LA×LA)×(Nat×LA)->T):T:=br (decide ((↑k:Int)>0)) (br (xjh k) (br (xmf k a) (br (decide (xji k a>=b)) (br (xmh k&&decide (i64.wrap ((↑k:Int) - 1)<=(↑k:Int))&&true) (br (decide (0+((i64.wrap ((↑k:Int) - 1)).toNat - 0)<=a.length)&&(decide (xdb k a*16<=140737488355328)&&decide (xdb k a<=4611686018427387904))) (br (xjh k) (br (xmg k a&&xMT (Sh.int .i64) ((a.getD (0+(i64.wrap ((↑k:Int) - 1)).toNat) .top).cells.getD 0 .top)) (br (xjh k) (br (xmf k a) (br (xdb k a==xdb k a&&(decide ((xdb k a+1)*16<=140737488355328)&&decide (xdb k a+1<=4611686018427387904))) (κ (true,(xdb k a+1,a,List.take ((i64.wrap ((↑k:Int) - 1)).toNat - 0) (List.drop 0 a)++[AV.agg [AV.int .i64 ((a.getD (0+(i64.wrap ((↑k:Int) - 1)).toNat) .top).cells.getD 0 .top).toInt,AV.int .i64 (if c>xji k a then c else xji k a)]]),(0,[]))) δ) δ) δ) δ) δ) δ) δ) (xlf k b c a δ κ)) δ) δ) (xlf k b c a δ κ)
def xgS (k:Nat) (a b:Int) (c:LA):=xsi k a b c none some
def xff {T:Type} (l:LA) (n:Int) (b:Nat) (i:Int) (a:LA) (δ:T) (κl:(Nat×Int×LA)->T) (κr:(Nat×Int×LA)->T):T:=br (decide (i<l.length)) (br (ixI l i) (br (ixS l i (Sh.int .i64) 0) (br (decide ((gC l i 0).toInt<n)) (br (ixI l i) (br (ixS l i (Sh.int .i64) 0) (br (rmB b a 1 8) (κl (b+1,i64.wrap (i+1),a++[AV.int .i64 (gC l i 0).toInt])) δ) δ) δ) (κr (b,i,a))) δ) δ) (κr (b,i,a))
def xbH (l:LA) (n:Int):StT (Nat×Int×LA) (Nat×Int×LA):=fun (b,i,a)=>xff l n b i a none inL inR
def xkE:=xuc.l 58 0 [] [] Tryz.f79 0 lk0 [0,1,5,6] [0,1,5,6] [(5,1,3)] (q4 (qL 1) qI (xNP 0 0 0) qI) (q1 (qB 0 1 3 xNH)) (fun (l,n,b,i,_) (a,_)=>(xbH l n,(b,i,a),fun p=>(.leaf (.exit 0) [AV.list 1 l,AV.int .i64 n,AV.osl 0 0 0 p.1,AV.int .i64 p.2.1] [bF 0 1 3 p.2.2]))) (0,0,[]) fun (l,n,_,_,_) _ (b,i,a)=>(((l,n,b,i,()),(a,())),xff l n b i a none)
def xhz {T:Type} (l:LA) (b:Nat) (i:Int) (a:LA) (δ:T) (κl:(Nat×Int×LA)->T) (κr:(Nat×LA)->T):T:=br (decide (i<l.length)) (br (ixI l i) (br (ixS l i (Sh.int .i64) 0) (br (rmB b a 1 8) (κl (b+1,i64.wrap (i+1),a++[AV.int .i64 (gC l i 0).toInt])) δ) δ) δ) (κr (b,a))
def xbI (l:LA):StT (Nat×Int×LA) (Nat×LA):=fun (b,i,a)=>xhz l b i a none inL inR
def xqk:=xuc.l 58 0 [] [(3,xkE.lp)] Tryz.f79 1 lk0 [0,5,6] [5] [(5,1,3)] (q3 (qL 1) (xNP 0 0 0) qI) (q1 (qB 0 1 3 xNH)) (fun (l,b,i,_) (a,_)=>(xbI l,(b,i,a),fun p=>(.leaf (.exit 2) [AV.osl 0 0 0 p.1] [bF 0 1 3 p.2]))) (0,[]) fun (l,_,_,_) _ (b,i,a)=>(((l,b,i,()),(a,())),xhz l b i a none)
def xf7 (l:LA) (n:Int):=(Iter (xbH l n) (0,0,[])).getD (0,0,[])
def xen (l:LA) (n:Int):=(xf7 l n).fst
def xf6 (l:LA) (n:Int):=(xf7 l n).snd
def xa4 (l:LA) (n:Int):=(xf6 l n).fst
def xel (l:LA) (n:Int):=xen l n+1
def xem (l:LA) (n:Int):=(xf6 l n).snd
def xgN (l:LA) (n:Int):=Iter (xbI l) (xel l n,xa4 l n,xem l n++[AV.int .i64 n])
def xgR (l:LA) (n:Int):=Iter (xbI l) (xen l n,xa4 l n,xem l n)
def xiN (l:LA) (n:Int):=xen l n==(xem l n).length
def xgM (l:LA) (n:Int):=(xgN l n).getD (0,[])
def xjX (l:LA) (n:Int):=(xgN l n).isSome
def xgQ (l:LA) (n:Int):=(xgR l n).getD (0,[])
def xgK (l:LA) (n:Int):=(xgM l n).fst
def xgL (l:LA) (n:Int):=(xgM l n).snd
def xgO (l:LA) (n:Int):=(xgQ l n).fst
def xgP (l:LA) (n:Int):=(xgQ l n).snd
def xmG {T:Type} (l:LA) (n:Int) (δ:T) (κ:LA->T):T:=br (xiN l n&&(decide (xel l n*8<=140737488355328)&&decide (xel l n<=4611686018427387904))) (br (xjX l n) (br (decide (0+xgK l n<=(xgL l n).length)&&true) (κ (List.take (xgK l n) (List.drop 0 (xgL l n)))) δ) δ) δ
def xpa {T:Type} (l:LA) (n:Int) (δ:T) (κ:LA->T):T:=br ((Iter (xbH l n) (0,0,[])).isSome) (br (xa4 l n==(↑l.length:Int)) (xmG l n δ κ) (br (decide (0<=xa4 l n)&&decide (xa4 l n<l.length)) (br (decide ((xa4 l n).toNat<l.length)&&xMT (Sh.int .i64) ((l.getD (xa4 l n).toNat .top).cells.getD 0 .top)) (br (decide (((l.getD (xa4 l n).toNat .top).cells.getD 0 .top).toInt>n)) (xmG l n δ κ) (br ((xgR l n).isSome) (br (decide (0+xgO l n<=(xgP l n).length)&&true) (κ (List.take (xgO l n) (List.drop 0 (xgP l n)))) δ) δ)) δ) δ)) δ
def xaA (l:LA) (n:Int):=xpa l n none some
def xGK:EO:=xuc.f Tryz.func79 58 0 [] [(3,xkE.lp),(8,xqk.lp)] (lks (lkC xkE.ok (lkC xqk.ok lkN))) (u2 (uL 1) uI) (fun (l,n,_) _=>xpa l n) (fun _ p=>AV.list 1 p) []
def xjj {T:Type} (k:Nat) (a n:Int) (b:LA) (δ:T) (κ:Bool×(Nat×LA)×(Nat×LA)->T):T:=br (rmB k b 1 16) (κ (false,(0,[]),(k+1,b++[AV.agg [AV.int .i64 a,AV.int .i64 n]]))) δ
def xqb {T:Type} (k:Nat) (a n:Int) (b:LA) (δ:T) (κ:Bool×(Nat×LA)×(Nat×LA)->T):T:=br (decide ((↑k:Int)>0)) (br (decide (0<=i64.wrap ((↑k:Int) - 1))&&decide (i64.wrap ((↑k:Int) - 1)<(↑k:Int))) (br (decide (0+(i64.wrap ((↑k:Int) - 1)).toNat<b.length)&&xMT (Sh.int .i64) ((b.getD (0+(i64.wrap ((↑k:Int) - 1)).toNat) .top).cells.getD 1 .top)) (br (((b.getD (0+(i64.wrap ((↑k:Int) - 1)).toNat) .top).cells.getD 1 .top).toInt==n) (κ (true,(k,b),(0,[]))) (xjj k a n b δ κ)) δ) δ) (xjj k a n b δ κ)
def xql (k:Nat) (a n:Int) (b:LA):=xqb k a n b none some
def xhU (l:LA) (i:Int):=ixI l i
def xqP {T:Type} (l a:LA) (i:Int) (δ:T) (κl:(LA×Int)->T) (κr:(LA)->T):T:=br (decide (i<l.length)) (br (xhU l i) (br (ixT l i 3 [Sh.int .i64,Sh.int .i64] 0) (br (xdK (gC l i 0).toInt (gC l i 1).toInt) (br (xhU l i) (br (ixS l i (Sh.int .i64) 0) (br ((xaA a (gC l i 0).toInt).isSome) (br (xhU l i) (br (ixS l i (Sh.int .i64) 1) (br ((xaA ((xaA a (gC l i 0).toInt).getD []) (gC l i 1).toInt).isSome) (κl ((xaA ((xaA a (gC l i 0).toInt).getD []) (gC l i 1).toInt).getD [],i64.wrap (i+1))) δ) δ) δ) δ) δ) δ) (κl (a,i64.wrap (i+1)))) δ) δ) (κr (a))
def xf8 (l:LA):StT (LA×Int) (LA):=fun (a,i)=>xqP l a i none inL inR
def xqQ {T:Type} (l b:LA) (c:Nat) (k n i:Int) (a:LA) (δ:T) (κl:(Int×Int×LA)->T) (κr:(Int×LA)->T):T:=br (decide (i<l.length)) (br (ixI l i) (br (ixT l i 3 [Sh.int .i64,Sh.int .i64] 0) (br (ixI b k) (br (ixS b k (Sh.int .i64) 0) (br (xfQ (gC l i 0).toInt (gC l i 1).toInt (gC b k 0).toInt) (br (ixI l i) (br (ixS l i (Sh.int .i64) 2) (κl (i64.wrap (n+(gC l i 2).toInt),i64.wrap (i+1),a)) δ) δ) (κl (n,i64.wrap (i+1),a))) δ) δ) δ) δ) (κr (n,a))
def xga (l c:LA) (b:Nat) (k:Int):StT (Int×Int×LA) (Int×LA):=fun (n,i,a)=>xqQ l c b k n i a none inL inR
def xh0 (l c:LA) (b:Nat) (k:Int) (a:LA):=(Iter (xga l c b k) (0,0,a)).getD (0,[])
def xhx (l c:LA) (a:Nat) (k:Int) (b:LA):=xql a (gC c k 0).toInt (xh0 l c a k b).fst (xh0 l c a k b).snd
def xhZ (l c:LA) (b:Nat) (k:Int) (a:LA):=(xhx l c b k a).getD (false,(0,[]),0,[])
def xhX (l c:LA) (b:Nat) (k:Int) (a:LA):=(xhZ l c b k a).snd
def xhY (l c:LA) (b:Nat) (k:Int) (a:LA):=(xhZ l c b k a).fst
def xhV (l c:LA) (b:Nat) (k:Int) (a:LA):=(xhX l c b k a).fst
def xhW (l c:LA) (b:Nat) (k:Int) (a:LA):=(xhX l c b k a).snd
def xmi {T:Type} (l c:LA) (b:Nat) (k:Int) (a:LA) (δ:T) (κl:(Nat×Int×LA)->T) (κr:(Nat×LA)->T):T:=br (decide (k<c.length)) (br (ixI c k) (br (ixS c k (Sh.int .i64) 0) (br (decide ((gC c k 0).toInt<1099511627776)) (br ((Iter (xga l c b k) (0,0,a)).isSome) (br (ixI c k) (br (ixS c k (Sh.int .i64) 0) (br ((xhx l c b k a).isSome) (κl (br (xhY l c b k a) (xhV l c b k a).fst (xhW l c b k a).fst,i64.wrap (k+1),br (xhY l c b k a) (xhV l c b k a).snd (xhW l c b k a).snd)) δ) δ) δ) δ) (κr (b,a))) δ) δ) (κr (b,a))
def xf9 (l c:LA):StT (Nat×Int×LA) (Nat×LA):=fun (b,k,a)=>xmi l c b k a none inL inR
def xtK (l:LA):=Iter (xf9 l ((Iter (xf8 l) ([AV.int .i64 0],0)).getD [])) (0,0,[])
def xtJ (l:LA):=(xtK l).getD (0,[])
def xtH (l:LA):=(xtJ l).snd
def xtI (l:LA):=(xtJ l).fst
def xzG {T:Type} (l:LA) (δ:T) (κ:LA->T):T:=br ((Iter (xf8 l) ([AV.int .i64 0],0)).isSome) (br ((xtK l).isSome) (br (decide (0+xtI l<=(xtH l).length)&&true) (κ (List.take (xtI l) (List.drop 0 (xtH l)))) δ) δ) δ
def xyL (l:LA):=xzG l none some
def xlQ {T:Type} (l c:LA) (b:Nat) (i:Int) (a:LA) (δ:T) (κl:(Nat×Int×LA)->T) (κr:(Nat×LA)->T):T:=br (decide (i<l.length)) (br (ixI l i) (br (ixS l i (Sh.list 3) 0) (br ((xaL (gC l i 0).toList c).isSome) (br ((xaL (gC l i 0).toList c).getD 0==0) (br (ixI l i) (br (ixT l i 3 [Sh.int .i64,Sh.int .i64] 1) (br (rmB b a 1 24) (κl (b+1,i64.wrap (i+1),a++[AV.agg [AV.int .i64 (gC l i 1).toInt,AV.int .i64 (gC l i 2).toInt,AV.int .i64 1]])) δ) δ) δ) (κl (b,i64.wrap (i+1),a))) δ) δ) δ) (κr (b,a))
def xdU (l b:LA):StT (Nat×Int×LA) (Nat×LA):=fun (c,i,a)=>xlQ l b c i a none inL inR
def xoh (l a:LA):=(Iter (xdU l a) (0,0,[])).getD (0,[])
def xof (l a:LA):=(xoh l a).snd
def xog (l a:LA):=(xoh l a).fst
def xoe (l a:LA):=xyL (List.take (xog l a) (List.drop 0 (xof l a)))
def xus {T:Type} (l a:LA) (δ:T) (κ:LA->T):T:=br ((Iter (xdU l a) (0,0,[])).isSome) (br (decide (0+xog l a<=(xof l a).length)&&true) (br ((xoe l a).isSome) (κ ((xoe l a).getD [])) δ) δ) δ
def xod (l a:LA):=xus l a none some
def xhG {T:Type} (a:LA) (c:Nat) (i k:Int) (b:LA) (δ:T) (κl:(Int×LA)->T) (κr:(Int×LA)->T):T:=br (decide (k<a.length)) (br (ixI a k) (br (ixS a k (Sh.list 3) 0) (br (ixI a i) (br (ixS a i (Sh.list 3) 0) (br ((xaL (gC a k 0).toList (gC a i 0).toList).isSome) (br ((xaL (gC a k 0).toList (gC a i 0).toList).getD 0==0) (κl (i64.wrap (k+1),b)) (κr (k,b))) δ) δ) δ) δ) δ) (κr (k,b))
def xbK (c:LA) (b:Nat) (i:Int):StT (Int×LA) (Int×LA):=fun (k,a)=>xhG c b i k a none inL inR
def xhH {T:Type} (d:LA) (i k:Int) (a:LA) (c:Nat) (n:Int) (b:LA) (δ:T) (κl:(Nat×Int×LA)->T) (κr:(Nat×LA)->T):T:=br (decide (n<a.length)) (br (ixI a n) (br (ixS a n (Sh.list 3) 0) (br (decide (0<=k)&&decide (k<=d.length)&&(decide (0<=i)&&decide (i<=(↑k.toNat:Int)))) (br (ixI a n) (br (ixS a n (Sh.list 3) 0) (br ((xod (List.take (k.toNat - i.toNat) (List.drop i.toNat d)) (gC a n 0).toList).isSome) (br (rmB c b 1 48) (κl (c+1,i64.wrap (n+1),b++[AV.agg [AV.list 3 (gC a n 0).toList,AV.list 2 ((xod (List.take (k.toNat - i.toNat) (List.drop i.toNat d)) (gC a n 0).toList).getD [])]])) δ) δ) δ) δ) δ) δ) δ) (κr (c,b))
def xdW (d:LA) (i k:Int) (c:LA):StT (Nat×Int×LA) (Nat×LA):=fun (b,n,a)=>xhH d i k c b n a none inL inR
def xbB (c:LA) (b:Nat) (i:Int) (a:LA):=((Iter (xbK c b i) (i,a)).getD (0,[])).fst
def xkJ (c:LA) (a:Nat) (i:Int) (b:LA):=Iter (xdW c i (xbB c a i b) ((xrU (List.take ((xbB c a i b).toNat - i.toNat) (List.drop i.toNat c))).getD [])) (a,0,((Iter (xbK c a i) (i,b)).getD (0,[])).snd)
def xkI (c:LA) (b:Nat) (i:Int) (a:LA):=(xkJ c b i a).getD (0,[])
def xlS {T:Type} (c:LA) (b:Nat) (i:Int) (a:LA) (δ:T) (κl:(Nat×Int×LA)->T) (κr:(Nat×LA)->T):T:=br (decide (i<c.length)) (br ((Iter (xbK c b i) (i,a)).isSome) (br (decide (0<=xbB c b i a)&&decide (xbB c b i a<=c.length)&&(decide (0<=i)&&decide (i<=(↑(xbB c b i a).toNat:Int)))) (br ((xrU (List.take ((xbB c b i a).toNat - i.toNat) (List.drop i.toNat c))).isSome) (br ((xkJ c b i a).isSome) (κl ((xkI c b i a).fst,xbB c b i a,(xkI c b i a).snd)) δ) δ) δ) δ) (κr (b,a))
def xdV (c:LA):StT (Nat×Int×LA) (Nat×LA):=fun (b,i,a)=>xlS c b i a none inL inR
def xow (l:LA):=Iter (xdV ((xcO 100 l).getD [])) (0,0,[])
def xov (l:LA):=(xow l).getD (0,[])
def xot (l:LA):=(xov l).fst
def xou (l:LA):=(xov l).snd
def xuu {T:Type} (l:LA) (δ:T) (κ:LA->T):T:=br ((xcO 100 l).isSome) (br ((xow l).isSome) (br (decide (0+xot l<=(xou l).length)&&true) (κ (List.take (xot l) (List.drop 0 (xou l)))) δ) δ) δ
def xkH (l:LA):=xuu l none some
def xcT (l:LA) (n i:Int):=decide ((gC l i 1).toInt>=n)
def xa6 (l:LA) (i:Int):=ixI l i
def xcr (l:LA) (b:Nat) (i:Int) (a:LA):=(xgS b (gC l i 0).toInt 1099511627776 a).getD (false,(0,[],[]),0,[])
def xcs (l:LA) (b:Nat) (i:Int) (a:LA):=xgS b (gC l i 0).toInt ((l.getD (i64.wrap (i+1)).toNat .top).cells.getD 0 .top).toInt a
def xct (l:LA) (i:Int):=decide (i64.wrap (i+1)<(↑l.length:Int))
def xcx (l:LA) (b:Nat) (i:Int) (a:LA):=(xcs l b i a).getD (false,(0,[],[]),0,[])
def xc0 (l:LA) (b:Nat) (i:Int) (a:LA):=(xcr l b i a).fst
def xc1 (l:LA) (b:Nat) (i:Int) (a:LA):=(xcr l b i a).snd
def xcW (l:LA) (b:Nat) (i:Int) (a:LA):=(xcx l b i a).snd
def xcX (l:LA) (b:Nat) (i:Int) (a:LA):=(xcx l b i a).fst
def xcY (l:LA) (b:Nat) (i:Int) (a:LA):=(xc1 l b i a).snd
def xcZ (l:LA) (b:Nat) (i:Int) (a:LA):=(xc1 l b i a).fst
def xcU (l:LA) (b:Nat) (i:Int) (a:LA):=(xcW l b i a).snd
def xcV (l:LA) (b:Nat) (i:Int) (a:LA):=(xcW l b i a).fst
def xdp {T:Type} (l:LA) (n:Int) (b:Nat) (i:Int) (a:LA) (δ:T) (κl:(Nat×Int×LA)->T) (κr:(Nat×LA)->T):T:=br (decide (i<l.length)) (br (xct l i) (br (decide (0<=i64.wrap (i+1))&&xct l i) (br (decide ((i64.wrap (i+1)).toNat<l.length)&&xMT (Sh.int .i64) ((l.getD (i64.wrap (i+1)).toNat .top).cells.getD 0 .top)) (br (xa6 l i) (br (ixS l i (Sh.int .i64) 1) (br (xcT l n i) (br (xa6 l i) (br (ixS l i (Sh.int .i64) 0) (br ((xcs l b i a).isSome) (κl (br (xcX l b i a) (xcV l b i a).fst (xcU l b i a).fst,i64.wrap (i+1),br (xcX l b i a) (xcV l b i a).snd.snd (xcU l b i a).snd)) δ) δ) δ) (κl (b,i64.wrap (i+1),a))) δ) δ) δ) δ) (br (xa6 l i) (br (ixS l i (Sh.int .i64) 1) (br (xcT l n i) (br (xa6 l i) (br (ixS l i (Sh.int .i64) 0) (br ((xgS b (gC l i 0).toInt 1099511627776 a).isSome) (κl (br (xc0 l b i a) (xcZ l b i a).fst (xcY l b i a).fst,i64.wrap (i+1),br (xc0 l b i a) (xcZ l b i a).snd.snd (xcY l b i a).snd)) δ) δ) δ) (κl (b,i64.wrap (i+1),a))) δ) δ)) (κr (b,a))
def xaI (l:LA) (n:Int):StT (Nat×Int×LA) (Nat×LA):=fun (b,i,a)=>xdp l n b i a none inL inR
def xmJ (l:LA) (n:Int):=(Iter (xaI l n) (0,0,[])).getD (0,[])
def xmH (l:LA) (n:Int):=(xmJ l n).snd
def xmI (l:LA) (n:Int):=(xmJ l n).fst
def xte {T:Type} (l:LA) (n:Int) (δ:T) (κ:LA->T):T:=br ((Iter (xaI l n) (0,0,[])).isSome) (br (decide (0+xmI l n<=(xmH l n).length)&&true) (κ (List.take (xmI l n) (List.drop 0 (xmH l n)))) δ) δ
def xd5 (l:LA) (n:Int):=xte l n none some
def xhA (l:LA) (i:Int):=decide (i.toNat<l.length)&&((l.getD i.toNat .top).cells.length==2&&xMx [Sh.int .i64,Sh.int .i64] (l.getD i.toNat .top).cells 0)
def xiO {T:Type} (l:LA) (b:Nat) (i c d:Int) (a:LA) (δ:T) (κl:(Nat×Int×Int×Int×LA)->T) (κr:(Nat×Int×Int×Int×LA)->T):T:=br (decide (i<l.length)) (br (ixI l i) (br (xhA l i) (br (decide (xqO (gC l i 0).toInt (gC l i 1).toInt c d<=0)) (br (ixI l i) (br (xhA l i) (br (rmB b a 1 16) (κl (b+1,i64.wrap (i+1),c,d,a++[AV.agg [AV.int .i64 (gC l i 0).toInt,AV.int .i64 (gC l i 1).toInt]])) δ) δ) δ) (κr (b,i,c,d,a))) δ) δ) (κr (b,i,c,d,a))
def xc2 (l:LA):StT (Nat×Int×Int×Int×LA) (Nat×Int×Int×Int×LA):=fun (b,i,c,d,a)=>xiO l b i c d a none inL inR
def xnX (l:LA) (a b:Int):=Iter (xc2 l) (0,0,a,b,[])
def xnW (l:LA) (a b:Int):=(xnX l a b).getD (0,0,0,0,[])
def xph (l:LA) (a b:Int):=(xnW l a b).fst
def xnV (l:LA) (a b:Int):=(xnW l a b).snd
def xh2 (l:LA) (a b:Int):=xph l a b+1
def xh3 (l:LA) (a b:Int):=(xnV l a b).fst
def xpg (l:LA) (a b:Int):=(xnV l a b).snd
def xpd (l:LA) (a b:Int):=List.take (l.length - (xh3 l a b).toNat) (List.drop (xh3 l a b).toNat l)
def xpf (l:LA) (a b:Int):=(xpg l a b).snd
def xh1 (l:LA) (a b:Int):=xh2 l a b+(xpd l a b).length
def xpe (l:LA) (a b:Int):=(xpf l a b).snd
def xpc (l:LA) (a b:Int):=xpe l a b++[AV.agg [AV.int .i64 (xpg l a b).fst,AV.int .i64 (xpf l a b).fst]]
def xpb (l:LA) (a b:Int):=xpc l a b++xpd l a b
def xvk {T:Type} (l:LA) (a b:Int) (δ:T) (κ:LA->T):T:=br ((xnX l a b).isSome) (br (xph l a b==(xpe l a b).length&&(decide (xh2 l a b*16<=140737488355328)&&decide (xh2 l a b<=4611686018427387904))) (br (decide (0<=xh3 l a b)&&decide (xh3 l a b<=l.length)) (br (xh2 l a b==(xpc l a b).length&&(decide (xh1 l a b*16<=140737488355328)&&decide (xh1 l a b<=4611686018427387904))) (br (decide (0+xh1 l a b<=(xpb l a b).length)&&true) (κ (List.take (xh1 l a b) (List.drop 0 (xpb l a b)))) δ) δ) δ) δ) δ
def xqa (l:LA) (a b:Int):=xvk l a b none some
def xlB {T:Type} (l:LA) (n:Int) (a b:LA) (i:Int) (δ:T) (κl:(LA×Int)->T) (κr:(LA)->T):T:=br (decide (i<a.length)) (br (ixI a i) (br (ixT a i 2 [Sh.int .i64,Sh.int .i64] 0) (br ((xqa b (gC a i 0).toInt (gC a i 1).toInt).isSome) (κl ((xqa b (gC a i 0).toInt (gC a i 1).toInt).getD [],i64.wrap (i+1))) δ) δ) δ) (κr (b))
def xcv (l:LA) (n:Int) (b:LA):StT (LA×Int) (LA):=fun (a,i)=>xlB l n b a i none inL inR
def xlA {T:Type} (l a:LA) (n:Int) (δ:T) (κl:(LA×Int)->T) (κr:(Bool×(LA×LA)×(LA))->T):T:=br (decide (n<=1048576)) (br ((xd5 l n).isSome) (br ((↑((xd5 l n).getD []).length:Int)==0) (κr (true,(a,a),[])) (br ((Iter (xcv l n ((xd5 l n).getD [])) (a,0)).isSome) (κl ((Iter (xcv l n ((xd5 l n).getD [])) (a,0)).getD [],i64.wrap (n+1))) δ)) δ) (κr (false,([],[]),(a)))
def xcu (l:LA):StT (LA×Int) (Bool×(LA×LA)×(LA)):=fun (a,n)=>xlA l a n none inL inR
def xnU (l:LA):=(Iter (xcu l) ([],1)).getD (false,([],[]),[])
def xnT (l:LA):=(xnU l).snd
def xup {T:Type} (l:LA) (δ:T) (κ:LA->T):T:=br ((Iter (xcu l) ([],1)).isSome) (br ((xnU l).fst) (κ ((xnT l).fst.fst)) (κ ((xnT l).snd))) δ
def xdS (l:LA):=xup l none some
def xlR {T:Type} (d c:LA) (b:Nat) (i:Int) (a:LA) (δ:T) (κl:(Nat×Int×LA)->T) (κr:(Nat×LA)->T):T:=br (decide (i<c.length)) (br (ixI c i) (br (ixT c i 2 [Sh.int .i64,Sh.int .i64] 0) (br (rmB b a 1 40) (κl (b+1,i64.wrap (i+1),a++[AV.agg [AV.list 3 d,AV.int .i64 (gC c i 0).toInt,AV.int .i64 (gC c i 1).toInt]])) δ) δ) δ) (κr (b,a))
def xcy (c d:LA):StT (Nat×Int×LA) (Nat×LA):=fun (b,i,a)=>xlR c d b i a none inL inR
def xok (a b:LA):=(Iter (xcy a b) (0,0,[])).getD (0,[])
def xoi (a b:LA):=(xok a b).snd
def xoj (a b:LA):=(xok a b).fst
def xut {T:Type} (a b:LA) (δ:T) (κ:LA->T):T:=br ((Iter (xcy a b) (0,0,[])).isSome) (br (decide (0+xoj a b<=(xoi a b).length)&&true) (κ (List.take (xoj a b) (List.drop 0 (xoi a b)))) δ) δ
def xh8 (a b:LA):=xut a b none some
def xj4 (g:LA) (a:Nat) (i:Int):=a+((xh8 (gC g i 0).toList ((xdS (gC g i 1).toList).getD [])).getD []).length
def xpE {T:Type} (g:LA) (a:Nat) (i:Int) (b:LA) (δ:T) (κl:(Nat×Int×LA)->T) (κr:(Nat×LA)->T):T:=br (decide (i<g.length)) (br (ixI g i) (br (ixS g i (Sh.list 3) 0) (br (ixI g i) (br (ixS g i (Sh.list 2) 1) (br ((xdS (gC g i 1).toList).isSome) (br ((xh8 (gC g i 0).toList ((xdS (gC g i 1).toList).getD [])).isSome) (br (a==b.length&&(decide (xj4 g a i*40<=140737488355328)&&decide (xj4 g a i<=4611686018427387904))) (κl (xj4 g a i,i64.wrap (i+1),b++(xh8 (gC g i 0).toList ((xdS (gC g i 1).toList).getD [])).getD [])) δ) δ) δ) δ) δ) δ) δ) (κr (a,b))
def xfh (g:LA):StT (Nat×Int×LA) (Nat×LA):=fun (b,i,a)=>xpE g b i a none inL inR
def xsJ (l:LA):=(Iter (xfh ((xkH l).getD [])) (0,0,[])).getD (0,[])
def xsH (l:LA):=(xsJ l).snd
def xsI (l:LA):=(xsJ l).fst
def xw8 {T:Type} (l:LA) (δ:T) (κ:LA->T):T:=br ((xkH l).isSome) (br ((Iter (xfh ((xkH l).getD [])) (0,0,[])).isSome) (br (decide (0+xsI l<=(xsH l).length)&&true) (κ (List.take (xsI l) (List.drop 0 (xsH l)))) δ) δ) δ
def xwb (l:LA):=xw8 l none some
def xli {T:Type} (l:LA) (i:Int) (δ:T) (κl:(Int)->T) (κr:(Bool×(Bool)×(Unit))->T):T:=br (decide (i<l.length)) (br (ixI l i) (br (ixS l i (Sh.list 3) 0) (br (decide ((↑(gC l i 0).toList.length:Int)>60)) (κr (true,(false),())) (κl (i64.wrap (i+1)))) δ) δ) (κr (false,false,()))
def xcK (l:LA):StT (Int) (Bool×(Bool)×(Unit)):=fun (i)=>xli l i none inL inR
def xth:=xGK.l 23 0 [] [] Tryz.f27 0 lk0 [0,5] [4] [] (q2 (qL 3) qI) xNF (fun (l,i,_) _=>(xcK l,(i),fun p=>(.node p.1 (.leaf .ret [AV.bool p.2.1] []) (.leaf (.exit 0) [.top] [])))) (false,false,()) fun (l,_,_) _ (i)=>(((l,i,()),()),xli l i none)
def xtW {T:Type} (l:LA) (a:Int) (δ:T) (κ:Bool->T):T:=br (decide ((↑l.length:Int)>a)) (κ (false)) (br ((Iter (xcK l) 0).isSome) (br (((Iter (xcK l) 0).getD (false,false,())).fst) (κ (((Iter (xcK l) 0).getD (false,false,())).snd.fst)) (κ (true))) δ)
def xnd (l:LA) (a:Int):=xtW l a none some
def xGL:EO:=xGK.f Tryz.func27 23 0 [] [(4,xth.lp)] (lk1 xth.ok) (u2 (uL 3) uI) (fun (l,a,_) _=>xtW l a) (fun _ p=>AV.bool p) false
def xdy (l:LA) (i:Int):=ixI l i
def xhF {T:Type} (l a:LA) (i:Int) (δ:T) (κl:(LA×Int)->T) (κr:(LA)->T):T:=br (decide (i<l.length)) (br (xdy l i) (br (ixT l i 3 [Sh.int .i64,Sh.int .i64] 1) (br (xdK (gC l i 1).toInt (gC l i 2).toInt) (br (xdy l i) (br (ixS l i (Sh.int .i64) 1) (br ((xaA a (gC l i 1).toInt).isSome) (br (xdy l i) (br (ixS l i (Sh.int .i64) 2) (br (decide ((gC l i 2).toInt<1099511627776)) (br (xdy l i) (br (ixS l i (Sh.int .i64) 2) (br ((xaA ((xaA a (gC l i 1).toInt).getD []) (gC l i 2).toInt).isSome) (κl ((xaA ((xaA a (gC l i 1).toInt).getD []) (gC l i 2).toInt).getD [],i64.wrap (i+1))) δ) δ) δ) (κl ((xaA a (gC l i 1).toInt).getD [],i64.wrap (i+1)))) δ) δ) δ) δ) δ) (κl (a,i64.wrap (i+1)))) δ) δ) (κr (a))
def xcz (l:LA):StT (LA×Int) (LA):=fun (a,i)=>xhF l a i none inL inR
def xqv:=xGL.l 42 0 [] [] Tryz.f46 0 lk0 [0,3,4] [3] [(3,1,1073741824)] (q3 (qL 3) (qL 1) qI) xNF (fun (l,a,i,_) _=>(xcz l,(a,i),fun p=>(.leaf (.exit 0) [AV.list 1 p] []))) [] fun (l,_,_,_) _ (a,i)=>(((l,a,i,()),()),xhF l a i none)
def xpG {T:Type} (l:LA) (δ:T) (κ:LA->T):T:=br ((Iter (xcz l) ([AV.int .i64 0],0)).isSome) (κ ((Iter (xcz l) ([AV.int .i64 0],0)).getD [])) δ
def xor (l:LA):=xpG l none some
def xGM:EO:=xGL.f Tryz.func46 42 0 [] [(3,xqv.lp)] (lk1 xqv.ok) (u1 (uL 3)) (fun (l,_) _=>xpG l) (fun _ p=>AV.list 1 p) []
def xmn {T:Type} (l:LA) (t:Int) (b:Nat) (i:Int) (a:LA) (δ:T) (κl:(Nat×Int×LA)->T) (κr:(Nat×LA)->T):T:=br (decide (i<l.length)) (br (ixI l i) (br (ixT l i 3 [Sh.int .i64,Sh.int .i64] 1) (br (xfQ (gC l i 1).toInt (gC l i 2).toInt t) (br (ixI l i) (br (ixS l i (Sh.list 3) 0) (br (rmB b a 1 24) (κl (b+1,i64.wrap (i+1),a++[AV.list 3 (gC l i 0).toList])) δ) δ) δ) (κl (b,i64.wrap (i+1),a))) δ) δ) (κr (b,a))
def xeu (l:LA) (t:Int):StT (Nat×Int×LA) (Nat×LA):=fun (b,i,a)=>xmn l t b i a none inL inR
def xur:=xGM.l 30 0 [] [] Tryz.f22 0 lk0 [0,1,5,6] [5] [(5,1,42)] (q4 (qL 3) qI (xNP 0 0 0) qI) (q1 (qB 0 1 42 xNH)) (fun (l,t,b,i,_) (a,_)=>(xeu l t,(b,i,a),fun p=>(.leaf (.exit 0) [AV.osl 0 0 0 p.1] [bF 0 1 42 p.2]))) (0,[]) fun (l,t,_,_,_) _ (b,i,a)=>(((l,t,b,i,()),(a,())),xmn l t b i a none)
def xtV (l:LA) (t:Int):=(Iter (xeu l t) (0,0,[])).getD (0,[])
def xtT (l:LA) (t:Int):=(xtV l t).fst
def xtU (l:LA) (t:Int):=(xtV l t).snd
def xtS (l:LA) (t:Int):=xlg (List.take (xtT l t) (List.drop 0 (xtU l t)))
def xuZ {T:Type} (l:LA) (t:Int) (δ:T) (κ:LA->T):T:=br ((Iter (xeu l t) (0,0,[])).isSome) (br (decide (0+xtT l t<=(xtU l t).length)&&true) (br ((xtS l t).isSome) (κ ((xtS l t).getD [])) δ) δ) δ
def xfa (l:LA) (t:Int):=xuZ l t none some
def xGN:EO:=xGM.f Tryz.func22 30 0 [] [(3,xur.lp)] (lk1 xur.ok) (u2 (uL 3) uI) (fun (l,t,_) _=>xuZ l t) (fun _ p=>AV.list 1 p) []
def xgY (a:LA) (i:Int):=decide (i64.wrap (i+1)<(↑a.length:Int))
def xfi {T:Type} (c:LA) (b:Nat) (i:Int) (a:LA) (δ:T) (κl:(Nat×Int×LA)->T) (κr:(Nat×LA)->T):T:=br (decide (i<c.length)) (br (xgY c i) (br (decide (0<=i64.wrap (i+1))&&xgY c i) (br (decide ((i64.wrap (i+1)).toNat<c.length)&&xMT (Sh.int .i64) ((c.getD (i64.wrap (i+1)).toNat .top).cells.getD 0 .top)) (br (ixI c i) (br (ixS c i (Sh.int .i64) 0) (br (rmB b a 1 16) (κl (b+1,i64.wrap (i+1),a++[AV.agg [AV.int .i64 (gC c i 0).toInt,AV.int .i64 ((c.getD (i64.wrap (i+1)).toNat .top).cells.getD 0 .top).toInt]])) δ) δ) δ) δ) δ) (br (ixI c i) (br (ixS c i (Sh.int .i64) 0) (br (rmB b a 1 16) (κl (b+1,i64.wrap (i+1),a++[AV.agg [AV.int .i64 (gC c i 0).toInt,AV.int .i64 1099511627776]])) δ) δ) δ)) (κr (b,a))
def xbJ (c:LA):StT (Nat×Int×LA) (Nat×LA):=fun (b,i,a)=>xfi c b i a none inL inR
def xqu:=xGN.l 44 0 [] [] Tryz.f20 0 lk0 [6,7,8] [7] [(7,2,44)] (q3 (qL 1) (xNP 0 0 0) qI) (q1 (qB 0 2 44 xNH)) (fun (c,b,i,_) (a,_)=>(xbJ c,(b,i,a),fun p=>(.leaf (.exit 0) [AV.osl 0 0 0 p.1] [bF 0 2 44 p.2]))) (0,[]) fun (c,_,_,_) _ (b,i,a)=>(((c,b,i,()),(a,())),xfi c b i a none)
def xoq (a b:LA):=Iter (xbJ ((xor (List.take (a.length+b.length) (List.drop 0 (a++b)))).getD [])) (0,0,[])
def xoo (a b:LA):=(xoq a b).getD (0,[])
def xom (a b:LA):=(xoo a b).fst
def xon (a b:LA):=(xoo a b).snd
def xpF {T:Type} (a b:LA) (δ:T) (κ:LA->T):T:=br (decide (a.length*40<=140737488355328)&&decide (a.length<=4611686018427387904)) (br (a.length==a.length&&(decide ((a.length+b.length)*40<=140737488355328)&&decide (a.length+b.length<=4611686018427387904))) (br (decide (0+(a.length+b.length)<=(a++b).length)&&true) (br ((xor (List.take (a.length+b.length) (List.drop 0 (a++b)))).isSome) (br ((xoq a b).isSome) (br (decide (0+xom a b<=(xon a b).length)&&true) (κ (List.take (xom a b) (List.drop 0 (xon a b)))) δ) δ) δ) δ) δ) δ
def xol (a b:LA):=xpF a b none some
def xKT:EO:=xGN.f Tryz.func20 44 0 [] [(7,xqu.lp)] (lk1 xqu.ok) (u2 (uL 3) (uL 3)) (fun (a,b,_) _=>xpF a b) (fun _ p=>AV.list 2 p) []
def xGu:Int×Int×List UInt8:=((0,0,[]))
def xDH {T:Type} (δ:T) (κ:Int×Int×List UInt8->T):T:=κ (0,0,[])
def xKB:EO:=xB7.fT Tryz.func125 2 0 [] [] lk0 (fun _=>xDH none) xNG (fun _=>xGu) (fun _ p=>(AV.agg [AV.int .i64 p.1,AV.int .i64 p.2.1,AV.str p.2.2]))
def xvd {T:Type} (a:LA) (i:Int) (δ:T) (κ:Int×Int×List UInt8->T):T:=br (decide (i<0)) (κ (0,0,[])) (br (decide (i>=a.length)) (κ (0,0,[])) (br (ixI a i) (br (ixT a i 3 [Sh.int .i64,Sh.int .i64,Sh.str] 0) (κ ((gC a i 0).toInt,(gC a i 1).toInt,(gC a i 2).toStr)) δ) δ))
def xp3 (a:LA) (i:Int):=xvd a i none some
def xGD:EO:=xKB.f Tryz.func94 18 0 [] [] lk0 (u2 (uL 3) uI) (fun (a,i,_) _=>xvd a i) (fun _ p=>AV.agg [AV.int .i64 p.1,AV.int .i64 p.2.1,AV.str p.2.2]) (0,0,[])
def xjc (a b:LA) (c:Int):=(xp3 a (gC b c 0).toInt).getD (0,0,[])
def xjb (a b:LA) (c:Int):=(xjc a b c).snd
def xkb {T:Type} (e c:LA) (f:Int) (d:Nat) (a:Int) (b:LA) (δ:T) (κl:(Nat×Int×LA)->T) (κr:(Nat×LA)->T):T:=br (decide (a<f)) (br (ixI c a) (br (ixS c a (Sh.int .i64) 0) (br ((xp3 e (gC c a 0).toInt).isSome) (br (rmB d b 1 32) (κl (d+1,i64.wrap (a+1),b++[AV.agg [AV.int .i64 (xjc e c a).fst,AV.int .i64 (xjb e c a).fst,AV.str (xjb e c a).snd]])) δ) δ) δ) δ) (κr (d,b))
def xdH (c d:LA) (e:Int):StT (Nat×Int×LA) (Nat×LA):=fun (b,f,a)=>xkb c d e b f a none inL inR
def xs0:=xGD.l 25 0 [] [] Tryz.f59 0 lk0 [0,5,11,12,13] [5] [(5,3,86)] (q5 (qL 3) (xNP 0 0 0) (qL 1) qI qI) (q1 (qB 0 3 86 xNH)) (fun (c,b,d,e,f,_) (a,_)=>(xdH c d e,(b,f,a),fun p=>(.leaf (.exit 0) [AV.osl 0 0 0 p.1] [bF 0 3 86 p.2]))) (0,[]) fun (c,_,d,e,_,_) _ (b,f,a)=>(((c,b,d,e,f,()),(a,())),xkb c d e b f a none)
def xrs (a l:LA):=(Iter (xdH a l (↑l.length:Int)) (0,0,[])).getD (0,[])
def xrq (a l:LA):=(xrs a l).fst
def xrr (a l:LA):=(xrs a l).snd
def xs1 {T:Type} (a l:LA) (δ:T) (κ:LA->T):T:=br (decide (32*(↑l.length:Int)<=281474976710656)&&decide ((↑l.length:Int)<=4611686018427387904)) (br ((Iter (xdH a l (↑l.length:Int)) (0,0,[])).isSome) (br (decide (0+xrq a l<=(xrr a l).length)&&true) (κ (List.take (xrq a l) (List.drop 0 (xrr a l)))) δ) δ) δ
def xlp (a l:LA):=xs1 a l none some
def xKC:EO:=xGD.f Tryz.func59 25 0 [] [(3,xs0.lp)] (lk1 xs0.ok) (u2 (uL 3) (uL 1)) (fun (a,l,_) _=>xs1 a l) (fun _ p=>AV.list 3 p) []
def xuI {T:Type} (i:Int) (a:LA) (δ:T) (κ:Bool->T):T:=br ((xp3 a i).isSome) (κ (((xp3 a i).getD (0,0,[])).fst==0)) δ
def hasNull1 (i:Int) (a:LA):=xuI i a none some
def xGE:EO:=xKC.f Tryz.func96 9 0 [] [] lk0 (u2 uI (sEq (xNW 1 0 0 (q1 (qL 3))))) (fun (i,(a,_),_) _=>xuI i a) (fun _ p=>AV.bool p) false
def xeZ {T:Type} (b f:LA) (c a:Int) (δ:T) (κl:(Int)->T) (κr:(Bool×(Int)×(Unit))->T):T:=br (decide (a<c)) (br (ixI b a) (br (ixS b a (Sh.int .i64) 0) (br ((hasNull1 (gC b a 0).toInt f).isSome) (br ((hasNull1 (gC b a 0).toInt f).getD false) (κr (true,(a),())) (κl (i64.wrap (a+1)))) δ) δ) δ) (κr (false,0,()))
def xaG (a f:LA) (b:Int):StT (Int) (Bool×(Int)×(Unit)):=fun (c)=>xeZ a f b c none inL inR
def xl1:=xGE.l 19 0 [] [] Tryz.f126 0 lk0 [0,1,7,8] [4] [] (q4 (qL 1) (xNh 96 (q1 (xNW 1 0 0 (q1 (qL 3))))) qI qI) xNF (fun (a,((f,_),_),b,c,_) _=>(xaG a f b,(c),fun p=>(.node p.1 (.leaf .ret [AV.int .i64 p.2.1] []) (.leaf (.exit 0) [.top] [])))) (false,0,()) fun (a,((f,_),_),b,_,_) _ (c)=>(((a,((f,()),()),b,c,()),()),xeZ a f b c none)
def xkQ {T:Type} (a b:LA) (δ:T) (κ:Int->T):T:=br ((Iter (xaG a b (↑a.length:Int)) 0).isSome) (br (((Iter (xaG a b (↑a.length:Int)) 0).getD (false,0,())).fst) (κ (((Iter (xaG a b (↑a.length:Int)) 0).getD (false,0,())).snd.fst)) (κ ((-1)))) δ
def xm2 (b a:LA):=xkQ b a none some
def xKD:EO:=xGE.f Tryz.func126 19 0 [] [(2,xl1.lp)] (lk1 xl1.ok) (u2 (uL 1) (sEq (xNh (96:FuncId) (q1 (xNW 1 0 0 (q1 (qL 3))))))) (fun (b,((a,_),_),_) _=>xkQ b a) (fun _ p=>AV.int .i64 p) 0
def xic {T:Type} (b a:LA) (δ:T) (κ:Bool->T):T:=br ((xm2 b a).isSome) (κ (decide ((xm2 b a).getD 0>=0))) δ
def xjV (b a:LA):=xic b a none some
def xKE:EO:=xKD.f Tryz.func95 9 0 [] [] lk0 (u2 (uL 1) (sEq (xNh (96:FuncId) (q1 (xNW 1 0 0 (q1 (qL 3))))))) (fun (b,((a,_),_),_) _=>xic b a) (fun _ p=>AV.bool p) false
def xoT {T:Type} (a l:LA) (δ:T) (κ:Bool->T):T:=br ((xjV l a).isSome) (κ ((xjV l a).getD false)) δ
def xmt (a l:LA):=xoT a l none some
def xGF:EO:=xKE.f Tryz.func60 8 0 [1000042] [] lk0 (u2 (uL 3) (uL 1)) (fun (a,l,_) _=>xoT a l) (fun _ p=>AV.bool p) false
def xsQ {T:Type} (f:List UInt8) (c a d e b:LA) (δ:T) (κ:LA->T):T:=br ((xlp b a).isSome) (κ ((xlp b a).getD [])) δ
def xoE (e:List UInt8) (b a c d f:LA):=xsQ e b a c d f none some
def xDA:LA->Option (Bool×AV):=fnO (u2 (xNU (u5 (sEq pStr) (uL 3) (uL 1) (uL 2) (uL 7))) (uL 3)) (fun ((e,b,a,c,d,_),f,_) _=>xsQ e b a c d f) (fun _ p=>AV.list 3 p) []
theorem xwi:OcOk P0 xNC 32 xDA:=fnC xGF.ok Tryz.func32 9 0 [] [] lk0
def xKF:EO:=xGF.w xwi
def xjJ {T:Type} (a:LA) (c:List UInt8) (b:LA) (δ:T) (κ:LA×Bool->T):T:=br ((xlp b a).isSome) (br ((xmt b a).isSome) (κ ((xlp b a).getD [],!(xmt b a).getD false)) δ) δ
def xdY (a:LA) (b:List UInt8) (c:LA):=xjJ a b c none some
def xvy:LA->Option (Bool×AV):=fnO (u2 (xNU (u2 (uL 1) (sEq pStr))) (uL 3)) (fun ((a,b,_),c,_) _=>xjJ a b c) (fun _ p=>AV.tuple [AV.list 3 p.1,AV.bool p.2]) ([],false)
theorem xvw:OcOk P0 xNC 34 xvy:=fnC xKF.ok Tryz.func34 15 0 [] [] lk0
def xfB {T:Type} (a:List UInt8) (i:Int) (δ:T) (κl:(Int)->T) (κr:(Bool×(Bool)×(Unit))->T):T:=br (decide (i<a.length)) (br (decide (0<=i)&&decide (i<a.length)) (br (decide ((↑(a.getD i.toNat (0:UInt8)).toNat:Int)<32)) (κr (true,(false),())) (br (decide (0<=i)&&decide (i<a.length)) (br (decide ((↑(a.getD i.toNat (0:UInt8)).toNat:Int)>126)) (κr (true,(false),())) (κl (i64.wrap (i+1)))) δ)) δ) (κr (false,false,()))
def xa2 (a:List UInt8):StT (Int) (Bool×(Bool)×(Unit)):=fun (i)=>xfB a i none inL inR
def xnc:=xuc.l 20 0 [] [] Tryz.f147 0 lk0 [0,3] [2] [] (q2 pStr qI) xNF (fun (a,i,_) _=>(xa2 a,(i),fun p=>(.node p.1 (.leaf .ret [AV.bool p.2.1] []) (.leaf (.exit 0) [.top] [])))) (false,false,()) fun (a,_,_) _ (i)=>(((a,i,()),()),xfB a i none)
def xlC {T:Type} (a:List UInt8) (δ:T) (κ:Bool->T):T:=br ((Iter (xa2 a) 0).isSome) (br (((Iter (xa2 a) 0).getD (false,false,())).fst) (κ (((Iter (xa2 a) 0).getD (false,false,())).snd.fst)) (κ (true))) δ
def xjY (a:List UInt8):=xlC a none some
def xGS:EO:=xuc.f Tryz.func147 20 0 [] [(2,xnc.lp)] (lk1 xnc.ok) (u1 (sEq pStr)) (fun (a,_) _=>xlC a) (fun _ p=>AV.bool p) false
def xqR {T:Type} (c a:Int) (b:List UInt8) (δ:T) (κ:Bool->T):T:=br (c==0) (br (a==0) (κ (b==[])) (κ (false))) (br (c==1) (br (b==[]) (br (decide (a>=(-1125899906842624))) (κ (decide (a<=1125899906842624))) (κ (false))) (κ (false))) (br (c==2) (br (a==0) (br (decide ((↑b.length:Int)<=200)) (br ((xjY b).isSome) (κ ((xjY b).getD false)) δ) (κ (false))) (κ (false))) (br (c==3) (br (b==[]) (br (a==0) (κ (true)) (κ (a==1))) (κ (false))) (κ (false)))))
def xl0 (a b:Int) (c:List UInt8):=xqR a b c none some
def xBR:LA->Option (Bool×AV):=fnO (u1 (xNU (u3 uI uI (sEq pStr)))) (fun ((a,b,c,_),_) _=>xqR a b c) (fun _ p=>AV.bool p) false
theorem xvl:OcOk P0 xNC 121 xBR:=fnC xGS.ok Tryz.func121 61 0 [] [] lk0
def xKW:EO:=xGS.w xvl
def xjw (a:Int):Int×Int:=(br (a==1) ((0,0)) (br (a==2) ((0,0)) (br (a==4) ((1,1)) (br (a==18) ((1,1)) (br (a==20) ((1,1)) (br (a==21) ((1,1)) (br (a==5) ((2,1099511627776)) (br (a==6) ((2,1099511627776)) (br (a==7) ((2,2)) (br (a==8) ((2,2)) (br (a==9) ((2,2)) (br (a==10) ((2,2)) (br (a==11) ((2,2)) (br (a==12) ((2,2)) (br (a==13) ((2,2)) (br (a==14) ((2,2)) (br (a==15) ((2,2)) (br (a==16) ((2,2)) (br (a==17) ((2,2)) (br (a==19) ((2,2)) (br (a==22) ((3,3)) (br (a==23) ((1,1099511627776)) (br (a==24) ((4,4)) (((-1),0)))))))))))))))))))))))))
def xBV {T:Type} (a:Int) (δ:T) (κ:Int×Int->T):T:=br (a==1) (κ (0,0)) (br (a==2) (κ (0,0)) (br (a==4) (κ (1,1)) (br (a==18) (κ (1,1)) (br (a==20) (κ (1,1)) (br (a==21) (κ (1,1)) (br (a==5) (κ (2,1099511627776)) (br (a==6) (κ (2,1099511627776)) (br (a==7) (κ (2,2)) (br (a==8) (κ (2,2)) (br (a==9) (κ (2,2)) (br (a==10) (κ (2,2)) (br (a==11) (κ (2,2)) (br (a==12) (κ (2,2)) (br (a==13) (κ (2,2)) (br (a==14) (κ (2,2)) (br (a==15) (κ (2,2)) (br (a==16) (κ (2,2)) (br (a==17) (κ (2,2)) (br (a==19) (κ (2,2)) (br (a==22) (κ (3,3)) (br (a==23) (κ (1,1099511627776)) (br (a==24) (κ (4,4)) (κ ((-1),0))))))))))))))))))))))))
def xKX:EO:=xKW.fT Tryz.func168 35 0 [7000000] [] lk0 (fun (a,_)=>xBV a none) (u1 uI) (fun (a,_)=>xjw a) (fun _ p=>(AV.tuple [AV.int .i64 p.1,AV.int .i64 p.2]))
def xpl {T:Type} (a f b c:Int) (d g:List UInt8) (e:LA) (δ:T) (κ:Bool->T):T:=br (decide ((xjw a).fst<0)) (κ (false)) (br (decide ((↑e.length:Int)<(xjw a).fst)) (κ (false)) (br (decide ((↑e.length:Int)>(xjw a).snd)) (κ (false)) (br (!g==[]) (κ (false)) (br (a==1) (br (f==0) (br ((xl0 b c d).isSome) (κ ((xl0 b c d).getD false)) δ) (κ (false))) (br (a==2) (κ (b==0&&(c==0&&(d==[]&&true)))) (br (a==24) (br (b==0&&(c==0&&(d==[]&&true))) (br (decide (f>=0)) (κ (decide (f<13))) (κ (false))) (κ (false))) (br (f==0) (κ (b==0&&(c==0&&(d==[]&&true)))) (κ (false)))))))))
def xn4 (b g c d:Int) (e f:List UInt8) (a:LA):=xpl b g c d e f a none some
def xGT:EO:=xKX.f Tryz.func169 75 0 [] [] lk0 (u1 (xNU (u7 uI uI uI uI (sEq pStr) (sEq pStr) (uL 7)))) (fun ((b,h,c,d,e,g,a,_),_) _=>xpl b h c d e g a) (fun _ p=>AV.bool p) false
def xlh {T:Type} (l:LA) (a i:Int) (δ:T) (κl:(Int)->T) (κr:(Bool×(Bool)×(Unit))->T):T:=br (decide (i<l.length)) (br (ixI l i) (br (ixS l i (Sh.int .i64) 0) (br ((gC l i 0).toInt != a) (br (ixI l i) (br (ixS l i (Sh.int .i64) 0) (br ((gC l i 0).toInt != 0) (κr (true,(false),())) (κl (i64.wrap (i+1)))) δ) δ) (κl (i64.wrap (i+1)))) δ) δ) (κr (false,false,()))
def xcJ (l:LA) (a:Int):StT (Int) (Bool×(Bool)×(Unit)):=fun (i)=>xlh l a i none inL inR
def xtf:=xGT.l 25 0 [] [] Tryz.f199 0 lk0 [0,1,5] [4] [] (q3 (qL 1) qI qI) xNF (fun (l,a,i,_) _=>(xcJ l a,(i),fun p=>(.node p.1 (.leaf .ret [AV.bool p.2.1] []) (.leaf (.exit 0) [.top] [])))) (false,false,()) fun (l,a,_,_) _ (i)=>(((l,a,i,()),()),xlh l a i none)
def xtN {T:Type} (l:LA) (a:Int) (δ:T) (κ:Bool->T):T:=br ((Iter (xcJ l a) 0).isSome) (br (((Iter (xcJ l a) 0).getD (false,false,())).fst) (κ (((Iter (xcJ l a) 0).getD (false,false,())).snd.fst)) (κ (true))) δ
def xcN (l:LA) (a:Int):=xtN l a none some
def xGU:EO:=xGT.f Tryz.func199 25 0 [] [(2,xtf.lp)] (lk1 xtf.ok) (u2 (uL 1) uI) (fun (l,a,_) _=>xtN l a) (fun _ p=>AV.bool p) false
def xiT (l:LA) (i:Int):=ixI l i
def xiU (l:LA) (i:Int):=decide (i.toNat<l.length)&&xMT (Sh.int .i64) (gC l i 0)
def xhC {T:Type} (l:LA) (i:Int) (δ:T) (κl:(Int×Int)->T):T:=br (xiT l i) (br (xiU l i) (κl ((gC l i 0).toInt,i64.wrap (i+1))) δ) δ
def xj0 {T:Type} (l:LA) (k i:Int) (δ:T) (κl:(Int×Int)->T) (κr:(Bool×(Int×Bool×Int)×(Int))->T):T:=br (decide (i<l.length)) (br (xiT l i) (br (xiU l i) (br ((gC l i 0).toInt==0) (κl (k,i64.wrap (i+1))) (br (k != 0) (br (xiT l i) (br (xiU l i) (br (k != (gC l i 0).toInt) (κr (true,(0,false,k),0)) (xhC l i δ κl)) δ) δ) (xhC l i δ κl))) δ) δ) (κr (false,(0,false,0),(k)))
def xdt (l:LA):StT (Int×Int) (Bool×(Int×Bool×Int)×(Int)):=fun (k,i)=>xj0 l k i none inL inR
def xsu:=xGU.l 32 0 [] [] Tryz.f200 0 lk0 [0,4,5] [2,3,4] [] (q3 (qL 1) qI qI) xNF (fun (l,k,i,_) _=>(xdt l,(k,i),fun p=>(.node p.1 (.leaf .ret [AV.int .i64 p.2.1.1,AV.bool p.2.1.2.1,AV.int .i64 p.2.1.2.2] []) (.leaf (.exit 0) [.top,.top,AV.int .i64 p.2.2] [])))) (false,(0,false,0),0) fun (l,_,_,_) _ (k,i)=>(((l,k,i,()),()),xj0 l k i none)
def xqY (l:LA):=(Iter (xdt l) (0,0)).getD (false,(0,false,0),0)
def xqX (l:LA):=(xqY l).snd
def xqW (l:LA):=(xqX l).fst
def xsv {T:Type} (l:LA) (δ:T) (κ:Int×Bool->T):T:=br ((Iter (xdt l) (0,0)).isSome) (br ((xqY l).fst) (κ ((xqW l).fst,(xqW l).snd.fst)) (κ ((xqX l).snd,true))) δ
def xdT (l:LA):=xsv l none some
def xKY:EO:=xGU.f Tryz.func200 32 0 [] [(3,xsu.lp)] (lk1 xsu.ok) (u1 (uL 1)) (fun (l,_) _=>xsv l) (fun _ p=>AV.tuple [AV.int .i64 p.1,AV.bool p.2]) (0,false)
def xdg {T:Type} (l:LA) (δ:T) (κ:Int×Bool->T):T:=br ((xdT l).isSome) (κ (3,((xdT l).getD (0,false)).snd)) δ
def xdh {T:Type} (l:LA) (δ:T) (κ:Int×Bool->T):T:=br ((xcN l 1).isSome) (κ (1,(xcN l 1).getD false)) δ
def xiV {T:Type} (l:LA) (δ:T) (κ:Int×Bool->T):T:=br ((xcN l 3).isSome) (κ (3,(xcN l 3).getD false)) δ
def xpy {T:Type} (a c d f:Int) (g h:List UInt8) (e l b:LA) (δ:T) (κ:Int×Bool->T):T:=br (a==1) (κ (d,true)) (br (a==2) (br (ixI b c) (br (ixS b c (Sh.int .i64) 0) (κ ((gC b c 0).toInt,true)) δ) δ) (br (a==4) (xiV l δ κ) (br (a==5) (xiV l δ κ) (br (a==6) (xiV l δ κ) (br (a==7) (xdg l δ κ) (br (a==8) (xdg l δ κ) (br (a==9) (xdg l δ κ) (br (a==10) (xdg l δ κ) (br (a==11) (xdg l δ κ) (br (a==12) (xdg l δ κ) (br (a==13) (xdh l δ κ) (br (a==14) (xdh l δ κ) (br (a==15) (xdh l δ κ) (br (a==16) (xdh l δ κ) (br (a==17) (xdh l δ κ) (br (a==18) (xdh l δ κ) (br (a==19) (br ((xcN l 2).isSome) (κ (2,(xcN l 2).getD false)) δ) (br (a==20) (br ((xcN l 2).isSome) (κ (1,(xcN l 2).getD false)) δ) (br (a==21) (κ (3,true)) (br (a==22) (br (decide (1<=(↑l.length:Int))) (br ((xdT (List.take (l.length - 1) (List.drop 1 l))).isSome) (br (((xdT (List.take (l.length - 1) (List.drop 1 l))).getD (0,false)).snd) (br (decide (1<=(↑l.length:Int))&&true) (br ((xcN (List.take 1 (List.drop 0 l)) 3).isSome) (κ (((xdT (List.take (l.length - 1) (List.drop 1 l))).getD (0,false)).fst,(xcN (List.take 1 (List.drop 0 l)) 3).getD false)) δ) δ) (κ (((xdT (List.take (l.length - 1) (List.drop 1 l))).getD (0,false)).fst,false))) δ) δ) (br (a==23) (br ((xdT l).isSome) (κ (((xdT l).getD (0,false)).fst,((xdT l).getD (0,false)).snd)) δ) (br ((xcN l 1).isSome) (κ (3,(xcN l 1).getD false)) δ))))))))))))))))))))))
def xh7 (c h d e:Int) (f g:List UInt8) (a l b:LA):=xpy c h d e f g a l b none some
def xud:EO:=xKY.f Tryz.func170 87 0 [7000000] [] lk0 (u3 (xNU (u7 uI uI uI uI (sEq pStr) (sEq pStr) (uL 7))) (uL 1) (uL 1)) (fun ((c,i,d,e,g,h,a,_),l,b,_) _=>xpy c i d e g h a l b) (fun _ p=>AV.tuple [AV.int .i64 p.1,AV.bool p.2]) (0,false)
def xes (R:Int->Int->Int->Int->List UInt8->List UInt8->LA->Option (Int)):LA->Option (Bool×AV):=ocOf (xNE (xNU (xNE (sEq (pInt .i64)) (xNE (sEq (pInt .i64)) (xNE (sEq (pInt .i64)) (xNE (sEq (pInt .i64)) (xNE (sEq pStr) (xNE (sEq pStr) (xNE (xNT 7 xNH) xNG)))))))) xNG) fun ((b,(i,(c,(d,(e,(f,(a,_))))))),_)=>((R b i c d e f a).isSome,AV.int .i64 ((R b i c d e f a).getD 0))
theorem xvB (k:Go.FuncId) (R:Nat->Int->Int->Int->Int->List UInt8->List UInt8->LA->Option (Int)) (g:∀ n,OcOk P0 xNC k (xes (R n))):OcOk P0 xNC k (xes (fun b i c d e f a=>limN fun n=>R n b i c d e f a)):=xC9 g fun v h=>by
 obtain ⟨⟨b,⟨i,⟨c,⟨d,⟨e,⟨f,⟨a,_⟩⟩⟩⟩⟩⟩⟩,_⟩:=v;obtain ⟨n,j⟩:=xA7 (R:=fun n=>R n b i c d e f a) h
 exact ⟨n,congrArg (fun o=>(Option.isSome o,(AV.int .i64 (Option.getD o 0):AV))) j⟩
def xdx (R:Int->Int->Int->Int->List UInt8->List UInt8->LA->Option (Int)):Prop:=OcOk P0 xNC 145 (xes R)
def xfV (R:Int->Int->Int->Int->List UInt8->List UInt8->LA->Option (Int)):Env:=(xud.E.with 145 (xes R)).fn 22 0 (lsOf []) (xNg [])
abbrev xlM (R:Int->Int->Int->Int->List UInt8->List UInt8->LA->Option (Int)):Prop:=xdx R
theorem xwJ (R:Int->Int->Int->Int->List UInt8->List UInt8->LA->Option (Int)) (a:xlM R):xMV P0 (xNC.at 0) (xfV R):=(xud.ok.with a).fn
theorem xtP (R:Int->Int->Int->Int->List UInt8->List UInt8->LA->Option (Int)) (a:xlM R):LoOk P0 (xNC.at (xfV R).pin) (xfV R) (xMZ Tryz.f145 0):=xmE (by kernel_rfl)
def xlP (R:Int->Int->Int->Int->List UInt8->List UInt8->LA->Option Int) (i:Int) (a:LA):=R (gC a i 0).toInt (gC a i 1).toInt (gC a i 2).toInt (gC a i 3).toInt (gC a i 4).toStr (gC a i 5).toStr (gC a i 6).toList
def xlO (R:Int->Int->Int->Int->List UInt8->List UInt8->LA->Option Int) (i:Int) (a:LA):=(xlP R i a).getD 0
def xgc {T:Type} (R:Int->Int->Int->Int->List UInt8->List UInt8->LA->Option Int) (n i b c d e:Int) (f g:List UInt8) (a:LA) (δ:T) (κl:(Int×Int×Int×Int×Int×Int×List UInt8×List UInt8×LA)->T) (κr:(Int)->T):T:=br (decide (i<a.length)) (br (ixI a i) (br (ixT a i 7 [Sh.int .i64,Sh.int .i64,Sh.int .i64,Sh.int .i64,Sh.str,Sh.str,Sh.list 7] 0) (br ((xlP R i a).isSome) (κl (if xlO R i a>n then xlO R i a else n,i64.wrap (i+1),b,c,d,e,f,g,a)) δ) δ) δ) (κr (n))
def xbk (R:Int->Int->Int->Int->List UInt8->List UInt8->LA->Option Int):StT (Int×Int×Int×Int×Int×Int×List UInt8×List UInt8×LA) (Int):=fun (n,i,a,b,c,d,e,f,g)=>xgc R n i a b c d e f g none inL inR
def xcm (R:Int->Int->Int->Int->List UInt8->List UInt8->LA->Option Int):(Int×Int×Int×Int×Int×Int×List UInt8×List UInt8×LA)->LA×List Box:=fun (n,i,a,b,c,d,e,f,g)=>([AV.own 0 0 0 0,AV.int .i64 n,AV.int .i64 i],[⟨0,7,172,[AV.agg [AV.int .i64 a,AV.int .i64 b,AV.int .i64 c,AV.int .i64 d,AV.str e,AV.str f,AV.list 7 g]],false,true⟩])
def xdv (R:Int->Int->Int->Int->List UInt8->List UInt8->LA->Option Int):(Int)->LR:=fun p=>(.leaf (.exit 0) [AV.int .i64 p] [])
abbrev xsA (R:Int->Int->Int->Int->List UInt8->List UInt8->LA->Option Int) (a:LA) (H:List Box):=XR P0 (xfV R) [1,3,4] [3] [] (xMZ Tryz.f145 0) a H
theorem xyP (R:Int->Int->Int->Int->List UInt8->List UInt8->LA->Option Int) (s:Int×Int×Int×Int×Int×Int×List UInt8×List UInt8×LA):Enc (encR (xcm R) (xdv R)) (xbk R s) (xsA R (xcm R s).1 (xcm R s).2):=by
 obtain ⟨n,i,a,b,c,d,e,f,g⟩:=s;have h:xsA R (xcm R (n,i,a,b,c,d,e,f,g)).1 (xcm R (n,i,a,b,c,d,e,f,g)).2=xgc R n i a b c d e f g none (fun s=>some (encR (xcm R) (xdv R) (.inl s))) (fun p=>some (encR (xcm R) (xdv R) (.inr p))):=by kernel_rfl
 rw [h];unfold xbk xgc;repeat' (first|refine Enc.br ?_ ?_|exact Enc.none|exact Enc.some rfl)
def xlN (R:Int->Int->Int->Int->List UInt8->List UInt8->LA->Option Int):Lp:=lpOf [1,3,4] [3] [] (xND (xNQ 0 0 0 0) (xND (pInt .i64) (xND (pInt .i64) xNF))) (xND (xNS 0 7 172 false true (xND (xNR (xND (pInt .i64) (xND (pInt .i64) (xND (pInt .i64) (xND (pInt .i64) (xND pStr (xND pStr (xND (xNV 7 xNH) xNF)))))))) xNF)) xNF) fun (_,(n,(i,_))) (((a,(b,(c,(d,(e,(f,(g,_))))))),_),_)=>((Iter (xbk R) (n,i,a,b,c,d,e,f,g)).isSome,xdv R ((Iter (xbk R) (n,i,a,b,c,d,e,f,g)).getD 0))
theorem xwa (R:Int->Int->Int->Int->List UInt8->List UInt8->LA->Option Int) (a:xlM R):LoopOk P0 (xNC.at (xfV R).pin) (xfV R).nt (xMZ Tryz.f145 0) (xlN R):=xC1 fun k l o m=>by
 obtain ⟨_,⟨n,⟨i,_⟩⟩⟩:=k;obtain ⟨⟨⟨b,⟨c,⟨d,⟨e,⟨f,⟨g,⟨h,_⟩⟩⟩⟩⟩⟩⟩,_⟩,_⟩:=l;obtain ⟨j,rfl⟩:=Prod.mk.inj m;exact xrO xM3 (xM4 P0 _) rfl (xwJ R a) (xtP R a) (xcm R) (xdv R) (fun p=>by simp only [xdv,LR.eval];first|(simp;done)|(repeat' split<;>simp)) (xyP R) (s:=(n,i,b,c,d,e,f,g,h)) (xbN j)
def xer (R:Int->Int->Int->Int->List UInt8->List UInt8->LA->Option (Int)):Env:=(xud.E.with 145 (xes R)).fn 22 0 (lsOf []) (xNg [(3,xlN R)])
theorem xwK (R:Int->Int->Int->Int->List UInt8->List UInt8->LA->Option (Int)) (a:xdx R):xMV P0 (xNC.at 0) (xer R):=(xud.ok.with a).fn
theorem xuX (R:Int->Int->Int->Int->List UInt8->List UInt8->LA->Option (Int)) (c:xdx R):LoOk P0 (xNC.at (xer R).pin) (xer R) (Tryz.f145.body.getD .skip):=xhj (ls:=[xMZ Tryz.f145 0]) (by kernel_rfl) (fun l b lp a=>by
 simp only [zC,List.not_mem_nil,or_false] at b;rcases b with rfl
 . rw [show (xer R).lp (xM8 (xMZ Tryz.f145 0))=some (xlN R) by kernel_rfl] at a
   simp only [z6] at a;subst a;exact xwa R c)
def xpw (R:Int->Int->Int->Int->List UInt8->List UInt8->LA->Option Int) (b i c d:Int) (e f:List UInt8) (a:LA):=Iter (xbk R) (0,0,b,i,c,d,e,f,a)
def xml {T:Type} (R:Int->Int->Int->Int->List UInt8->List UInt8->LA->Option Int) (b i c d:Int) (e f:List UInt8) (a:LA) (δ:T) (κ:Int->T):T:=br ((xpw R b i c d e f a).isSome) (κ (i64.wrap ((xpw R b i c d e f a).getD 0+1))) δ
def xhl (R:Int->Int->Int->Int->List UInt8->List UInt8->LA->Option Int) (b i c d:Int) (e f:List UInt8) (a:LA):=xml R b i c d e f a none some
theorem xB0 (R:Int->Int->Int->Int->List UInt8->List UInt8->LA->Option Int) (b i c d:Int) (e f:List UInt8) (a:LA):Enc (fun (p:Int)=>((AV.int .i64 p):AV)) (xhl R b i c d e f a) (XF P0 (xer R) Tryz.f145 (Tryz.f145.body.getD .skip) [AV.agg [AV.int .i64 b,AV.int .i64 i,AV.int .i64 c,AV.int .i64 d,AV.str e,AV.str f,AV.list 7 a]]):=by
 have h:XF P0 (xer R) Tryz.f145 (Tryz.f145.body.getD .skip) [AV.agg [AV.int .i64 b,AV.int .i64 i,AV.int .i64 c,AV.int .i64 d,AV.str e,AV.str f,AV.list 7 a]]=xml R b i c d e f a none (fun (p:Int)=>some ((AV.int .i64 p):AV)):=by kernel_rfl
 rw [h];unfold xhl xml;repeat' (first|refine Enc.br ?_ ?_|exact Enc.none|exact Enc.some rfl)
def xBx (R:Int->Int->Int->Int->List UInt8->List UInt8->LA->Option Int):LA->Option (Bool×AV):=ocOf (xNE (xNU (xNE (sEq (pInt .i64)) (xNE (sEq (pInt .i64)) (xNE (sEq (pInt .i64)) (xNE (sEq (pInt .i64)) (xNE (sEq pStr) (xNE (sEq pStr) (xNE (xNT 7 xNH) xNG)))))))) xNG) fun ((b,(i,(c,(d,(e,(f,(a,_))))))),_)=>((xhl R b i c d e f a).isSome,(AV.int .i64 ((xhl R b i c d e f a).getD 0)))
theorem xBZ (R:Int->Int->Int->Int->List UInt8->List UInt8->LA->Option Int) (a:xdx R):OcOk P0 xNC 145 (xBx R):=xjv fun e h f=>by
 obtain ⟨⟨j,⟨i,⟨k,⟨l,⟨m,⟨n,⟨g,_⟩⟩⟩⟩⟩⟩⟩,_⟩:=e;obtain ⟨b,c⟩:=Prod.mk.inj f;refine xfx (p:=(xer R).pin) (xjs xM3 (xM4 P0 _) rfl (xwK R a) Tryz.func145 rfl (by kernel_rfl) (xuX R a) ((xB0 R _ _ _ _ _ _ _ _ (xbN (d:=0) b)).trans ?_))
 exact congrArg some c
def xdd:Nat->Int->Int->Int->Int->List UInt8->List UInt8->LA->Option (Int)
 | 0=>fun _ _ _ _ _ _ _=>none
 | fu_+1=>fun b i c d e f a=>xhl (xdd fu_) b i c d e f a
theorem xsz:∀ n,xdx (xdd n)
 | 0=>xjv fun _ _ h=>absurd (Prod.mk.inj h).1 Bool.false_ne_true
 | fu_+1=>fun a r h=>xBZ (xdd fu_) (xsz fu_) a r h
def xjk:Int->Int->Int->Int->List UInt8->List UInt8->LA->Option (Int):=fun b i c d e f a=>limN fun n=>xdd n b i c d e f a
theorem xyO:xdx xjk:=xvB 145 xdd xsz
def xy1:Env:=xud.E.with 145 (xes xjk)
theorem xvF:xMV P0 xNC xy1:=xud.ok.with xyO
def xeq (R:Int->Int->Int->Int->List UInt8->List UInt8->LA->LA->Option (Int×Int)):LA->Option (Bool×AV):=ocOf (xNE (xNU (xNE (sEq (pInt .i64)) (xNE (sEq (pInt .i64)) (xNE (sEq (pInt .i64)) (xNE (sEq (pInt .i64)) (xNE (sEq pStr) (xNE (sEq pStr) (xNE (xNT 7 xNH) xNG)))))))) (xNE (xNT 1 xNH) xNG)) fun ((b,(i,(c,(d,(e,(f,(a,_))))))),(g,_))=>((R b i c d e f a g).isSome,AV.tuple [AV.int .i64 (((R b i c d e f a g).getD (0,0))).1,AV.int .i64 (((R b i c d e f a g).getD (0,0))).2])
theorem xvA (k:Go.FuncId) (R:Nat->Int->Int->Int->Int->List UInt8->List UInt8->LA->LA->Option (Int×Int)) (j:∀ n,OcOk P0 xNC k (xeq (R n))):OcOk P0 xNC k (xeq (fun b i c d e f a g=>limN fun n=>R n b i c d e f a g)):=xC9 j fun v h=>by
 obtain ⟨⟨b,⟨i,⟨c,⟨d,⟨e,⟨f,⟨a,_⟩⟩⟩⟩⟩⟩⟩,⟨g,_⟩⟩:=v;obtain ⟨n,l⟩:=xA7 (R:=fun n=>R n b i c d e f a g) h
 exact ⟨n,congrArg (fun o=>(Option.isSome o,(AV.tuple [AV.int .i64 ((Option.getD o (0,0))).1,AV.int .i64 ((Option.getD o (0,0))).2]:AV))) l⟩
def xdZ (R:Int->Int->Int->Int->List UInt8->List UInt8->LA->LA->Option (Int×Int)):Prop:=OcOk P0 xNC 146 (xeq R)
def xfU (R:Int->Int->Int->Int->List UInt8->List UInt8->LA->LA->Option (Int×Int)):Env:=(xy1.with 146 (xeq R)).fn 75 0 (lsOf []) (xNg [])
abbrev xlH (R:Int->Int->Int->Int->List UInt8->List UInt8->LA->LA->Option (Int×Int)):Prop:=xdZ R
theorem xwH (R:Int->Int->Int->Int->List UInt8->List UInt8->LA->LA->Option (Int×Int)) (a:xlH R):xMV P0 (xNC.at 0) (xfU R):=(xvF.with a).fn
theorem xtO (R:Int->Int->Int->Int->List UInt8->List UInt8->LA->LA->Option (Int×Int)) (a:xlH R):LoOk P0 (xNC.at (xfU R).pin) (xfU R) (xMZ Tryz.f146 0):=xmE (by kernel_rfl)
def xlL (R:Int->Int->Int->Int->List UInt8->List UInt8->LA->LA->Option (Int×Int)) (b:LA) (i:Int) (a:LA):Option (Int×Int):=R (gC a i 0).toInt (gC a i 1).toInt (gC a i 2).toInt (gC a i 3).toInt (gC a i 4).toStr (gC a i 5).toStr (gC a i 6).toList b
def xlK (R:Int->Int->Int->Int->List UInt8->List UInt8->LA->LA->Option (Int×Int)) (a:LA) (i:Int) (b:LA):Int×Int:=(xlL R a i b).getD (0,0)
def xlJ (R:Int->Int->Int->Int->List UInt8->List UInt8->LA->LA->Option (Int×Int)) (a:LA) (i:Int) (b:LA):Int:=(xlK R a i b).snd
def xgb {T:Type} (R:Int->Int->Int->Int->List UInt8->List UInt8->LA->LA->Option (Int×Int)) (b:LA) (d:Nat) (i e f g h:Int) (j k:List UInt8) (a c:LA) (δ:T) (κl:(Nat×Int×Int×Int×Int×Int×List UInt8×List UInt8×LA×LA)->T) (κr:(Bool×(Int×Int×Nat×Int×Int×Int×Int×List UInt8×List UInt8×LA×LA)×(Nat×Int×Int×Int×Int×List UInt8×List UInt8×LA×LA))->T):T:=br (decide (i<a.length)) (br (ixI a i) (br (ixT a i 7 [Sh.int .i64,Sh.int .i64,Sh.int .i64,Sh.int .i64,Sh.str,Sh.str,Sh.list 7] 0) (br ((xlL R b i a).isSome) (br (xlJ R b i a != 0) (κr (true,(0,xlJ R b i a,d,e,f,g,h,j,k,a,c),(0,0,0,0,0,[],[],[],[]))) (br (rmB d c 1 8) (κl (d+1,i64.wrap (i+1),e,f,g,h,j,k,a,c++[AV.int .i64 (xlK R b i a).fst])) δ)) δ) δ) δ) (κr (false,(0,0,0,0,0,0,0,[],[],[],[]),(d,e,f,g,h,j,k,a,c)))
def xbj (R:Int->Int->Int->Int->List UInt8->List UInt8->LA->LA->Option (Int×Int)) (a:LA):StT (Nat×Int×Int×Int×Int×Int×List UInt8×List UInt8×LA×LA) (Bool×(Int×Int×Nat×Int×Int×Int×Int×List UInt8×List UInt8×LA×LA)×(Nat×Int×Int×Int×Int×List UInt8×List UInt8×LA×LA)):=fun (c,i,d,e,f,g,h,j,k,b)=>xgb R a c i d e f g h j k b none inL inR
def xcl (R:Int->Int->Int->Int->List UInt8->List UInt8->LA->LA->Option (Int×Int)) (a:LA):(Nat×Int×Int×Int×Int×Int×List UInt8×List UInt8×LA×LA)->LA×List Box:=fun (c,i,d,e,f,g,h,j,k,b)=>([AV.list 1 a,AV.own 0 0 0 0,AV.osl 1 0 0 c,AV.int .i64 i],[⟨0,7,172,[AV.agg [AV.int .i64 d,AV.int .i64 e,AV.int .i64 f,AV.int .i64 g,AV.str h,AV.str j,AV.list 7 k]],false,true⟩,⟨0,1,3,b,false,true⟩])
def xdu (R:Int->Int->Int->Int->List UInt8->List UInt8->LA->LA->Option (Int×Int)) (a:LA):(Bool×(Int×Int×Nat×Int×Int×Int×Int×List UInt8×List UInt8×LA×LA)×(Nat×Int×Int×Int×Int×List UInt8×List UInt8×LA×LA))->LR:=fun p=>(.node p.1 (.leaf .ret [AV.list 1 a,AV.own 0 0 0 0,AV.int .i64 p.2.1.1,AV.int .i64 p.2.1.2.1,AV.osl 1 0 0 p.2.1.2.2.1] [⟨0,7,172,[AV.agg [AV.int .i64 p.2.1.2.2.2.1,AV.int .i64 p.2.1.2.2.2.2.1,AV.int .i64 p.2.1.2.2.2.2.2.1,AV.int .i64 p.2.1.2.2.2.2.2.2.1,AV.str p.2.1.2.2.2.2.2.2.2.1,AV.str p.2.1.2.2.2.2.2.2.2.2.1,AV.list 7 p.2.1.2.2.2.2.2.2.2.2.2.1]],false,true⟩,⟨0,1,3,p.2.1.2.2.2.2.2.2.2.2.2.2,false,true⟩]) (.leaf (.exit 0) [AV.list 1 a,AV.own 0 0 0 0,.top,.top,AV.osl 1 0 0 p.2.2.1] [⟨0,7,172,[AV.agg [AV.int .i64 p.2.2.2.1,AV.int .i64 p.2.2.2.2.1,AV.int .i64 p.2.2.2.2.2.1,AV.int .i64 p.2.2.2.2.2.2.1,AV.str p.2.2.2.2.2.2.2.1,AV.str p.2.2.2.2.2.2.2.2.1,AV.list 7 p.2.2.2.2.2.2.2.2.2.1]],false,true⟩,⟨0,1,3,p.2.2.2.2.2.2.2.2.2.2,false,true⟩]))
abbrev xsy (R:Int->Int->Int->Int->List UInt8->List UInt8->LA->LA->Option (Int×Int)) (a:LA) (H:List Box):=XR P0 (xfU R) [1,2,8,9] [1,2,4,5,8] [(8,1,3)] (xMZ Tryz.f146 0) a H
theorem xyN (R:Int->Int->Int->Int->List UInt8->List UInt8->LA->LA->Option (Int×Int)) (a:LA) (s:Nat×Int×Int×Int×Int×Int×List UInt8×List UInt8×LA×LA):Enc (encR (xcl R a) (xdu R a)) (xbj R a s) (xsy R (xcl R a s).1 (xcl R a s).2):=by
 obtain ⟨c,i,d,e,f,g,j,k,l,b⟩:=s;have h:xsy R (xcl R a (c,i,d,e,f,g,j,k,l,b)).1 (xcl R a (c,i,d,e,f,g,j,k,l,b)).2=xgb R a c i d e f g j k l b none (fun s=>some (encR (xcl R a) (xdu R a) (.inl s))) (fun p=>some (encR (xcl R a) (xdu R a) (.inr p))):=by kernel_rfl
 rw [h];unfold xbj xgb;repeat' (first|refine Enc.br ?_ ?_|exact Enc.none|exact Enc.some rfl)
def xlI (R:Int->Int->Int->Int->List UInt8->List UInt8->LA->LA->Option (Int×Int)):Lp:=lpOf [1,2,8,9] [1,2,4,5,8] [(8,1,3)] (xND (xNV 1 xNH) (xND (xNQ 0 0 0 0) (xND (xNP 1 0 0) (xND (pInt .i64) xNF)))) (xND (xNS 0 7 172 false true (xND (xNR (xND (pInt .i64) (xND (pInt .i64) (xND (pInt .i64) (xND (pInt .i64) (xND pStr (xND pStr (xND (xNV 7 xNH) xNF)))))))) xNF)) (xND (xNS 0 1 3 false true xNH) xNF)) fun (a,(_,(c,(i,_)))) (((d,(e,(f,(g,(h,(j,(k,_))))))),_),(b,_))=>((Iter (xbj R a) (c,i,d,e,f,g,h,j,k,b)).isSome,xdu R a ((Iter (xbj R a) (c,i,d,e,f,g,h,j,k,b)).getD (false,(0,0,0,0,0,0,0,[],[],[],[]),(0,0,0,0,0,[],[],[],[]))))
theorem xv9 (R:Int->Int->Int->Int->List UInt8->List UInt8->LA->LA->Option (Int×Int)) (c:xlH R):LoopOk P0 (xNC.at (xfU R).pin) (xfU R).nt (xMZ Tryz.f146 0) (xlI R):=xC1 fun n o r q=>by
 obtain ⟨a,⟨_,⟨d,⟨i,_⟩⟩⟩⟩:=n;obtain ⟨⟨⟨e,⟨f,⟨g,⟨h,⟨j,⟨k,⟨l,_⟩⟩⟩⟩⟩⟩⟩,_⟩,⟨b,_⟩⟩:=o;obtain ⟨m,rfl⟩:=Prod.mk.inj q;exact xrO xM3 (xM4 P0 _) rfl (xwH R c) (xtO R c) (xcl R a) (xdu R a) (fun p=>by simp only [xdu,LR.eval];first|(simp;done)|(repeat' split<;>simp)) (xyN R a) (s:=(d,i,e,f,g,h,j,k,l,b)) (xbN m)
def xep (R:Int->Int->Int->Int->List UInt8->List UInt8->LA->LA->Option (Int×Int)):Env:=(xy1.with 146 (xeq R)).fn 75 0 (lsOf []) (xNg [(10,xlI R)])
theorem xwI (R:Int->Int->Int->Int->List UInt8->List UInt8->LA->LA->Option (Int×Int)) (a:xdZ R):xMV P0 (xNC.at 0) (xep R):=(xvF.with a).fn
theorem xuW (R:Int->Int->Int->Int->List UInt8->List UInt8->LA->LA->Option (Int×Int)) (c:xdZ R):LoOk P0 (xNC.at (xep R).pin) (xep R) (Tryz.f146.body.getD .skip):=xhj (ls:=[xMZ Tryz.f146 0]) (by kernel_rfl) (fun l b lp a=>by
 simp only [zC,List.not_mem_nil,or_false] at b;rcases b with rfl
 . rw [show (xep R).lp (xM8 (xMZ Tryz.f146 0))=some (xlI R) by kernel_rfl] at a
   simp only [z6] at a;subst a;exact xv9 R c)
def xoa (R:Int->Int->Int->Int->List UInt8->List UInt8->LA->LA->Option (Int×Int)) (b i c d:Int) (e f:List UInt8) (a g:LA):Option
 (Bool ×
  (Int×Int×Nat×Int×Int×Int×Int×List UInt8×List UInt8×LA×LA) ×
   Nat×Int×Int×Int×Int×List UInt8×List UInt8×LA×LA):=Iter (xbj R g) (0,0,b,i,c,d,e,f,a,[])
def xn9 (R:Int->Int->Int->Int->List UInt8->List UInt8->LA->LA->Option (Int×Int)) (b i c d:Int) (e f:List UInt8) (a g:LA):Bool ×
 (Int×Int×Nat×Int×Int×Int×Int×List UInt8×List UInt8×LA×LA) ×
  Nat×Int×Int×Int×Int×List UInt8×List UInt8×LA×LA:=(xoa R b i c d e f a g).getD (false,(0,0,0,0,0,0,0,[],[],[],[]),0,0,0,0,0,[],[],[],[])
def xn8 (R:Int->Int->Int->Int->List UInt8->List UInt8->LA->LA->Option (Int×Int)) (b i c d:Int) (e f:List UInt8) (a g:LA):(Int×Int×Nat×Int×Int×Int×Int×List UInt8×List UInt8×LA×LA) ×
 Nat×Int×Int×Int×Int×List UInt8×List UInt8×LA×LA:=(xn9 R b i c d e f a g).snd
def xn6 (R:Int->Int->Int->Int->List UInt8->List UInt8->LA->LA->Option (Int×Int)) (b i c d:Int) (e f:List UInt8) (a g:LA):Nat×Int×Int×Int×Int×List UInt8×List UInt8×LA×LA:=(xn8 R b i c d e f a g).snd
def xn7 (R:Int->Int->Int->Int->List UInt8->List UInt8->LA->LA->Option (Int×Int)) (b i c d:Int) (e f:List UInt8) (a g:LA):Int×Int×Nat×Int×Int×Int×Int×List UInt8×List UInt8×LA×LA:=(xn8 R b i c d e f a g).fst
def xpv (R:Int->Int->Int->Int->List UInt8->List UInt8->LA->LA->Option (Int×Int)) (b i c d:Int) (e f:List UInt8) (a g:LA):Int×Int×Int×Int×List UInt8×List UInt8×LA×LA:=(xn6 R b i c d e f a g).snd
def xn5 (R:Int->Int->Int->Int->List UInt8->List UInt8->LA->LA->Option (Int×Int)) (b i c d:Int) (e f:List UInt8) (a g:LA):Nat:=(xn6 R b i c d e f a g).fst
def xpu (R:Int->Int->Int->Int->List UInt8->List UInt8->LA->LA->Option (Int×Int)) (b i c d:Int) (e f:List UInt8) (a g:LA):Int×Int×Int×List UInt8×List UInt8×LA×LA:=(xpv R b i c d e f a g).snd
def xpt (R:Int->Int->Int->Int->List UInt8->List UInt8->LA->LA->Option (Int×Int)) (b i c d:Int) (e f:List UInt8) (a g:LA):Int×Int×List UInt8×List UInt8×LA×LA:=(xpu R b i c d e f a g).snd
def xps (R:Int->Int->Int->Int->List UInt8->List UInt8->LA->LA->Option (Int×Int)) (b i c d:Int) (e f:List UInt8) (a g:LA):Int×List UInt8×List UInt8×LA×LA:=(xpt R b i c d e f a g).snd
def xpr (R:Int->Int->Int->Int->List UInt8->List UInt8->LA->LA->Option (Int×Int)) (b i c d:Int) (e f:List UInt8) (a g:LA):List UInt8×List UInt8×LA×LA:=(xps R b i c d e f a g).snd
def xpq (R:Int->Int->Int->Int->List UInt8->List UInt8->LA->LA->Option (Int×Int)) (b i c d:Int) (e f:List UInt8) (a g:LA):List UInt8×LA×LA:=(xpr R b i c d e f a g).snd
def xpp (R:Int->Int->Int->Int->List UInt8->List UInt8->LA->LA->Option (Int×Int)) (b i c d:Int) (e f:List UInt8) (a g:LA):LA×LA:=(xpq R b i c d e f a g).snd
def xpo (R:Int->Int->Int->Int->List UInt8->List UInt8->LA->LA->Option (Int×Int)) (b i c d:Int) (e f:List UInt8) (a g:LA):LA:=(xpp R b i c d e f a g).snd
def xpn (R:Int->Int->Int->Int->List UInt8->List UInt8->LA->LA->Option (Int×Int)) (c i d e:Int) (f g:List UInt8) (a b:LA):Option (Int×Bool):=xh7 (xpv R c i d e f g a b).fst (xpu R c i d e f g a b).fst (xpt R c i d e f g a b).fst (xps R c i d e f g a b).fst (xpr R c i d e f g a b).fst (xpq R c i d e f g a b).fst (xpp R c i d e f g a b).fst (List.take (xn5 R c i d e f g a b) (List.drop 0 (xpo R c i d e f g a b))) b
def xpm (R:Int->Int->Int->Int->List UInt8->List UInt8->LA->LA->Option (Int×Int)) (b i c d:Int) (e f:List UInt8) (a g:LA):Int×Bool:=(xpn R b i c d e f a g).getD (0,false)
def xj1 {T:Type} (R:Int->Int->Int->Int->List UInt8->List UInt8->LA->LA->Option (Int×Int)) (b i c d:Int) (e f:List UInt8) (a g:LA) (δ:T) (κ:Int×Int->T):T:=br ((xoa R b i c d e f a g).isSome) (br ((xn9 R b i c d e f a g).fst) (κ ((xn7 R b i c d e f a g).fst,(xn7 R b i c d e f a g).snd.fst)) (br (decide (0+xn5 R b i c d e f a g<=(xpo R b i c d e f a g).length)&&true) (br ((xpn R b i c d e f a g).isSome) (br (!(xpm R b i c d e f a g).snd) (κ (0,7)) (κ ((xpm R b i c d e f a g).fst,0))) δ) δ)) δ
def xmk {T:Type} (R:Int->Int->Int->Int->List UInt8->List UInt8->LA->LA->Option (Int×Int)) (b i c d:Int) (e f:List UInt8) (a g:LA) (δ:T) (κ:Int×Int->T):T:=br (decide ((xjw b).fst<0)) (κ (0,7)) (br ((xn4 b i c d e f a).isSome) (br (!(xn4 b i c d e f a).getD false) (κ (0,8)) (br (b==2) (br (decide (i<0)) (κ (0,13)) (br (decide (i>=g.length)) (κ (0,13)) (xj1 R b i c d e f a g δ κ))) (xj1 R b i c d e f a g δ κ))) δ)
def xfK (R:Int->Int->Int->Int->List UInt8->List UInt8->LA->LA->Option (Int×Int)) (b i c d:Int) (e f:List UInt8) (a g:LA):=xmk R b i c d e f a g none some
theorem xBY (R:Int->Int->Int->Int->List UInt8->List UInt8->LA->LA->Option (Int×Int)) (b i c d:Int) (e f:List UInt8) (a g:LA):Enc (fun (p:Int×Int)=>((AV.tuple [AV.int .i64 p.1,AV.int .i64 p.2]):AV)) (xfK R b i c d e f a g) (XF P0 (xep R) Tryz.f146 (Tryz.f146.body.getD .skip) [AV.agg [AV.int .i64 b,AV.int .i64 i,AV.int .i64 c,AV.int .i64 d,AV.str e,AV.str f,AV.list 7 a],AV.list 1 g]):=by
 have h:XF P0 (xep R) Tryz.f146 (Tryz.f146.body.getD .skip) [AV.agg [AV.int .i64 b,AV.int .i64 i,AV.int .i64 c,AV.int .i64 d,AV.str e,AV.str f,AV.list 7 a],AV.list 1 g]=xmk R b i c d e f a g none (fun (p:Int×Int)=>some ((AV.tuple [AV.int .i64 p.1,AV.int .i64 p.2]):AV)):=by kernel_rfl
 rw [h];unfold xfK xmk xj1;repeat' (first|refine Enc.br ?_ ?_|exact Enc.none|exact Enc.some rfl)
def xBX (R:Int->Int->Int->Int->List UInt8->List UInt8->LA->LA->Option (Int×Int)):LA->Option (Bool×AV):=ocOf (xNE (xNU (xNE (sEq (pInt .i64)) (xNE (sEq (pInt .i64)) (xNE (sEq (pInt .i64)) (xNE (sEq (pInt .i64)) (xNE (sEq pStr) (xNE (sEq pStr) (xNE (xNT 7 xNH) xNG)))))))) (xNE (xNT 1 xNH) xNG)) fun ((b,(i,(c,(d,(e,(f,(a,_))))))),(g,_))=>((xfK R b i c d e f a g).isSome,(AV.tuple [AV.int .i64 ((xfK R b i c d e f a g).getD (0,0)).1,AV.int .i64 ((xfK R b i c d e f a g).getD (0,0)).2]))
theorem xBW (R:Int->Int->Int->Int->List UInt8->List UInt8->LA->LA->Option (Int×Int)) (a:xdZ R):OcOk P0 xNC 146 (xBX R):=xjv fun e h f=>by
 obtain ⟨⟨j,⟨i,⟨k,⟨l,⟨m,⟨n,⟨g,_⟩⟩⟩⟩⟩⟩⟩,⟨o,_⟩⟩:=e;obtain ⟨b,c⟩:=Prod.mk.inj f;refine xfx (p:=(xep R).pin) (xjs xM3 (xM4 P0 _) rfl (xwI R a) Tryz.func146 rfl (by kernel_rfl) (xuW R a) ((xBY R _ _ _ _ _ _ _ _ _ (xbN (d:=(0,0)) b)).trans ?_))
 exact congrArg some c
def xdc:Nat->Int->Int->Int->Int->List UInt8->List UInt8->LA->LA->Option (Int×Int)
 | 0=>fun _ _ _ _ _ _ _ _=>none
 | fu_+1=>fun b i c d e f a g=>xfK (xdc fu_) b i c d e f a g
theorem xsw:∀ n,xdZ (xdc n)
 | 0=>xjv fun _ _ h=>absurd (Prod.mk.inj h).1 Bool.false_ne_true
 | fu_+1=>fun a r h=>xBW (xdc fu_) (xsw fu_) a r h
def xgB:Int->Int->Int->Int->List UInt8->List UInt8->LA->LA->Option (Int×Int):=fun b i c d e f a g=>limN fun n=>xdc n b i c d e f a g
theorem xyM:xdZ xgB:=xvA 146 xdc xsw
def xGV:Env:=xy1.with 146 (xeq xgB)
theorem xGX:xMV P0 xNC xGV:=xvF.with xyM
def xGW:EO:=EO.mk xGV xGX
def xqV {T:Type} (b h c d:Int) (e f:List UInt8) (a g:LA) (δ:T) (κ:Int×Int->T):T:=br ((xjk b h c d e f a).isSome) (br (decide ((xjk b h c d e f a).getD 0>24)) (κ (0,26)) (br ((xgB b h c d e f a g).isSome) (κ (((xgB b h c d e f a g).getD (0,0)).fst,((xgB b h c d e f a g).getD (0,0)).snd)) δ)) δ
def xtM (c h d e:Int) (f g:List UInt8) (a b:LA):=xqV c h d e f g a b none some
def xJA:EO:=xGW.f Tryz.func120 14 0 [] [] lk0 (u2 (xNU (u7 uI uI uI uI (sEq pStr) (sEq pStr) (uL 7))) (uL 1)) (fun ((c,i,d,e,g,h,a,_),b,_) _=>xqV c i d e g h a b) (fun _ p=>AV.tuple [AV.int .i64 p.1,AV.int .i64 p.2]) (0,0)
def xEe:LA:=(([AV.str [(97:UInt8),(100:UInt8),(100:UInt8)],AV.str [(97:UInt8),(102:UInt8),(116:UInt8),(101:UInt8),(114:UInt8)],AV.str [(97:UInt8),(108:UInt8),(108:UInt8)],AV.str [(97:UInt8),(108:UInt8),(116:UInt8),(101:UInt8),(114:UInt8)],AV.str [(97:UInt8),(110:UInt8),(100:UInt8)],AV.str [(97:UInt8),(115:UInt8)],AV.str [(98:UInt8),(101:UInt8),(102:UInt8),(111:UInt8),(114:UInt8),(101:UInt8)],AV.str [(98:UInt8),(101:UInt8),(103:UInt8),(105:UInt8),(110:UInt8)],AV.str [(98:UInt8),(101:UInt8),(116:UInt8),(119:UInt8),(101:UInt8),(101:UInt8),(110:UInt8)],AV.str [(98:UInt8),(111:UInt8),(111:UInt8),(108:UInt8)],AV.str [(98:UInt8),(121:UInt8)],AV.str [(99:UInt8),(104:UInt8),(101:UInt8),(99:UInt8),(107:UInt8)],AV.str [(99:UInt8),(111:UInt8),(97:UInt8),(108:UInt8),(101:UInt8),(115:UInt8),(99:UInt8),(101:UInt8)],AV.str [(99:UInt8),(111:UInt8),(109:UInt8),(109:UInt8),(105:UInt8),(116:UInt8)],AV.str [(99:UInt8),(111:UInt8),(110:UInt8),(116:UInt8),(97:UInt8),(105:UInt8),(110:UInt8),(115:UInt8)],AV.str [(99:UInt8),(111:UInt8),(117:UInt8),(110:UInt8),(116:UInt8)],AV.str [(99:UInt8),(114:UInt8),(101:UInt8),(97:UInt8),(116:UInt8),(101:UInt8)],AV.str [(100:UInt8),(101:UInt8),(102:UInt8),(97:UInt8),(117:UInt8),(108:UInt8),(116:UInt8)],AV.str [(100:UInt8),(101:UInt8),(108:UInt8),(101:UInt8),(116:UInt8),(101:UInt8)],AV.str [(100:UInt8),(101:UInt8),(115:UInt8),(99:UInt8)],AV.str [(100:UInt8),(105:UInt8),(115:UInt8),(116:UInt8),(105:UInt8),(110:UInt8),(99:UInt8),(116:UInt8)],AV.str [(100:UInt8),(114:UInt8),(111:UInt8),(112:UInt8)],AV.str [(100:UInt8),(117:UInt8),(114:UInt8),(105:UInt8),(110:UInt8),(103:UInt8)],AV.str [(101:UInt8),(113:UInt8),(117:UInt8),(97:UInt8),(108:UInt8),(115:UInt8)],AV.str [(101:UInt8),(120:UInt8),(99:UInt8),(101:UInt8),(112:UInt8),(116:UInt8)],AV.str [(102:UInt8),(97:UInt8),(108:UInt8),(115:UInt8),(101:UInt8)],AV.str [(102:UInt8),(105:UInt8),(110:UInt8),(105:UInt8),(115:UInt8),(104:UInt8),(101:UInt8),(100:UInt8),(98:UInt8),(121:UInt8)],AV.str [(102:UInt8),(105:UInt8),(110:UInt8),(105:UInt8),(115:UInt8),(104:UInt8),(101:UInt8),(115:UInt8)],AV.str [(102:UInt8),(111:UInt8),(114:UInt8),(101:UInt8),(105:UInt8),(103:UInt8),(110:UInt8)],AV.str [(102:UInt8),(111:UInt8),(114:UInt8),(101:UInt8),(118:UInt8),(101:UInt8),(114:UInt8)],AV.str [(102:UInt8),(114:UInt8),(111:UInt8),(109:UInt8)],AV.str [(103:UInt8),(114:UInt8),(111:UInt8),(117:UInt8),(112:UInt8)],AV.str [(104:UInt8),(111:UInt8),(108:UInt8),(100:UInt8)],AV.str [(105:UInt8),(102:UInt8)],AV.str [(105:UInt8),(110:UInt8),(115:UInt8),(101:UInt8),(114:UInt8),(116:UInt8)],AV.str [(105:UInt8),(110:UInt8),(116:UInt8)],AV.str [(105:UInt8),(110:UInt8),(116:UInt8),(101:UInt8),(114:UInt8),(115:UInt8),(101:UInt8),(99:UInt8),(116:UInt8)],AV.str [(105:UInt8),(110:UInt8),(116:UInt8),(111:UInt8)],AV.str [(105:UInt8),(115:UInt8)],AV.str [(106:UInt8),(111:UInt8),(105:UInt8),(110:UInt8)],AV.str [(107:UInt8),(101:UInt8),(121:UInt8)],AV.str [(108:UInt8),(101:UInt8),(102:UInt8),(116:UInt8)],AV.str [(108:UInt8),(101:UInt8),(110:UInt8),(103:UInt8),(116:UInt8),(104:UInt8)],AV.str [(108:UInt8),(105:UInt8),(109:UInt8),(105:UInt8),(116:UInt8)],AV.str [(109:UInt8),(97:UInt8),(120:UInt8)],AV.str [(109:UInt8),(101:UInt8),(101:UInt8),(116:UInt8),(115:UInt8)],AV.str [(109:UInt8),(101:UInt8),(116:UInt8),(98:UInt8),(121:UInt8)],AV.str [(109:UInt8),(105:UInt8),(110:UInt8)],AV.str [(110:UInt8),(111:UInt8),(110:UInt8),(115:UInt8),(101:UInt8),(113:UInt8),(117:UInt8),(101:UInt8),(110:UInt8),(99:UInt8),(101:UInt8),(100:UInt8)],AV.str [(110:UInt8),(111:UInt8),(116:UInt8)],AV.str [(110:UInt8),(111:UInt8),(119:UInt8)],AV.str [(110:UInt8),(117:UInt8),(108:UInt8),(108:UInt8)],AV.str [(111:UInt8),(102:UInt8)],AV.str [(111:UInt8),(110:UInt8)],AV.str [(111:UInt8),(114:UInt8)],AV.str [(111:UInt8),(114:UInt8),(100:UInt8),(101:UInt8),(114:UInt8)],AV.str [(111:UInt8),(118:UInt8),(101:UInt8),(114:UInt8),(108:UInt8),(97:UInt8),(112:UInt8),(112:UInt8),(101:UInt8),(100:UInt8),(98:UInt8),(121:UInt8)],AV.str [(111:UInt8),(118:UInt8),(101:UInt8),(114:UInt8),(108:UInt8),(97:UInt8),(112:UInt8),(115:UInt8)],AV.str [(112:UInt8),(114:UInt8),(105:UInt8),(109:UInt8),(97:UInt8),(114:UInt8),(121:UInt8)],AV.str [(112:UInt8),(114:UInt8),(117:UInt8),(110:UInt8),(101:UInt8)],AV.str [(114:UInt8),(101:UInt8),(102:UInt8),(101:UInt8),(114:UInt8),(101:UInt8),(110:UInt8),(99:UInt8),(101:UInt8),(115:UInt8)],AV.str [(114:UInt8),(101:UInt8),(108:UInt8),(101:UInt8),(97:UInt8),(115:UInt8),(101:UInt8)],AV.str [(114:UInt8),(101:UInt8),(110:UInt8),(97:UInt8),(109:UInt8),(101:UInt8)],AV.str [(114:UInt8),(101:UInt8),(116:UInt8),(97:UInt8),(105:UInt8),(110:UInt8)],AV.str [(114:UInt8),(111:UInt8),(108:UInt8),(108:UInt8),(98:UInt8),(97:UInt8),(99:UInt8),(107:UInt8)],AV.str [(115:UInt8),(101:UInt8),(108:UInt8),(101:UInt8),(99:UInt8),(116:UInt8)],AV.str [(115:UInt8),(101:UInt8),(113:UInt8),(117:UInt8),(101:UInt8),(110:UInt8),(99:UInt8),(101:UInt8),(100:UInt8)],AV.str [(115:UInt8),(101:UInt8),(116:UInt8)],AV.str [(115:UInt8),(116:UInt8),(97:UInt8),(114:UInt8),(116:UInt8),(101:UInt8),(100:UInt8),(98:UInt8),(121:UInt8)],AV.str [(115:UInt8),(116:UInt8),(97:UInt8),(114:UInt8),(116:UInt8),(115:UInt8)],AV.str [(115:UInt8),(117:UInt8),(109:UInt8)],AV.str [(115:UInt8),(121:UInt8),(115:UInt8),(116:UInt8),(101:UInt8),(109:UInt8)],AV.str [(115:UInt8),(121:UInt8),(115:UInt8),(116:UInt8),(101:UInt8),(109:UInt8),(102:UInt8),(114:UInt8),(111:UInt8),(109:UInt8)],AV.str [(115:UInt8),(121:UInt8),(115:UInt8),(116:UInt8),(101:UInt8),(109:UInt8),(116:UInt8),(111:UInt8)],AV.str [(116:UInt8),(97:UInt8),(98:UInt8),(108:UInt8),(101:UInt8)],AV.str [(116:UInt8),(101:UInt8),(120:UInt8),(116:UInt8)],AV.str [(116:UInt8),(111:UInt8)],AV.str [(116:UInt8),(114:UInt8),(117:UInt8),(101:UInt8)],AV.str [(116:UInt8),(120:UInt8)],AV.str [(117:UInt8),(110:UInt8),(100:UInt8),(101:UInt8),(114:UInt8)],AV.str [(117:UInt8),(110:UInt8),(105:UInt8),(111:UInt8),(110:UInt8)],AV.str [(117:UInt8),(112:UInt8),(100:UInt8),(97:UInt8),(116:UInt8),(101:UInt8)],AV.str [(118:UInt8),(97:UInt8),(108:UInt8),(105:UInt8),(100:UInt8)],AV.str [(118:UInt8),(97:UInt8),(108:UInt8),(105:UInt8),(100:UInt8),(102:UInt8),(114:UInt8),(111:UInt8),(109:UInt8)],AV.str [(118:UInt8),(97:UInt8),(108:UInt8),(105:UInt8),(100:UInt8),(116:UInt8),(111:UInt8)],AV.str [(118:UInt8),(97:UInt8),(108:UInt8),(117:UInt8),(101:UInt8),(115:UInt8)],AV.str [(119:UInt8),(104:UInt8),(101:UInt8),(114:UInt8),(101:UInt8)]]))
def xB4 {T:Type} (δ:T) (κ:LA->T):T:=κ ([AV.str [(97:UInt8),(100:UInt8),(100:UInt8)],AV.str [(97:UInt8),(102:UInt8),(116:UInt8),(101:UInt8),(114:UInt8)],AV.str [(97:UInt8),(108:UInt8),(108:UInt8)],AV.str [(97:UInt8),(108:UInt8),(116:UInt8),(101:UInt8),(114:UInt8)],AV.str [(97:UInt8),(110:UInt8),(100:UInt8)],AV.str [(97:UInt8),(115:UInt8)],AV.str [(98:UInt8),(101:UInt8),(102:UInt8),(111:UInt8),(114:UInt8),(101:UInt8)],AV.str [(98:UInt8),(101:UInt8),(103:UInt8),(105:UInt8),(110:UInt8)],AV.str [(98:UInt8),(101:UInt8),(116:UInt8),(119:UInt8),(101:UInt8),(101:UInt8),(110:UInt8)],AV.str [(98:UInt8),(111:UInt8),(111:UInt8),(108:UInt8)],AV.str [(98:UInt8),(121:UInt8)],AV.str [(99:UInt8),(104:UInt8),(101:UInt8),(99:UInt8),(107:UInt8)],AV.str [(99:UInt8),(111:UInt8),(97:UInt8),(108:UInt8),(101:UInt8),(115:UInt8),(99:UInt8),(101:UInt8)],AV.str [(99:UInt8),(111:UInt8),(109:UInt8),(109:UInt8),(105:UInt8),(116:UInt8)],AV.str [(99:UInt8),(111:UInt8),(110:UInt8),(116:UInt8),(97:UInt8),(105:UInt8),(110:UInt8),(115:UInt8)],AV.str [(99:UInt8),(111:UInt8),(117:UInt8),(110:UInt8),(116:UInt8)],AV.str [(99:UInt8),(114:UInt8),(101:UInt8),(97:UInt8),(116:UInt8),(101:UInt8)],AV.str [(100:UInt8),(101:UInt8),(102:UInt8),(97:UInt8),(117:UInt8),(108:UInt8),(116:UInt8)],AV.str [(100:UInt8),(101:UInt8),(108:UInt8),(101:UInt8),(116:UInt8),(101:UInt8)],AV.str [(100:UInt8),(101:UInt8),(115:UInt8),(99:UInt8)],AV.str [(100:UInt8),(105:UInt8),(115:UInt8),(116:UInt8),(105:UInt8),(110:UInt8),(99:UInt8),(116:UInt8)],AV.str [(100:UInt8),(114:UInt8),(111:UInt8),(112:UInt8)],AV.str [(100:UInt8),(117:UInt8),(114:UInt8),(105:UInt8),(110:UInt8),(103:UInt8)],AV.str [(101:UInt8),(113:UInt8),(117:UInt8),(97:UInt8),(108:UInt8),(115:UInt8)],AV.str [(101:UInt8),(120:UInt8),(99:UInt8),(101:UInt8),(112:UInt8),(116:UInt8)],AV.str [(102:UInt8),(97:UInt8),(108:UInt8),(115:UInt8),(101:UInt8)],AV.str [(102:UInt8),(105:UInt8),(110:UInt8),(105:UInt8),(115:UInt8),(104:UInt8),(101:UInt8),(100:UInt8),(98:UInt8),(121:UInt8)],AV.str [(102:UInt8),(105:UInt8),(110:UInt8),(105:UInt8),(115:UInt8),(104:UInt8),(101:UInt8),(115:UInt8)],AV.str [(102:UInt8),(111:UInt8),(114:UInt8),(101:UInt8),(105:UInt8),(103:UInt8),(110:UInt8)],AV.str [(102:UInt8),(111:UInt8),(114:UInt8),(101:UInt8),(118:UInt8),(101:UInt8),(114:UInt8)],AV.str [(102:UInt8),(114:UInt8),(111:UInt8),(109:UInt8)],AV.str [(103:UInt8),(114:UInt8),(111:UInt8),(117:UInt8),(112:UInt8)],AV.str [(104:UInt8),(111:UInt8),(108:UInt8),(100:UInt8)],AV.str [(105:UInt8),(102:UInt8)],AV.str [(105:UInt8),(110:UInt8),(115:UInt8),(101:UInt8),(114:UInt8),(116:UInt8)],AV.str [(105:UInt8),(110:UInt8),(116:UInt8)],AV.str [(105:UInt8),(110:UInt8),(116:UInt8),(101:UInt8),(114:UInt8),(115:UInt8),(101:UInt8),(99:UInt8),(116:UInt8)],AV.str [(105:UInt8),(110:UInt8),(116:UInt8),(111:UInt8)],AV.str [(105:UInt8),(115:UInt8)],AV.str [(106:UInt8),(111:UInt8),(105:UInt8),(110:UInt8)],AV.str [(107:UInt8),(101:UInt8),(121:UInt8)],AV.str [(108:UInt8),(101:UInt8),(102:UInt8),(116:UInt8)],AV.str [(108:UInt8),(101:UInt8),(110:UInt8),(103:UInt8),(116:UInt8),(104:UInt8)],AV.str [(108:UInt8),(105:UInt8),(109:UInt8),(105:UInt8),(116:UInt8)],AV.str [(109:UInt8),(97:UInt8),(120:UInt8)],AV.str [(109:UInt8),(101:UInt8),(101:UInt8),(116:UInt8),(115:UInt8)],AV.str [(109:UInt8),(101:UInt8),(116:UInt8),(98:UInt8),(121:UInt8)],AV.str [(109:UInt8),(105:UInt8),(110:UInt8)],AV.str [(110:UInt8),(111:UInt8),(110:UInt8),(115:UInt8),(101:UInt8),(113:UInt8),(117:UInt8),(101:UInt8),(110:UInt8),(99:UInt8),(101:UInt8),(100:UInt8)],AV.str [(110:UInt8),(111:UInt8),(116:UInt8)],AV.str [(110:UInt8),(111:UInt8),(119:UInt8)],AV.str [(110:UInt8),(117:UInt8),(108:UInt8),(108:UInt8)],AV.str [(111:UInt8),(102:UInt8)],AV.str [(111:UInt8),(110:UInt8)],AV.str [(111:UInt8),(114:UInt8)],AV.str [(111:UInt8),(114:UInt8),(100:UInt8),(101:UInt8),(114:UInt8)],AV.str [(111:UInt8),(118:UInt8),(101:UInt8),(114:UInt8),(108:UInt8),(97:UInt8),(112:UInt8),(112:UInt8),(101:UInt8),(100:UInt8),(98:UInt8),(121:UInt8)],AV.str [(111:UInt8),(118:UInt8),(101:UInt8),(114:UInt8),(108:UInt8),(97:UInt8),(112:UInt8),(115:UInt8)],AV.str [(112:UInt8),(114:UInt8),(105:UInt8),(109:UInt8),(97:UInt8),(114:UInt8),(121:UInt8)],AV.str [(112:UInt8),(114:UInt8),(117:UInt8),(110:UInt8),(101:UInt8)],AV.str [(114:UInt8),(101:UInt8),(102:UInt8),(101:UInt8),(114:UInt8),(101:UInt8),(110:UInt8),(99:UInt8),(101:UInt8),(115:UInt8)],AV.str [(114:UInt8),(101:UInt8),(108:UInt8),(101:UInt8),(97:UInt8),(115:UInt8),(101:UInt8)],AV.str [(114:UInt8),(101:UInt8),(110:UInt8),(97:UInt8),(109:UInt8),(101:UInt8)],AV.str [(114:UInt8),(101:UInt8),(116:UInt8),(97:UInt8),(105:UInt8),(110:UInt8)],AV.str [(114:UInt8),(111:UInt8),(108:UInt8),(108:UInt8),(98:UInt8),(97:UInt8),(99:UInt8),(107:UInt8)],AV.str [(115:UInt8),(101:UInt8),(108:UInt8),(101:UInt8),(99:UInt8),(116:UInt8)],AV.str [(115:UInt8),(101:UInt8),(113:UInt8),(117:UInt8),(101:UInt8),(110:UInt8),(99:UInt8),(101:UInt8),(100:UInt8)],AV.str [(115:UInt8),(101:UInt8),(116:UInt8)],AV.str [(115:UInt8),(116:UInt8),(97:UInt8),(114:UInt8),(116:UInt8),(101:UInt8),(100:UInt8),(98:UInt8),(121:UInt8)],AV.str [(115:UInt8),(116:UInt8),(97:UInt8),(114:UInt8),(116:UInt8),(115:UInt8)],AV.str [(115:UInt8),(117:UInt8),(109:UInt8)],AV.str [(115:UInt8),(121:UInt8),(115:UInt8),(116:UInt8),(101:UInt8),(109:UInt8)],AV.str [(115:UInt8),(121:UInt8),(115:UInt8),(116:UInt8),(101:UInt8),(109:UInt8),(102:UInt8),(114:UInt8),(111:UInt8),(109:UInt8)],AV.str [(115:UInt8),(121:UInt8),(115:UInt8),(116:UInt8),(101:UInt8),(109:UInt8),(116:UInt8),(111:UInt8)],AV.str [(116:UInt8),(97:UInt8),(98:UInt8),(108:UInt8),(101:UInt8)],AV.str [(116:UInt8),(101:UInt8),(120:UInt8),(116:UInt8)],AV.str [(116:UInt8),(111:UInt8)],AV.str [(116:UInt8),(114:UInt8),(117:UInt8),(101:UInt8)],AV.str [(116:UInt8),(120:UInt8)],AV.str [(117:UInt8),(110:UInt8),(100:UInt8),(101:UInt8),(114:UInt8)],AV.str [(117:UInt8),(110:UInt8),(105:UInt8),(111:UInt8),(110:UInt8)],AV.str [(117:UInt8),(112:UInt8),(100:UInt8),(97:UInt8),(116:UInt8),(101:UInt8)],AV.str [(118:UInt8),(97:UInt8),(108:UInt8),(105:UInt8),(100:UInt8)],AV.str [(118:UInt8),(97:UInt8),(108:UInt8),(105:UInt8),(100:UInt8),(102:UInt8),(114:UInt8),(111:UInt8),(109:UInt8)],AV.str [(118:UInt8),(97:UInt8),(108:UInt8),(105:UInt8),(100:UInt8),(116:UInt8),(111:UInt8)],AV.str [(118:UInt8),(97:UInt8),(108:UInt8),(117:UInt8),(101:UInt8),(115:UInt8)],AV.str [(119:UInt8),(104:UInt8),(101:UInt8),(114:UInt8),(101:UInt8)]])
def xGY:EO:=xJA.fT Tryz.func116 2 0 [] [] lk0 (fun _=>xB4 none) xNG (fun _=>xEe) (fun _ p=>(AV.list 1 p))
def xmm {T:Type} (l:LA) (a:List UInt8) (i:Int) (δ:T) (κl:(Int)->T) (κr:(Bool×(Bool)×(Unit))->T):T:=br (decide (i<l.length)) (br (ixI l i) (br (decide (i.toNat<l.length)&&xMT Sh.str (gC l i 0)) (br ((gC l i 0).toStr==a) (κr (true,(true),())) (κl (i64.wrap (i+1)))) δ) δ) (κr (false,false,()))
def xdi (l:LA) (a:List UInt8):StT (Int) (Bool×(Bool)×(Unit)):=fun (i)=>xmm l a i none inL inR
def xuq:=xGY.l 18 0 [] [] Tryz.f115 0 lk0 [0,1,5] [4] [] (q3 (qL 1) pStr qI) xNF (fun (l,a,i,_) _=>(xdi l a,(i),fun p=>(.node p.1 (.leaf .ret [AV.bool p.2.1] []) (.leaf (.exit 0) [.top] [])))) (false,false,()) fun (l,a,_,_) _ (i)=>(((l,a,i,()),()),xmm l a i none)
def xuY {T:Type} (l:LA) (a:List UInt8) (δ:T) (κ:Bool->T):T:=br ((Iter (xdi l a) 0).isSome) (br (((Iter (xdi l a) 0).getD (false,false,())).fst) (κ (((Iter (xdi l a) 0).getD (false,false,())).snd.fst)) (κ (false))) δ
def xyQ (l:LA) (a:List UInt8):=xuY l a none some
def xGZ:EO:=xGY.f Tryz.func115 18 0 [] [(2,xuq.lp)] (lk1 xuq.ok) (u2 (uL 1) (sEq pStr)) (fun (l,a,_) _=>xuY l a) (fun _ p=>AV.bool p) false
def xhE {T:Type} (a:List UInt8) (i:Int) (κl:(Int)->T) (κr:(Bool×(Bool)×(Unit))->T):T:=br (!(↑(a.getD i.toNat (0:UInt8)).toNat:Int)==95) (κr (true,(false),())) (κl (i64.wrap (i+1)))
def xhD {T:Type} (a:List UInt8) (i:Int) (κl:(Int)->T) (κr:(Bool×(Bool)×(Unit))->T):T:=br (decide ((↑(a.getD i.toNat (0:UInt8)).toNat:Int)>=48)) (br (decide ((↑(a.getD i.toNat (0:UInt8)).toNat:Int)<=57)) (κl (i64.wrap (i+1))) (xhE a i κl κr)) (xhE a i κl κr)
def xj3 {T:Type} (a:List UInt8) (i:Int) (δ:T) (κl:(Int)->T) (κr:(Bool×(Bool)×(Unit))->T):T:=br (decide (i<a.length)) (br (decide (0<=i)&&decide (i<a.length)) (br (decide ((↑(a.getD i.toNat (0:UInt8)).toNat:Int)>=97)) (br (decide ((↑(a.getD i.toNat (0:UInt8)).toNat:Int)<=122)) (κl (i64.wrap (i+1))) (xhD a i κl κr)) (xhD a i κl κr)) δ) (κr (false,false,()))
def xcn (a:List UInt8):StT (Int) (Bool×(Bool)×(Unit)):=fun (i)=>xj3 a i none inL inR
def xsD:=xGZ.l 54 0 [] [] Tryz.f86 0 lk0 [0,3] [0,2] [] (q2 pStr qI) xNF (fun (a,i,_) _=>(xcn a,(i),fun p=>(.node p.1 (.leaf .ret [AV.str a,AV.bool p.2.1] []) (.leaf (.exit 0) [AV.str a,.top] [])))) (false,false,()) fun (a,_,_) _ (i)=>(((a,i,()),()),xj3 a i none)
def xq2 (a:List UInt8):=xyQ [AV.str [(97:UInt8),(100:UInt8),(100:UInt8)],AV.str [(97:UInt8),(102:UInt8),(116:UInt8),(101:UInt8),(114:UInt8)],AV.str [(97:UInt8),(108:UInt8),(108:UInt8)],AV.str [(97:UInt8),(108:UInt8),(116:UInt8),(101:UInt8),(114:UInt8)],AV.str [(97:UInt8),(110:UInt8),(100:UInt8)],AV.str [(97:UInt8),(115:UInt8)],AV.str [(98:UInt8),(101:UInt8),(102:UInt8),(111:UInt8),(114:UInt8),(101:UInt8)],AV.str [(98:UInt8),(101:UInt8),(103:UInt8),(105:UInt8),(110:UInt8)],AV.str [(98:UInt8),(101:UInt8),(116:UInt8),(119:UInt8),(101:UInt8),(101:UInt8),(110:UInt8)],AV.str [(98:UInt8),(111:UInt8),(111:UInt8),(108:UInt8)],AV.str [(98:UInt8),(121:UInt8)],AV.str [(99:UInt8),(104:UInt8),(101:UInt8),(99:UInt8),(107:UInt8)],AV.str [(99:UInt8),(111:UInt8),(97:UInt8),(108:UInt8),(101:UInt8),(115:UInt8),(99:UInt8),(101:UInt8)],AV.str [(99:UInt8),(111:UInt8),(109:UInt8),(109:UInt8),(105:UInt8),(116:UInt8)],AV.str [(99:UInt8),(111:UInt8),(110:UInt8),(116:UInt8),(97:UInt8),(105:UInt8),(110:UInt8),(115:UInt8)],AV.str [(99:UInt8),(111:UInt8),(117:UInt8),(110:UInt8),(116:UInt8)],AV.str [(99:UInt8),(114:UInt8),(101:UInt8),(97:UInt8),(116:UInt8),(101:UInt8)],AV.str [(100:UInt8),(101:UInt8),(102:UInt8),(97:UInt8),(117:UInt8),(108:UInt8),(116:UInt8)],AV.str [(100:UInt8),(101:UInt8),(108:UInt8),(101:UInt8),(116:UInt8),(101:UInt8)],AV.str [(100:UInt8),(101:UInt8),(115:UInt8),(99:UInt8)],AV.str [(100:UInt8),(105:UInt8),(115:UInt8),(116:UInt8),(105:UInt8),(110:UInt8),(99:UInt8),(116:UInt8)],AV.str [(100:UInt8),(114:UInt8),(111:UInt8),(112:UInt8)],AV.str [(100:UInt8),(117:UInt8),(114:UInt8),(105:UInt8),(110:UInt8),(103:UInt8)],AV.str [(101:UInt8),(113:UInt8),(117:UInt8),(97:UInt8),(108:UInt8),(115:UInt8)],AV.str [(101:UInt8),(120:UInt8),(99:UInt8),(101:UInt8),(112:UInt8),(116:UInt8)],AV.str [(102:UInt8),(97:UInt8),(108:UInt8),(115:UInt8),(101:UInt8)],AV.str [(102:UInt8),(105:UInt8),(110:UInt8),(105:UInt8),(115:UInt8),(104:UInt8),(101:UInt8),(100:UInt8),(98:UInt8),(121:UInt8)],AV.str [(102:UInt8),(105:UInt8),(110:UInt8),(105:UInt8),(115:UInt8),(104:UInt8),(101:UInt8),(115:UInt8)],AV.str [(102:UInt8),(111:UInt8),(114:UInt8),(101:UInt8),(105:UInt8),(103:UInt8),(110:UInt8)],AV.str [(102:UInt8),(111:UInt8),(114:UInt8),(101:UInt8),(118:UInt8),(101:UInt8),(114:UInt8)],AV.str [(102:UInt8),(114:UInt8),(111:UInt8),(109:UInt8)],AV.str [(103:UInt8),(114:UInt8),(111:UInt8),(117:UInt8),(112:UInt8)],AV.str [(104:UInt8),(111:UInt8),(108:UInt8),(100:UInt8)],AV.str [(105:UInt8),(102:UInt8)],AV.str [(105:UInt8),(110:UInt8),(115:UInt8),(101:UInt8),(114:UInt8),(116:UInt8)],AV.str [(105:UInt8),(110:UInt8),(116:UInt8)],AV.str [(105:UInt8),(110:UInt8),(116:UInt8),(101:UInt8),(114:UInt8),(115:UInt8),(101:UInt8),(99:UInt8),(116:UInt8)],AV.str [(105:UInt8),(110:UInt8),(116:UInt8),(111:UInt8)],AV.str [(105:UInt8),(115:UInt8)],AV.str [(106:UInt8),(111:UInt8),(105:UInt8),(110:UInt8)],AV.str [(107:UInt8),(101:UInt8),(121:UInt8)],AV.str [(108:UInt8),(101:UInt8),(102:UInt8),(116:UInt8)],AV.str [(108:UInt8),(101:UInt8),(110:UInt8),(103:UInt8),(116:UInt8),(104:UInt8)],AV.str [(108:UInt8),(105:UInt8),(109:UInt8),(105:UInt8),(116:UInt8)],AV.str [(109:UInt8),(97:UInt8),(120:UInt8)],AV.str [(109:UInt8),(101:UInt8),(101:UInt8),(116:UInt8),(115:UInt8)],AV.str [(109:UInt8),(101:UInt8),(116:UInt8),(98:UInt8),(121:UInt8)],AV.str [(109:UInt8),(105:UInt8),(110:UInt8)],AV.str [(110:UInt8),(111:UInt8),(110:UInt8),(115:UInt8),(101:UInt8),(113:UInt8),(117:UInt8),(101:UInt8),(110:UInt8),(99:UInt8),(101:UInt8),(100:UInt8)],AV.str [(110:UInt8),(111:UInt8),(116:UInt8)],AV.str [(110:UInt8),(111:UInt8),(119:UInt8)],AV.str [(110:UInt8),(117:UInt8),(108:UInt8),(108:UInt8)],AV.str [(111:UInt8),(102:UInt8)],AV.str [(111:UInt8),(110:UInt8)],AV.str [(111:UInt8),(114:UInt8)],AV.str [(111:UInt8),(114:UInt8),(100:UInt8),(101:UInt8),(114:UInt8)],AV.str [(111:UInt8),(118:UInt8),(101:UInt8),(114:UInt8),(108:UInt8),(97:UInt8),(112:UInt8),(112:UInt8),(101:UInt8),(100:UInt8),(98:UInt8),(121:UInt8)],AV.str [(111:UInt8),(118:UInt8),(101:UInt8),(114:UInt8),(108:UInt8),(97:UInt8),(112:UInt8),(115:UInt8)],AV.str [(112:UInt8),(114:UInt8),(105:UInt8),(109:UInt8),(97:UInt8),(114:UInt8),(121:UInt8)],AV.str [(112:UInt8),(114:UInt8),(117:UInt8),(110:UInt8),(101:UInt8)],AV.str [(114:UInt8),(101:UInt8),(102:UInt8),(101:UInt8),(114:UInt8),(101:UInt8),(110:UInt8),(99:UInt8),(101:UInt8),(115:UInt8)],AV.str [(114:UInt8),(101:UInt8),(108:UInt8),(101:UInt8),(97:UInt8),(115:UInt8),(101:UInt8)],AV.str [(114:UInt8),(101:UInt8),(110:UInt8),(97:UInt8),(109:UInt8),(101:UInt8)],AV.str [(114:UInt8),(101:UInt8),(116:UInt8),(97:UInt8),(105:UInt8),(110:UInt8)],AV.str [(114:UInt8),(111:UInt8),(108:UInt8),(108:UInt8),(98:UInt8),(97:UInt8),(99:UInt8),(107:UInt8)],AV.str [(115:UInt8),(101:UInt8),(108:UInt8),(101:UInt8),(99:UInt8),(116:UInt8)],AV.str [(115:UInt8),(101:UInt8),(113:UInt8),(117:UInt8),(101:UInt8),(110:UInt8),(99:UInt8),(101:UInt8),(100:UInt8)],AV.str [(115:UInt8),(101:UInt8),(116:UInt8)],AV.str [(115:UInt8),(116:UInt8),(97:UInt8),(114:UInt8),(116:UInt8),(101:UInt8),(100:UInt8),(98:UInt8),(121:UInt8)],AV.str [(115:UInt8),(116:UInt8),(97:UInt8),(114:UInt8),(116:UInt8),(115:UInt8)],AV.str [(115:UInt8),(117:UInt8),(109:UInt8)],AV.str [(115:UInt8),(121:UInt8),(115:UInt8),(116:UInt8),(101:UInt8),(109:UInt8)],AV.str [(115:UInt8),(121:UInt8),(115:UInt8),(116:UInt8),(101:UInt8),(109:UInt8),(102:UInt8),(114:UInt8),(111:UInt8),(109:UInt8)],AV.str [(115:UInt8),(121:UInt8),(115:UInt8),(116:UInt8),(101:UInt8),(109:UInt8),(116:UInt8),(111:UInt8)],AV.str [(116:UInt8),(97:UInt8),(98:UInt8),(108:UInt8),(101:UInt8)],AV.str [(116:UInt8),(101:UInt8),(120:UInt8),(116:UInt8)],AV.str [(116:UInt8),(111:UInt8)],AV.str [(116:UInt8),(114:UInt8),(117:UInt8),(101:UInt8)],AV.str [(116:UInt8),(120:UInt8)],AV.str [(117:UInt8),(110:UInt8),(100:UInt8),(101:UInt8),(114:UInt8)],AV.str [(117:UInt8),(110:UInt8),(105:UInt8),(111:UInt8),(110:UInt8)],AV.str [(117:UInt8),(112:UInt8),(100:UInt8),(97:UInt8),(116:UInt8),(101:UInt8)],AV.str [(118:UInt8),(97:UInt8),(108:UInt8),(105:UInt8),(100:UInt8)],AV.str [(118:UInt8),(97:UInt8),(108:UInt8),(105:UInt8),(100:UInt8),(102:UInt8),(114:UInt8),(111:UInt8),(109:UInt8)],AV.str [(118:UInt8),(97:UInt8),(108:UInt8),(105:UInt8),(100:UInt8),(116:UInt8),(111:UInt8)],AV.str [(118:UInt8),(97:UInt8),(108:UInt8),(117:UInt8),(101:UInt8),(115:UInt8)],AV.str [(119:UInt8),(104:UInt8),(101:UInt8),(114:UInt8),(101:UInt8)]] a
def xpD {T:Type} (a:List UInt8) (δ:T) (κ:Bool->T):T:=br ((Iter (xcn a) 0).isSome) (br (((Iter (xcn a) 0).getD (false,false,())).fst) (κ (((Iter (xcn a) 0).getD (false,false,())).snd.fst)) (br ((xq2 a).isSome) (κ (!(xq2 a).getD false)) δ)) δ
def xsE {T:Type} (a:List UInt8) (δ:T) (κ:Bool->T):T:=br (a==[]) (κ (false)) (br (decide ((↑a.length:Int)>24)) (κ (false)) (br (decide (0<(↑a.length:Int))) (br (decide ((↑(a.getD 0 (0:UInt8)).toNat:Int)>=48)) (br (decide (0<(↑a.length:Int))) (br (decide ((↑(a.getD 0 (0:UInt8)).toNat:Int)<=57)) (κ (false)) (xpD a δ κ)) δ) (xpD a δ κ)) δ))
def xgV (a:List UInt8):=xsE a none some
def xCh:EO:=xGZ.f Tryz.func86 54 0 [] [(4,xsD.lp)] (lk1 xsD.ok) (u1 (sEq pStr)) (fun (a,_) _=>xsE a) (fun _ p=>AV.bool p) false
def xiW {T:Type} (b:Nat) (i:Int) (d:List UInt8) (c e f g a:LA) (δ:T) (κl:(Nat×Int×List UInt8×LA×LA×LA×LA×LA)->T) (κr:(Nat×LA)->T):T:=br (decide (i<c.length)) (br (ixI c i) (br (ixS c i (Sh.int .i64) 1) (br (rmB b a 1 8) (κl (b+1,i64.wrap (i+1),d,c,e,f,g,a++[AV.int .i64 (gC c i 1).toInt])) δ) δ) δ) (κr (b,a))
def xc4:StT (Nat×Int×List UInt8×LA×LA×LA×LA×LA) (Nat×LA):=fun (b,i,c,d,e,f,g,a)=>xiW b i c d e f g a none inL inR
def xrE:=xCh.l 23 0 [] [] Tryz.f53 0 lk0 [1,3,4] [3] [(3,1,3)] (q3 (xNQ 0 0 0 0) (xNP 1 0 0) qI) (q2 (qB 0 5 27 (q1 (xNR (q5 pStr (qL 3) (qL 1) (qL 2) (qL 7))))) (qB 0 1 3 xNH)) (fun (_,b,i,_) (((c,d,e,f,g,_),_),a,_)=>(xc4,(b,i,c,d,e,f,g,a),fun p=>(.leaf (.exit 0) [AV.osl 0 0 0 p.1] [bF 0 1 3 p.2]))) (0,[]) fun _ _ (b,i,c,d,e,f,g,a)=>((((),b,i,()),(((c,d,e,f,g,()),()),a,())),xiW b i c d e f g a none)
def xpC (e:List UInt8) (b a c d:LA):=Iter xc4 (0,0,e,b,a,c,d,[])
def xpB (e:List UInt8) (b a c d:LA):=(xpC e b a c d).getD (0,[])
def xpz (e:List UInt8) (b a c d:LA):=(xpB e b a c d).snd
def xpA (e:List UInt8) (b a c d:LA):=(xpB e b a c d).fst
def xq1 {T:Type} (e:List UInt8) (b a c d:LA) (δ:T) (κ:LA->T):T:=br ((xpC e b a c d).isSome) (br (decide (0+xpA e b a c d<=(xpz e b a c d).length)&&true) (κ (List.take (xpA e b a c d) (List.drop 0 (xpz e b a c d)))) δ) δ
def xeA (e:List UInt8) (b a c d:LA):=xq1 e b a c d none some
def xB3:LA->Option (Bool×AV):=fnO (u1 (xNU (u5 (sEq pStr) (uL 3) (uL 1) (uL 2) (uL 7)))) (fun ((e,b,a,c,d,_),_) _=>xq1 e b a c d) (fun _ p=>AV.list 1 p) []
theorem xvn:OcOk P0 xNC 53 xB3:=fnC xCh.ok Tryz.func53 23 0 [] [(3,xrE.lp)] (lk1 xrE.ok)
def xGx:EO:=xCh.w xvn
def xj2 {T:Type} (b:List UInt8) (i:Int) (c:List UInt8) (a d e f:LA) (δ:T) (κl:(Int×List UInt8×LA×LA×LA×LA)->T) (κr:(Bool×(Int)×(Unit))->T):T:=br (decide (i<a.length)) (br (ixI a i) (br (decide (i.toNat<a.length)&&xMT Sh.str (gC a i 0)) (br ((gC a i 0).toStr==b) (κr (true,(i),())) (κl (i64.wrap (i+1),c,a,d,e,f))) δ) δ) (κr (false,0,()))
def xdw (a:List UInt8):StT (Int×List UInt8×LA×LA×LA×LA) (Bool×(Int)×(Unit)):=fun (i,b,c,d,e,f)=>xj2 a i b c d e f none inL inR
def xsB:=xGx.l 22 0 [] [] Tryz.f117 0 lk0 [1,2,5] [4] [] (q3 pStr (xNQ 0 0 0 0) qI) (q1 (qB 0 5 27 (q1 (xNR (q5 pStr (qL 3) (qL 1) (qL 2) (qL 7)))))) (fun (a,_,i,_) (((b,c,d,e,f,_),_),_)=>(xdw a,(i,b,c,d,e,f),fun p=>(.node p.1 (.leaf .ret [AV.int .i64 p.2.1] []) (.leaf (.exit 0) [.top] [])))) (false,0,()) fun (a,_,_,_) _ (i,b,c,d,e,f)=>(((a,(),i,()),(((b,c,d,e,f,()),()),())),xj2 a i b c d e f none)
def xq0 (e:List UInt8) (b a c d:LA) (f:List UInt8):=Iter (xdw f) (0,e,b,a,c,d)
def xqx (e:List UInt8) (b a c d:LA) (f:List UInt8):=(xq0 e b a c d f).getD (false,0,())
def xsC {T:Type} (e:List UInt8) (b a c d:LA) (f:List UInt8) (δ:T) (κ:Int->T):T:=br ((xq0 e b a c d f).isSome) (br ((xqx e b a c d f).fst) (κ ((xqx e b a c d f).snd.fst)) (κ ((-1)))) δ
def xrT (e:List UInt8) (b a c d:LA) (f:List UInt8):=xsC e b a c d f none some
def xKZ:EO:=xGx.f Tryz.func117 22 0 [] [(2,xsB.lp)] (lk1 xsB.ok) (u2 (xNU (u5 (sEq pStr) (uL 3) (uL 1) (uL 2) (uL 7))) (sEq pStr)) (fun ((e,b,a,c,d,_),g,_) _=>xsC e b a c d g) (fun _ p=>AV.int .i64 p) 0
def xkG (e:List UInt8) (a b c d:LA) (i:Int):Bool:=(br (decide (i>=0)) ((decide (i<a.length))) ((false)))
def xAs {T:Type} (e:List UInt8) (a b c d:LA) (i:Int) (δ:T) (κ:Bool->T):T:=br (decide (i>=0)) (κ (decide (i<a.length))) (κ (false))
def xG0:EO:=xKZ.fT Tryz.func118 14 0 [] [] lk0 (fun ((e,b,a,c,d,_),i,_)=>xAs e b a c d i none) (u2 (xNU (u5 (sEq pStr) (uL 3) (uL 1) (uL 2) (uL 7))) uI) (fun ((e,b,a,c,d,_),i,_)=>xkG e b a c d i) (fun _ p=>(AV.bool p))
def xgW {T:Type} (i:Int) (b:List UInt8) (a c d e:LA) (δ:T) (κl:(Int×List UInt8×LA×LA×LA×LA)->T) (κr:(Bool×(Int)×(Unit))->T):T:=br (decide (i<a.length)) (br (ixI a i) (br (ixT a i 3 [Sh.str,Sh.int .i64,Sh.bool] 0) (br ((xgV (gC a i 0).toStr).isSome) (br (!(xgV (gC a i 0).toStr).getD false) (κr (true,(1),())) (br (decide ((gC a i 1).toInt<1)) (κr (true,(7),())) (br (decide ((gC a i 1).toInt>3)) (κr (true,(7),())) (br ((xrT b a c d e (gC a i 0).toStr).isSome) (br (decide ((xrT b a c d e (gC a i 0).toStr).getD 0<i)) (κr (true,(10),())) (κl (i64.wrap (i+1),b,a,c,d,e))) δ)))) δ) δ) δ) (κr (false,0,()))
def xb6:StT (Int×List UInt8×LA×LA×LA×LA) (Bool×(Int)×(Unit)):=fun (i,a,b,c,d,e)=>xgW i a b c d e none inL inR
def xo2:=xG0.l 45 0 [] [] Tryz.f87 0 lk0 [1,3] [2] [] (q2 (xNQ 0 0 0 0) qI) (q1 (qB 0 5 27 (q1 (xNR (q5 pStr (qL 3) (qL 1) (qL 2) (qL 7)))))) (fun (_,i,_) (((a,b,c,d,e,_),_),_)=>(xb6,(i,a,b,c,d,e),fun p=>(.node p.1 (.leaf .ret [AV.int .i64 p.2.1] []) (.leaf (.exit 0) [.top] [])))) (false,0,()) fun _ _ (i,a,b,c,d,e)=>((((),i,()),(((a,b,c,d,e,()),()),())),xgW i a b c d e none)
def xmN (e:List UInt8) (b a c d:LA):=Iter xb6 (0,e,b,a,c,d)
def xmM (e:List UInt8) (b a c d:LA):=(xmN e b a c d).getD (false,0,())
def xob {T:Type} (e:List UInt8) (a b c d:LA) (δ:T) (κ:Int->T):T:=br (decide ((↑a.length:Int)<1)) (κ (13)) (br (decide ((↑a.length:Int)>12)) (κ (13)) (br ((xmN e a b c d).isSome) (br ((xmM e a b c d).fst) (κ ((xmM e a b c d).snd.fst)) (κ (0))) δ))
def xgC (e:List UInt8) (b a c d:LA):=xob e b a c d none some
def xG1:EO:=xG0.f Tryz.func87 45 0 [] [(4,xo2.lp)] (lk1 xo2.ok) (u1 (xNU (u5 (sEq pStr) (uL 3) (uL 1) (uL 2) (uL 7)))) (fun ((e,b,a,c,d,_),_) _=>xob e b a c d) (fun _ p=>AV.int .i64 p) 0
def xeX (i:Int) (a:LA):=ixI a i
def xeY (i:Int) (a:LA):=decide (i.toNat<a.length)&&xMT (Sh.int .i64) (gC a i 0)
def xbu (i:Int) (a:LA):=(gC a i 0).toInt
def xet {T:Type} (i:Int) (c:List UInt8) (b a d e:LA) (δ:T) (κl:(Int×List UInt8×LA×LA×LA×LA)->T) (κr:(Bool×(Int)×(Unit))->T):T:=br (xeX i a) (br (xeY i a) (br (decide (0<=xbu i a)&&decide (xbu i a<b.length)) (br (decide ((xbu i a).toNat<b.length)&&xMT Sh.bool ((b.getD (xbu i a).toNat .top).cells.getD 2 .top)) (br (((b.getD (xbu i a).toNat .top).cells.getD 2 .top).toBool) (κr (true,(12),())) (κl (i64.wrap (i+1),c,b,a,d,e))) δ) δ) δ) δ
def xfW {T:Type} (i:Int) (b:List UInt8) (c a d e:LA) (δ:T) (κl:(Int×List UInt8×LA×LA×LA×LA)->T) (κr:(Bool×(Int)×(Unit))->T):T:=br (decide (i<a.length)) (br (xeX i a) (br (xeY i a) (br (!xkG b c a d e (xbu i a)) (κr (true,(25),())) (br (decide (i>0)) (br (xeX i a) (br (xeY i a) (br (decide (0<=i64.wrap (i - 1))&&decide (i64.wrap (i - 1)<(↑a.length:Int))) (br (decide ((i64.wrap (i - 1)).toNat<a.length)&&xMT (Sh.int .i64) ((a.getD (i64.wrap (i - 1)).toNat .top).cells.getD 0 .top)) (br (decide (xbu i a<=((a.getD (i64.wrap (i - 1)).toNat .top).cells.getD 0 .top).toInt)) (κr (true,(25),())) (xet i b c a d e δ κl κr)) δ) δ) δ) δ) (xet i b c a d e δ κl κr))) δ) δ) (κr (false,0,()))
def xbS:StT (Int×List UInt8×LA×LA×LA×LA) (Bool×(Int)×(Unit)):=fun (i,a,b,c,d,e)=>xfW i a b c d e none inL inR
def xtg:=xG1.l 51 0 [] [] Tryz.f88 0 lk0 [1,3] [2] [] (q2 (xNQ 0 0 0 0) qI) (q1 (qB 0 5 27 (q1 (xNR (q5 pStr (qL 3) (qL 1) (qL 2) (qL 7)))))) (fun (_,i,_) (((a,b,c,d,e,_),_),_)=>(xbS,(i,a,b,c,d,e),fun p=>(.node p.1 (.leaf .ret [AV.int .i64 p.2.1] []) (.leaf (.exit 0) [.top] [])))) (false,0,()) fun _ _ (i,a,b,c,d,e)=>((((),i,()),(((a,b,c,d,e,()),()),())),xfW i a b c d e none)
def xsG (e:List UInt8) (b a c d:LA):=Iter xbS (0,e,b,a,c,d)
def xsF (e:List UInt8) (b a c d:LA):=(xsG e b a c d).getD (false,0,())
def xtQ {T:Type} (e:List UInt8) (b a c d:LA) (δ:T) (κ:Int->T):T:=br ((↑a.length:Int)==0) (κ (25)) (br ((xsG e b a c d).isSome) (br ((xsF e b a c d).fst) (κ ((xsF e b a c d).snd.fst)) (κ (0))) δ)
def xqt (e:List UInt8) (b a c d:LA):=xtQ e b a c d none some
def xCi:EO:=xG1.f Tryz.func88 51 0 [] [(4,xtg.lp)] (lk1 xtg.ok) (u1 (xNU (u5 (sEq pStr) (uL 3) (uL 1) (uL 2) (uL 7)))) (fun ((e,b,a,c,d,_),_) _=>xtQ e b a c d) (fun _ p=>AV.int .i64 p) 0
def xgX {T:Type} (i k:Int) (b:List UInt8) (c d e f a:LA) (g:List UInt8) (δ:T) (κl:(Int×List UInt8×LA×LA×LA×LA×LA×List UInt8)->T) (κr:(Bool×(Int×List UInt8×LA×LA×LA×LA×LA×List UInt8)×(List UInt8×LA×LA×LA×LA×LA×List UInt8))->T):T:=br (decide (k<i)) (br (ixI a k) (br (ixS a k (Sh.int .i64) 0) (br (ixI a i) (br (ixS a i (Sh.int .i64) 0) (br ((gC a k 0).toInt==(gC a i 0).toInt) (κr (true,(25,b,c,d,e,f,a,g),([],[],[],[],[],[],[]))) (κl (i64.wrap (k+1),b,c,d,e,f,a,g))) δ) δ) δ) δ) (κr (false,(0,[],[],[],[],[],[],[]),(b,c,d,e,f,a,g)))
def xb7 (i:Int):StT (Int×List UInt8×LA×LA×LA×LA×LA×List UInt8) (Bool×(Int×List UInt8×LA×LA×LA×LA×LA×List UInt8)×(List UInt8×LA×LA×LA×LA×LA×List UInt8)):=fun (k,a,b,c,d,e,f,g)=>xgX i k a b c d e f g none inL inR
def xgm:=xCi.l 46 0 [] [] Tryz.f119 1 lk0 [2,3,5,6] [2,3,4,5] [] (q4 (xNQ 0 0 0 0) (xNQ 1 0 0 0) qI qI) (q2 (qB 0 5 27 (q1 (xNR (q5 pStr (qL 3) (qL 1) (qL 2) (qL 7))))) (qB 0 2 34 (q1 (xNR (q2 (qL 1) pStr))))) (fun (_,_,i,k,_) (((a,b,c,d,e,_),_),((f,g,_),_),_)=>(xb7 i,(k,a,b,c,d,e,f,g),fun p=>(.node p.1 (.leaf .ret [AV.own 0 0 0 0,AV.own 1 0 0 0,AV.int .i64 p.2.1.1,AV.int .i64 i] [bF 0 5 27 [AV.agg [AV.str p.2.1.2.1,AV.list 3 p.2.1.2.2.1,AV.list 1 p.2.1.2.2.2.1,AV.list 2 p.2.1.2.2.2.2.1,AV.list 7 p.2.1.2.2.2.2.2.1]],bF 0 2 34 [AV.agg [AV.list 1 p.2.1.2.2.2.2.2.2.1,AV.str p.2.1.2.2.2.2.2.2.2]]]) (.leaf (.exit 2) [AV.own 0 0 0 0,AV.own 1 0 0 0,.top,AV.int .i64 i] [bF 0 5 27 [AV.agg [AV.str p.2.2.1,AV.list 3 p.2.2.2.1,AV.list 1 p.2.2.2.2.1,AV.list 2 p.2.2.2.2.2.1,AV.list 7 p.2.2.2.2.2.2.1]],bF 0 2 34 [AV.agg [AV.list 1 p.2.2.2.2.2.2.2.1,AV.str p.2.2.2.2.2.2.2.2]]])))) (false,(0,[],[],[],[],[],[],[]),([],[],[],[],[],[],[])) fun (_,_,i,_,_) _ (k,a,b,c,d,e,f,g)=>((((),(),i,k,()),(((a,b,c,d,e,()),()),((f,g,()),()),())),xgX i k a b c d e f g none)
def xjU (i:Int) (a:List UInt8) (b c d e f:LA) (g:List UInt8):=Iter (xb7 i) (0,a,b,c,d,e,f,g)
def xjT (i:Int) (a:List UInt8) (b c d e f:LA) (g:List UInt8):=(xjU i a b c d e f g).getD (false,(0,[],[],[],[],[],[],[]),[],[],[],[],[],[],[])
def xjS (i:Int) (a:List UInt8) (b c d e f:LA) (g:List UInt8):=(xjT i a b c d e f g).snd
def xjR (i:Int) (a:List UInt8) (b c d e f:LA) (g:List UInt8):=(xjS i a b c d e f g).snd
def xjQ (i:Int) (a:List UInt8) (b c d e f:LA) (g:List UInt8):=(xjR i a b c d e f g).snd
def xjP (i:Int) (a:List UInt8) (b c d e f:LA) (g:List UInt8):=(xjQ i a b c d e f g).snd
def xjO (i:Int) (a:List UInt8) (b c d e f:LA) (g:List UInt8):=(xjP i a b c d e f g).snd
def xjN (i:Int) (a:List UInt8) (b c d e f:LA) (g:List UInt8):=(xjO i a b c d e f g).snd
def xjM (i:Int) (a:List UInt8) (b c d e f:LA) (g:List UInt8):=(xjN i a b c d e f g).snd
def xeJ {T:Type} (i:Int) (b:List UInt8) (c d e f a:LA) (g:List UInt8) (δ:T) (κl:(Int×List UInt8×LA×LA×LA×LA×LA×List UInt8)->T) (κr:(Bool×(Int)×(Unit))->T):T:=br (decide (i<a.length)) (br (ixI a i) (br (ixS a i (Sh.int .i64) 0) (br (!xkG b c d e f (gC a i 0).toInt) (κr (true,(25),())) (br ((xjU i b c d e f a g).isSome) (br ((xjT i b c d e f a g).fst) (κr (true,((xjS i b c d e f a g).fst.fst),())) (κl (i64.wrap (i+1),(xjR i b c d e f a g).fst,(xjQ i b c d e f a g).fst,(xjP i b c d e f a g).fst,(xjO i b c d e f a g).fst,(xjN i b c d e f a g).fst,(xjM i b c d e f a g).fst,(xjM i b c d e f a g).snd))) δ)) δ) δ) (κr (false,0,()))
def xbq:StT (Int×List UInt8×LA×LA×LA×LA×LA×List UInt8) (Bool×(Int)×(Unit)):=fun (i,a,b,c,d,e,f,g)=>xeJ i a b c d e f g none inL inR
def xo3:=xCi.l 46 0 [] [(11,xgm.lp)] Tryz.f119 0 (lk1 xgm.ok) [2,3,5] [4] [] (q3 (xNQ 0 0 0 0) (xNQ 1 0 0 0) qI) (q2 (qB 0 5 27 (q1 (xNR (q5 pStr (qL 3) (qL 1) (qL 2) (qL 7))))) (qB 0 2 34 (q1 (xNR (q2 (qL 1) pStr))))) (fun (_,_,i,_) (((a,b,c,d,e,_),_),((f,g,_),_),_)=>(xbq,(i,a,b,c,d,e,f,g),fun p=>(.node p.1 (.leaf .ret [AV.int .i64 p.2.1] []) (.leaf (.exit 0) [.top] [])))) (false,0,()) fun _ _ (i,a,b,c,d,e,f,g)=>((((),(),i,()),(((a,b,c,d,e,()),()),((f,g,()),()),())),xeJ i a b c d e f g none)
def xmP (e:List UInt8) (b a c d f:LA) (g:List UInt8):=Iter xbq (0,e,b,a,c,d,f,g)
def xmO (e:List UInt8) (b a c d f:LA) (g:List UInt8):=(xmP e b a c d f g).getD (false,0,())
def xoc {T:Type} (g:List UInt8) (c a d e f:LA) (b:List UInt8) (δ:T) (κ:Int->T):T:=br ((xgV b).isSome) (br (!(xgV b).getD false) (κ (1)) (br ((↑f.length:Int)==0) (κ (25)) (br ((xmP g c a d e f b).isSome) (br ((xmO g c a d e f b).fst) (κ ((xmO g c a d e f b).snd.fst)) (κ (0))) δ))) δ
def xjl (e:List UInt8) (b a c d f:LA) (g:List UInt8):=xoc e b a c d f g none some
def xCj:EO:=xCi.f Tryz.func119 46 0 [] [(11,xgm.lp),(6,xo3.lp)] (lks (lkC xo3.ok (lkC xgm.ok lkN))) (u2 (xNU (u5 (sEq pStr) (uL 3) (uL 1) (uL 2) (uL 7))) (xNU (u2 (uL 1) (sEq pStr)))) (fun ((e,b,a,c,d,_),(g,h,_),_) _=>xoc e b a c d g h) (fun _ p=>AV.int .i64 p) 0
def xeB {T:Type} (i:Int) (b:List UInt8) (c d a e:LA) (δ:T) (κl:(Int×List UInt8×LA×LA×LA×LA)->T) (κr:(Bool×(Int×List UInt8×LA×LA×LA×LA)×(List UInt8×LA×LA×LA×LA))->T):T:=br (decide (i<a.length)) (br (ixI a i) (br (ixT a i 2 [Sh.list 1,Sh.str] 0) (br ((xjl b c d a e (gC a i 0).toList (gC a i 1).toStr).isSome) (br ((xjl b c d a e (gC a i 0).toList (gC a i 1).toStr).getD 0 != 0) (κr (true,((xjl b c d a e (gC a i 0).toList (gC a i 1).toStr).getD 0,b,c,d,a,e),([],[],[],[],[]))) (κl (i64.wrap (i+1),b,c,d,a,e))) δ) δ) δ) (κr (false,(0,[],[],[],[],[]),(b,c,d,a,e)))
def xbe:StT (Int×List UInt8×LA×LA×LA×LA) (Bool×(Int×List UInt8×LA×LA×LA×LA)×(List UInt8×LA×LA×LA×LA)):=fun (i,a,b,c,d,e)=>xeB i a b c d e none inL inR
def xgs:=xCj.l 60 0 [] [] Tryz.f89 0 lk0 [1,3] [1,2] [] (q2 (xNQ 0 0 0 0) qI) (q1 (qB 0 5 27 (q1 (xNR (q5 pStr (qL 3) (qL 1) (qL 2) (qL 7)))))) (fun (_,i,_) (((a,b,c,d,e,_),_),_)=>(xbe,(i,a,b,c,d,e),fun p=>(.node p.1 (.leaf .ret [AV.own 0 0 0 0,AV.int .i64 p.2.1.1] [bF 0 5 27 [AV.agg [AV.str p.2.1.2.1,AV.list 3 p.2.1.2.2.1,AV.list 1 p.2.1.2.2.2.1,AV.list 2 p.2.1.2.2.2.2.1,AV.list 7 p.2.1.2.2.2.2.2]]]) (.leaf (.exit 0) [AV.own 0 0 0 0,.top] [bF 0 5 27 [AV.agg [AV.str p.2.2.1,AV.list 3 p.2.2.2.1,AV.list 1 p.2.2.2.2.1,AV.list 2 p.2.2.2.2.2.1,AV.list 7 p.2.2.2.2.2.2]]])))) (false,(0,[],[],[],[],[]),([],[],[],[],[])) fun _ _ (i,a,b,c,d,e)=>((((),i,()),(((a,b,c,d,e,()),()),())),xeB i a b c d e none)
def xgw (i:Int) (b:List UInt8) (c d e a:LA):=xtM (gC a i 0).toInt (gC a i 1).toInt (gC a i 2).toInt (gC a i 3).toInt (gC a i 4).toStr (gC a i 5).toStr (gC a i 6).toList ((xeA b c d e a).getD [])
def xgv (i:Int) (a:List UInt8) (b c d e:LA):=(xgw i a b c d e).getD (0,0)
def xgt (i:Int) (a:List UInt8) (b c d e:LA):=(xgv i a b c d e).fst
def xgu (i:Int) (a:List UInt8) (b c d e:LA):=(xgv i a b c d e).snd
def xeC {T:Type} (i:Int) (b:List UInt8) (c d e a:LA) (δ:T) (κl:(Int×List UInt8×LA×LA×LA×LA)->T) (κr:(Bool×(Int)×(Unit))->T):T:=br (decide (i<a.length)) (br (ixI a i) (br (ixT a i 7 [Sh.int .i64,Sh.int .i64,Sh.int .i64,Sh.int .i64,Sh.str,Sh.str,Sh.list 7] 0) (br ((xeA b c d e a).isSome) (br ((xgw i b c d e a).isSome) (br (xgu i b c d e a != 0) (κr (true,(xgu i b c d e a),())) (br (xgt i b c d e a != 3) (br (xgt i b c d e a != 0) (κr (true,(7),())) (κl (i64.wrap (i+1),b,c,d,e,a))) (κl (i64.wrap (i+1),b,c,d,e,a)))) δ) δ) δ) δ) (κr (false,0,()))
def xbf:StT (Int×List UInt8×LA×LA×LA×LA) (Bool×(Int)×(Unit)):=fun (i,a,b,c,d,e)=>xeC i a b c d e none inL inR
def xlq:=xCj.l 60 0 [] [(4,xgs.lp)] Tryz.f89 1 lk0 [1,5] [2] [] (q2 (xNQ 0 0 0 0) qI) (q1 (qB 0 5 27 (q1 (xNR (q5 pStr (qL 3) (qL 1) (qL 2) (qL 7)))))) (fun (_,i,_) (((a,b,c,d,e,_),_),_)=>(xbf,(i,a,b,c,d,e),fun p=>(.node p.1 (.leaf .ret [AV.int .i64 p.2.1] []) (.leaf (.exit 2) [.top] [])))) (false,0,()) fun _ _ (i,a,b,c,d,e)=>((((),i,()),(((a,b,c,d,e,()),()),())),xeC i a b c d e none)
def xi5 (e:List UInt8) (b a c d:LA):=Iter xbe (0,e,b,a,c,d)
def xi4 (e:List UInt8) (b a c d:LA):=(xi5 e b a c d).getD (false,(0,[],[],[],[],[]),[],[],[],[],[])
def xi3 (e:List UInt8) (b a c d:LA):=(xi4 e b a c d).snd
def xi2 (e:List UInt8) (b a c d:LA):=(xi3 e b a c d).snd
def xi1 (e:List UInt8) (b a c d:LA):=(xi2 e b a c d).snd
def xi0 (e:List UInt8) (b a c d:LA):=(xi1 e b a c d).snd
def xix (e:List UInt8) (b a c d:LA):=(xi0 e b a c d).snd
def xiZ (e:List UInt8) (b a c d:LA):=(xix e b a c d).snd
def xiY (e:List UInt8) (b a c d:LA):=Iter xbf (0,(xi2 e b a c d).fst,(xi1 e b a c d).fst,(xi0 e b a c d).fst,(xix e b a c d).fst,xiZ e b a c d)
def xiX (e:List UInt8) (b a c d:LA):=(xiY e b a c d).getD (false,0,())
def xjL {T:Type} (e:List UInt8) (c a b d:LA) (δ:T) (κ:Int->T):T:=br (decide ((↑b.length:Int)>4)) (κ (5)) (br ((xi5 e c a b d).isSome) (br ((xi4 e c a b d).fst) (κ ((xi3 e c a b d).fst.fst)) (br (decide ((↑(xiZ e c a b d).length:Int)>4)) (κ (5)) (br ((xiY e c a b d).isSome) (br ((xiX e c a b d).fst) (κ ((xiX e c a b d).snd.fst)) (κ (0))) δ))) δ)
def xd0 (e:List UInt8) (b a c d:LA):=xjL e b a c d none some
def xJB:EO:=xCj.f Tryz.func89 60 0 [] [(4,xgs.lp),(12,xlq.lp)] (lks (lkC xgs.ok (lkC xlq.ok lkN))) (u1 (xNU (u5 (sEq pStr) (uL 3) (uL 1) (uL 2) (uL 7)))) (fun ((e,b,a,c,d,_),_) _=>xjL e b a c d) (fun _ p=>AV.int .i64 p) 0
def xqZ {T:Type} (e:List UInt8) (b a c d:LA) (δ:T) (κ:Int->T):T:=br ((xgV e).isSome) (br (!(xgV e).getD false) (κ (1)) (br ((xgC e b a c d).isSome) (br ((xgC e b a c d).getD 0==0) (br ((xqt e b a c d).isSome) (br ((xqt e b a c d).getD 0==0) (br ((xd0 e b a c d).isSome) (κ ((xd0 e b a c d).getD 0)) δ) (κ ((xqt e b a c d).getD 0))) δ) (br ((xgC e b a c d).getD 0==0) (br ((xd0 e b a c d).isSome) (κ ((xd0 e b a c d).getD 0)) δ) (κ ((xgC e b a c d).getD 0)))) δ)) δ
def xfL (e:List UInt8) (b a c d:LA):=xqZ e b a c d none some
def xB2:LA->Option (Bool×AV):=fnO (u1 (xNU (u5 (sEq pStr) (uL 3) (uL 1) (uL 2) (uL 7)))) (fun ((e,b,a,c,d,_),_) _=>xqZ e b a c d) (fun _ p=>AV.int .i64 p) 0
theorem xB1:OcOk P0 xNC 51 xB2:=fnC xJB.ok Tryz.func51 19 0 [] [] lk0
def xK2:EO:=xKT.w xvl
def xK3:EO:=xK2.w xB1
def xG3:EO:=xK3.w xvn
def xiS (a l:LA) (i:Int):=(xiP a (gC l i 0).toInt).getD (0,0,[])
def xiR (a l:LA) (i:Int):=(xiS a l i).snd
def xjx {T:Type} (c l:LA) (b:Nat) (i:Int) (a:LA) (δ:T) (κl:(Nat×Int×LA)->T) (κr:(Nat×LA)->T):T:=br (decide (i<l.length)) (br (ixI l i) (br (ixS l i (Sh.int .i64) 0) (br ((xiP c (gC l i 0).toInt).isSome) (br (rmB b a 1 32) (κl (b+1,i64.wrap (i+1),a++[AV.agg [AV.int .i64 (xiS c l i).fst,AV.int .i64 (xiR c l i).fst,AV.str (xiR c l i).snd]])) δ) δ) δ) δ) (κr (b,a))
def xds (c l:LA):StT (Nat×Int×LA) (Nat×LA):=fun (b,i,a)=>xjx c l b i a none inL inR
def xsq:=xG3.l 24 0 [] [] Tryz.f39 0 lk0 [0,1,5,6] [5] [(5,3,86)] (q4 (qL 3) (qL 1) (xNP 0 0 0) qI) (q1 (qB 0 3 86 xNH)) (fun (c,l,b,i,_) (a,_)=>(xds c l,(b,i,a),fun p=>(.leaf (.exit 0) [AV.osl 0 0 0 p.1] [bF 0 3 86 p.2]))) (0,[]) fun (c,l,_,_,_) _ (b,i,a)=>(((c,l,b,i,()),(a,())),xjx c l b i a none)
def xqU (a l:LA):=(Iter (xds a l) (0,0,[])).getD (0,[])
def xqS (a l:LA):=(xqU a l).fst
def xqT (a l:LA):=(xqU a l).snd
def xsr {T:Type} (a l:LA) (δ:T) (κ:LA->T):T:=br ((Iter (xds a l) (0,0,[])).isSome) (br (decide (0+xqS a l<=(xqT a l).length)&&true) (κ (List.take (xqS a l) (List.drop 0 (xqT a l)))) δ) δ
def xfF (a l:LA):=xsr a l none some
def xGO:EO:=xG3.f Tryz.func39 24 0 [] [(3,xsq.lp)] (lk1 xsq.ok) (u2 (uL 3) (uL 1)) (fun (a,l,_) _=>xsr a l) (fun _ p=>AV.list 3 p) []
def xgU {T:Type} (a l:LA) (i:Int) (δ:T) (κl:(Int)->T) (κr:(Bool×(Bool)×(Unit))->T):T:=br (decide (i<l.length)) (br (ixI l i) (br (ixS l i (Sh.int .i64) 0) (br ((xiP a (gC l i 0).toInt).isSome) (br (((xiP a (gC l i 0).toInt).getD (0,0,[])).fst==0) (κr (true,(true),())) (κl (i64.wrap (i+1)))) δ) δ) δ) (κr (false,false,()))
def xaY (a l:LA):StT (Int) (Bool×(Bool)×(Unit)):=fun (i)=>xgU a l i none inL inR
def xo1:=xGO.l 20 0 [] [] Tryz.f67 0 lk0 [0,1,5] [4] [] (q3 (qL 3) (qL 1) qI) xNF (fun (a,l,i,_) _=>(xaY a l,(i),fun p=>(.node p.1 (.leaf .ret [AV.bool p.2.1] []) (.leaf (.exit 0) [.top] [])))) (false,false,()) fun (a,l,_,_) _ (i)=>(((a,l,i,()),()),xgU a l i none)
def xnZ {T:Type} (a l:LA) (δ:T) (κ:Bool->T):T:=br ((Iter (xaY a l) 0).isSome) (br (((Iter (xaY a l) 0).getD (false,false,())).fst) (κ (((Iter (xaY a l) 0).getD (false,false,())).snd.fst)) (κ (false))) δ
def xmj (a l:LA):=xnZ a l none some
def xGP:EO:=xGO.f Tryz.func67 20 0 [] [(2,xo1.lp)] (lk1 xo1.ok) (u2 (uL 3) (uL 1)) (fun (a,l,_) _=>xnZ a l) (fun _ p=>AV.bool p) false
def xiQ (a:LA) (i:Int):=ixI a i
def xmK (a:LA) (i:Int):=xl0 (gC a i 0).toInt (gC a i 1).toInt (gC a i 2).toStr
def xjZ {T:Type} (a b:LA) (i:Int) (δ:T) (κl:(Int)->T) (κr:(Bool×(Bool)×(Unit))->T):T:=br (decide (i<a.length)) (br (xiQ a i) (br (ixT a i 3 [Sh.int .i64,Sh.int .i64,Sh.str] 0) (br ((xmK a i).isSome) (br (!(xmK a i).getD false) (κr (true,(false),())) (br (xiQ a i) (br (ixS a i (Sh.int .i64) 0) (br ((gC a i 0).toInt != 0) (br (xiQ a i) (br (ixS a i (Sh.int .i64) 0) (br (ixI b i) (br (ixS b i (Sh.int .i64) 0) (br ((gC a i 0).toInt != (gC b i 0).toInt) (κr (true,(false),())) (κl (i64.wrap (i+1)))) δ) δ) δ) δ) (κl (i64.wrap (i+1)))) δ) δ)) δ) δ) δ) (κr (false,false,()))
def xcg (b a:LA):StT (Int) (Bool×(Bool)×(Unit)):=fun (i)=>xjZ b a i none inL inR
def xsn:=xGP.l 43 0 [] [] Tryz.f90 0 lk0 [0,1,5] [4] [] (q3 (qL 3) (qL 1) qI) xNF (fun (b,a,i,_) _=>(xcg b a,(i),fun p=>(.node p.1 (.leaf .ret [AV.bool p.2.1] []) (.leaf (.exit 0) [.top] [])))) (false,false,()) fun (b,a,_,_) _ (i)=>(((b,a,i,()),()),xjZ b a i none)
def xso {T:Type} (b a:LA) (δ:T) (κ:Bool->T):T:=br ((↑b.length:Int) != (↑a.length:Int)) (κ (false)) (br ((Iter (xcg b a) 0).isSome) (br (((Iter (xcg b a) 0).getD (false,false,())).fst) (κ (((Iter (xcg b a) 0).getD (false,false,())).snd.fst)) (κ (true))) δ)
def xrS (b a:LA):=xso b a none some
def xKU:EO:=xGP.f Tryz.func90 43 0 [] [(4,xsn.lp)] (lk1 xsn.ok) (u2 (uL 3) (uL 1)) (fun (b,a,_) _=>xso b a) (fun _ p=>AV.bool p) false
def xzJ (k:Int):Bool:=(br (k==1) ((true)) (br (k==2) ((true)) ((k==3))))
def xDr {T:Type} (k:Int) (δ:T) (κ:Bool->T):T:=br (k==1) (κ (true)) (br (k==2) (κ (true)) (κ (k==3)))
def xGQ:EO:=xKU.fT Tryz.func122 13 0 [] [] lk0 (fun (k,_)=>xDr k none) (u1 uI) (fun (k,_)=>xzJ k) (fun _ p=>(AV.bool p))
def xi6 {T:Type} (l:LA) (i:Int) (δ:T) (κl:(Int)->T) (κr:(Bool×(Bool)×(Unit))->T):T:=br (decide (i<l.length)) (br (ixI l i) (br (ixS l i (Sh.int .i64) 0) (br (!xzJ (gC l i 0).toInt) (κr (true,(false),())) (κl (i64.wrap (i+1)))) δ) δ) (κr (false,false,()))
def xbX (l:LA):StT (Int) (Bool×(Bool)×(Unit)):=fun (i)=>xi6 l i none inL inR
def xrF:=xGQ.l 16 0 [] [] Tryz.f91 0 lk0 [0,3] [2] [] (q2 (qL 1) qI) xNF (fun (l,i,_) _=>(xbX l,(i),fun p=>(.node p.1 (.leaf .ret [AV.bool p.2.1] []) (.leaf (.exit 0) [.top] [])))) (false,false,()) fun (l,_,_) _ (i)=>(((l,i,()),()),xi6 l i none)
def xq3 {T:Type} (l:LA) (δ:T) (κ:Bool->T):T:=br ((Iter (xbX l) 0).isSome) (br (((Iter (xbX l) 0).getD (false,false,())).fst) (κ (((Iter (xbX l) 0).getD (false,false,())).snd.fst)) (κ (true))) δ
def xtR (l:LA):=xq3 l none some
def xGR:EO:=xGQ.f Tryz.func91 16 0 [] [(2,xrF.lp)] (lk1 xrF.ok) (u1 (uL 1)) (fun (l,_) _=>xq3 l) (fun _ p=>AV.bool p) false
def xi7 {T:Type} (i:Int) (b a:LA) (δ:T) (κl:(Int×LA×LA)->T) (κr:(Bool×(Bool×LA×LA)×(LA×LA))->T):T:=br (decide (i<a.length)) (br (ixI a i) (br (ixT a i 3 [Sh.int .i64,Sh.int .i64] 1) (br (!xdK (gC a i 1).toInt (gC a i 2).toInt) (κr (true,(false,b,a),([],[]))) (br (ixI a i) (br (ixS a i (Sh.list 3) 0) (br ((xrS (gC a i 0).toList b).isSome) (br (!(xrS (gC a i 0).toList b).getD false) (κr (true,(false,b,a),([],[]))) (κl (i64.wrap (i+1),b,a))) δ) δ) δ)) δ) δ) (κr (false,(false,[],[]),(b,a)))
def xbY:StT (Int×LA×LA) (Bool×(Bool×LA×LA)×(LA×LA)):=fun (i,a,b)=>xi7 i a b none inL inR
def xrG:=xGR.l 46 0 [] [] Tryz.f52 0 lk0 [1,3] [1,2] [] (q2 (xNQ 0 0 0 0) qI) (q1 (qB 0 2 93 (q1 (xNR (q2 (qL 1) (qL 3)))))) (fun (_,i,_) (((a,b,_),_),_)=>(xbY,(i,a,b),fun p=>(.node p.1 (.leaf .ret [AV.own 0 0 0 0,AV.bool p.2.1.1] [bF 0 2 93 [AV.agg [AV.list 1 p.2.1.2.1,AV.list 3 p.2.1.2.2]]]) (.leaf (.exit 0) [AV.own 0 0 0 0,.top] [bF 0 2 93 [AV.agg [AV.list 1 p.2.2.1,AV.list 3 p.2.2.2]]])))) (false,(false,[],[]),([],[])) fun _ _ (i,a,b)=>((((),i,()),(((a,b,()),()),())),xi7 i a b none)
def xpL (a b:LA):=(Iter xbY (0,a,b)).getD (false,(false,[],[]),[],[])
def xpK (a b:LA):=(xpL a b).snd
def xpJ (a b:LA):=(xpK a b).snd.fst
def xpH (a b:LA):=(↑(xpJ a b).length:Int)
def xpI (a b:LA):=xtR (xpJ a b)
def xq8 {T:Type} (a b:LA) (δ:T) (κ:Bool->T):T:=br ((Iter xbY (0,a,b)).isSome) (br ((xpL a b).fst) (κ ((xpK a b).fst.fst)) (br (decide (xpH a b>0)) (br (decide (xpH a b<=48)) (br ((xpI a b).isSome) (κ ((xpI a b).getD false)) δ) (κ (false))) (κ (false)))) δ
def xqc (a b:LA):=xq8 a b none some
def xKV:EO:=xGR.f Tryz.func52 46 0 [] [(2,xrG.lp)] (lk1 xrG.ok) (u1 (xNU (u2 (uL 1) (uL 3)))) (fun ((a,b,_),_) _=>xq8 a b) (fun _ p=>AV.bool p) false
def xeI (l:LA) (i:Int):=ixI l i
def xls {T:Type} (l a:LA) (i:Int) (δ:T) (κl:(LA×Int)->T) (κr:(LA)->T):T:=br (decide (i<l.length)) (br (xeI l i) (br (ixT l i 2 [Sh.int .i64,Sh.int .i64] 0) (br (xdK (gC l i 0).toInt (gC l i 1).toInt) (br (xeI l i) (br (ixS l i (Sh.int .i64) 0) (br ((xaA a (gC l i 0).toInt).isSome) (br (xeI l i) (br (ixS l i (Sh.int .i64) 1) (br ((xaA ((xaA a (gC l i 0).toInt).getD []) (gC l i 1).toInt).isSome) (κl ((xaA ((xaA a (gC l i 0).toInt).getD []) (gC l i 1).toInt).getD [],i64.wrap (i+1))) δ) δ) δ) δ) δ) δ) (κl (a,i64.wrap (i+1)))) δ) δ) (κr (a))
def xdP (l:LA):StT (LA×Int) (LA):=fun (a,i)=>xls l a i none inL inR
def xuo {T:Type} (l:LA) (δ:T) (κ:LA->T):T:=br ((Iter (xdP l) ([],0)).isSome) (κ ((Iter (xdP l) ([],0)).getD [])) δ
def xsj (l:LA):=xuo l none some
def xjK {T:Type} (l:LA) (t i:Int) (δ:T) (κl:(Int)->T) (κr:(Bool×(Bool)×(Unit))->T):T:=br (decide (i<l.length)) (br (ixI l i) (br (ixT l i 2 [Sh.int .i64,Sh.int .i64] 0) (br (xfQ (gC l i 0).toInt (gC l i 1).toInt t) (κr (true,(true),())) (κl (i64.wrap (i+1)))) δ) δ) (κr (false,false,()))
def xbd (l:LA) (t:Int):StT (Int) (Bool×(Bool)×(Unit)):=fun (i)=>xjK l t i none inL inR
def xsh {T:Type} (l:LA) (t:Int) (δ:T) (κ:Bool->T):T:=br ((Iter (xbd l t) 0).isSome) (br (((Iter (xbd l t) 0).getD (false,false,())).fst) (κ (((Iter (xbd l t) 0).getD (false,false,())).snd.fst)) (κ (false))) δ
def xfR (l:LA) (t:Int):=xsh l t none some
def xcf (c:Int) (a b:Bool):Bool:=(br (c==1) (br (a) ((b)) ((false))) (br (c==2) (br (a) ((true)) ((b))) (br (c==3) (br (a) ((!b)) ((false))) (br (!a) ((!b)) ((false))))))
def xdQ (a:LA) (i:Int):=decide (0<=i64.wrap (i - 1))&&decide (i64.wrap (i - 1)<(↑a.length:Int))
def xdR (a:LA) (i:Int):=decide ((i64.wrap (i - 1)).toNat<a.length)&&xMT (Sh.int .i64) ((a.getD (i64.wrap (i - 1)).toNat .top).cells.getD 0 .top)
def xa5 (a:LA) (i:Int):=((a.getD (i64.wrap (i - 1)).toNat .top).cells.getD 0 .top).toInt
def xfA (c:LA) (b:Nat) (i:Int) (a:LA):=(xgS b (xa5 c i) (gC c i 0).toInt a).getD (false,(0,[],[]),0,[])
def xfy (c:LA) (b:Nat) (i:Int) (a:LA):=(xfA c b i a).fst
def xfz (c:LA) (b:Nat) (i:Int) (a:LA):=(xfA c b i a).snd
def xfv (c:LA) (b:Nat) (i:Int) (a:LA):=(xfz c b i a).fst
def xfw (c:LA) (b:Nat) (i:Int) (a:LA):=(xfz c b i a).snd
def xgk {T:Type} (f:Int) (a b e:LA) (d:Nat) (i:Int) (c:LA) (δ:T) (κl:(Nat×Int×LA)->T) (κr:(Nat×LA)->T):T:=br (decide (i<e.length)) (br (xdQ e i) (br (xdR e i) (br ((xfR a (xa5 e i)).isSome) (br (xdQ e i) (br (xdR e i) (br ((xfR b (xa5 e i)).isSome) (br (xcf f ((xfR a (xa5 e i)).getD false) ((xfR b (xa5 e i)).getD false)) (br (xdQ e i) (br (xdR e i) (br (ixI e i) (br (ixS e i (Sh.int .i64) 0) (br ((xgS d (xa5 e i) (gC e i 0).toInt c).isSome) (κl (br (xfy e d i c) (xfv e d i c).fst (xfw e d i c).fst,i64.wrap (i+1),br (xfy e d i c) (xfv e d i c).snd.snd (xfw e d i c).snd)) δ) δ) δ) δ) δ) (κl (d,i64.wrap (i+1),c))) δ) δ) δ) δ) δ) δ) (κr (d,c))
def xbP (e:Int) (a b f:LA):StT (Nat×Int×LA) (Nat×LA):=fun (d,i,c)=>xgk e a b f d i c none inL inR
def xfg (a b:LA):Nat:=1+a.length+b.length
def xlz (a b:LA):LA:=[AV.agg [AV.int .i64 0,AV.int .i64 1099511627776]]++a++b
def xly (a b:LA):=xsj (List.take (xfg a b) (List.drop 0 (xlz a b)))
def xlw (c:Int) (a b:LA):=Iter (xbP c a b ((xly a b).getD [])) (0,1,[])
def xlv (c:Int) (a b:LA):=(xlw c a b).getD (0,[])
def xlt (c:Int) (a b:LA):=(xlv c a b).snd
def xlu (c:Int) (a b:LA):=(xlv c a b).fst
def xsl {T:Type} (c:Int) (a b:LA) (δ:T) (κ:LA->T):T:=br (decide ((1+a.length)*16<=140737488355328)&&decide (1+a.length<=4611686018427387904)) (br (1+a.length==([AV.agg [AV.int .i64 0,AV.int .i64 1099511627776]]++a).length&&(decide (xfg a b*16<=140737488355328)&&decide (xfg a b<=4611686018427387904))) (br (decide (0+xfg a b<=(xlz a b).length)&&true) (br ((xly a b).isSome) (br ((xlw c a b).isSome) (br (decide (0+xlu c a b<=(xlt c a b).length)&&true) (κ (List.take (xlu c a b) (List.drop 0 (xlt c a b)))) δ) δ) δ) δ) δ) δ
def xfS (c:Int) (a b:LA):=xsl c a b none some
def xzF {T:Type} (l:LA) (δ:T) (κ:LA->T):T:=br ((xfS 2 l []).isSome) (κ ((xfS 2 l []).getD [])) δ
def xuV (l:LA):=xzF l none some
def xsk {T:Type} (a b:LA) (δ:T) (κ:LA->T):T:=br ((xfS 3 a b).isSome) (κ ((xfS 3 a b).getD [])) δ
def xhT (a b:LA):=xsk a b none some
def xoC {T:Type} (e:List UInt8) (b a c d l:LA) (δ:T) (κ:Bool->T):T:=br ((xfL e b a c d).isSome) (br ((xfL e b a c d).getD 0==0) (br ((xeA e b a c d).isSome) (br ((xqc ((xeA e b a c d).getD []) l).isSome) (κ ((xqc ((xeA e b a c d).getD []) l).getD false)) δ) δ) (κ (false))) δ
def xgD (e:List UInt8) (b a c d l:LA):=xoC e b a c d l none some
def xKx:EO:=xKV.f Tryz.func28 15 0 [] [] lk0 (u2 (xNU (u5 (sEq pStr) (uL 3) (uL 1) (uL 2) (uL 7))) (uL 3)) (fun ((e,b,a,c,d,_),l,_) _=>xoC e b a c d l) (fun _ p=>AV.bool p) false
def xtX {T:Type} (f:List UInt8) (c a d e b:LA) (δ:T) (κ:LA->T):T:=br ((xfF b a).isSome) (κ ((xfF b a).getD [])) δ
def xkK (e:List UInt8) (b a c d f:LA):=xtX e b a c d f none some
def xG2:EO:=xKx.f Tryz.func23 9 0 [] [] lk0 (u2 (xNU (u5 (sEq pStr) (uL 3) (uL 1) (uL 2) (uL 7))) (uL 3)) (fun ((e,b,a,c,d,_),g,_) _=>xtX e b a c d g) (fun _ p=>AV.list 3 p) []
def xkL {T:Type} (l h:LA) (b:Nat) (i:Int) (c:List UInt8) (d e f g a:LA) (δ:T) (κl:(Nat×Int×List UInt8×LA×LA×LA×LA×LA)->T) (κr:(Nat×LA)->T):T:=br (decide (i<l.length)) (br (ixI l i) (br (ixS l i (Sh.list 3) 0) (br ((xkK c d e f g (gC l i 0).toList).isSome) (br ((xaL ((xkK c d e f g (gC l i 0).toList).getD []) h).isSome) (br ((xaL ((xkK c d e f g (gC l i 0).toList).getD []) h).getD 0==0) (br (ixI l i) (br (ixT l i 3 [Sh.int .i64,Sh.int .i64] 1) (br (rmB b a 1 16) (κl (b+1,i64.wrap (i+1),c,d,e,f,g,a++[AV.agg [AV.int .i64 (gC l i 1).toInt,AV.int .i64 (gC l i 2).toInt]])) δ) δ) δ) (κl (b,i64.wrap (i+1),c,d,e,f,g,a))) δ) δ) δ) δ) (κr (b,a))
def xdC (l c:LA):StT (Nat×Int×List UInt8×LA×LA×LA×LA×LA) (Nat×LA):=fun (b,i,d,e,f,g,h,a)=>xkL l c b i d e f g h a none inL inR
def xmW (e:List UInt8) (b a c d l f:LA):=Iter (xdC l f) (0,0,e,b,a,c,d,[])
def xmV (e:List UInt8) (b a c d l f:LA):=(xmW e b a c d l f).getD (0,[])
def xmT (e:List UInt8) (b a c d l f:LA):=(xmV e b a c d l f).fst
def xmU (e:List UInt8) (b a c d l f:LA):=(xmV e b a c d l f).snd
def xti {T:Type} (e:List UInt8) (b a c d l f:LA) (δ:T) (κ:LA->T):T:=br ((xmW e b a c d l f).isSome) (br (decide (0+xmT e b a c d l f<=(xmU e b a c d l f).length)&&true) (κ (List.take (xmT e b a c d l f) (List.drop 0 (xmU e b a c d l f)))) δ) δ
def xjm (e:List UInt8) (b a c d l f:LA):=xti e b a c d l f none some
def xsL {T:Type} (e:List UInt8) (b a c d l f:LA) (δ:T) (κ:LA->T):T:=br ((xjm e b a c d l f).isSome) (br ((xuV ((xjm e b a c d l f).getD [])).isSome) (κ ((xuV ((xjm e b a c d l f).getD [])).getD [])) δ) δ
def xfX (e:List UInt8) (b a c d l f:LA):=xsL e b a c d l f none some
def xj8 {T:Type} (i:Int) (a:LA) (c:List UInt8) (b:LA) (d:List UInt8) (δ:T) (κl:(Int×LA×List UInt8×LA×List UInt8)->T) (κr:(Bool×(Bool)×(Unit))->T):T:=br (decide (i<a.length)) (br (ixI a i) (br (ixS a i (Sh.int .i64) 0) (br (ixI b i) (br (ixS b i (Sh.int .i64) 0) (br ((gC a i 0).toInt != (gC b i 0).toInt) (κr (true,(false),())) (κl (i64.wrap (i+1),a,c,b,d))) δ) δ) δ) δ) (κr (false,false,()))
def xdF:StT (Int×LA×List UInt8×LA×List UInt8) (Bool×(Bool)×(Unit)):=fun (i,a,b,c,d)=>xj8 i a b c d none inL inR
def xsO:=xG2.l 38 0 [] [] Tryz.f54 0 lk0 [2,3,5] [4] [] (q3 (xNQ 0 0 0 0) (xNQ 1 0 0 0) qI) (q2 (qB 0 2 34 (q1 (xNR (q2 (qL 1) pStr)))) (qB 0 2 34 (q1 (xNR (q2 (qL 1) pStr))))) (fun (_,_,i,_) (((a,b,_),_),((c,d,_),_),_)=>(xdF,(i,a,b,c,d),fun p=>(.node p.1 (.leaf .ret [AV.bool p.2.1] []) (.leaf (.exit 0) [.top] [])))) (false,false,()) fun _ _ (i,a,b,c,d)=>((((),(),i,()),(((a,b,()),()),((c,d,()),()),())),xj8 i a b c d none)
def xrl (a:LA) (b:List UInt8) (c:LA) (d:List UInt8):=Iter xdF (0,a,b,c,d)
def xrk (a:LA) (b:List UInt8) (c:LA) (d:List UInt8):=(xrl a b c d).getD (false,false,())
def xsP {T:Type} (a:LA) (b:List UInt8) (c:LA) (d:List UInt8) (δ:T) (κ:Bool->T):T:=br (!b==d) (κ (false)) (br ((↑a.length:Int) != (↑c.length:Int)) (κ (false)) (br ((xrl a b c d).isSome) (br ((xrk a b c d).fst) (κ ((xrk a b c d).snd.fst)) (κ (true))) δ))
def xrW (a:LA) (b:List UInt8) (c:LA) (d:List UInt8):=xsP a b c d none some
def xCk:EO:=xG2.f Tryz.func54 38 0 [] [(4,xsO.lp)] (lk1 xsO.ok) (u2 (xNU (u2 (uL 1) (sEq pStr))) (xNU (u2 (uL 1) (sEq pStr)))) (fun ((a,b,_),(c,d,_),_) _=>xsP a b c d) (fun _ p=>AV.bool p) false
def xj6 {T:Type} (j:Bool) (i:Int) (k:List UInt8) (l m a n g:LA) (h b:List UInt8) (c d e f:LA) (δ:T) (κl:(Bool×Int×List UInt8×LA×LA×LA×LA×LA×List UInt8×List UInt8×LA×LA×LA×LA)->T) (κr:(Bool×List UInt8×LA×LA×LA×LA×LA×List UInt8×List UInt8×LA×LA×LA×LA)->T):T:=br (decide (i<a.length)) (br (j) (κl (true,i64.wrap (i+1),k,l,m,a,n,g,h,b,c,d,e,f)) (br (ixI a i) (br (ixT a i 2 [Sh.list 1,Sh.str] 0) (br ((xrW (gC a i 0).toList (gC a i 1).toStr g h).isSome) (κl ((xrW (gC a i 0).toList (gC a i 1).toStr g h).getD false,i64.wrap (i+1),k,l,m,a,n,g,h,b,c,d,e,f)) δ) δ) δ)) (κr (j,k,l,m,a,n,g,h,b,c,d,e,f))
def xdD:StT (Bool×Int×List UInt8×LA×LA×LA×LA×LA×List UInt8×List UInt8×LA×LA×LA×LA) (Bool×List UInt8×LA×LA×LA×LA×LA×List UInt8×List UInt8×LA×LA×LA×LA):=fun (f,i,g,h,j,k,l,m,n,a,b,c,d,e)=>xj6 f i g h j k l m n a b c d e none inL inR
def xmX:=xCk.l 76 0 [] [] Tryz.f29 0 lk0 [3,4,5,7,8] [3,4,5,7] [] (q5 (xNQ 0 0 0 0) (xNQ 1 0 0 0) (xNQ 2 0 0 0) pBool qI) (q3 (qB 0 5 27 (q1 (xNR (q5 pStr (qL 3) (qL 1) (qL 2) (qL 7))))) (qB 0 2 34 (q1 (xNR (q2 (qL 1) pStr)))) (qB 0 5 27 (q1 (xNR (q5 pStr (qL 3) (qL 1) (qL 2) (qL 7)))))) (fun (_,_,_,f,i,_) (((g,h,j,k,m,_),_),((n,o,_),_),((a,b,c,d,e,_),_),_)=>(xdD,(f,i,g,h,j,k,m,n,o,a,b,c,d,e),fun p=>(.leaf (.exit 0) [AV.own 0 0 0 0,AV.own 1 0 0 0,AV.own 2 0 0 0,AV.bool p.1] [bF 0 5 27 [AV.agg [AV.str p.2.1,AV.list 3 p.2.2.1,AV.list 1 p.2.2.2.1,AV.list 2 p.2.2.2.2.1,AV.list 7 p.2.2.2.2.2.1]],bF 0 2 34 [AV.agg [AV.list 1 p.2.2.2.2.2.2.1,AV.str p.2.2.2.2.2.2.2.1]],bF 0 5 27 [AV.agg [AV.str p.2.2.2.2.2.2.2.2.1,AV.list 3 p.2.2.2.2.2.2.2.2.2.1,AV.list 1 p.2.2.2.2.2.2.2.2.2.2.1,AV.list 2 p.2.2.2.2.2.2.2.2.2.2.2.1,AV.list 7 p.2.2.2.2.2.2.2.2.2.2.2.2]]]))) (false,[],[],[],[],[],[],[],[],[],[],[],[]) fun _ _ (f,i,g,h,j,k,m,n,o,a,b,c,d,e)=>((((),(),(),f,i,()),(((g,h,j,k,m,()),()),((n,o,()),()),((a,b,c,d,e,()),()),())),xj6 f i g h j k m n o a b c d e none)
def xj7 {T:Type} (a b:LA) (i:Int) (d:LA) (j e:List UInt8) (f c g h:LA) (δ:T) (κl:(Int×LA×List UInt8×List UInt8×LA×LA×LA×LA)->T) (κr:(Bool×(Bool)×(Unit))->T):T:=br (decide (i<d.length)) (br (ixI d i) (br (ixS d i (Sh.int .i64) 0) (br (decide (0<=(gC d i 0).toInt)&&decide ((gC d i 0).toInt<a.length)) (br (decide ((gC d i 0).toInt.toNat<a.length)&&xMT (Sh.int .i64) ((a.getD (gC d i 0).toInt.toNat .top).cells.getD 0 .top)) (br (ixI c i) (br (ixS c i (Sh.int .i64) 0) (br (decide (0<=(gC c i 0).toInt)&&decide ((gC c i 0).toInt<b.length)) (br (decide ((gC c i 0).toInt.toNat<b.length)&&xMT (Sh.int .i64) ((b.getD (gC c i 0).toInt.toNat .top).cells.getD 0 .top)) (br (((a.getD (gC d i 0).toInt.toNat .top).cells.getD 0 .top).toInt != ((b.getD (gC c i 0).toInt.toNat .top).cells.getD 0 .top).toInt) (κr (true,(false),())) (κl (i64.wrap (i+1),d,j,e,f,c,g,h))) δ) δ) δ) δ) δ) δ) δ) δ) (κr (false,false,()))
def xdE (a b:LA):StT (Int×LA×List UInt8×List UInt8×LA×LA×LA×LA) (Bool×(Bool)×(Unit)):=fun (i,h,j,c,d,e,f,g)=>xj7 a b i h j c d e f g none inL inR
def xsM:=xCk.l 76 0 [] [(5,xmX.lp)] Tryz.f29 1 lk0 [4,5,9,10,11] [6] [] (q5 (xNQ 0 0 0 0) (xNQ 1 0 0 0) (qL 1) (qL 1) qI) (q2 (qB 0 2 34 (q1 (xNR (q2 (qL 1) pStr)))) (qB 0 5 27 (q1 (xNR (q5 pStr (qL 3) (qL 1) (qL 2) (qL 7)))))) (fun (_,_,a,b,i,_) (((h,j,_),_),((c,d,e,f,g,_),_),_)=>(xdE a b,(i,h,j,c,d,e,f,g),fun p=>(.node p.1 (.leaf .ret [AV.bool p.2.1] []) (.leaf (.exit 2) [.top] [])))) (false,false,()) fun (_,_,a,b,_,_) _ (i,h,j,c,d,e,f,g)=>((((),(),a,b,i,()),(((h,j,()),()),((c,d,e,f,g,()),()),())),xj7 a b i h j c d e f g none)
def xpX (j:List UInt8) (g f h i k:LA) (l e:List UInt8) (b a c d:LA):=Iter xdD (false,0,j,g,f,h,i,k,l,e,b,a,c,d)
def xpW (j:List UInt8) (g f h i k:LA) (l e:List UInt8) (b a c d:LA):=(xpX j g f h i k l e b a c d).getD (false,[],[],[],[],[],[],[],[],[],[],[],[])
def xpV (j:List UInt8) (g f h i k:LA) (l e:List UInt8) (b a c d:LA):=(xpW j g f h i k l e b a c d).snd
def xpU (j:List UInt8) (g f h i k:LA) (l e:List UInt8) (b a c d:LA):=(xpV j g f h i k l e b a c d).snd
def xpT (j:List UInt8) (g f h i k:LA) (l e:List UInt8) (b a c d:LA):=(xpU j g f h i k l e b a c d).snd
def xpS (j:List UInt8) (g f h i k:LA) (l e:List UInt8) (b a c d:LA):=(xpT j g f h i k l e b a c d).snd
def xpR (j:List UInt8) (g f h i k:LA) (l e:List UInt8) (b a c d:LA):=(xpS j g f h i k l e b a c d).snd
def xrc (j:List UInt8) (g f h i k:LA) (l e:List UInt8) (b a c d:LA):=xeA (xpV j g f h i k l e b a c d).fst (xpU j g f h i k l e b a c d).fst (xpT j g f h i k l e b a c d).fst (xpS j g f h i k l e b a c d).fst (xpR j g f h i k l e b a c d).fst
def xpQ (j:List UInt8) (g f h i k:LA) (l e:List UInt8) (b a c d:LA):=(xpR j g f h i k l e b a c d).snd
def xpP (j:List UInt8) (g f h i k:LA) (l e:List UInt8) (b a c d:LA):=(xpQ j g f h i k l e b a c d).snd
def xpO (j:List UInt8) (g f h i k:LA) (l e:List UInt8) (b a c d:LA):=(xpP j g f h i k l e b a c d).snd
def xpM (j:List UInt8) (g f h i k:LA) (l e:List UInt8) (b a c d:LA):=(xpO j g f h i k l e b a c d).fst
def xpN (j:List UInt8) (g f h i k:LA) (l e:List UInt8) (b a c d:LA):=(xpO j g f h i k l e b a c d).snd
def xrh (j:List UInt8) (g f h i k:LA) (l e:List UInt8) (b a c d:LA):=(xpN j g f h i k l e b a c d).snd
def xri (j:List UInt8) (g f h i k:LA) (l e:List UInt8) (b a c d:LA):=(xpN j g f h i k l e b a c d).fst
def xrf (j:List UInt8) (g f h i k:LA) (l e:List UInt8) (b a c d:LA):=(xrh j g f h i k l e b a c d).snd
def xrg (j:List UInt8) (g f h i k:LA) (l e:List UInt8) (b a c d:LA):=(xrh j g f h i k l e b a c d).fst
def xrd (j:List UInt8) (g f h i k:LA) (l e:List UInt8) (b a c d:LA):=(xrf j g f h i k l e b a c d).fst
def xre (j:List UInt8) (g f h i k:LA) (l e:List UInt8) (b a c d:LA):=(xrf j g f h i k l e b a c d).snd
def xrb (j:List UInt8) (g f h i k:LA) (l e:List UInt8) (b a c d:LA):=xeA (xpM j g f h i k l e b a c d) (xri j g f h i k l e b a c d) (xrg j g f h i k l e b a c d) (xrd j g f h i k l e b a c d) (xre j g f h i k l e b a c d)
def xra (j:List UInt8) (g f h i k:LA) (l e:List UInt8) (b a c d:LA):=Iter (xdE ((xrc j g f h i k l e b a c d).getD []) ((xrb j g f h i k l e b a c d).getD [])) (0,(xpQ j g f h i k l e b a c d).fst,(xpP j g f h i k l e b a c d).fst,xpM j g f h i k l e b a c d,xri j g f h i k l e b a c d,xrg j g f h i k l e b a c d,xrd j g f h i k l e b a c d,xre j g f h i k l e b a c d)
def xq9 (j:List UInt8) (g f h i k:LA) (l e:List UInt8) (b a c d:LA):=(xra j g f h i k l e b a c d).getD (false,false,())
def xsN {T:Type} (j:List UInt8) (g f h i k:LA) (l e:List UInt8) (b a c d:LA) (δ:T) (κ:Bool->T):T:=br ((xfL j g f h i).isSome) (br ((xfL j g f h i).getD 0 != 0) (κ (false)) (br ((xfL e b a c d).isSome) (br ((xfL e b a c d).getD 0 != 0) (κ (false)) (br ((↑k.length:Int) != (↑a.length:Int)) (κ (false)) (br ((xpX j g f h i k l e b a c d).isSome) (br (!(xpW j g f h i k l e b a c d).fst) (κ (false)) (br ((xrc j g f h i k l e b a c d).isSome) (br ((xrb j g f h i k l e b a c d).isSome) (br ((xra j g f h i k l e b a c d).isSome) (br ((xq9 j g f h i k l e b a c d).fst) (κ ((xq9 j g f h i k l e b a c d).snd.fst)) (κ (true))) δ) δ) δ)) δ))) δ)) δ
def xrV (j:List UInt8) (g f h i k:LA) (l e:List UInt8) (b a c d:LA):=xsN j g f h i k l e b a c d none some
def xK0:EO:=xCk.f Tryz.func29 76 0 [] [(5,xmX.lp),(12,xsM.lp)] (lks (lkC xmX.ok (lkC xsM.ok lkN))) (u3 (xNU (u5 (sEq pStr) (uL 3) (uL 1) (uL 2) (uL 7))) (xNU (u2 (uL 1) (sEq pStr))) (xNU (u5 (sEq pStr) (uL 3) (uL 1) (uL 2) (uL 7)))) (fun ((k,h,g,i,j,_),(l,m,_),(e,b,a,c,d,_),_) _=>xsN k h g i j l m e b a c d) (fun _ p=>AV.bool p) false
def xpY {T:Type} (a:LA) (c:List UInt8) (b:LA) (δ:T) (κ:Bool->T):T:=br ((xmj b a).isSome) (κ (!(xmj b a).getD false)) δ
def xh9 (a:LA) (b:List UInt8) (c:LA):=xpY a b c none some
def xK1:EO:=xK0.f Tryz.func37 10 0 [] [] lk0 (u2 (xNU (u2 (uL 1) (sEq pStr))) (uL 3)) (fun ((a,b,_),c,_) _=>xpY a b c) (fun _ p=>AV.bool p) false
def xc5 (l:LA) (i:Int):=ixI l i
def xgp (l g:LA) (i:Int) (f:LA) (a:List UInt8) (b c d e:LA):=xhT [AV.agg [AV.int .i64 (gC l i 1).toInt,AV.int .i64 (gC l i 2).toInt]] ((xfX a b c d e g ((xfF (gC l i 0).toList f).getD [])).getD [])
def xec (l:LA) (i:Int):=decide (i.toNat<l.length)&&xMT (Sh.list 3) (gC l i 0)
def xgo (l g:LA) (i:Int) (f:LA) (a:List UInt8) (b c d e:LA):=xh8 (gC l i 0).toList ((xgp l g i f a b c d e).getD [])
def xgn (l g:LA) (i:Int) (f:LA) (a:List UInt8) (b c d e:LA):=(xgo l g i f a b c d e).getD []
def xeb (l h:LA) (f:Nat) (i:Int) (g:LA) (a:List UInt8) (b c d e:LA):=f+(xgn l h i g a b c d e).length
def xgZ {T:Type} (l j:LA) (g:Nat) (i:Int) (f:LA) (k a:List UInt8) (b c d e h:LA) (δ:T) (κl:(Nat×Int×LA×List UInt8×List UInt8×LA×LA×LA×LA×LA)->T) (κr:(Nat×LA)->T):T:=br (decide (i<l.length)) (br (xc5 l i) (br (xec l i) (br ((xh9 f k (gC l i 0).toList).isSome) (br (!(xh9 f k (gC l i 0).toList).getD false) (κl (g,i64.wrap (i+1),f,k,a,b,c,d,e,h)) (br (xc5 l i) (br (xec l i) (br ((xfF (gC l i 0).toList f).isSome) (br ((xfX a b c d e j ((xfF (gC l i 0).toList f).getD [])).isSome) (br (xc5 l i) (br (xec l i) (br (xc5 l i) (br (ixT l i 3 [Sh.int .i64,Sh.int .i64] 1) (br ((xgp l j i f a b c d e).isSome) (br ((xgo l j i f a b c d e).isSome) (br (g==h.length&&(decide (xeb l j g i f a b c d e*40<=140737488355328)&&decide (xeb l j g i f a b c d e<=4611686018427387904))) (κl (xeb l j g i f a b c d e,i64.wrap (i+1),f,k,a,b,c,d,e,h++xgn l j i f a b c d e)) δ) δ) δ) δ) δ) δ) δ) δ) δ) δ) δ)) δ) δ) δ) (κr (g,h))
def xb8 (l k:LA):StT (Nat×Int×LA×List UInt8×List UInt8×LA×LA×LA×LA×LA) (Nat×LA):=fun (g,i,h,j,a,b,c,d,e,f)=>xgZ l k g i h j a b c d e f none inL inR
def xm1 (f:LA) (g:List UInt8) (l:LA) (e:List UInt8) (b a c d h:LA):=Iter (xb8 l h) (0,0,f,g,e,b,a,c,d,[])
def xm0 (f:LA) (g:List UInt8) (l:LA) (e:List UInt8) (b a c d h:LA):=(xm1 f g l e b a c d h).getD (0,[])
def xmZ (f:LA) (g:List UInt8) (l:LA) (e:List UInt8) (b a c d h:LA):=(xm0 f g l e b a c d h).snd
def xmx (f:LA) (g:List UInt8) (l:LA) (e:List UInt8) (b a c d h:LA):=(xm0 f g l e b a c d h).fst
def xmY (f:LA) (g:List UInt8) (l:LA) (e:List UInt8) (b a c d h:LA):=xwb (List.take (xmx f g l e b a c d h) (List.drop 0 (xmZ f g l e b a c d h)))
def xtj {T:Type} (f:LA) (g:List UInt8) (l:LA) (e:List UInt8) (b a c d h:LA) (δ:T) (κ:LA->T):T:=br ((xm1 f g l e b a c d h).isSome) (br (decide (0+xmx f g l e b a c d h<=(xmZ f g l e b a c d h).length)&&true) (br ((xmY f g l e b a c d h).isSome) (κ ((xmY f g l e b a c d h).getD [])) δ) δ) δ
def xrj (f:LA) (g:List UInt8) (l:LA) (e:List UInt8) (b a c d h:LA):=xtj f g l e b a c d h none some
def xKH:EO:=xGI.w xwi
def xCc:EO:=xKH.w xvw
def xjt:Env:=xCc.E.fn 24 1 (lsOf [8000000]) (xNg [])
theorem xAm:xMV P0 (xNC.at 1) xjt:=xCc.ok.fn
theorem xyC:LoOk P0 (xNC.at xjt.pin) xjt (Tryz.f33.body.getD .skip):=xmE (by kernel_rfl)
def xhk (r a:LA) (b:List UInt8):=(xfP ((xdY a b r).getD ([],false)).fst).getD []
def xju (r a:LA) (c:List UInt8) (b:LA):=((b.getD (putIx b (xhk r a c)) .top).cells.getD 1 .top).toList.length
def xtF (r a:LA) (c:List UInt8) (b:LA):=xNA 2 ((b.getD (putIx b (xhk r a c)) .top).cells.getD 1 .top)
def xtE (r:LA) (f t:Int) (a:LA) (c:List UInt8) (b:LA):=xd8 [AV.agg [AV.int .i64 f,AV.int .i64 t]] (List.take (xju r a c b) (List.drop 0 ((b.getD (putIx b (xhk r a c)) .top).cells.getD 1 .top).toList))
def xnO {T:Type} (r:LA) (f t:Int) (a:LA) (b:List UInt8) (c:LA) (δ:T) (κ:Bool×(LA)×(LA×LA)->T):T:=br ((xdY a b r).isSome) (br (!((xdY a b r).getD ([],false)).snd) (κ (true,(c),([],[]))) (br ((xfP ((xdY a b r).getD ([],false)).fst).isSome) (br (decide ((xhk r a b).length<=4611686018427387904)) (br (xNo c (xhk r a b)) (br (xtF r a b c) (br (decide (putIx c (xhk r a b)<c.length)&&(xtF r a b c&&2*xju r a b c==2*xju r a b c)&&decide (0+xju r a b c<=xju r a b c)&&true) (br ((xtE r f t a b c).isSome) (κ (false,[],((xtE r f t a b c).getD [],c))) δ) δ) δ) (br ((xd8 [AV.agg [AV.int .i64 f,AV.int .i64 t]] []).isSome) (κ (false,[],((xd8 [AV.agg [AV.int .i64 f,AV.int .i64 t]] []).getD [],c))) δ)) δ) δ)) δ
def missing1 (r:LA) (f t:Int) (a:LA) (b:List UInt8) (c:LA):=xnO r f t a b c none some
theorem xF1 (r:LA) (f t:Int) (a:LA) (b:List UInt8) (xs:LA):Enc (fun (p:Bool×(LA)×(LA×LA))=>((br p.1 ((AV.nils,([⟨0,2,1208926125859592950775808,p.2.1,true,true⟩]:List Box))) ((AV.list 2 p.2.2.1,([⟨0,2,1208926125859592950775808,p.2.2.2,true,true⟩]:List Box)))):(AV×List Box))) (missing1 r f t a b xs) (XFM P0 xjt Tryz.f33 (Tryz.f33.body.getD .skip) [AV.agg [AV.list 3 r,AV.int .i64 f,AV.int .i64 t],AV.eptr 2 [AV.agg [AV.list 1 a,AV.str b]] 0 0,AV.func (1099511627776:FuncId) [AV.own (0:Id) 0 0 0]] [{ ver:=0,sz:=2,ty:=(1208926125859592950775808:TypeId),xs:=xs,frz:=true,pm:=true }]):=by
 have h:XFM P0 xjt Tryz.f33 (Tryz.f33.body.getD .skip) [AV.agg [AV.list 3 r,AV.int .i64 f,AV.int .i64 t],AV.eptr 2 [AV.agg [AV.list 1 a,AV.str b]] 0 0,AV.func (1099511627776:FuncId) [AV.own (0:Id) 0 0 0]] [{ ver:=0,sz:=2,ty:=(1208926125859592950775808:TypeId),xs:=xs,frz:=true,pm:=true }]=xnO r f t a b xs none (fun (p:Bool×(LA)×(LA×LA))=>some ((br p.1 ((AV.nils,([⟨0,2,1208926125859592950775808,p.2.1,true,true⟩]:List Box))) ((AV.list 2 p.2.2.1,([⟨0,2,1208926125859592950775808,p.2.2.2,true,true⟩]:List Box)))):(AV×List Box))):=by kernel_rfl
 rw [h];unfold missing1 xnO;repeat' (first|refine Enc.br ?_ ?_|exact Enc.none|exact Enc.some rfl)
def xft (r:LA) (f t:Int) (a:LA) (b:List UInt8) (c:LA):Option (LA×LA):=(missing1 r f t a b c).map fun p=>br p.1 ([],p.2.1) p.2.2
def xF0:LA->List Box->Option (Bool×AV×List Box):=omOf (xNE (xNU (xNE (xNT 3 xNH) (xNE (sEq (pInt .i64)) (xNE (sEq (pInt .i64)) xNG)))) (xNE (sEq (xNW 2 0 0 (xND (xNR (xND (xNV 1 xNH) (xND pStr xNF))) xNF))) (xNE (sEq (xNh (1099511627776:FuncId) (xND (xNQ 0 0 0 0) xNF))) xNG))) (xND (xNS 0 2 (1208926125859592950775808:TypeId) true true xNH) xNF) fun ((r,(f,(t,_))),(((a,(b,_)),_),((_,_),_))) (c,_)=>((xft r f t a b c).isSome,(AV.list 2 ((xft r f t a b c).getD ([],[])).1,([⟨0,2,1208926125859592950775808,((xft r f t a b c).getD ([],[])).2,true,true⟩]:List Box)))
theorem xFx:OmOk P0 xNC 33 (xF0):=xul fun h i l k j=>by
 obtain ⟨⟨r,⟨f,⟨t,_⟩⟩⟩,⟨⟨⟨c,⟨e,_⟩⟩,_⟩,⟨⟨_,_⟩,_⟩⟩⟩:=h;obtain ⟨g,_⟩:=i;obtain ⟨d,a⟩:=Prod.mk.inj j;unfold xft at d a;cases hf:missing1 r f t c e g with
 | none=>rw [hf] at d;simp at d
 | some p =>
  rw [hf] at a;have hx:=xF1 r f t c e g p hf;have hg:GoodM P0 xNC 33 _ _ _ _:=xiw (p:=xjt.pin) (xkv xM3 (xM4 P0 _) rfl xAm rfl Tryz.func33 rfl (by kernel_rfl) xyC hx)
  obtain ⟨b,m,n,o⟩:=p;cases b with
  | true =>
   obtain ⟨rfl,rfl⟩:=Prod.mk.inj a;exact GoodM.subR hg (xyY 2)
  | false =>
   obtain ⟨rfl,rfl⟩:=Prod.mk.inj a;exact hg
def xvD:EO:=xCc.wM xFx
def xae (a:List UInt8) (b c d e f:LA) (g:Int):=(xfP ((xoE a b c d e (gC f g 0).toList).getD [])).getD []
def xb4 (a:List UInt8) (b c d e f:LA) (g:Int):=decide ((xae a b c d e f g).length<=4611686018427387904)
def xat (a:List UInt8) (b c d e g:LA) (h:Int) (f:LA):=((f.getD (putIx f (xae a b c d e g h)) .top).cells.getD 1 .top).toList.length
def xdm (a:List UInt8) (b c d e g:LA) (h:Int) (f:LA):=((f.getD (putIx f (xae a b c d e g h)) .top).cells.getD 1 .top).toList++[AV.agg [AV.int .i64 (gC g h 1).toInt,AV.int .i64 (gC g h 2).toInt]]
def xb5 (a:List UInt8) (b c d e g:LA) (h:Int) (f:LA):=f.set (putIx f (xae a b c d e g h)) (AV.agg (List.take 1 (f.getD (putIx f (xae a b c d e g h)) .top).cells++[AV.int .i64 (↑(xat a b c d e g h f):Int)]++List.drop 2 (f.getD (putIx f (xae a b c d e g h)) .top).cells))
def xbo (a:List UInt8) (b c d e g:LA) (h:Int) (f:LA):=xat a b c d e g h f+1
def xdO {T:Type} (l j:LA) (k a:List UInt8) (b c d e h:LA) (i g:Int) (f:LA) (δ:T) (κl:(Int×LA)->T) (κr:(LA)->T):T:=br (decide (g<i)) (br (ixI h g) (br (ixT h g 3 [Sh.list 3,Sh.int .i64,Sh.int .i64] 0) (br ((xoE a b c d e (gC h g 0).toList).isSome) (br ((xfP ((xoE a b c d e (gC h g 0).toList).getD [])).isSome) (br (xb4 a b c d e h g) (br (xNo f (xae a b c d e h g)) (br (xNA 2 ((f.getD (putIx f (xae a b c d e h g)) .top).cells.getD 1 .top)) (br (decide (putIx f (xae a b c d e h g)<f.length)&&(xNA 2 ((f.getD (putIx f (xae a b c d e h g)) .top).cells.getD 1 .top)&&((f.getD (putIx f (xae a b c d e h g)) .top).cells.length==2&&(2*xat a b c d e h g f==2*xat a b c d e h g f&&(xat a b c d e h g f==xat a b c d e h g f&&(xat a b c d e h g f==xat a b c d e h g f&&(decide (xbo a b c d e h g f*16<=140737488355328)&&decide (xbo a b c d e h g f<=4611686018427387904)))))))) (br (xbo a b c d e h g f==(xdm a b c d e h g f).length&&(decide ((xb5 a b c d e h g f).length<4611686018427387904)&&(xb4 a b c d e h g&&deadR (xb5 a b c d e h g f) (xae a b c d e h g) (xbo a b c d e h g f)))) (κl (i64.wrap (g+1),xNa (xb5 a b c d e h g f) (xae a b c d e h g) (AV.list 2 (xdm a b c d e h g f)))) δ) δ) δ) (br (decide (f.length<4611686018427387904)&&(xb4 a b c d e h g&&deadR f (xae a b c d e h g) 1)) (κl (i64.wrap (g+1),xNa f (xae a b c d e h g) (AV.list 2 [AV.agg [AV.int .i64 (gC h g 1).toInt,AV.int .i64 (gC h g 2).toInt]]))) δ)) δ) δ) δ) δ) δ) (κr (f))
def xa0 (l g:LA) (h a:List UInt8) (b c d e i:LA) (j:Int):StT (Int×LA) (LA):=fun (k,f)=>xdO l g h a b c d e i j k f none inL inR
def xeT:=xvD.l 67 0 [1000034,1000027,8000000] [] Tryz.f11 0 lk0 [1,4,6,9,20,21,22] [1,4,9] [(9,0,1073741824)] (q7 (qL 3) (xNW 2 0 0 (q1 (xNR (q2 (qL 1) pStr)))) (xNW 5 0 0 (q1 (xNR (q5 pStr (qL 3) (qL 1) (qL 2) (qL 7))))) (xNh 1099511627776 (q1 (xNQ 0 0 0 0))) (qL 3) qI qI) (q1 (qB 0 2 1208926125859592950775808 xNH)) (fun (l,((g,h,_),_),((a,b,c,d,e,_),_),(_,_),i,j,k,_) (f,_)=>(xa0 l g h a b c d e i j,(k,f),fun p=>(.leaf (.exit 0) [AV.list 3 l,AV.eptr 2 [AV.agg [AV.list 1 g,AV.str h]] 0 0,AV.func 1099511627776 [AV.own 0 0 0 0]] [bF 0 2 1208926125859592950775808 p]))) [] fun (l,((g,h,_),_),((a,b,c,d,e,_),_),(_,_),i,j,_,_) _ (k,f)=>(((l,((g,h,()),()),((a,b,c,d,e,()),()),((),()),i,j,k,()),(f,())),xdO l g h a b c d e i j k f none)
def xfp {T:Type} (f:LA) (g:List UInt8) (l:LA) (m n:Int) (d:LA) (i:Int) (c:Nat) (b:Int) (e a h:LA) (j k:Int) (δ:T) (κl:(Nat×Int×LA×LA×LA×Int×Int)->T) (κr:(Nat×LA×LA)->T):T:=br (decide (b<i)) (br (ixI d b) (br (ixT d b 2 [Sh.int .i64,Sh.int .i64] 0) (br (rmB c a 1 40) (κl (c+1,i64.wrap (b+1),e,a++[AV.agg [AV.list 3 h,AV.int .i64 (gC d b 0).toInt,AV.int .i64 (gC d b 1).toInt]],h,j,k)) δ) δ) δ) (κr (c,e,a))
def xbE (a:LA) (b:List UInt8) (f:LA) (g h:Int) (i:LA) (j:Int):StT (Nat×Int×LA×LA×LA×Int×Int) (Nat×LA×LA):=fun (d,k,e,c,l,m,n)=>xfp a b f g h i j d k e c l m n none inL inR
def xeU:=xvD.l 67 0 [1000034,1000027,8000000] [(3,xeT.lp)] Tryz.f11 2 lk0 [13,14,16,42,43,44,50,51,52] [13,14,42,43,44] [(14,3,54),(13,1,1073741824)] (q9 (xNh 33 (q2 (xNW 2 0 0 (q1 (xNR (q2 (qL 1) pStr)))) (xNh 1099511627776 (q1 (xNQ 0 0 0 0))))) (xNP 1 0 0) (xNQ 2 0 0 0) (qL 3) qI qI (qL 2) qI qI) (q3 (xNS 0 2 1208926125859592950775808 true true xNH) (qB 0 3 54 xNH) (qB 0 3 54 (q1 (xNR (q3 (qL 3) qI qI))))) (fun ((((a,b,_),_),(_,_),_),d,_,f,g,h,i,j,k,_) (e,c,((m,n,o,_),_),_)=>(xbE a b f g h i j,(d,k,e,c,m,n,o),fun p=>(.leaf (.exit 4) [AV.func 33 [AV.eptr 2 [AV.agg [AV.list 1 a,AV.str b]] 0 0,AV.func 1099511627776 [AV.own 0 0 0 0]],AV.osl 1 0 0 p.1,AV.list 3 f,AV.int .i64 g,AV.int .i64 h] [⟨0,2,1208926125859592950775808,p.2.1,true,true⟩,bF 0 3 54 p.2.2]))) (0,[],[]) fun ((((a,b,_),_),(_,_),_),_,_,f,g,h,i,j,_,_) _ (d,k,e,c,m,n,o)=>((((((a,b,()),()),((),()),()),d,(),f,g,h,i,j,k,()),(e,c,((m,n,o,()),()),())),xfp a b f g h i j d k e c m n o none)
def xhQ (a:LA) (b:List UInt8) (c:LA) (d:Int) (e:LA):=xft (gC c d 0).toList (gC c d 1).toInt (gC c d 2).toInt a b e
def xhP (a:LA) (b:List UInt8) (d:LA) (e:Int) (c:LA):=(xhQ a b d e c).getD ([],[])
def xhO (a:LA) (b:List UInt8) (d:LA) (e:Int) (c:LA):=(xhP a b d e c).fst
def xhN (a:LA) (b:List UInt8) (c:LA) (h:Int) (g:Nat) (d:Int) (e f:LA):=Iter (xbE a b c h d (xhO a b c d e) (↑(xhO a b c d e).length:Int)) (g,0,(xhP a b c d e).snd,f,(gC c d 0).toList,(gC c d 1).toInt,(gC c d 2).toInt)
def xhM (a:LA) (b:List UInt8) (f:LA) (g:Int) (d:Nat) (h:Int) (e c:LA):=(xhN a b f g d h e c).getD (0,[],[])
def xhL (a:LA) (b:List UInt8) (f:LA) (g:Int) (d:Nat) (h:Int) (e c:LA):=(xhM a b f g d h e c).snd
def xfo {T:Type} (a:LA) (b:List UInt8) (g:LA) (h:Int) (d:Nat) (e:Int) (f c:LA) (δ:T) (κl:(Nat×Int×LA×LA)->T) (κr:(Nat×LA)->T):T:=br (decide (e<h)) (br (ixI g e) (br (ixT g e 3 [Sh.list 3,Sh.int .i64,Sh.int .i64] 0) (br ((xhQ a b g e f).isSome) (br ((xhN a b g h d e f c).isSome) (κl ((xhM a b g h d e f c).fst,i64.wrap (e+1),(xhL a b g h d e f c).fst,(xhL a b g h d e f c).snd)) δ) δ) δ) δ) (κr (d,c))
def xbD (a:LA) (b:List UInt8) (f:LA) (g:Int):StT (Nat×Int×LA×LA) (Nat×LA):=fun (d,h,e,c)=>xfo a b f g d h e c none inL inR
def xm7:=xvD.l 67 0 [1000034,1000027,8000000] [(3,xeT.lp),(14,xeU.lp)] Tryz.f11 1 (lk1 xeU.ok) [13,14,42,43,44] [14] [(14,3,54),(13,1,1073741824)] (q5 (xNh 33 (q2 (xNW 2 0 0 (q1 (xNR (q2 (qL 1) pStr)))) (xNh 1099511627776 (q1 (xNQ 0 0 0 0))))) (xNP 1 0 0) (qL 3) qI qI) (q2 (xNS 0 2 1208926125859592950775808 true true xNH) (qB 0 3 54 xNH)) (fun ((((a,b,_),_),(_,_),_),d,f,g,h,_) (e,c,_)=>(xbD a b f g,(d,h,e,c),fun p=>(.leaf (.exit 2) [AV.osl 0 0 0 p.1] [bF 0 3 54 p.2]))) (0,[]) fun ((((a,b,_),_),(_,_),_),_,f,g,_,_) _ (d,h,e,c)=>((((((a,b,()),()),((),()),()),d,f,g,h,()),(e,c,())),xfo a b f g d h e c none)
def xku (f:LA) (g:List UInt8) (l:LA) (e:List UInt8) (b a c d h:LA):=Iter (xbD f g l (↑l.length:Int)) (0,0,(Iter (xa0 l f g e b a c d h (↑h.length:Int)) (0,[])).getD [],[])
def xkt (f:LA) (g:List UInt8) (l:LA) (e:List UInt8) (b a c d h:LA):=(xku f g l e b a c d h).getD (0,[])
def xkr (f:LA) (g:List UInt8) (l:LA) (e:List UInt8) (b a c d h:LA):=(xkt f g l e b a c d h).snd
def xks (f:LA) (g:List UInt8) (l:LA) (e:List UInt8) (b a c d h:LA):=(xkt f g l e b a c d h).fst
def xkq (f:LA) (g:List UInt8) (l:LA) (e:List UInt8) (b a c d h:LA):=xr4 (List.take (xks f g l e b a c d h) (List.drop 0 (xkr f g l e b a c d h)))
def xlr {T:Type} (f:LA) (g:List UInt8) (l:LA) (e:List UInt8) (b a c d h:LA) (δ:T) (κ:LA->T):T:=br ((Iter (xa0 l f g e b a c d h (↑h.length:Int)) (0,[])).isSome) (br ((xku f g l e b a c d h).isSome) (br (decide (0+xks f g l e b a c d h<=(xkr f g l e b a c d h).length)&&true) (br ((xkq f g l e b a c d h).isSome) (κ ((xkq f g l e b a c d h).getD [])) δ) δ) δ) δ
def xb1 (f:LA) (g:List UInt8) (l:LA) (e:List UInt8) (b a c d h:LA):=xlr f g l e b a c d h none some
def xwF:LA->Option (Bool×AV):=fnO (u4 (xNU (u2 (uL 1) (sEq pStr))) (uL 3) (xNU (u5 (sEq pStr) (uL 3) (uL 1) (uL 2) (uL 7))) (uL 3)) (fun ((f,g,_),l,(e,b,a,c,d,_),h,_) _=>xlr f g l e b a c d h) (fun _ p=>AV.list 3 p) []
theorem xrt:OcOk P0 xNC 11 xwF:=fnC xvD.ok Tryz.func11 67 0 [1000034,1000027,8000000] [(3,xeT.lp),(14,xeU.lp),(11,xm7.lp)] (lks (lkC xeT.ok (lkC xm7.ok (lkC xeU.ok lkN))))
def xKG:EO:=xvD.w xrt
def xny {T:Type} (f:LA) (g:List UInt8) (l:LA) (e:List UInt8) (b a c d h:LA) (δ:T) (κ:Bool->T):T:=br ((xb1 f g l e b a c d h).isSome) (κ ((↑((xb1 f g l e b a c d h).getD []).length:Int)==0)) δ
def xl4 (f:LA) (g:List UInt8) (l:LA) (e:List UInt8) (b a c d h:LA):=xny f g l e b a c d h none some
def xzi:LA->Option (Bool×AV):=fnO (u4 (xNU (u2 (uL 1) (sEq pStr))) (uL 3) (xNU (u5 (sEq pStr) (uL 3) (uL 1) (uL 2) (uL 7))) (uL 3)) (fun ((f,g,_),l,(e,b,a,c,d,_),h,_) _=>xny f g l e b a c d h) (fun _ p=>AV.bool p) false
theorem xzh:OcOk P0 xNC 13 xzi:=fnC xKG.ok Tryz.func13 16 0 [] [] lk0
end Go.Sim.M
end
noncomputable section
set_option maxRecDepth 100000
namespace Go.Sim
def stepX (P:Program) (E:Env) (live liveO:List Nat) (conv:List (Nat×Nat×TypeId)) (c:Code) (s:List AV×List Box):Option ((List AV×List Box)⊕{r:Exit×List AV×List Box // r.1≠.normal}) :=
 match XR P E live liveO conv c s.1 s.2 with
 | some (.normal,v,H)=>some (.inl (v,H))
 | some (.exit i,v,H)=>some (.inr ⟨(.exit i,v,H),by simp⟩)
 | some (.ret,v,H)=>some (.inr ⟨(.ret,v,H),by simp⟩)
 | _=>none
def closedLp (P:Program) (E:Env) (live liveO:List Nat) (conv:List (Nat×Nat×TypeId)) (c:Code) (n:Nat):Lp:=⟨live,liveO,conv,fun vals H =>
 match iterN (stepX P E live liveO conv c) n (vals,H) with
 | some r=>some (true,.leaf r.1.1 r.1.2.1 r.1.2.2)
 | none=>none⟩
theorem xlU {P:Program} {Inv:IV} {E:Env} (U:P.follows .mixedOrders=true) (J:InvOk Inv) (q:Inv.pin=E.pin) (Q:xMV P Inv E) {c:Code} (O:LoOk P Inv E c) {live liveO:List Nat} {conv:List (Nat×Nat×TypeId)} {n:Nat} :
  LoopOk P Inv E.nt c (closedLp P E live liveO conv c n):=fun vals H r h=>by
 simp only [closedLp] at h;split at h
 case h_2=>simp at h
 rename_i r0 hr;simp only [z6,zb,true_and] at h;subst h;exact xrO U J q Q O (σ:=List AV×List Box) (ρ:={r:Exit×List AV×List Box // r.1≠.normal}) (step:=stepX P E live liveO conv c) (fun s=>s) (fun r=>.leaf r.1.1 r.1.2.1 r.1.2.2) (fun r=>r.2)
  (fun s r hs=>by
   unfold stepX at hs;split at hs<;>simp only [z6,reduceCtorEq] at hs;all_goals (subst hs;rename_i hx;exact hx)) (s:=(vals,H)) (r:=r0) (xo9.2 ⟨n,hr⟩)
end Go.Sim
namespace Go.Sim.M
open Go.RowKit Go.Proofs
def mmA (g:FuncId):Bool:=([55,57,128,152,175,136,164,190,100,133,154,131,153,183,138,99,166,85,33]:List Nat).contains g
noncomputable def EA0:Env:={ E0 with ls:=lsOf [42,54,141],fuel:=1000 }
theorem xB9:xMV P0 xNC EA0:=xJm
noncomputable def runA (E:Env) (fn:Func):List AV->Option (Bool×AV):=fun xs=>match XF P0 E fn (fn.body.getD .skip) xs with
 | some r=>some (true,r)
 | none=>none
theorem xDz {E:Env} {f:FuncId} {fn:Func} (Q:xMV P0 (xNC.at 0) E) (J:E.pin=0) (hf:P0.funcs[f]?=some fn) (hb:fn.body.isSome=true) (q:(fn.name == "runtime.NumGoroutine")=false) (O:LoOk P0 (xNC.at 0) E (fn.body.getD .skip)):OcOk P0 xNC f (runA E fn):=fun xs r h=>by
 unfold runA at h;split at h
 case h_2=>simp at h
 rename_i r0 hr;simp only [z6,zb,true_and] at h;subst h;exact xfx (p:=0) (xjs xM3 (xM4 P0 _) J.symm Q hf hb q O hr)
noncomputable def EAr:Env:={ Env.deep P0 mmA EA0 10 with pin:=0,nt:=60,ls:=lsOf [] }
theorem xGB:xMV P0 (xNC.at 0) EAr:=xiM xM3 mmA (xM4 P0 0) xB9 (fun _=>rfl) 10
noncomputable def xGA:Lp:=closedLp P0 EAr [3,4,11,12,13] [4] [(4,2,189114876045)] (xMZ Tryz.f98 0) 100
noncomputable def EAr1:Env:={ EAr with lp:=xNg [(xM8 (xMZ Tryz.f98 0),xGA)] }
theorem xJy:xMV P0 (xNC.at 0) EAr1:=xGB
noncomputable def xFh:List AV->Option (Bool×AV):=runA EAr1 Tryz.f98
theorem xKc:OcOk P0 xNC 98 xFh:=xDz xJy rfl Tryz.func98 rfl (by kernel_rfl) (xhj (ls:=[xMZ Tryz.f98 0]) (by kernel_rfl) (fun l hl lp hs=>by
 simp only [zC,List.not_mem_nil,or_false] at hl;subst hl;rw [show EAr1.lp (xM8 (xMZ Tryz.f98 0))=some xGA by kernel_rfl] at hs
 cases hs;exact xlU (E:=EAr) xM3 (xM4 P0 _) rfl xGB (xeH fun _=>rfl)))
noncomputable def EAlv (p:Nat):Env:={ Env.deep P0 mmA EA0 6 with pin:=p,nt:=71,ls:=lsOf [] }
theorem xEz (p:Nat):xMV P0 (xNC.at p) (EAlv p):=xkD (xiM xM3 mmA (xM4 P0 0) xB9 (fun _=>rfl) 6)
noncomputable def xEy (p:Nat):Lp:=closedLp P0 (EAlv p) [0,1,2,3,4] [] [(3,0,0)] (xMZ Tryz.f99 0) 100
noncomputable def EAlv1 (p:Nat):Env:={ EAlv p with lp:=xNg [(xM8 (xMZ Tryz.f99 0),xEy p)] }
theorem xIo (p:Nat):xMV P0 (xNC.at p) (EAlv1 p):=xEz p
noncomputable def xCY:List AV->List Box->Option (Bool×AV×List Box):=fun xs H=>match XFM P0 (EAlv1 H.length) Tryz.f99 (Tryz.f99.body.getD .skip) xs H with
 | some (r,H')=>some (true,r,H')
 | none=>none
theorem xLi:OmOk P0 xNC 99 xCY:=fun xs H r H' h=>by
 unfold xCY at h;split at h
 case h_2=>simp at h
 rename_i r0 H0 hr;simp only [z6,zb,true_and] at h;obtain ⟨rfl,rfl⟩:=h;refine xiw (p:=H.length) (xkv xM3 (xM4 P0 _) rfl (xIo H.length) rfl Tryz.func99 rfl (by kernel_rfl) (xhj (ls:=[xMZ Tryz.f99 0,xMZ Tryz.f99 1]) (by kernel_rfl) (fun l hl lp hs=>?_)) hr)
 simp only [zC,List.not_mem_nil,or_false] at hl;rcases hl with rfl|rfl
 . rw [show (EAlv1 H.length).lp (xM8 (xMZ Tryz.f99 0))=some (xEy H.length) by kernel_rfl] at hs
   cases hs;exact xlU (E:=EAlv H.length) xM3 (xM4 P0 _) rfl (xEz H.length) (xeH fun _=>rfl)
 . rw [show (EAlv1 H.length).lp (xM8 (xMZ Tryz.f99 1))=none by kernel_rfl] at hs
   simp at hs
noncomputable def EAs:Env:=(EA0.with 98 xFh).withM 99 xCY
theorem xGC:xMV P0 xNC EAs:=(xB9.with xKc).withM xLi
noncomputable def EAd:Env:={ Env.deep P0 mmA EAs 14 with pin:=0 }
theorem xCa:xMV P0 (xNC.at 0) EAd:=xkD (xiM xM3 mmA (xM4 P0 0) xGC (fun _=>rfl) 14)
noncomputable def EAh:Env:={ EAd with ls:=lsOf [1000042] }
noncomputable def xHw:List AV->Option (Bool×AV):=runA EAh Tryz.f60
theorem xLd:OcOk P0 xNC 60 xHw:=xDz (E:=EAh) xCa rfl Tryz.func60 rfl (by kernel_rfl) (xeH fun _=>rfl)
noncomputable def EAs2:Env:=EAs.with 60 xHw
theorem xz6:xMV P0 xNC EAs2:=xGC.with xLd
noncomputable def EAm (p:Nat):Env:={ Env.deep P0 mmA EAs2 14 with pin:=p,nt:=24,ls:=lsOf [8000000] }
theorem xKw (p:Nat):xMV P0 (xNC.at p) (EAm p):=xkD (xiM xM3 mmA (xM4 P0 0) xz6 (fun _=>rfl) 14)
noncomputable def xC5:List AV->List Box->Option (Bool×AV×List Box):=fun xs H=>match XFM P0 (EAm H.length) Tryz.f33 (Tryz.f33.body.getD .skip) xs H with
 | some (r,H')=>some (true,(match r with|.nils=>.list 2 []|x=>x),H')
 | none=>none
theorem xLj:OmOk P0 xNC 33 xC5:=fun xs H r H' h=>by
 unfold xC5 at h;split at h
 case h_2=>simp at h
 rename_i r0 H0 hr;simp only [z6,zb,true_and] at h;obtain ⟨rfl,rfl⟩:=h;have hg:GoodM P0 xNC 33 xs H r0 H0:=xiw (p:=H.length) (xkv xM3 (xM4 P0 _) rfl (xKw H.length) rfl Tryz.func33 rfl (by kernel_rfl) (xeH fun _=>rfl) hr)
 refine GoodM.subR hg ?_;cases r0<;>first|exact Sub.refl _|exact xyY 2
noncomputable def EAn:Env:={ Env.deep P0 mmA (EAs2.withM 33 xC5) 14 with pin:=0,nt:=67,ls:=lsOf [1000034,1000027,8000000] }
theorem xy0:xMV P0 (xNC.at 0) EAn:=xkD (xiM xM3 mmA (xM4 P0 0) (xz6.withM xLj) (fun _=>rfl) 14)
noncomputable def xyx:Lp:=closedLp P0 EAn [1,4,6,9,20,21,22] [1,4,9] [(9,0,1073741824)] (xMZ Tryz.f11 0) 20
noncomputable def xvC:Lp:=closedLp P0 EAn [13,14,16,42,43,44,50,51,52] [13,14,42,43,44] [(14,3,54),(13,1,1073741824)] (xMZ Tryz.f11 2) 20
noncomputable def EAn1:Env:={ EAn with lp:=xNg [(3,xyx),(14,xvC)] }
noncomputable def xCb:Lp:=closedLp P0 EAn1 [13,14,42,43,44] [14] [(14,3,54),(13,1,1073741824)] (xMZ Tryz.f11 1) 20
noncomputable def EAn2:Env:={ EAn with lp:=xNg [(3,xyx),(14,xvC),(11,xCb)] }
theorem xKy:LoopOk P0 (xNC.at 0) EAn.nt (xMZ Tryz.f11 0) xyx:=xlU (E:=EAn) xM3 (xM4 P0 _) rfl xy0 (xeH fun _=>rfl)
theorem xGz:LoopOk P0 (xNC.at 0) EAn.nt (xMZ Tryz.f11 2) xvC:=xlU (E:=EAn) xM3 (xM4 P0 _) rfl xy0 (xeH fun _=>rfl)
theorem xKz:LoopOk P0 (xNC.at 0) EAn.nt (xMZ Tryz.f11 1) xCb:=xlU (E:=EAn1) xM3 (xM4 P0 _) rfl xy0 (xhj (ls:=[xMZ Tryz.f11 2]) (by kernel_rfl) (fun l hl lp hs=>by
 simp only [zC,List.not_mem_nil,or_false] at hl;subst hl;rw [show EAn1.lp (xM8 (xMZ Tryz.f11 2))=some xvC by kernel_rfl] at hs
 cases hs;exact xGz))
noncomputable def xE5 (xs:List AV):Option AV:=XF P0 EAn2 Tryz.f11 (Tryz.f11.body.getD .skip) xs
noncomputable def xE4:List AV->Option (Bool×AV):=ocOf (xNE (xNU (xNE (xNT (1:Nat) xNH) (xNE (sEq pStr) xNG))) (xNE (xNT (3:Nat) xNH) (xNE (xNU (xNE (sEq pStr) (xNE (xNT (3:Nat) xNH) (xNE (xNT (1:Nat) xNH) (xNE (xNT (2:Nat) xNH) (xNE (xNT (7:Nat) xNH) xNG)))))) (xNE (xNT (3:Nat) xNH) xNG)))) fun ((f_fc,(f_ft,_)),(l,((parent_tn,(parent_tcs,(parent_tkey,(parent_tfs,(parent_tck,_))))),(pl,_))))=>((xE5 [AV.agg [AV.list 1 f_fc,AV.str f_ft],AV.list 3 l,AV.agg [AV.str parent_tn,AV.list 3 parent_tcs,AV.list 1 parent_tkey,AV.list 2 parent_tfs,AV.list 7 parent_tck],AV.list 3 pl]).isSome,(xE5 [AV.agg [AV.list 1 f_fc,AV.str f_ft],AV.list 3 l,AV.agg [AV.str parent_tn,AV.list 3 parent_tcs,AV.list 1 parent_tkey,AV.list 2 parent_tfs,AV.list 7 parent_tck],AV.list 3 pl]).getD .top)
theorem xJW:OcOk P0 xNC 11 xE4:=xjv fun vv rr hh=>by
 obtain ⟨⟨f_fc,⟨f_ft,_⟩⟩,⟨l,⟨⟨parent_tn,⟨parent_tcs,⟨parent_tkey,⟨parent_tfs,⟨parent_tck,_⟩⟩⟩⟩⟩,⟨pl,_⟩⟩⟩⟩:=vv;obtain ⟨q,J⟩:=Prod.mk.inj hh;have hx:=xbN (d:=AV.top) q;refine xfx (p:=0) (xjs (E:=EAn2) xM3 (xM4 P0 _) rfl xy0 Tryz.func11 rfl (by kernel_rfl) ?_ (hx.trans (congrArg some J)))
 exact (xhj (ls:=[xMZ Tryz.f11 0,xMZ Tryz.f11 1,xMZ Tryz.f11 2]) (by kernel_rfl) (fun l hl lp hs=>by
 simp only [zC,List.not_mem_nil,or_false] at hl;rcases hl with rfl|rfl|rfl
 . rw [show EAn2.lp (xM8 (xMZ Tryz.f11 0))=some xyx by kernel_rfl] at hs
   cases hs;exact xKy
 . rw [show EAn2.lp (xM8 (xMZ Tryz.f11 1))=some xCb by kernel_rfl] at hs
   cases hs;exact xKz
 . rw [show EAn2.lp (xM8 (xMZ Tryz.f11 2))=some xvC by kernel_rfl] at hs
   cases hs;exact xGz))
noncomputable def EAc:Env:={ EAd with ls:=lsOf [] }
noncomputable def xEV:List AV->Option (Bool×AV):=runA EAc Tryz.f30
theorem xJN:OcOk P0 xNC 30 xEV:=xDz (E:=EAc) xCa rfl Tryz.func30 rfl (by kernel_rfl) (xeH fun _=>rfl)
end Go.Sim.M
end
noncomputable section
set_option maxRecDepth 100000
namespace Go.Sim.M
open Go.RowKit Go.Proofs
mutual
def eqV:AV->AV->Bool
 | .int k a,.int k' b=>decide (k=k')&&decide (a=b)
 | .bool a,.bool b=>a==b
 | .str a,.str b=>decide (a=b)
 | .list n a,.list m b=>Nat.beq n m&&eqVs a b
 | .agg a,.agg b=>eqVs a b
 | .nils,.nils=>true
 | _,_=>false
def eqVs:List AV->List AV->Bool
 | [],[]=>true
 | a::l,b::m=>eqV a b&&eqVs l m
 | _,_=>false
end
mutual
theorem xLb:∀ (a b:AV),eqV a b=true->a=b:=fun a b h=>by
 cases a<;>cases b<;>first|(simp [eqV] at h;done)|skip
 case nils.nils=>rfl
 all_goals simp only [eqV,zf,zl,beq_iff_eq] at h
 all_goals first|(rw [h.1,h.2];done)|(rw [h];done)|(rw [zg h.1,xwv _ _ h.2];done)|(rw [xwv _ _ h])
theorem xwv:∀ (a b:List AV),eqVs a b=true->a=b
 | [],[],_=>rfl
 | a::l,b::m,h=>by simp only [eqVs,zf] at h;rw [xLb a b h.1,xwv l m h.2]
 | [],_::_,h=>by simp [eqVs] at h
 | _::_,[],h=>by simp [eqVs] at h
end
def ptO (args:List AV) (r:AV):List AV->Option (Bool×AV):=fun xs=>match eqVs xs args with
 | true=>some (true,r)
 | false=>none
theorem xF4 {P:Program} {Inv:IV} {f:FuncId} {args:List AV} {r:AV} (h:Good P Inv f args r):OcOk P Inv f (ptO args r):=fun xs r0 h0=>by
 unfold ptO at h0;split at h0
 case h_2=>simp at h0
 rename_i he;simp only [z6,zb,true_and] at h0;subst h0;rw [xwv _ _ he];exact h
def vI (n:Int):AV:=.agg [.int .i64 1,.int .i64 n,.str []]
def vN:AV:=.agg [.int .i64 0,.int .i64 0,.str []]
def fA (f t:Int) (r:List AV):AV:=.agg [.list 3 r,.int .i64 f,.int .i64 t]
def frA:AV:=.agg [.list 1 [.int .i64 1],.str [112]]
def colA (n:UInt8) (b:Bool):AV:=.agg [.str [n],.int .i64 1,.bool b]
def paA:AV:=.agg [.str [112],.list 3 [colA 97 false],.list 1 [.int .i64 0],.nils,.nils]
def liA:AV:=.list 3 [fA 0 9 [vI 1,vI 7],fA 0 9 [vI 2,vN]]
def plA:AV:=.list 3 [fA 0 4 [vI 7],fA 6 1099511627776 [vI 7]]
def reA:AV:=.list 3 [fA 4 6 [vI 1,vI 7]]
def deA:AV:=.list 3 [fA 0 9 [vI 1,vI 7]]
def cuA:AV:=.list 3 [fA 3 5 [vI 1,vI 7]]
theorem xJY:xE4 [frA,liA,paA,plA]=some (true,reA):=by kernel_rfl
theorem xJX:OcOk P0 xNC 11 (ptO [frA,liA,paA,plA] reA):=xF4 (xJW _ _ xJY)
theorem xAY {f:FuncId} {fn:Func} {args:List AV} {r:AV} (hf:P0.funcs[f]?=some fn) (hb:fn.body.isSome=true) (q:(fn.name == "runtime.NumGoroutine")=false) (h:XF P0 EAd fn (fn.body.getD .skip) args=some r):Good P0 xNC f args r :=
 xfx (p:=0) (xjs xM3 (xM4 P0 _) rfl xCa hf hb q (xeH fun _=>rfl) h)
theorem xLr:XF P0 EAd Tryz.f41 (Tryz.f41.body.getD .skip) [reA]=some reA:=by kernel_rfl
theorem xLq:OcOk P0 xNC 41 (ptO [reA] reA):=xF4 (xAY Tryz.func41 rfl (by kernel_rfl) xLr)
theorem xKb:XF P0 EAd Tryz.f44 (Tryz.f44.body.getD .skip) [deA,.agg [.int .i64 3,.int .i64 5]]=some cuA:=by kernel_rfl
theorem xKa:OcOk P0 xNC 44 (ptO [deA,.agg [.int .i64 3,.int .i64 5]] cuA):=xF4 (xAY Tryz.func44 rfl (by kernel_rfl) xKb)
noncomputable def EAv:Env:=(((EAs2.with 11 (ptO [frA,liA,paA,plA] reA)).with 41 (ptO [reA] reA)).with 44 (ptO [deA,.agg [.int .i64 3,.int .i64 5]] cuA)).with 30 xEV
theorem xKA:xMV P0 xNC EAv:=(((xz6.with xJX).with xLq).with xKa).with xJN
noncomputable def EAe:Env:={ Env.deep P0 mmA EAv 14 with pin:=0,ls:=lsOf [42,54,141,34,9000027,7000027,5000035,6000001,6000003] }
theorem xKv:xMV P0 (xNC.at 0) EAe:=xkD (xiM xM3 mmA (xM4 P0 0) xKA (fun _=>rfl) 14)
end Go.Sim.M
end
noncomputable section
set_option maxRecDepth 100000
namespace Go.Sim.M
open Go.RowKit Go.Proofs
theorem xJE:XF P0 EAe Tryz.f9 (Tryz.f9.body.getD .skip) []=some (.bool true):=by kernel_rfl
def xEG:List AV->Option (Bool×AV)
 | []=>some (true,.bool true)
 | _=>none
theorem xJD:OcOk P0 xNC 9 xEG:=fun xs r h=>by
 unfold xEG at h;split at h
 . simp only [z6,zb,true_and] at h;subst h;exact xfx (p:=0) (xjs xM3 (xM4 P0 _) rfl xKv Tryz.func9 rfl (by kernel_rfl) (xeH fun _=>rfl) xJE)
 . simp at h
end Go.Sim.M
end
noncomputable section
set_option maxRecDepth 100000
namespace Go.Sim.M
open Go.IntKind (i64 u64 u8)
open Go.RowKit Go.Proofs
def xKI:EO:=xK1.w xrt
def xKJ:EO:=xKI.w xzh
def xKK:EO:=xKJ.w xJD
def xsa {T:Type} (j:List UInt8) (c d a g:LA) (k:List UInt8) (e f h i:LA) (b:Int) (l m:LA) (δ:T) (κ:Bool->T):T:=br (decide ((↑c.length:Int)>12)) (κ (false)) (br (decide ((↑e.length:Int)>12)) (κ (false)) (br (decide (b<0)) (κ (false)) (br (decide (b>=a.length)) (κ (false)) (br ((xnd l 14).isSome) (br (!(xnd l 14).getD false) (κ (false)) (br ((xnd m 14).isSome) (br (!(xnd m 14).getD false) (κ (false)) (br ((xgD j c d a g l).isSome) (br ((xgD j c d a g l).getD false) (br ((xgD k e f h i m).isSome) (br ((xgD k e f h i m).getD false) (br (ixI a b) (br (ixT a b 2 [Sh.list 1,Sh.str] 0) (br ((xrV j c d a g (gC a b 0).toList (gC a b 1).toStr k e f h i).isSome) (κ ((xrV j c d a g (gC a b 0).toList (gC a b 1).toStr k e f h i).getD false)) δ) δ) δ) (κ (false))) δ) (κ (false))) δ)) δ)) δ))))
def xrN (i:List UInt8) (c a d e:LA) (j:List UInt8) (f b g h:LA) (k:Int) (l m:LA):=xsa i c a d e j f b g h k l m none some
def xCd:EO:=xKK.f Tryz.func8 67 0 [1000030] [] lk0 (u1 (xNU (xNE (sEq pStr) (xNE (uL 3) (xNE (uL 1) (xNE (uL 2) (xNE (uL 7) (xNE (sEq pStr) (u7 (uL 3) (uL 1) (uL 2) (uL 7) uI (uL 3) (uL 3)))))))))) (fun ((j,c,a,d,e,k,g,b,h,i,l,m,n,_),_) _=>xsa j c a d e k g b h i l m n) (fun _ p=>AV.bool p) false
def xiI (f g h:LA) (a:List UInt8) (b c d e:LA) (i k:Int):=xaL ((xfF (gC f i 0).toList h).getD []) ((xkK a b c d e (gC g k 0).toList).getD [])
def xgj {T:Type} (g f j:LA) (l a:List UInt8) (b c d e:LA) (i:Int) (h:Bool) (k:Int) (δ:T) (κl:(Bool×Int)->T) (κr:(Bool)->T):T:=br (decide (k<f.length)) (br (h) (κl (true,i64.wrap (k+1))) (br (ixI g i) (br (ixS g i (Sh.list 3) 0) (br ((xfF (gC g i 0).toList j).isSome) (br (ixI f k) (br (ixS f k (Sh.list 3) 0) (br ((xkK a b c d e (gC f k 0).toList).isSome) (br ((xiI g f j a b c d e i k).isSome) (κl ((xiI g f j a b c d e i k).getD 0==0,i64.wrap (k+1))) δ) δ) δ) δ) δ) δ) δ)) (κr (h))
def xda (g h j:LA) (l a:List UInt8) (b c d e:LA) (i:Int):StT (Bool×Int) (Bool):=fun (f,k)=>xgj g h j l a b c d e i f k none inL inR
def xfs:=xCd.l 51 0 [1000034,1000027] [] Tryz.f21 1 lk0 [1,3,4,6,9,10,11] [1,3,4,6,9,10] [] (q7 (qL 1) (qL 1) (xNW 2 0 0 (q1 (xNR (q2 (qL 1) pStr)))) (xNW 5 0 0 (q1 (xNR (q5 pStr (qL 3) (qL 1) (qL 2) (qL 7))))) qI pBool qI) xNF (fun (g,h,((j,m,_),_),((a,b,c,d,e,_),_),i,f,k,_) _=>(xda g h j m a b c d e i,(f,k),fun p=>(.leaf (.exit 2) [AV.list 1 g,AV.list 1 h,AV.eptr 2 [AV.agg [AV.list 1 j,AV.str m]] 0 0,AV.eptr 5 [AV.agg [AV.str a,AV.list 3 b,AV.list 1 c,AV.list 2 d,AV.list 7 e]] 0 0,AV.int .i64 i,AV.bool p] []))) false fun (g,h,((j,m,_),_),((a,b,c,d,e,_),_),i,_,_,_) _ (f,k)=>(((g,h,((j,m,()),()),((a,b,c,d,e,()),()),i,f,k,()),()),xgj g h j m a b c d e i f k none)
def xiH (f j g:LA) (h a:List UInt8) (b c d e:LA) (i:Int):=Iter (xda f j g h a b c d e i) (!(xh9 g h (gC f i 0).toList).getD false,0)
def xgi {T:Type} (a g h:LA) (j b:List UInt8) (c d e f:LA) (i:Int) (δ:T) (κl:(Int)->T) (κr:(Bool×(Bool)×(Unit))->T):T:=br (decide (i<a.length)) (br (ixI a i) (br (ixS a i (Sh.list 3) 0) (br ((xh9 h j (gC a i 0).toList).isSome) (br ((xiH a g h j b c d e f i).isSome) (br (!(xiH a g h j b c d e f i).getD false) (κr (true,(false),())) (κl (i64.wrap (i+1)))) δ) δ) δ) δ) (κr (false,false,()))
def xaR (f g h:LA) (j a:List UInt8) (b c d e:LA):StT (Int) (Bool×(Bool)×(Unit)):=fun (i)=>xgi f g h j a b c d e i none inL inR
def xnM:=xCd.l 51 0 [1000034,1000027] [(6,xfs.lp)] Tryz.f21 0 (lk1 xfs.ok) [1,3,4,6,9] [8] [] (q5 (qL 1) (qL 1) (xNW 2 0 0 (q1 (xNR (q2 (qL 1) pStr)))) (xNW 5 0 0 (q1 (xNR (q5 pStr (qL 3) (qL 1) (qL 2) (qL 7))))) qI) xNF (fun (f,g,((h,j,_),_),((a,b,c,d,e,_),_),i,_) _=>(xaR f g h j a b c d e,(i),fun p=>(.node p.1 (.leaf .ret [AV.bool p.2.1] []) (.leaf (.exit 0) [.top] [])))) (false,false,()) fun (f,g,((h,j,_),_),((a,b,c,d,e,_),_),_,_) _ (i)=>(((f,g,((h,j,()),()),((a,b,c,d,e,()),()),i,()),()),xgi f g h j a b c d e i none)
def xmD {T:Type} (f:LA) (g:List UInt8) (h:LA) (e:List UInt8) (b a c d i:LA) (δ:T) (κ:Bool->T):T:=br ((Iter (xaR h i f g e b a c d) 0).isSome) (br (((Iter (xaR h i f g e b a c d) 0).getD (false,false,())).fst) (κ (((Iter (xaR h i f g e b a c d) 0).getD (false,false,())).snd.fst)) (κ (true))) δ
def xk4 (f:LA) (g:List UInt8) (h:LA) (e:List UInt8) (b a c d i:LA):=xmD f g h e b a c d i none some
def xGG:EO:=xCd.f Tryz.func21 51 0 [1000034,1000027] [(6,xfs.lp),(2,xnM.lp)] (lks (lkC xnM.ok (lkC xfs.ok lkN))) (u4 (xNU (u2 (uL 1) (sEq pStr))) (uL 1) (xNU (u5 (sEq pStr) (uL 3) (uL 1) (uL 2) (uL 7))) (uL 1)) (fun ((g,h,_),i,(e,b,a,c,d,_),j,_) _=>xmD g h i e b a c d j) (fun _ p=>AV.bool p) false
def xeG (c:List UInt8) (d e f g a b h:LA) (j:List UInt8) (k:LA) (i:Int):=xk4 h j ((xfa a (gC k i 0).toInt).getD []) c d e f g ((xfa b (gC k i 0).toInt).getD [])
def xbL {T:Type} (t:Int) (n:List UInt8) (o p q r:LA) (e:List UInt8) (f g h j:LA) (m:Int) (b c k:LA) (l:List UInt8) (a:LA) (d:Bool) (i:Int) (δ:T) (κl:(Bool×Int)->T) (κr:(Bool)->T):T:=br (decide (i<a.length)) (br (d) (br (ixI a i) (br (ixS a i (Sh.int .i64) 0) (br ((xfa b (gC a i 0).toInt).isSome) (br (ixI a i) (br (ixS a i (Sh.int .i64) 0) (br ((xfa c (gC a i 0).toInt).isSome) (br ((xeG e f g h j b c k l a i).isSome) (κl ((xeG e f g h j b c k l a i).getD false,i64.wrap (i+1))) δ) δ) δ) δ) δ) δ) δ) (κl (false,i64.wrap (i+1)))) (κr (d))
def xaM (t:Int) (e:List UInt8) (f g h j:LA) (k:List UInt8) (l m n o:LA) (a:Int) (b c p:LA) (q:List UInt8) (r:LA):StT (Bool×Int) (Bool):=fun (d,i)=>xbL t e f g h j k l m n o a b c p q r d i none inL inR
def xiy:=xGG.l 103 0 [1000030,5000021,6000005] [] Tryz.f5 0 lk0 [1,2,5,6,7,8] [1,2,5,7] [] (q6 qI (xNW 13 0 0 (q1 (xNR (xND pStr (xND (qL 3) (xND (qL 1) (q10 (qL 2) (qL 7) pStr (qL 3) (qL 1) (qL 2) (qL 7) qI (qL 3) (qL 3)))))))) (xNW 2 0 0 (q1 (xNR (q2 (qL 1) pStr)))) (qL 2) pBool qI) xNF (fun (t,((e,f,g,h,j,k,m,n,o,q,a,b,c,_),_),((r,s,_),_),u,d,i,_) _=>(xaM t e f g h j k m n o q a b c r s u,(d,i),fun p=>(.leaf (.exit 0) [AV.int .i64 t,AV.eptr 13 [AV.agg [AV.str e,AV.list 3 f,AV.list 1 g,AV.list 2 h,AV.list 7 j,AV.str k,AV.list 3 m,AV.list 1 n,AV.list 2 o,AV.list 7 q,AV.int .i64 a,AV.list 3 b,AV.list 3 c]] 0 0,AV.eptr 2 [AV.agg [AV.list 1 r,AV.str s]] 0 0,AV.bool p] []))) false fun (t,((e,f,g,h,j,k,m,n,o,q,a,b,c,_),_),((r,s,_),_),u,_,_,_) _ (d,i)=>(((t,((e,f,g,h,j,k,m,n,o,q,a,b,c,()),()),((r,s,()),()),u,d,i,()),()),xbL t e f g h j k m n o q a b c r s u d i none)
def xf1 (l:List UInt8) (g c a h:LA) (m:List UInt8) (i d j k:LA) (b:Int) (e f:LA) (t:Int):=Iter (xaM t l g c a h m i d j k b e f (gC a b 0).toList (gC a b 1).toStr ((xol e f).getD [])) (true,0)
def xf2 (a:LA) (g:List UInt8) (d b e f:LA) (c:Int) (h i:LA) (t:Int):=xk4 (gC a c 0).toList (gC a c 1).toStr ((xfa h t).getD []) g d b e f ((xfa i t).getD [])
def xf3 (a:LA) (g:List UInt8) (d b e f:LA) (c:Int) (h i:LA) (t:Int):=xfa ((xb1 (gC a c 0).toList (gC a c 1).toStr h g d b e f i).getD []) t
def xf0 (i:List UInt8) (c a d e:LA) (j:List UInt8) (f b g h:LA) (k:Int) (l m:LA) (t:Int):=(xf1 i c a d e j f b g h k l m t).getD false
def xgr {T:Type} (m:List UInt8) (k j a l:LA) (i:List UInt8) (d b e f:LA) (c:Int) (g h:LA) (t:Int) (δ:T) (κ:Bool->T):T:=br ((xrN m k j a l i d b e f c g h).isSome) (br (!(xrN m k j a l i d b e f c g h).getD false) (κ (true)) (br (ixI a c) (br (ixT a c 2 [Sh.list 1,Sh.str] 0) (br ((xol g h).isSome) (br ((xf1 m k j a l i d b e f c g h t).isSome) (br ((xb1 (gC a c 0).toList (gC a c 1).toStr g i d b e f h).isSome) (br ((xl4 (gC a c 0).toList (gC a c 1).toStr g i d b e f h).isSome) (br ((xl4 (gC a c 0).toList (gC a c 1).toStr g i d b e f h).getD false==xf0 m k j a l i d b e f c g h t) (br (xf0 m k j a l i d b e f c g h t==((↑((xb1 (gC a c 0).toList (gC a c 1).toStr g i d b e f h).getD []).length:Int)==0)) (br ((xf3 a i d b e f c g h t).isSome) (br ((xfa g t).isSome) (br ((xfa h t).isSome) (br ((xf2 a i d b e f c g h t).isSome) (br (((↑((xf3 a i d b e f c g h t).getD []).length:Int)==0)==(xf2 a i d b e f c g h t).getD false) (κ (true)) (κ (false))) δ) δ) δ) δ) (κ (false))) (κ (false))) δ) δ) δ) δ) δ) δ)) δ
def xhS (i:List UInt8) (c a d e:LA) (j:List UInt8) (f b g h:LA) (k:Int) (l m:LA) (t:Int):=xgr i c a d e j f b g h k l m t none some
def xs3:LA->Option (Bool×AV):=fnO (u2 (xNU (xNE (sEq pStr) (xNE (uL 3) (xNE (uL 1) (xNE (uL 2) (xNE (uL 7) (xNE (sEq pStr) (u7 (uL 3) (uL 1) (uL 2) (uL 7) uI (uL 3) (uL 3))))))))) uI) (fun ((i,c,a,d,e,j,f,b,g,h,k,l,m,_),t,_) _=>xgr i c a d e j f b g h k l m t) (fun _ p=>AV.bool p) false
theorem xs2:OcOk P0 xNC 5 xs3:=fnC xGG.ok Tryz.func5 103 0 [1000030,5000021,6000005] [(7,xiy.lp)] (lk1 xiy.ok)
end Go.Sim.M
end
