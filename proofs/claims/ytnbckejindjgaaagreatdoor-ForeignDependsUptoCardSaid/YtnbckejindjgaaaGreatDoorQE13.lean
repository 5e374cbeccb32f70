/- Part 13 of the proof of the law. -/
import Derived.Test.YtnbckejindjgaaaGreatDoorQE12
import Derived.StillTailTactics
set_option linter.unusedVariables false
set_option linter.unusedSimpArgs false
noncomputable section
set_option maxRecDepth 100000
namespace Go.Sim.M
def cmpI (x y:Int):Int:=if x<y then -1 else if y<x then 1 else 0
def orI (x y:Int):Int:=if x=0 then y else x
end Go.Sim.M
namespace Go.Proofs
open Go.RowKit Go.Sim Go.Sim.M Go.Sort Go.Lib
theorem Tryz.cmp_walk (x y:Int) (w:World):Calls Tryz.prog 103 #[.int .i64 x,.int .i64 y] w fun e w'=>e=.returned (.int .i64 (cmpI x y))/\w'=w:=by
 unfold cmpI
 go_enter Tryz.func103,Tryz.ntmps103
 go_wp2
 all_goals (go_ret;exact ⟨rfl,rfl⟩)
theorem Tryz.or_walk (x y:Int) (b off c:Nat) (w:World) (h0:w.cell? ⟨b,off,none⟩=some (.int .i64 x)) (h1:w.cell? ⟨b,off+1,none⟩=some (.int .i64 y)):Calls Tryz.prog 102 #[.slice (some ⟨b,off,none⟩) 2 c] w fun e w'=>e=.returned (.int .i64 (orI x y))/\w'=w:=by
 unfold orI;by_cases hx:x=0
 . subst hx;rw [if_pos rfl];by_cases hy:y=0
   . subst hy
     go_enter Tryz.func102,Tryz.ntmps102
     go_wp2
     refine wp_loop_rounds 3 ?_;rw [rounds_succ]
     go_wp2
     rw [rounds_succ]
     go_wp2
     rw [rounds_succ]
     go_wp2
     go_ret
     exact ⟨rfl,rfl⟩
   . have hy':(y != 0)=true:=by simpa using hy
     go_enter Tryz.func102,Tryz.ntmps102
     go_wp2
     refine wp_loop_rounds 3 ?_;rw [rounds_succ]
     go_wp2
     rw [rounds_succ]
     go_wp2
     go_ret
     exact ⟨rfl,rfl⟩
 . have hx':(x != 0)=true:=by simpa using hx
   rw [if_neg hx]
   go_enter Tryz.func102,Tryz.ntmps102
   go_wp2
   refine wp_loop_rounds 3 ?_;rw [rounds_succ]
   go_wp2
   go_ret
   exact ⟨rfl,rfl⟩
theorem fill2I (u1 u2:Int):Instr.fill (fun i=>some (i*1,1)) ((Array.range (2*1)).map (fun x=>(Value.int .i64 0).cells[x % (Value.int .i64 0).cells.size]!)) [(0,.int .i64 u1),(1,.int .i64 u2)]=some #[.int .i64 u1,.int .i64 u2]:=by
 simp [Instr.fill,Array.range,Value.cells];apply Array.ext
 . simp
 . intro i h1 h2;rcases i with _|_|i
   . simp
   . simp
   . simp at h2;omega
set_option maxHeartbeats 2000000 in
theorem Tryz.levels2_walk (a b c d:Int) (w:World):Calls Tryz.prog 101 #[.agg #[.int .i64 a,.int .i64 b],.agg #[.int .i64 c,.int .i64 d]] w fun e w'=>e=.returned (.int .i64 (orI (cmpI a c) (cmpI b d)))/\∃ q J,w'=Sort.grow (w.drewN q) J:=by
 go_enter Tryz.func101,Tryz.ntmps101
 go_wp2_with (go_at_call 103;skip)
 have g0:(w.alloc (.cells #[.int .i64 a,.int .i64 b] 44)).heap[w.heap.size]?=some (.cells #[.int .i64 a,.int .i64 b] 44 (0,0)):=heap_alloc_new w _;have g1:((w.alloc (.cells #[.int .i64 a,.int .i64 b] 44)).alloc (.cells #[.int .i64 c,.int .i64 d] 44)).heap[w.heap.size+1]?=some (.cells #[.int .i64 c,.int .i64 d] 44 (0,0)):=by
  have:=heap_alloc_new (w.alloc (.cells #[.int .i64 a,.int .i64 b] 44)) (.cells #[.int .i64 c,.int .i64 d] 44);have e:(w.alloc (.cells #[.int .i64 a,.int .i64 b] 44)).heap.size=w.heap.size+1:=by simp
  rwa [e] at this
 have f0:((w.alloc (.cells #[.int .i64 a,.int .i64 b] 44)).alloc (.cells #[.int .i64 c,.int .i64 d] 44)).cell? ⟨w.heap.size,0,none⟩=some (.int .i64 a):=by
  rw [World.cell?_alloc_past _ _ _ (by simp)];simp only [World.cell?,g0];rfl
 have f1:((w.alloc (.cells #[.int .i64 a,.int .i64 b] 44)).alloc (.cells #[.int .i64 c,.int .i64 d] 44)).cell? ⟨w.heap.size,1,none⟩=some (.int .i64 b):=by
  rw [World.cell?_alloc_past _ _ _ (by simp)];simp only [World.cell?,g0];rfl
 have f2:((w.alloc (.cells #[.int .i64 a,.int .i64 b] 44)).alloc (.cells #[.int .i64 c,.int .i64 d] 44)).cell? ⟨w.heap.size+1,0,none⟩=some (.int .i64 c):=by
  simp only [World.cell?,g1];rfl
 have f3:((w.alloc (.cells #[.int .i64 a,.int .i64 b] 44)).alloc (.cells #[.int .i64 c,.int .i64 d] 44)).cell? ⟨w.heap.size+1,1,none⟩=some (.int .i64 d):=by
  simp only [World.cell?,g1];rfl
 have f4:∃ q J,((w.alloc (.cells #[.int .i64 a,.int .i64 b] 44)).alloc (.cells #[.int .i64 c,.int .i64 d] 44))=Sort.grow (w.drewN q) J:=⟨0,_,by rw [alloc_eq_grow,alloc_eq_grow,grow_grow];rfl⟩
 generalize ((w.alloc (.cells #[.int .i64 a,.int .i64 b] 44)).alloc (.cells #[.int .i64 c,.int .i64 d] 44))=W2 at f0 f1 f2 f3 f4 |-;refine wp_region_still_tail 10 (by kernel_rfl) (by kernel_rfl) ?_
 simp only [List.take_succ_cons,List.take_zero,List.drop_succ_cons,List.drop_zero];change wpStill _ _ (World.drew W2) _ _ _;have f0':W2.drew.cell? ⟨w.heap.size,0,none⟩=some (.int .i64 a):=f0;have f1':W2.drew.cell? ⟨w.heap.size,1,none⟩=some (.int .i64 b):=f1;have f2':W2.drew.cell? ⟨w.heap.size+1,0,none⟩=some (.int .i64 c):=f2;have f3':W2.drew.cell? ⟨w.heap.size+1,1,none⟩=some (.int .i64 d):=f3;have f4':∃ q J,W2.drew=Sort.grow (w.drewN q) J:=by obtain ⟨q,J,e⟩:=f4;exact ⟨q+1,J,by rw [e];rfl⟩
 iterate 4 still_step
 still_call (Tryz.cmp_walk _ _ _)
 iterate 4 still_step
 still_call (Tryz.cmp_walk _ _ _)
 refine wpStill_nil ?_;change wpList _ _ _ _ _ (World.drew W2);generalize World.drew W2=W at f0' f1' f2' f3' f4' |-;generalize O:cmpI a c=u1;generalize Q:cmpI b d=u2;obtain ⟨ie,q1,q2,q3⟩:∃ ie,Tryz.prog.info? 3=some ie/\ie.zero=some (.int .i64 0)/\ie.size=1:=⟨(Tryz.prog.info? 3).get (by kernel_rfl),(Option.some_get _).symm,by kernel_rfl,by kernel_rfl⟩
 refine wpList_buildSlice rfl 23 3 2 _ rfl #[.int .i64 u1,.int .i64 u2] ie (.int .i64 0) (by kernel_rfl) q1 q2 (by rw [q3];decide) (by rw [q3];decide) (by rw [q3];refine Eq.trans (congrArg _ ?_) (fill2I u1 u2);simp [Act.eval]) ?_
 simp only [Act.put]
 go_wp2_with fail
 have g2:(W.alloc (.cells #[.int .i64 u1,.int .i64 u2] 3)).heap[W.heap.size]?=some (.cells #[.int .i64 u1,.int .i64 u2] 3 (0,0)):=heap_alloc_new W _;refine (Tryz.or_walk u1 u2 W.heap.size 0 2 (W.alloc (.cells #[.int .i64 u1,.int .i64 u2] 3)) (by simp only [World.cell?,g2];rfl) (by simp only [World.cell?,g2];rfl)).mono ?_
 rintro e w' ⟨rfl,rfl⟩
 go_wp2
 go_ret
 obtain ⟨q,J,hq⟩:=f4';exact ⟨by rw [O,Q];rfl,q,_,by rw [hq,alloc_eq_grow,grow_grow]⟩
end Go.Proofs
namespace Go.Sim.M
abbrev TyE:Type:=Fin 1099511627777×Int×Int
def intsE (x:TyE):List Int:=[(x.1.val:Int),x.2.1,x.2.2]
def cmpE (x y:TyE):Int:=(x.1.val:Int) - (y.1.val:Int)
end Go.Sim.M
namespace Go.Proofs
open Go.RowKit Go.Sim Go.Sim.M Go.Sort
set_option maxHeartbeats 1000000 in
theorem Tryz.walkE (a b c a' b' c' r:Int) (hr:IntKind.i64.wrap (a - a')=r) (W:World):Calls Tryz.prog 129 #[.agg #[.int .i64 a,.int .i64 b,.int .i64 c],.agg #[.int .i64 a',.int .i64 b',.int .i64 c']] W fun e w'=>e=.returned (.int .i64 r)/\∃ q os',w'=Sort.grow (W.drewN q) os':=by
 go_enter Tryz.func129,Tryz.ntmps129
 go_wp2
 go_ret
 subst hr;exact ⟨rfl,0,_,by rw [alloc_eq_grow,alloc_eq_grow,grow_grow];rfl⟩
end Go.Proofs
namespace Go.Sim.M
open Go.RowKit Go.Proofs Go.Sort
def isE:AV->Bool
 | .agg [.int .i64 a,.int .i64 _,.int .i64 _]=>decide (0<=a)&&decide (a<=1099511627776)
 | _=>false
def decE:AV->TyE
 | .agg [.int _ a,.int _ b,.int _ c]=>(Fin.ofNat 1099511627777 a.toNat,b,c)
 | _=>default
noncomputable def srtE (xs:List AV):List AV:=(pdqL cmpE (xs.map decE)).map (encI intsE)
theorem xEV {x:AV} (h:isE x=true):encI intsE (decE x)=x:=by
 unfold isE at h;split at h
 . rename_i a b c;simp only [Bool.and_eq_true,decide_eq_true_eq] at h;have:a.toNat % 1099511627777=a.toNat:=Nat.mod_eq_of_lt (by omega)
   simp only [decE,encI,intsE,List.map_cons,List.map_nil,Fin.ofNat,this,Int.toNat_of_nonneg h.1]
 . simp at h
theorem xDH {xs:List AV} (h:xs.all isE=true):(xs.map decE).map (encI intsE)=xs:=by
 rw [List.map_map]
 conv=>rhs;rw [<-List.map_id xs]
 refine List.map_congr_left fun x hx=>?_
 exact xEV (List.all_eq_true.1 h x hx)
theorem ltE (x y:TyE):ltOf cmpE x y=decide (x.1.val<y.1.val):=by
 unfold ltOf cmpE;by_cases h:x.1.val<y.1.val
 . rw [decide_eq_true h,decide_eq_true (by omega)]
 . rw [decide_eq_false h,decide_eq_false (by omega)]
theorem swoE:SWO (ltOf cmpE) where
 irrefl x:=by rw [ltE];simp
 trans x y z h1 h2:=by rw [ltE] at *;simp at *;omega
 ntrans x y z h1 h2:=by rw [ltE] at *;simp at *;omega
noncomputable def xwp:List AV->List Box->Option (Bool×AV×List Box)
 | [.osl (.b 0) ver 0 n,.func g []],[⟨ver',3,ty,xs,false,true⟩]=>match Nat.beq g 129&&Nat.beq ty 137 with
  | true=>some (Nat.beq ver ver'&&(Nat.beq n xs.length&&(decide (n<4611686018427387904)&&xs.all isE)),.tuple [],[⟨ver',3,137,srtE xs,false,true⟩])
  | false=>none
 | _,_=>none
theorem xGH:OmOk Tryz.prog xJI 128 xwp:=fun Q H r H' h=>by
 unfold xwp at h;split at h
 . rename_i ver n g O ty xs;split at h
   case h_2=>simp at h
   rename_i hg;simp only [Bool.and_eq_true] at hg;obtain rfl:=Nat.eq_of_beq_eq_true hg.1;obtain rfl:=Nat.eq_of_beq_eq_true hg.2;simp only [Option.some.injEq,Prod.mk.injEq,Bool.and_eq_true,decide_eq_true_eq] at h;obtain ⟨⟨h1,h2,h3,h4⟩,rfl,rfl⟩:=h;obtain rfl:=Nat.eq_of_beq_eq_true h1;obtain rfl:=Nat.eq_of_beq_eq_true h2;have q:∃ ti,xIx Tryz.prog 137=some ti/\ti.sz=3/\ti.agg=true:=by
    have h:(match xIx Tryz.prog 137 with|some ti=>(ti.sz==3)&&ti.agg|none=>false)=true:=by kernel_rfl
    split at h
    . rename_i ti q;simp only [Bool.and_eq_true,beq_iff_eq] at h;exact ⟨ti,q,h.1,h.2⟩
    . simp at h
   obtain ⟨ti,q,hz,ha⟩:=q;have J:=xpt (P:=Tryz.prog) (Inv:=xJI) Tryz.srl128 3 (by decide) (fun w=>by rw [<-ha];exact xkd q w) (fun w=>by rw [<-hz];exact xcy q w)
    intsE (fun _=>rfl) cmpE swoE 129 rfl (xdA Tryz.func128 rfl (by kernel_rfl)) (xlM (xdA Tryz.func129 rfl (by kernel_rfl)))
    (fun x y W=>Tryz.walkE _ _ _ _ _ _ (cmpE x y) (by
     have:=x.1.isLt;have:=y.1.isLt;unfold cmpE;exact xcb (by omega) (by omega)) W)
    ver 137 rfl (xs.map decE) (by simpa using h3)
   rw [List.length_map,xDH h4] at J;exact J
 . simp at h
end Go.Sim.M
namespace Go.Sim.M
abbrev TyS:Type:=Fin 1099511627777×Int
def intsS (x:TyS):List Int:=[(x.1.val:Int),x.2]
def cmpS (x y:TyS):Int:=(x.1.val:Int) - (y.1.val:Int)
end Go.Sim.M
namespace Go.Proofs
open Go.RowKit Go.Sim Go.Sim.M Go.Sort
set_option maxHeartbeats 1000000 in
theorem Tryz.walkS (a b a' b' r:Int) (hr:IntKind.i64.wrap (a - a')=r) (W:World):Calls Tryz.prog 137 #[.agg #[.int .i64 a,.int .i64 b],.agg #[.int .i64 a',.int .i64 b']] W fun e w'=>e=.returned (.int .i64 r)/\∃ q os',w'=Sort.grow (W.drewN q) os':=by
 go_enter Tryz.func137,Tryz.ntmps137
 go_wp2
 go_ret
 subst hr;exact ⟨rfl,0,_,by rw [alloc_eq_grow,alloc_eq_grow,grow_grow];rfl⟩
end Go.Proofs
namespace Go.Sim.M
open Go.RowKit Go.Proofs Go.Sort
def isS:AV->Bool
 | .agg [.int .i64 a,.int .i64 _]=>decide (0<=a)&&decide (a<=1099511627776)
 | _=>false
def decS:AV->TyS
 | .agg [.int _ a,.int _ b]=>(Fin.ofNat 1099511627777 a.toNat,b)
 | _=>default
noncomputable def srtS (xs:List AV):List AV:=(pdqL cmpS (xs.map decS)).map (encI intsS)
theorem xEX {x:AV} (h:isS x=true):encI intsS (decS x)=x:=by
 unfold isS at h;split at h
 . rename_i a b;simp only [Bool.and_eq_true,decide_eq_true_eq] at h;have:a.toNat % 1099511627777=a.toNat:=Nat.mod_eq_of_lt (by omega)
   simp only [decS,encI,intsS,List.map_cons,List.map_nil,Fin.ofNat,this,Int.toNat_of_nonneg h.1]
 . simp at h
theorem xDJ {xs:List AV} (h:xs.all isS=true):(xs.map decS).map (encI intsS)=xs:=by
 rw [List.map_map]
 conv=>rhs;rw [<-List.map_id xs]
 refine List.map_congr_left fun x hx=>?_
 exact xEX (List.all_eq_true.1 h x hx)
theorem ltS (x y:TyS):ltOf cmpS x y=decide (x.1.val<y.1.val):=by
 unfold ltOf cmpS;by_cases h:x.1.val<y.1.val
 . rw [decide_eq_true h,decide_eq_true (by omega)]
 . rw [decide_eq_false h,decide_eq_false (by omega)]
theorem swoS:SWO (ltOf cmpS) where
 irrefl x:=by rw [ltS];simp
 trans x y z h1 h2:=by rw [ltS] at *;simp at *;omega
 ntrans x y z h1 h2:=by rw [ltS] at *;simp at *;omega
noncomputable def xwr:List AV->List Box->Option (Bool×AV×List Box)
 | [.osl (.b 0) ver 0 n,.func g []],[⟨ver',2,ty,xs,false,true⟩]=>match Nat.beq g 137&&Nat.beq ty 148 with
  | true=>some (Nat.beq ver ver'&&(Nat.beq n xs.length&&(decide (n<4611686018427387904)&&xs.all isS)),.tuple [],[⟨ver',2,148,srtS xs,false,true⟩])
  | false=>none
 | _,_=>none
theorem xGJ:OmOk Tryz.prog xJI 136 xwr:=fun Q H r H' h=>by
 unfold xwr at h;split at h
 . rename_i ver n g O ty xs;split at h
   case h_2=>simp at h
   rename_i hg;simp only [Bool.and_eq_true] at hg;obtain rfl:=Nat.eq_of_beq_eq_true hg.1;obtain rfl:=Nat.eq_of_beq_eq_true hg.2;simp only [Option.some.injEq,Prod.mk.injEq,Bool.and_eq_true,decide_eq_true_eq] at h;obtain ⟨⟨h1,h2,h3,h4⟩,rfl,rfl⟩:=h;obtain rfl:=Nat.eq_of_beq_eq_true h1;obtain rfl:=Nat.eq_of_beq_eq_true h2;have q:∃ ti,xIx Tryz.prog 148=some ti/\ti.sz=2/\ti.agg=true:=by
    have h:(match xIx Tryz.prog 148 with|some ti=>(ti.sz==2)&&ti.agg|none=>false)=true:=by kernel_rfl
    split at h
    . rename_i ti q;simp only [Bool.and_eq_true,beq_iff_eq] at h;exact ⟨ti,q,h.1,h.2⟩
    . simp at h
   obtain ⟨ti,q,hz,ha⟩:=q;have J:=xpt (P:=Tryz.prog) (Inv:=xJI) Tryz.srl136 2 (by decide) (fun w=>by rw [<-ha];exact xkd q w) (fun w=>by rw [<-hz];exact xcy q w)
    intsS (fun _=>rfl) cmpS swoS 137 rfl (xdA Tryz.func136 rfl (by kernel_rfl)) (xlM (xdA Tryz.func137 rfl (by kernel_rfl)))
    (fun x y W=>Tryz.walkS _ _ _ _ (cmpS x y) (by
     have:=x.1.isLt;have:=y.1.isLt;unfold cmpS;exact xcb (by omega) (by omega)) W)
    ver 148 rfl (xs.map decS) (by simpa using h3)
   rw [List.length_map,xDJ h4] at J;exact J
 . simp at h
end Go.Sim.M
namespace Go.Sim.M
abbrev TyP:Type:=Int×Int
def intsP (x:TyP):List Int:=[x.1,x.2]
def cmpP (x y:TyP):Int:=orI (cmpI x.1 y.1) (cmpI x.2 y.2)
end Go.Sim.M
namespace Go.Sim.M
open Go.RowKit Go.Proofs Go.Sort
def isP:AV->Bool
 | .agg [.int .i64 _,.int .i64 _]=>true
 | _=>false
def decP:AV->TyP
 | .agg [.int _ a,.int _ b]=>(a,b)
 | _=>default
noncomputable def srtP (xs:List AV):List AV:=(pdqL cmpP (xs.map decP)).map (encI intsP)
theorem xEW {x:AV} (h:isP x=true):encI intsP (decP x)=x:=by
 unfold isP at h;split at h
 . rfl
 . simp at h
theorem xDI {xs:List AV} (h:xs.all isP=true):(xs.map decP).map (encI intsP)=xs:=by
 rw [List.map_map]
 conv=>rhs;rw [<-List.map_id xs]
 refine List.map_congr_left fun x hx=>?_
 exact xEW (List.all_eq_true.1 h x hx)
theorem ltP (x y:TyP):ltOf cmpP x y=decide (x.1<y.1\/x.1=y.1/\x.2<y.2):=by
 unfold ltOf cmpP orI cmpI;by_cases h:x.1<y.1\/x.1=y.1/\x.2<y.2
 . rw [decide_eq_true h];simp only [decide_eq_true_eq];rcases h with h|⟨h,h'⟩
   . simp [h]
   . simp [h,h']
 . rw [decide_eq_false h];simp only [decide_eq_false_iff_not];have h1:¬ x.1<y.1:=fun e=>h (.inl e)
   by_cases h2:y.1<x.1
   . simp [h1,h2]
   . have h3:x.1=y.1:=by omega
     have h4:¬ x.2<y.2:=fun e=>h (.inr ⟨h3,e⟩)
     by_cases h5:y.2<x.2
     . simp [h1,h2,h4,h5]
     . simp [h1,h2,h4,h5]
theorem swoP:SWO (ltOf cmpP) where
 irrefl x:=by rw [ltP];simp
 trans x y z h1 h2:=by rw [ltP] at *;simp only [decide_eq_true_eq] at *;omega
 ntrans x y z h1 h2:=by rw [ltP] at *;simp only [decide_eq_true_eq,decide_eq_false_iff_not] at *;omega
noncomputable def xwq:List AV->List Box->Option (Bool×AV×List Box)
 | [.osl (.b 0) ver 0 n,.func g []],[⟨ver',2,ty,xs,false,true⟩]=>match Nat.beq g 101&&Nat.beq ty 44 with
  | true=>some (Nat.beq ver ver'&&(Nat.beq n xs.length&&(decide (n<4611686018427387904)&&xs.all isP)),.tuple [],[⟨ver',2,44,srtP xs,false,true⟩])
  | false=>none
 | _,_=>none
theorem xGI:OmOk Tryz.prog xJI 100 xwq:=fun Q H r H' h=>by
 unfold xwq at h;split at h
 . rename_i ver n g O ty xs;split at h
   case h_2=>simp at h
   rename_i hg;simp only [Bool.and_eq_true] at hg;obtain rfl:=Nat.eq_of_beq_eq_true hg.1;obtain rfl:=Nat.eq_of_beq_eq_true hg.2;simp only [Option.some.injEq,Prod.mk.injEq,Bool.and_eq_true,decide_eq_true_eq] at h;obtain ⟨⟨h1,h2,h3,h4⟩,rfl,rfl⟩:=h;obtain rfl:=Nat.eq_of_beq_eq_true h1;obtain rfl:=Nat.eq_of_beq_eq_true h2;have q:∃ ti,xIx Tryz.prog 44=some ti/\ti.sz=2/\ti.agg=true:=by
    have h:(match xIx Tryz.prog 44 with|some ti=>(ti.sz==2)&&ti.agg|none=>false)=true:=by kernel_rfl
    split at h
    . rename_i ti q;simp only [Bool.and_eq_true,beq_iff_eq] at h;exact ⟨ti,q,h.1,h.2⟩
    . simp at h
   obtain ⟨ti,q,hz,ha⟩:=q;have J:=xpt (P:=Tryz.prog) (Inv:=xJI) Tryz.srl100 2 (by decide) (fun w=>by rw [<-ha];exact xkd q w) (fun w=>by rw [<-hz];exact xcy q w)
    intsP (fun _=>rfl) cmpP swoP 101 rfl (xdA Tryz.func100 rfl (by kernel_rfl)) (xlM (xdA Tryz.func101 rfl (by kernel_rfl)))
    (fun x y W=>Tryz.levels2_walk _ _ _ _ W)
    ver 44 rfl (xs.map decP) (by simpa using h3)
   rw [List.length_map,xDI h4] at J;exact J
 . simp at h
end Go.Sim.M
end
noncomputable section
namespace Go.Sim.M
open Go.RowKit Go.Proofs
noncomputable def E1:Env:=((xFI.E.withM 136 xwr).withM 100 xwq).withM 128 xwp
theorem xFF:xI0 Tryz.prog xJI E1:=((xFI.ok.withM xGJ).withM xGI).withM xGH
noncomputable def xHV:EO:=EO.mk E1 xFF
end Go.Sim.M
end
noncomputable section
set_option maxRecDepth 100000
namespace Go.Sim.M
open Go.IntKind (i64 u64 u8)
open Go.RowKit Go.Proofs
def xhs:Env:=E1.fn 29 1 (lsOf []) (xJm [])
theorem xvZ:xI0 P0 (xJI.at 1) xhs:=xFF.fn
theorem xtC:LoOk P0 (xJI.at xhs.pin) xhs (Tryz.f138.body.getD .skip):=xhN (by kernel_rfl)
def xpv {T:Type} (k:Nat) (a n:Int) (b:LA) (δ:T) (κ:Bool×(Nat×LA)×(Nat×LA)->T):T:=br (rmB k b 1 16) (κ (false,(0,[]),(k+1,b++[AV.agg [AV.int .i64 a,AV.int .i64 n]]))) δ
def xrG {T:Type} (k:Nat) (b n:Int) (a:LA) (δ:T) (κ:Bool×(Nat×LA)×(Nat×LA)->T):T:=br (decide ((↑k:Int)>0)) (br (decide (0<=i64.wrap ((↑k:Int) - 1))&&decide (i64.wrap ((↑k:Int) - 1)<(↑k:Int))) (br (decide (0+(i64.wrap ((↑k:Int) - 1)).toNat<a.length)&&xIZ (Sh.int .i64) ((a.getD (0+(i64.wrap ((↑k:Int) - 1)).toNat) .top).cells.getD 1 .top)) (br (((a.getD (0+(i64.wrap ((↑k:Int) - 1)).toNat) .top).cells.getD 1 .top).toInt==n) (κ (true,(k,a),(0,[]))) (xpv k b n a δ κ)) δ) δ) (xpv k b n a δ κ)
def xcA (k:Nat) (a n:Int) (b:LA):=xrG k a n b none some
theorem xAV (k:Nat) (a n:Int) (xs:LA):Enc (fun (p:Bool×(Nat×LA)×(Nat×LA))=>((br p.1 ((AV.osl 0 0 0 p.2.1.1,([⟨0,2,148,p.2.1.2,false,true⟩]:List Box))) ((AV.osl 0 1 0 p.2.2.1,([⟨1,2,148,p.2.2.2,false,true⟩]:List Box)))):(AV×List Box))) (xcA k a n xs) (XFM P0 xhs Tryz.f138 (Tryz.f138.body.getD .skip) [AV.osl (0:Id) 0 0 k,AV.int .i64 a,AV.int .i64 n] [{ ver:=0,sz:=2,ty:=(148:TypeId),xs:=xs,frz:=false,pm:=true }]):=by
 have h:XFM P0 xhs Tryz.f138 (Tryz.f138.body.getD .skip) [AV.osl (0:Id) 0 0 k,AV.int .i64 a,AV.int .i64 n] [{ ver:=0,sz:=2,ty:=(148:TypeId),xs:=xs,frz:=false,pm:=true }]=xrG k a n xs none (fun (p:Bool×(Nat×LA)×(Nat×LA))=>some ((br p.1 ((AV.osl 0 0 0 p.2.1.1,([⟨0,2,148,p.2.1.2,false,true⟩]:List Box))) ((AV.osl 0 1 0 p.2.2.1,([⟨1,2,148,p.2.2.2,false,true⟩]:List Box)))):(AV×List Box))):=by kernel_rfl
 rw [h];unfold xcA xrG xpv;repeat' (first|refine Enc.br ?_ ?_|exact Enc.none|exact Enc.some rfl)
def xAU:LA->List Box->Option (Bool×AV×List Box):=omOf (xJK (sEq (xJV 0 0 0)) (xJK (sEq (pInt .i64)) (xJK (sEq (pInt .i64)) xJM))) (xJJ (xJY 0 2 (148:TypeId) false true xJN) xJL) fun (k,(a,(n,_))) (b,_)=>((xcA k a n b).isSome,(AV.osl 0 1 0 (br ((xcA k a n b).getD (false,(0,[]),(0,[]))).1 ((xcA k a n b).getD (false,(0,[]),(0,[]))).2.1.1 ((xcA k a n b).getD (false,(0,[]),(0,[]))).2.2.1),([⟨1,2,148,(br ((xcA k a n b).getD (false,(0,[]),(0,[]))).1 ((xcA k a n b).getD (false,(0,[]),(0,[]))).2.1.2 ((xcA k a n b).getD (false,(0,[]),(0,[]))).2.2.2),false,true⟩]:List Box)))
theorem xAT:OmOk P0 xJI 138 (xAU):=xpV fun e f j i g=>by
 obtain ⟨k,⟨b,⟨n,_⟩⟩⟩:=e;obtain ⟨h,_⟩:=f;obtain ⟨c,a⟩:=Prod.mk.inj g;have hx:=xAV _ _ _ _ _ (xaK (d:=(false,(0,[]),(0,[]))) c);revert hx a;generalize ((xcA k b n h).getD (false,(0,[]),(0,[])))=p;intro a hx;obtain ⟨rfl,rfl⟩:=Prod.mk.inj a;obtain ⟨t,⟨l,m⟩,o,q⟩:=p;have hg:GoodM P0 xJI 138 _ _ _ _:=xfL (p:=xhs.pin) (xhv xI9 (xJa P0 _) rfl xvZ rfl Tryz.func138 rfl (by kernel_rfl) xtC hx)
 cases t
 . exact hg
 . exact GoodM.bump1 rfl (by decide) hg
def xsU:EO:=xHV.wM xAT
def xk9 {T:Type} (d:LA) (e:Int) (b:Nat) (c:Int) (a:LA) (δ:T) (κl:(Nat×Int×LA)->T) (κr:(Nat×LA)->T):T:=br (decide (c<e)) (br (ixI d c) (br (ixT d c 3 [Sh.int .i64,Sh.int .i64,Sh.int .i64] 0) (br (xbZ (gC d c 0).toInt (gC d c 1).toInt) (br (rmB b a 2 16) (κl (b+2,i64.wrap (c+1),a++[AV.agg [AV.int .i64 (gC d c 0).toInt,AV.int .i64 (gC d c 2).toInt],AV.agg [AV.int .i64 (gC d c 1).toInt,AV.int .i64 (i64.wrap (0 - (gC d c 2).toInt))]])) δ) (κl (b,i64.wrap (c+1),a))) δ) δ) (κr (b,a))
def xd3 (c:LA) (d:Int):StT (Nat×Int×LA) (Nat×LA):=fun (b,e,a)=>xk9 c d b e a none inL inR
def xhg:=xsU.l 106 0 [] [] Tryz.f104 0 lk0 [3,10,11,12] [3] [(3,2,148)] (q4 (xJV 0 0 0) (qL 3) qI qI) (q1 (qB 0 2 148 xJN)) (fun (b,c,d,e,_) (a,_)=>(xd3 c d,(b,e,a),fun p=>(.leaf (.exit 0) [AV.osl 0 0 0 p.1] [bF 0 2 148 p.2]))) (0,[]) fun (_,c,d,_,_) _ (b,e,a)=>(((b,c,d,e,()),(a,())),xk9 c d b e a none)
def xrU (i:Int) (a:LA):=decide (0+i.toNat<a.length)
def xsJ {T:Type} (b e:Nat) (d i:Int) (a c:LA) (δ:T) (κl:(Int×Int×LA×LA)->T) (κr:(Int×Int×LA×LA)->T):T:=br (decide (i<(↑b:Int))) (br (decide (0<=i)&&decide (i<(↑b:Int))) (br (xrU i a&&xIZ (Sh.int .i64) ((a.getD (0+i.toNat) .top).cells.getD 0 .top)) (br (((a.getD (0+i.toNat) .top).cells.getD 0 .top).toInt==0) (br (decide (0<=i)&&decide (i<(↑b:Int))) (br (xrU i a&&xIZ (Sh.int .i64) ((a.getD (0+i.toNat) .top).cells.getD 1 .top)) (κl (i64.wrap (d+((a.getD (0+i.toNat) .top).cells.getD 1 .top).toInt),i64.wrap (i+1),a,c)) δ) δ) (κr (d,i,a,c))) δ) δ) (κr (d,i,a,c))
def xib (b d:Nat):StT (Int×Int×LA×LA) (Int×Int×LA×LA):=fun (e,i,a,c)=>xsJ b d e i a c none inL inR
def xkf:=xsU.l 106 0 [] [(3,xhg.lp)] Tryz.f104 1 lk0 [3,6,7,8] [3,6,7,8] [(3,2,148),(6,2,148)] (q4 (xJV 0 0 0) (xJV 1 0 0) qI qI) (q2 (qB 0 2 148 xJN) (qB 0 2 148 xJN)) (fun (a,c,e,i,_) (b,d,_)=>(xib a c,(e,i,b,d),fun p=>(.leaf (.exit 2) [AV.osl 0 0 0 a,AV.osl 1 0 0 c,AV.int .i64 p.1,AV.int .i64 p.2.1] [bF 0 2 148 p.2.2.1,bF 0 2 148 p.2.2.2]))) (0,0,[],[]) fun (a,c,_,_,_) _ (e,i,b,d)=>(((a,c,e,i,()),(b,d,())),xsJ a c e i b d none)
def xhr (i:Int) (a:LA):=decide (0+i.toNat<a.length)
def xio {T:Type} (b f:Nat) (e d i:Int) (a c:LA) (δ:T) (κl:(Int×Int×LA×LA)->T) (κr:(Int×Int×LA×LA)->T):T:=br (decide (i<(↑b:Int))) (br (decide (0<=i)&&decide (i<(↑b:Int))) (br (xhr i a&&xIZ (Sh.int .i64) ((a.getD (0+i.toNat) .top).cells.getD 0 .top)) (br (((a.getD (0+i.toNat) .top).cells.getD 0 .top).toInt==e) (br (decide (0<=i)&&decide (i<(↑b:Int))) (br (xhr i a&&xIZ (Sh.int .i64) ((a.getD (0+i.toNat) .top).cells.getD 1 .top)) (κl (i64.wrap (d+((a.getD (0+i.toNat) .top).cells.getD 1 .top).toInt),i64.wrap (i+1),a,c)) δ) δ) (κr (d,i,a,c))) δ) δ) (κr (d,i,a,c))
def xc3 (b d:Nat) (e:Int):StT (Int×Int×LA×LA) (Int×Int×LA×LA):=fun (f,i,a,c)=>xio b d e f i a c none inL inR
def xkg:=xsU.l 106 0 [] [(3,xhg.lp),(11,xkf.lp)] Tryz.f104 3 lk0 [3,6,7,8,9] [3,6,7,8,9] [(3,2,148),(6,2,148)] (q5 (xJV 0 0 0) (xJV 1 0 0) qI qI qI) (q2 (qB 0 2 148 xJN) (qB 0 2 148 xJN)) (fun (a,c,f,i,e,_) (b,d,_)=>(xc3 a c e,(f,i,b,d),fun p=>(.leaf (.exit 6) [AV.osl 0 0 0 a,AV.osl 1 0 0 c,AV.int .i64 p.1,AV.int .i64 p.2.1,AV.int .i64 e] [bF 0 2 148 p.2.2.1,bF 0 2 148 p.2.2.2]))) (0,0,[],[]) fun (a,c,_,_,e,_) _ (f,i,b,d)=>(((a,c,f,i,e,()),(b,d,())),xio a c e f i b d none)
def xf9 (i:Int) (a:LA):=decide (0+i.toNat<a.length)&&xIZ (Sh.int .i64) ((a.getD (0+i.toNat) .top).cells.getD 0 .top)
def xeD (i:Int) (a:LA):=((a.getD (0+i.toNat) .top).cells.getD 0 .top).toInt
def xga (b d:Nat) (e i:Int) (a c:LA):=Iter (xc3 b d (xeD i a)) (e,i,a,c)
def xhq (b d:Nat) (e i:Int) (a c:LA):=(xga b d e i a c).getD (0,0,[],[])
def xho (b d:Nat) (e i:Int) (a c:LA):=(xhq b d e i a c).snd
def xhp (b d:Nat) (e i:Int) (a c:LA):=(xhq b d e i a c).fst
def xhn (b d:Nat) (e i:Int) (a c:LA):=(xho b d e i a c).snd
def xhm (b c:Nat) (e i:Int) (a d:LA):=xcA c (xeD i a) (xhp b c e i a d) (xhn b c e i a d).snd
def xhl (b d:Nat) (e i:Int) (a c:LA):=(xhm b d e i a c).getD (false,(0,[]),0,[])
def xhj (b d:Nat) (e i:Int) (a c:LA):=(xhl b d e i a c).fst
def xhk (b d:Nat) (e i:Int) (a c:LA):=(xhl b d e i a c).snd
def xhh (b d:Nat) (e i:Int) (a c:LA):=(xhk b d e i a c).snd
def xhi (b d:Nat) (e i:Int) (a c:LA):=(xhk b d e i a c).fst
def xin {T:Type} (b d:Nat) (e i:Int) (a c:LA) (δ:T) (κl:(Nat×Int×Int×LA×LA)->T) (κr:(Nat×LA)->T):T:=br (decide (i<(↑b:Int))) (br (decide (0<=i)&&decide (i<(↑b:Int))) (br (xf9 i a) (br (decide (xeD i a<1099511627776)) (br (decide (0<=i)&&decide (i<(↑b:Int))) (br (xf9 i a) (br ((xga b d e i a c).isSome) (br ((xhm b d e i a c).isSome) (κl (br (xhj b d e i a c) (xhi b d e i a c).fst (xhh b d e i a c).fst,xhp b d e i a c,(xho b d e i a c).fst,(xhn b d e i a c).fst,br (xhj b d e i a c) (xhi b d e i a c).snd (xhh b d e i a c).snd)) δ) δ) δ) δ) (κr (d,c))) δ) δ) (κr (d,c))
def xd4 (b:Nat):StT (Nat×Int×Int×LA×LA) (Nat×LA):=fun (d,e,i,a,c)=>xin b d e i a c none inL inR
def xrV:=xsU.l 106 0 [] [(3,xhg.lp),(11,xkf.lp),(17,xkg.lp)] Tryz.f104 2 (lk1 xkg.ok) [3,6,7,8] [6] [(3,2,148),(6,2,148)] (q4 (xJV 0 0 0) (xJV 1 0 0) qI qI) (q2 (qB 0 2 148 xJN) (qB 0 2 148 xJN)) (fun (b,d,e,i,_) (a,c,_)=>(xd4 b,(d,e,i,a,c),fun p=>(.leaf (.exit 4) [AV.osl 0 0 0 p.1] [bF 0 2 148 p.2]))) (0,[]) fun (b,_,_,_,_) _ (d,e,i,a,c)=>(((b,d,e,i,()),(a,c,())),xin b d e i a c none)
def xqN (l:LA):=(Iter (xd3 l (↑l.length:Int)) (0,0,[])).getD (0,[])
def xjT (l:LA):=(xqN l).fst
def xm0 (l:LA):=(xqN l).snd
def xqM (l:LA):=Iter (xib (xjT l) 0) (0,0,srtS (xm0 l),[])
def xqL (l:LA):=(xqM l).getD (0,0,[],[])
def xqJ (l:LA):=(xqL l).fst
def xqK (l:LA):=(xqL l).snd
def xqI (l:LA):=(xqK l).snd
def xrF (l:LA):=xcA 0 0 (xqJ l) (xqI l).snd
def xrE (l:LA):=(xrF l).getD (false,(0,[]),0,[])
def xrC (l:LA):=(xrE l).fst
def xrD (l:LA):=(xrE l).snd
def xrA (l:LA):=(xrD l).fst
def xrB (l:LA):=(xrD l).snd
def xrz (l:LA):=Iter (xd4 (xjT l)) (br (xrC l) (xrA l).fst (xrB l).fst,xqJ l,(xqK l).fst,(xqI l).fst,br (xrC l) (xrA l).snd (xrB l).snd)
def xry (l:LA):=(xrz l).getD (0,[])
def xrv (l:LA):=(xry l).snd
def xrw (l:LA):=(xry l).fst
def xsr {T:Type} (l:LA) (δ:T) (κ:LA->T):T:=br ((Iter (xd3 l (↑l.length:Int)) (0,0,[])).isSome) (br ((xjT l).beq (xm0 l).length&&(decide (xjT l<4611686018427387904)&&(xm0 l).all isS)) (br ((xqM l).isSome) (br ((xrF l).isSome) (br ((xrz l).isSome) (br (decide (0+xrw l<=(xrv l).length)&&true) (κ (List.take (xrw l) (List.drop 0 (xrv l)))) δ) δ) δ) δ) δ) δ
def xsq (l:LA):=xsr l none some
def xC0:EO:=xsU.f Tryz.func104 106 0 [] [(3,xhg.lp),(11,xkf.lp),(17,xkg.lp),(15,xrV.lp)] (lks (lkC xhg.ok (lkC xkf.ok (lkC xrV.ok (lkC xkg.ok lkN))))) (u1 (uL 3)) (fun (l,_) _=>xsr l) (fun _ p=>AV.list 2 p) []
def xeo {T:Type} (d:LA) (e:Int) (c:Nat) (b:Int) (a:LA) (δ:T) (κl:(Nat×Int×LA)->T) (κr:(Nat×LA)->T):T:=br (decide (b<e)) (br (ixI d b) (br (ixT d b 2 [Sh.int .i64,Sh.int .i64] 0) (br (rmB c a 1 24) (κl (c+1,i64.wrap (b+1),a++[AV.agg [AV.int .i64 (gC d b 0).toInt,AV.int .i64 (gC d b 1).toInt,AV.int .i64 1]])) δ) δ) δ) (κr (c,a))
def xbg (c:LA) (d:Int):StT (Nat×Int×LA) (Nat×LA):=fun (b,e,a)=>xeo c d b e a none inL inR
def xkF:=xC0.l 20 0 [] [] Tryz.f66 0 lk0 [3,6,7,8] [3] [(3,3,155)] (q4 (xJV 0 0 0) (qL 2) qI qI) (q1 (qB 0 3 155 xJN)) (fun (b,c,d,e,_) (a,_)=>(xbg c d,(b,e,a),fun p=>(.leaf (.exit 0) [AV.osl 0 0 0 p.1] [bF 0 3 155 p.2]))) (0,[]) fun (_,c,d,_,_) _ (b,e,a)=>(((b,c,d,e,()),(a,())),xeo c d b e a none)
def xiE (l:LA):=(Iter (xbg l (↑l.length:Int)) (0,0,[])).getD (0,[])
def xiC (l:LA):=(xiE l).fst
def xiD (l:LA):=(xiE l).snd
def xiB (l:LA):=xsq (List.take (xiC l) (List.drop 0 (xiD l)))
def xje {T:Type} (l:LA) (δ:T) (κ:LA->T):T:=br ((Iter (xbg l (↑l.length:Int)) (0,0,[])).isSome) (br (decide (0+xiC l<=(xiD l).length)&&true) (br ((xiB l).isSome) (κ ((xiB l).getD [])) δ) δ) δ
def xdK (l:LA):=xje l none some
def xrH:EO:=xC0.f Tryz.func66 20 0 [] [(3,xkF.lp)] (lk1 xkF.ok) (u1 (uL 2)) (fun (l,_) _=>xje l) (fun _ p=>AV.list 2 p) []
def xiW {T:Type} (o n:Int) (e f:Nat) (k p m j:Int) (h l i g a:Nat) (b:LA) (d:Nat) (c:LA) (δ:T) (κl:(Int×Int×Nat×Nat×Nat×Nat×Nat×LA×Nat×LA)->T) (κr:(Int×Nat×Nat×Nat×Nat×LA×Nat×LA×Nat)->T):T:=br (decide (m<p)) (br (a==e) (br (a==e) (br (a==e&&(decide (f<b.length)&&xIZ (Sh.int .i64) ((b.getD f .top).cells.getD 0 .top))) (br (d==g&&(rmB i c 1 16)) (κl (i64.wrap (m+1),j,h,l,i+1,g+1,a,List.take h b,g+1,c++[AV.agg [AV.int .i64 ((b.getD f .top).cells.getD 0 .top).toInt,AV.int .i64 o]])) δ) δ) δ) δ) (κr (j,l,h,g,i,b,a,c,d))
def xbY (m n:Int) (e f:Nat) (k o:Int):StT (Int×Int×Nat×Nat×Nat×Nat×Nat×LA×Nat×LA) (Int×Nat×Nat×Nat×Nat×LA×Nat×LA×Nat):=fun (p,g,h,i,j,l,a,b,c,d)=>xiW m n e f k o p g h i j l a b c d none inL inR
def xhM:=xrH.l 71 5 [] [] Tryz.f99 1 lk0 [0,1,2,3,4,7,8,37,38] [0,1,2,3,4,7,8] [(3,0,0)] (q9 qI qI (xJW 0 0 0 0) (xJW 1 0 0 0) (xJW 2 0 0 0) (pOwnV 3 0) qI qI qI) (q5 (qB 0 1 3 (q1 qI)) (xJY 0 1 142 false false (q1 (pOslV 3 0))) (xJY 0 1 47 false false (q1 (pOslV 4 0))) (pBoxV 2 144 false true xJN) (pBoxV 2 44 false true xJN)) (fun (o,n,_,_,_,(e,f),k,q,r,_) ((g,_),((h,i),_),((j,m),_),(a,b),(c,d),_)=>(xbY o n e f k q,(r,g,i,h,m,j,a,b,c,d),fun p=>(.leaf (.exit 2) [AV.int .i64 o,AV.int .i64 n,AV.own 0 0 0 0,AV.own 1 0 0 0,AV.own 2 0 0 0,AV.own 3 e f 0,AV.int .i64 k] [bF 0 1 3 [AV.int .i64 p.1],⟨0,1,142,[AV.osl 3 p.2.1 0 p.2.2.1],false,false⟩,⟨0,1,47,[AV.osl 4 p.2.2.2.1 0 p.2.2.2.2.1],false,false⟩,bF p.2.2.2.2.2.2.1 2 144 p.2.2.2.2.2.1,bF p.2.2.2.2.2.2.2.2 2 44 p.2.2.2.2.2.2.2.1]))) (0,0,0,0,0,[],0,[],0) fun (o,n,_,_,_,(e,f),k,q,_,_) _ (r,g,i,h,m,j,a,b,c,d)=>(((o,n,(),(),(),(e,f),k,q,r,()),((g,()),((h,i),()),((j,m),()),(a,b),(c,d),())),xiW o n e f k q r g i h m j a b c d none)
def xar (a:Nat):Nat:=0+(i64.wrap ((↑a:Int) - 1)).toNat
def xcr (n b:Int) (c d:Nat) (a:LA):Int:=if i64.wrap (b - n)<((a.getD (xar c) .top).cells.getD 1 .top).toInt then i64.wrap (b - n) else ((a.getD (xar c) .top).cells.getD 1 .top).toInt
def xgt (j n d:Int) (c g h i a:Nat) (b:LA) (e:Nat) (f:LA):=Iter (xbY j n g (xar c) (xcr n d c a b) (xcr n d c a b)) (0,d,c,g,h,i,a,List.take c b,e,f)
def xeK (j n e:Int) (f g h i a:Nat) (b:LA) (c:Nat) (d:LA):=(xgt j n e f g h i a b c d).getD (0,0,0,0,0,[],0,[],0)
def xgs (j n e:Int) (f g h i a:Nat) (b:LA) (c:Nat) (d:LA):=(xeK j n e f g h i a b c d).snd
def xdP (j n e:Int) (f g h i a:Nat) (b:LA) (c:Nat) (d:LA):=(xgs j n e f g h i a b c d).fst
def xgr (j n e:Int) (f g h i a:Nat) (b:LA) (c:Nat) (d:LA):=(xgs j n e f g h i a b c d).snd
def xdO (j n e:Int) (f g h i a:Nat) (b:LA) (c:Nat) (d:LA):=(xgr j n e f g h i a b c d).fst
def xeJ (j n e:Int) (f g h i a:Nat) (b:LA) (c:Nat) (d:LA):=(xgr j n e f g h i a b c d).snd
def xdN (j n e:Int) (f g h i a:Nat) (b:LA) (c:Nat) (d:LA):=i64.wrap ((↑(xdO j n e f g h i a b c d):Int) - 1)
def xeI (j n e:Int) (f g h i a:Nat) (b:LA) (c:Nat) (d:LA):=(xeJ j n e f g h i a b c d).snd
def xgq (j n e:Int) (f g h i a:Nat) (b:LA) (c:Nat) (d:LA):=(xeI j n e f g h i a b c d).snd
def xfc (j n e:Int) (f g h i a:Nat) (b:LA) (c:Nat) (d:LA):=(xgq j n e f g h i a b c d).fst
def xhL (j n e:Int) (f g h i a:Nat) (b:LA) (c:Nat) (d:LA):=(xgq j n e f g h i a b c d).snd
def xbX (j n f:Int) (g e h i a:Nat) (b:LA) (c:Nat) (d:LA):=(xhL j n f g e h i a b c d).fst==e
def xhK (j n f:Int) (e g h i a:Nat) (b:LA) (c:Nat) (d:LA):=decide (xar e<(xfc j n f e g h i a b c d).length)
def xdM (j n f:Int) (e g h i a:Nat) (b:LA) (c:Nat) (d:LA):=((xfc j n f e g h i a b c d).getD (xar e) .top).cells
def xdQ (j n e:Int) (f g h i a:Nat) (b:LA) (c:Nat) (d:LA):=(xhL j n e f g h i a b c d).snd
def xcZ (j n f:Int) (e g h i a:Nat) (b:LA) (c:Nat) (d:LA):=(xfc j n f e g h i a b c d).set (xar e) (AV.agg (List.take 1 (xdM j n f e g h i a b c d)++[AV.int .i64 (i64.wrap (((xdM j n f e g h i a b c d).getD 1 .top).toInt - xcr n f e a b))]++List.drop 2 (xdM j n f e g h i a b c d)))
def xep {T:Type} (j n g:Int) (f e h i a:Nat) (b:LA) (c:Nat) (d:LA) (δ:T) (κl:(Int×Nat×Nat×Nat×Nat×Nat×LA×Nat×LA)->T) (κr:(Int×Nat×Nat×Nat×Nat×LA×Nat×LA×Nat)->T):T:=br (decide (g>n)) (br (a==e) (br (a==e&&(decide (0<=i64.wrap ((↑f:Int) - 1))&&decide (i64.wrap ((↑f:Int) - 1)<(↑f:Int)))) (br (a==e) (br (a==e) (br (a==e&&(decide (xar f<b.length)&&xIZ (Sh.int .i64) ((b.getD (xar f) .top).cells.getD 1 .top))) (br ((xgt j n g f e h i a b c d).isSome) (br (xbX j n g f e h i a b c d) (br (xbX j n g f e h i a b c d) (br (xbX j n g f e h i a b c d&&(xhK j n g f e h i a b c d&&xIZ (Sh.int .i64) ((xdM j n g f e h i a b c d).getD 1 .top))) (br (xbX j n g f e h i a b c d) (br (xbX j n g f e h i a b c d) (br (xbX j n g f e h i a b c d&&xhK j n g f e h i a b c d) (br (e==e) (br (e==e) (br (e==e&&(decide (xar f<(xcZ j n g f e h i a b c d).length)&&xIZ (Sh.int .i64) (((xcZ j n g f e h i a b c d).getD (xar f) .top).cells.getD 1 .top))) (br ((((xcZ j n g f e h i a b c d).getD (xar f) .top).cells.getD 1 .top).toInt==0) (br (e==xdP j n g f e h i a b c d) (br (e==xdP j n g f e h i a b c d&&(decide (0<=xdN j n g f e h i a b c d)&&decide (xdN j n g f e h i a b c d<=(↑(xdO j n g f e h i a b c d):Int))&&true)) (κl (i64.wrap ((xeK j n g f e h i a b c d).fst - xcr n g f a b),(xdN j n g f e h i a b c d).toNat - 0,xdP j n g f e h i a b c d,(xeI j n g f e h i a b c d).fst,(xeJ j n g f e h i a b c d).fst,e,List.take ((xdN j n g f e h i a b c d).toNat - 0) (xcZ j n g f e h i a b c d),(xdQ j n g f e h i a b c d).snd,(xdQ j n g f e h i a b c d).fst)) δ) δ) (κl (i64.wrap ((xeK j n g f e h i a b c d).fst - xcr n g f a b),xdO j n g f e h i a b c d,xdP j n g f e h i a b c d,(xeI j n g f e h i a b c d).fst,(xeJ j n g f e h i a b c d).fst,e,List.take (xdO j n g f e h i a b c d) (xcZ j n g f e h i a b c d),(xdQ j n g f e h i a b c d).snd,(xdQ j n g f e h i a b c d).fst))) δ) δ) δ) δ) δ) δ) δ) δ) δ) δ) δ) δ) δ) δ) δ) (κr (g,e,f,i,h,b,a,d,c))
def xbp (j n:Int):StT (Int×Nat×Nat×Nat×Nat×Nat×LA×Nat×LA) (Int×Nat×Nat×Nat×Nat×LA×Nat×LA×Nat):=fun (e,f,g,h,i,a,b,c,d)=>xep j n e f g h i a b c d none inL inR
def xp8:=xrH.l 71 5 [] [(7,xhM.lp)] Tryz.f99 0 (lk1 xhM.ok) [0,1,2,3,4] [] [(3,0,0)] (q5 qI qI (xJW 0 0 0 0) (xJW 1 0 0 0) (xJW 2 0 0 0)) (q5 (qB 0 1 3 (q1 qI)) (xJY 0 1 142 false false (q1 (pOslV 3 0))) (xJY 0 1 47 false false (q1 (pOslV 4 0))) (pBoxV 2 144 false true xJN) (pBoxV 2 44 false true xJN)) (fun (j,n,_,_,_,_) ((e,_),((f,g),_),((h,i),_),(a,b),(c,d),_)=>(xbp j n,(e,g,f,i,h,a,b,c,d),fun p=>(.leaf (.exit 0) [] [bF 0 1 3 [AV.int .i64 p.1],⟨0,1,142,[AV.osl 3 p.2.1 0 p.2.2.1],false,false⟩,⟨0,1,47,[AV.osl 4 p.2.2.2.1 0 p.2.2.2.2.1],false,false⟩,bF p.2.2.2.2.2.2.1 2 144 p.2.2.2.2.2.1,bF p.2.2.2.2.2.2.2.2 2 44 p.2.2.2.2.2.2.2.1]))) (0,0,0,0,0,[],0,[],0) fun (j,n,_,_,_,_) _ (e,g,f,i,h,a,b,c,d)=>(((j,n,(),(),(),()),((e,()),((f,g),()),((h,i),()),(a,b),(c,d),())),xep j n e g f i h a b c d none)
def xfz:Env:=xrH.E.fn 71 5 (lsOf []) (xJm [(7,xhM.lp),(3,xp8.lp)])
theorem xuH:xI0 P0 (xJI.at 5) xfz:=xrH.ok.fn
theorem xtb:LoOk P0 (xJI.at xfz.pin) xfz (Tryz.f99.body.getD .skip):=xgi (ls:=[xI4 Tryz.f99 0,xI4 Tryz.f99 1]) (by kernel_rfl) (lkC xp8.ok (lkC xhM.ok lkN))
def xj4 (a n h:Int) (b c:Nat) (d e:LA):=Iter (xbp a n) (n,b+1,1,c,0,1,List.take (b+1) (d++[AV.agg [AV.int .i64 a,AV.int .i64 (i64.wrap (n - h))]]),0,e)
def xj5 (a n h:Int) (b c:Nat) (d e:LA):=Iter (xbp a n) (h,b,0,c,0,0,List.take b d,0,e)
def xjx (a n h:Int) (b c:Nat) (d e:LA):=(xj4 a n h b c d e).getD (0,0,0,0,0,[],0,[],0)
def xj3 (a n h:Int) (b c:Nat) (d e:LA):=(xj5 a n h b c d e).getD (0,0,0,0,0,[],0,[],0)
def xkW (a n h:Int) (b c:Nat) (d e:LA):=(xjx a n h b c d e).snd
def xj2 (a n h:Int) (b c:Nat) (d e:LA):=(xj3 a n h b c d e).snd
def xkT (a n h:Int) (b c:Nat) (d e:LA):=(xkW a n h b c d e).snd
def xj1 (a n h:Int) (b c:Nat) (d e:LA):=(xj2 a n h b c d e).snd
def xkS (a n h:Int) (b c:Nat) (d e:LA):=(xkT a n h b c d e).snd
def xj0 (a n h:Int) (b c:Nat) (d e:LA):=(xj1 a n h b c d e).snd
def xkR (a n h:Int) (b c:Nat) (d e:LA):=(xkS a n h b c d e).snd
def xjZ (a n h:Int) (b c:Nat) (d e:LA):=(xj0 a n h b c d e).snd
def xkQ (a n h:Int) (b c:Nat) (d e:LA):=(xkR a n h b c d e).snd
def xkX (a n h:Int) (b c:Nat) (d e:LA):=(xjZ a n h b c d e).snd
def xkP (a n h:Int) (b c:Nat) (d e:LA):=(xkQ a n h b c d e).snd
def xkV (a n h:Int) (b c:Nat) (d e:LA):=(xkX a n h b c d e).snd
def xkO (a n h:Int) (b c:Nat) (d e:LA):=(xkP a n h b c d e).snd
def xkU (a n h:Int) (b c:Nat) (d e:LA):=(xkV a n h b c d e).snd
def xjr {T:Type} (a n h:Int) (b d:Nat) (c e:LA) (δ:T) (κ:Int×Nat×Nat×Nat×Nat×LA×Nat×LA×Nat->T):T:=br (decide (n>h)) (br (rmB b c 1 16) (br ((xj4 a n h b d c e).isSome) (κ ((xjx a n h b d c e).fst,(xkW a n h b d c e).fst,(xkT a n h b d c e).fst,(xkS a n h b d c e).fst,(xkR a n h b d c e).fst,(xkQ a n h b d c e).fst,(xkP a n h b d c e).fst,(xkO a n h b d c e).fst,(xkO a n h b d c e).snd)) δ) δ) (br ((xj5 a n h b d c e).isSome) (κ ((xj3 a n h b d c e).fst,(xj2 a n h b d c e).fst,(xj1 a n h b d c e).fst,(xj0 a n h b d c e).fst,(xjZ a n h b d c e).fst,(xkX a n h b d c e).fst,(xkV a n h b d c e).fst,(xkU a n h b d c e).fst,(xkU a n h b d c e).snd)) δ)
def xjY (a n h:Int) (b c:Nat) (d e:LA):=xjr a n h b c d e none some
theorem xzy (a n h:Int) (b c:Nat) (d e:LA):Enc (fun (p:Int×Nat×Nat×Nat×Nat×LA×Nat×LA×Nat)=>(((AV.tuple [],([⟨0,1,3,[AV.int .i64 p.1],false,true⟩,⟨0,1,142,[AV.osl 3 p.2.1 0 p.2.2.1],false,false⟩,⟨0,1,47,[AV.osl 4 p.2.2.2.1 0 p.2.2.2.2.1],false,false⟩,⟨p.2.2.2.2.2.2.1,2,144,p.2.2.2.2.2.1,false,true⟩,⟨p.2.2.2.2.2.2.2.2,2,44,p.2.2.2.2.2.2.2.1,false,true⟩]:List Box))):(AV×List Box))) (xjY a n h b c d e) (XFM P0 xfz Tryz.f99 (Tryz.f99.body.getD .skip) [AV.int .i64 a,AV.int .i64 n,AV.own (0:Id) 0 0 0,AV.own (1:Id) 0 0 0,AV.own (2:Id) 0 0 0] [{ ver:=0,sz:=1,ty:=(3:TypeId),xs:=[AV.int .i64 h],frz:=false,pm:=true },{ ver:=0,sz:=1,ty:=(142:TypeId),xs:=[AV.osl (3:Id) 0 0 b],frz:=false,pm:=false },{ ver:=0,sz:=1,ty:=(47:TypeId),xs:=[AV.osl (4:Id) 0 0 c],frz:=false,pm:=false },{ ver:=0,sz:=2,ty:=(144:TypeId),xs:=d,frz:=false,pm:=true },{ ver:=0,sz:=2,ty:=(44:TypeId),xs:=e,frz:=false,pm:=true }]):=by
 have h:XFM P0 xfz Tryz.f99 (Tryz.f99.body.getD .skip) [AV.int .i64 a,AV.int .i64 n,AV.own (0:Id) 0 0 0,AV.own (1:Id) 0 0 0,AV.own (2:Id) 0 0 0] [{ ver:=0,sz:=1,ty:=(3:TypeId),xs:=[AV.int .i64 h],frz:=false,pm:=true },{ ver:=0,sz:=1,ty:=(142:TypeId),xs:=[AV.osl (3:Id) 0 0 b],frz:=false,pm:=false },{ ver:=0,sz:=1,ty:=(47:TypeId),xs:=[AV.osl (4:Id) 0 0 c],frz:=false,pm:=false },{ ver:=0,sz:=2,ty:=(144:TypeId),xs:=d,frz:=false,pm:=true },{ ver:=0,sz:=2,ty:=(44:TypeId),xs:=e,frz:=false,pm:=true }]=xjr a n h b c d e none (fun (p:Int×Nat×Nat×Nat×Nat×LA×Nat×LA×Nat)=>some (((AV.tuple [],([⟨0,1,3,[AV.int .i64 p.1],false,true⟩,⟨0,1,142,[AV.osl 3 p.2.1 0 p.2.2.1],false,false⟩,⟨0,1,47,[AV.osl 4 p.2.2.2.1 0 p.2.2.2.2.1],false,false⟩,⟨p.2.2.2.2.2.2.1,2,144,p.2.2.2.2.2.1,false,true⟩,⟨p.2.2.2.2.2.2.2.2,2,44,p.2.2.2.2.2.2.2.1,false,true⟩]:List Box))):(AV×List Box))):=by kernel_rfl
 rw [h];unfold xjY xjr;repeat' (first|refine Enc.br ?_ ?_|exact Enc.none|exact Enc.some rfl)
end Go.Sim.M
end
noncomputable section
set_option maxRecDepth 100000
namespace Go.Sim
open Go.RowKit
theorem GoodM.aged {P:Program} {Inv:IV} {f:FuncId} {args:List AV} {H E:List Box} {p q v k t s y:Nat} {xs:List AV}
  (h:GoodM P Inv f args H (.tuple []) E) (hz:∀ bx,H[q]?=some bx->bx.ver=0)
  (ep:E[p]?=some ⟨0,1,t,[.osl (.b q) v 0 k],false,false⟩) (eq:E[q]?=some ⟨v,s,y,xs,false,true⟩) (pt:isC t=false) (py:isC y=false)
  (ho:∀ n bx,E[n]?=some bx->isC bx.ty=false/\(n=p\/n=q\/bx.pm=true\/∃ n' v' k',n'≠q/\bx.xs=[.osl (.b n') v' 0 k'])) :
  GoodM P Inv f args H (.tuple []) ((E.set p ⟨0,1,t,[.osl (.b q) 1 0 k],false,false⟩).set q ⟨1,s,y,xs,false,true⟩):=by
 have pq:p≠q:=fun e=>by
  subst e;rw [ep] at eq;simp at eq
 refine ⟨h.1,fun w0 w A M vs hI hB hR ab=>(h.2 w0 w A M vs hI hB hR ab).mono ?_⟩
 rintro e w' ⟨u,A',M',rfl,h1,h2,h3,h4,h5⟩;let M'':Id->Option MB:=fun id=>if id=.b q then (M' id).map fun m=>⟨m.b,1,m.sz,m.cap,m.ty⟩ else M' id
 have eo:∀ id,id≠.b q->M'' id=M' id:=fun id g1=>if_neg g1
 have e4:∀ m,M' (.b q)=some m->M'' (.b q)=some ⟨m.b,1,m.sz,m.cap,m.ty⟩:=fun m hm=>(if_pos rfl).trans (by rw [hm];rfl)
 have O:∀ id m1,M'' id=some m1->∃ m0,M' id=some m0/\m1.b=m0.b/\m1.cap=m0.cap:=fun id m1 J=>by
  by_cases g3:id=.b q
  . subst g3;cases hm:M' (.b q) with
    | none=>simp [M'',hm] at J
    | some m=>rw [e4 m hm] at J;simp only [z6] at J;subst J;exact ⟨m,rfl,rfl,rfl⟩
  . exact ⟨m1,eo id g3▸J,rfl,rfl⟩
 have Q:∀ n bx m,E[n]?=some bx->M' (.b n)=some m->BoxAt w' A' M' w0.heap.size (.b n) m bx:=fun n bx m hn hm=>by
  obtain ⟨bx',g1,g2⟩:=h4.box _ m hm;rw [xaM,hn] at g1;cases g1;exact g2
 have hv:∀ m,M' (.b q)=some m->v=m.ver:=fun m hm=>(Q q _ m eq hm).ver
 have hx:∀ c n' v' k',n'≠q->Rel w' A' M' c (.osl (.b n') v' 0 k')->Rel w' A' M'' c (.osl (.b n') v' 0 k'):=fun c n' v' k' hn hr=>by
  obtain ⟨m0,g1,g2,g3,g4⟩:=Rel.osl_inv hr;exact .osl c _ v' 0 k' m0 ((eo _ fun e=>hn (by cases e;rfl)).trans g1) g2 g3 g4
 have hy:∀ c,Rel w' A' M' c (.osl (.b q) v 0 k)->Rel w' A' M'' c (.osl (.b q) 1 0 k):=fun c hr=>by
  obtain ⟨m0,g1,g2,g3,g4⟩:=Rel.osl_inv hr;exact .osl c _ 1 0 k _ (e4 m0 g1) (zd _) g3 fun _=>g4 (hv m0 g1)
 have hb:∀ id (bx bx':Box) (m m':MB),isC bx.ty=false->bx'=⟨m'.ver,bx.sz,bx.ty,bx'.xs,bx.frz,bx.pm⟩->m'=⟨m.b,m'.ver,m.sz,m.cap,m.ty⟩->bx'.xs.length=bx.xs.length->(∀ x,x∈bx'.xs->x.okElem m.sz=true) ->
   (∀ c i j,Rel w' A' (MP M' bx.pm) c ((bx.xs.getD i .top).cells.getD j .top)->Rel w' A' (MP M'' bx.pm) c ((bx'.xs.getD i .top).cells.getD j .top))->BoxAt w' A' M' w0.heap.size id m bx->BoxAt w' A' M'' w0.heap.size id m' bx':=fun id bx bx' m m' U Z aa hl ac hc g=>by
  rw [Z,aa];have V:xI2 m.ty=false:=g.nomap (xan U);refine ⟨rfl,g.sz,g.ty,g.capm,hl▸g.fits,ac,g.low,g.lt,fun h0=>?_,g.guard⟩
  obtain ⟨c,c1,c2,c3⟩:=g.cells h0;refine ⟨c,.of V (c1.plain V),c2,fun i j hi hj=>?_⟩
  have:=c3 i j (hl▸hi) hj;rw [xah U,xaz U] at this;rw [xah U,xaz (bx:=⟨m'.ver,bx.sz,bx.ty,bx'.xs,bx.frz,bx.pm⟩) U];exact hc _ i j this
 have ht:∀ a v1 v2 d,(∀ c,Rel w' A' M' c (.osl a v1 0 d)->Rel w' A' M'' c (.osl a v2 0 d))->∀ c i j,Rel w' A' M' c ((([.osl a v1 0 d]:List AV).getD i .top).cells.getD j .top)->Rel w' A' M'' c ((([.osl a v2 0 d]:List AV).getD i .top).cells.getD j .top):=fun a v1 v2 d hh c i j hr=>by
  match i,j with
  | 0,0=>exact hh c hr
  | 0,j+1=>exact .top _
  | i+1,0=>exact .top _
  | i+1,j+1=>exact .top _
 have hg:∀ n bx,E[n]?=some bx->∃ bx',((E.set p ⟨0,1,t,[.osl (.b q) 1 0 k],false,false⟩).set q ⟨1,s,y,xs,false,true⟩)[n]?=some bx'/\isC bx'.ty=false/\(∀ m m1,M' (.b n)=some m->M'' (.b n)=some m1->BoxAt w' A' M'' w0.heap.size (.b n) m1 bx'):=fun n bx hn=>by
  have hn':=xbz hn;obtain ⟨hC,hc⟩:=ho n bx hn;by_cases g1:n=q
  . subst g1;rw [hn] at eq;cases eq;refine ⟨_,zL (by simpa using hn'),py,fun m m1 e1 e2=>?_⟩
    rw [e4 m e1] at e2;cases e2;have g:=Q n _ m hn e1;exact hb _ ⟨v,s,y,xs,false,true⟩ ⟨1,s,y,xs,false,true⟩ m _ py rfl rfl rfl g.ok (fun c i j hr=>hr) g
  . have ge:∀ m m1,M' (.b n)=some m->M'' (.b n)=some m1->m1=m:=fun m m1 e1 e2=>by
     rw [eo _ fun e=>g1 (by cases e;rfl),e1] at e2;cases e2;rfl
    by_cases g2:n=p
    . subst g2;rw [hn] at ep;cases ep;refine ⟨_,(zX (Ne.symm g1)).trans (zL hn'),pt,fun m m1 e1 e2=>?_⟩
      cases ge m m1 e1 e2;have g:=Q n _ m hn e1;have hv:0=m.ver:=g.ver;have hz:m.sz=1:=g.sz.symm;exact hb _ ⟨0,1,t,[.osl (.b q) v 0 k],false,false⟩ ⟨0,1,t,[.osl (.b q) 1 0 k],false,false⟩ m m pt (by rw [<-hv]) rfl rfl (fun x hx=>by simp only [zv] at hx;subst hx;rw [hz];rfl) (ht _ _ _ _ hy) g
    . refine ⟨bx,(zX (Ne.symm g1)).trans ((zX (Ne.symm g2)).trans hn),hC,fun m m1 e1 e2=>?_⟩
      cases ge m m1 e1 e2;have g:=Q n _ m hn e1;refine hb _ bx bx m m hC (by rw [<-g.ver]) rfl rfl g.ok ?_ g
      rcases hc with hc|hc|hc|⟨n',v',k',hc,hd⟩
      . exact absurd hc g2
      . exact absurd hc g1
      . rw [hc];exact fun c i j hr=>hr
      . cases ad:bx.pm with
        | true=>exact fun c i j hr=>hr
        | false=>rw [hd];exact ht _ _ _ _ fun c=>hx c n' v' k' hc
 have hR':HR w' A' M'' w0.heap.size ((E.set p ⟨0,1,t,[.osl (.b q) 1 0 k],false,false⟩).set q ⟨1,s,y,xs,false,true⟩):=by
  refine ⟨fun id m1 J=>?_,fun id id' m1 m2 k1 k2 c1 c2 he=>?_,h4.lt⟩
  . obtain ⟨m0,g1,_⟩:=O id m1 J;obtain ⟨bx,q1,q2⟩:=h4.box _ m0 g1;cases id with
    | r n i j =>
     rw [eo _ (fun e=>by cases e),g1] at J
     cases J;obtain ⟨c0,r1,_⟩:=xlx q1;obtain ⟨bx',r2,r3,_⟩:=hg n c0 r1;rw [xbV r1 (ho n c0 r1).1] at q1;cases q1;exact ⟨_,xbV r2 r3,hb _ tombB tombB m1 m1 rfl (by rw [<-q2.ver]) rfl rfl q2.ok (fun c i j hr=>hr) q2⟩
    | b n =>
     obtain ⟨bx',r2,_,r3⟩:=hg n bx q1;exact ⟨bx',r2,r3 _ _ g1 J⟩
  . obtain ⟨n1,a1,a2,a3⟩:=O id m1 k1;obtain ⟨n2,b1,b2,b3⟩:=O id' m2 k2;exact h4.inj id id' n1 n2 a1 b1 (a3▸c1) (b3▸c2) (by rw [<-a2,<-b2,he])
 refine ⟨u,A',M'',rfl,h1,h2,⟨h3.size,h3.keep,h3.less,h3.more,fun id m W hm=>?_,fun id m1 J h0=>?_⟩,hR',?_⟩
 . obtain ⟨m',g1,g2⟩:=h3.ids id m W hm;by_cases q4:id=.b q
   . subst q4;obtain ⟨bx,r1,r2⟩:=hR.box _ m hm;exact ⟨_,e4 m' g1,.inr (by rw [<-r2.ver,hz bx r1];exact Nat.zero_lt_one)⟩
   . exact ⟨m',(eo id q4).trans g1,g2⟩
 . obtain ⟨m0,g1,g2,g3⟩:=O id m1 J;rw [g2];exact h3.src id m0 g1 (g3▸h0)
 . obtain ⟨Y,rfl,q1,_⟩:=h5.tuple_inv;exact .tuple Y [] q1 (by simp)
namespace M
open Go.Proofs
noncomputable def set2 (q n h:Int) (ns no:Nat) (sx ox:List AV):Option (Int×Nat×Nat×List AV×List AV):=(xjY q n h ns no sx ox).bind fun p =>
 br (Nat.beq p.2.1 p.2.2.2.2.2.2.1&&Nat.beq p.2.2.2.1 p.2.2.2.2.2.2.2.2) (some (p.1,p.2.2.1,p.2.2.2.2.1,p.2.2.2.2.2.1,p.2.2.2.2.2.2.2.1)) none
noncomputable def xEw:List AV->List Box->Option (Bool×AV×List Box):=omOf (xJK (sEq (pInt IntKind.i64)) (xJK (sEq (pInt IntKind.i64)) (xJK (sEq (xJW 0 0 0 0)) (xJK (sEq (xJW 1 0 0 0)) (xJK (sEq (xJW 2 0 0 0)) xJM)))))
 (xJJ (xJY 0 1 3 false true (xJJ (pInt IntKind.i64) xJL)) (xJJ (xJY 0 1 142 false false (xJJ (xJV 3 0 0) xJL)) (xJJ (xJY 0 1 47 false false (xJJ (xJV 4 0 0) xJL)) (xJJ (xJY 0 2 144 false true xJN) (xJJ (xJY 0 2 44 false true xJN) xJL)))))
 fun (q,(n,(_,(_,(_,_))))) ((h,_),((ns,_),((no,_),(sx,(ox,_)))))=>((set2 q n h ns no sx ox).isSome,(.tuple [],[⟨0,1,3,[.int .i64 ((set2 q n h ns no sx ox).getD (0,0,0,[],[])).1],false,true⟩,⟨0,1,142,[.osl (.b 3) 1 0 ((set2 q n h ns no sx ox).getD (0,0,0,[],[])).2.1],false,false⟩,⟨0,1,47,[.osl (.b 4) 1 0 ((set2 q n h ns no sx ox).getD (0,0,0,[],[])).2.2.1],false,false⟩,⟨1,2,144,((set2 q n h ns no sx ox).getD (0,0,0,[],[])).2.2.2.1,false,true⟩,⟨1,2,44,((set2 q n h ns no sx ox).getD (0,0,0,[],[])).2.2.2.2,false,true⟩]))
theorem xHL:OmOk P0 xJI 99 xEw:=xpV fun vv bb rr Y hh=>by
 obtain ⟨J,⟨n,⟨_,⟨_,⟨_,_⟩⟩⟩⟩⟩:=vv;obtain ⟨⟨h,_⟩,⟨⟨ns,_⟩,⟨⟨no,_⟩,⟨sx,⟨ox,_⟩⟩⟩⟩⟩:=bb;obtain ⟨O,V⟩:=Prod.mk.inj hh;cases hs:xjY J n h ns no sx ox with
 | none=>rw [show set2 J n h ns no sx ox=none by unfold set2;rw [hs];rfl] at O;simp at O
 | some p =>
  have U:set2 J n h ns no sx ox=br (Nat.beq p.2.1 p.2.2.2.2.2.2.1&&Nat.beq p.2.2.2.1 p.2.2.2.2.2.2.2.2) (some (p.1,p.2.2.1,p.2.2.2.2.1,p.2.2.2.2.2.1,p.2.2.2.2.2.2.2.1)) none:=by unfold set2;rw [hs];rfl
  cases ht:Nat.beq p.2.1 p.2.2.2.2.2.2.1&&Nat.beq p.2.2.2.1 p.2.2.2.2.2.2.2.2 with
  | false=>rw [U,ht] at O;simp [br] at O
  | true =>
   rw [ht] at U;have W:set2 J n h ns no sx ox=some (p.1,p.2.2.1,p.2.2.2.2.1,p.2.2.2.2.2.1,p.2.2.2.2.2.2.2.1):=U;rw [W] at V;simp only [zh] at V;simp only [zf] at ht;have e1:=zg ht.1;have e2:=zg ht.2;have hx:=xzy J n h ns no sx ox p hs;have hg:GoodM P0 xJI 99 _ _ _ _:=xfL (p:=xfz.pin) (xhv xI9 (xJa P0 _) rfl xuH rfl Tryz.func99 rfl (by kernel_rfl) xtb hx)
   rw [<-e1,<-e2] at hg;have Q:=GoodM.aged (p:=1) (q:=3) hg (fun bx hb=>by cases hb;rfl) rfl rfl rfl rfl (fun n bx hn=>by
    match n with
    | 0=>cases hn;exact ⟨rfl,.inr (.inr (.inl rfl))⟩
    | 1=>cases hn;exact ⟨rfl,.inl rfl⟩
    | 2=>cases hn;exact ⟨rfl,.inr (.inr (.inr ⟨_,_,_,by decide,rfl⟩))⟩
    | 3=>cases hn;exact ⟨rfl,.inr (.inl rfl)⟩
    | 4=>cases hn;exact ⟨rfl,.inr (.inr (.inl rfl))⟩
    | n+5=>simp at hn)
   have Q:=GoodM.aged (p:=2) (q:=4) Q (fun bx hb=>by cases hb;rfl) rfl rfl rfl rfl (fun n bx hn=>by
    match n with
    | 0=>cases hn;exact ⟨rfl,.inr (.inr (.inl rfl))⟩
    | 1=>cases hn;exact ⟨rfl,.inr (.inr (.inr ⟨_,_,_,by decide,rfl⟩))⟩
    | 2=>cases hn;exact ⟨rfl,.inl rfl⟩
    | 3=>cases hn;exact ⟨rfl,.inr (.inr (.inl rfl))⟩
    | 4=>cases hn;exact ⟨rfl,.inr (.inl rfl)⟩
    | n+5=>simp at hn)
   obtain ⟨rfl,rfl⟩:=Prod.mk.inj V;exact Q
noncomputable def ESet:Env:=xrH.E.withM 99 xEw
theorem xFU:xI0 P0 xJI ESet:=xrH.ok.withM xHL
noncomputable def xA7:EO:=EO.mk ESet xFU
end M
end Go.Sim
end
noncomputable section
set_option maxRecDepth 100000
namespace Go.Sim.M
open Go.IntKind (i64 u64 u8)
open Go.RowKit Go.Proofs
def xjS (a:LA) (h b:Int) (f c:Nat) (g:Int) (d e:LA):Int:=if 0>(gC a b 1).toInt then 0 else (gC a b 1).toInt
def xjR (f:LA) (h g:Int) (d a:Nat) (e:Int) (b c:LA):=set2 (gC f g 0).toInt (if 1048576<xjS f h g d a e b c then 1048576 else xjS f h g d a e b c) e a d c b
def xjQ (f:LA) (g h:Int) (d a:Nat) (e:Int) (b c:LA):=(xjR f g h d a e b c).getD (0,0,0,[],[])
def xjP (f:LA) (g h:Int) (d a:Nat) (e:Int) (b c:LA):=(xjQ f g h d a e b c).snd
def xjN (f:LA) (g h:Int) (d a:Nat) (e:Int) (b c:LA):=(xjP f g h d a e b c).fst
def xjO (f:LA) (g h:Int) (d a:Nat) (e:Int) (b c:LA):=(xjP f g h d a e b c).snd
def xjM (f:LA) (g h:Int) (d a:Nat) (e:Int) (b c:LA):=(xjO f g h d a e b c).snd
def xgG {T:Type} (g:LA) (h e:Int) (d a:Nat) (f:Int) (b c:LA) (δ:T) (κl:(Int×Nat×Nat×Int×LA×LA)->T) (κr:(Nat×Int×Nat×LA×LA)->T):T:=br (decide (e<h)) (br (ixI g e) (br (ixT g e 2 [Sh.int .i64,Sh.int .i64] 0) (br ((xjR g h e d a f b c).isSome) (κl (i64.wrap (e+1),(xjO g h e d a f b c).fst,xjN g h e d a f b c,(xjQ g h e d a f b c).fst,(xjM g h e d a f b c).snd,List.take (xjN g h e d a f b c) (xjM g h e d a f b c).fst)) δ) δ) δ) (κr (d,f,a,b,c))
def xcp (f:LA) (g:Int):StT (Int×Nat×Nat×Int×LA×LA) (Nat×Int×Nat×LA×LA):=fun (h,d,a,e,b,c)=>xgG f g h d a e b c none inL inR
def xoS:=xA7.l 30 0 [] [] Tryz.f65 0 lk0 [3,4,6,10,11,12] [3,6] [(3,2,44),(4,2,144),(4,0,0)] (q6 (xJW 0 0 0 0) (xJW 1 0 0 0) (xJn 99 (q3 (xJW 2 0 0 0) (xJW 1 0 0 0) (xJW 0 0 0 0))) (qL 2) qI qI) (q5 (xJY 0 1 47 false false (q1 (xJV 3 0 0))) (xJY 0 1 142 false false (q1 (xJV 4 0 0))) (qB 0 1 3 (q1 qI)) (qB 0 2 44 xJN) (qB 0 2 144 xJN)) (fun (_,_,(_,_,_,_),f,g,h,_) ((d,_),(a,_),(e,_),b,c,_)=>(xcp f g,(h,d,a,e,b,c),fun p=>(.leaf (.exit 0) [AV.own 0 0 0 0,AV.func 99 [AV.own 1 0 0 0,AV.own 2 0 0 0,AV.own 0 0 0 0]] [⟨0,1,47,[AV.osl 3 0 0 p.1],false,false⟩,bF 0 1 3 [AV.int .i64 p.2.1],⟨0,1,142,[AV.osl 4 0 0 p.2.2.1],false,false⟩,bF 0 2 44 p.2.2.2.1,bF 0 2 144 p.2.2.2.2]))) (0,0,0,[],[]) fun (_,_,(_,_,_,_),f,g,_,_) _ (h,d,a,e,b,c)=>((((),(),((),(),(),()),f,g,h,()),((d,()),(a,()),(e,()),b,c,())),xgG f g h d a e b c none)
def xmx (l:LA):=Iter (xcp l (↑l.length:Int)) (0,0,0,0,[],[])
def xmZ (l:LA):=(xmx l).getD (0,0,0,[],[])
def xmY (l:LA):=(xmZ l).snd
def xmX (l:LA):=(xmY l).snd
def xmW (l:LA):=(xmX l).snd
def xmV (l:LA):=set2 1099511627776 0 (xmY l).fst (xmX l).fst (xmZ l).fst (xmW l).snd (xmW l).fst
def xmU (l:LA):=((xmV l).getD (0,0,0,[],[])).snd.snd
def xf7 (l:LA):=(xmU l).fst
def xf8 (l:LA):=(xmU l).snd.snd
def xob {T:Type} (l:LA) (δ:T) (κ:LA->T):T:=br ((xmx l).isSome) (br ((xmV l).isSome) (br ((xf7 l).beq (xf8 l).length&&(decide (xf7 l<4611686018427387904)&&(xf8 l).all isP)) (br (decide (0+xf7 l<=(srtP (xf8 l)).length)&&true) (κ (List.take (xf7 l) (List.drop 0 (srtP (xf8 l))))) δ) δ) δ) δ
def xmT (l:LA):=xob l none some
def xG6:EO:=xA7.f Tryz.func65 30 0 [] [(6,xoS.lp)] (lk1 xoS.ok) (u1 (uL 2)) (fun (l,_) _=>xob l) (fun _ p=>AV.list 2 p) []
def xlO {T:Type} (a:LA) (δ:T) (κ:LA->T):T:=br ((↑a.length:Int)==1) (κ (a)) (br ((xdK a).isSome) (br ((xmT ((xdK a).getD [])).isSome) (κ ((xmT ((xdK a).getD [])).getD [])) δ) δ)
def xeE (a:LA):=xlO a none some
def xyS:EO:=xG6.f Tryz.func64 10 0 [] [] lk0 (u1 (uL 2)) (fun (a,_) _=>xlO a) (fun _ p=>AV.list 2 p) []
def xvW {T:Type} (b e:LA) (f:Int) (c:Nat) (a:Int) (d:LA) (δ:T) (κl:(Nat×Int×LA)->T) (κr:(Nat×LA)->T):T:=br (decide (a<f)) (br (decide (0<=a)&&decide (a<e.length)) (br (decide (a.toNat<e.length)&&((e.getD a.toNat .top).cells.length==2&&xI5 [Sh.int .i64,Sh.int .i64] (e.getD a.toNat .top).cells 0)) (br (xbZ ((e.getD a.toNat .top).cells.getD 0 .top).toInt ((e.getD a.toNat .top).cells.getD 1 .top).toInt) (br (c==d.length&&(decide ((c+2)*24<=140737488355328)&&decide (c+2<=4611686018427387904))) (κl (c+2,i64.wrap (a+1),d++[AV.agg [AV.int .i64 ((e.getD a.toNat .top).cells.getD 0 .top).toInt,AV.int .i64 1,AV.int .i64 0],AV.agg [AV.int .i64 ((e.getD a.toNat .top).cells.getD 1 .top).toInt,AV.int .i64 (-1),AV.int .i64 0]])) δ) (κl (c,i64.wrap (a+1),d))) δ) δ) (κr (c,d))
def xoN (b d:LA) (e:Int):StT (Nat×Int×LA) (Nat×LA):=fun (c,f,a)=>xvW b d e c f a none inL inR
def xvX {T:Type} (d:LA) (e:Int) (b:Nat) (a:Int) (c:LA) (δ:T) (κl:(Nat×Int×LA)->T) (κr:(Nat×LA)->T):T:=br (decide (a<e)) (br (decide (0<=a)&&decide (a<d.length)) (br (decide (a.toNat<d.length)&&((d.getD a.toNat .top).cells.length==2&&xI5 [Sh.int .i64,Sh.int .i64] (d.getD a.toNat .top).cells 0)) (br (xbZ ((d.getD a.toNat .top).cells.getD 0 .top).toInt ((d.getD a.toNat .top).cells.getD 1 .top).toInt) (br (b==c.length&&(decide ((b+2)*24<=140737488355328)&&decide (b+2<=4611686018427387904))) (κl (b+2,i64.wrap (a+1),c++[AV.agg [AV.int .i64 ((d.getD a.toNat .top).cells.getD 0 .top).toInt,AV.int .i64 0,AV.int .i64 1],AV.agg [AV.int .i64 ((d.getD a.toNat .top).cells.getD 1 .top).toInt,AV.int .i64 0,AV.int .i64 (-1)]])) δ) (κl (b,i64.wrap (a+1),c))) δ) δ) (κr (b,c))
def xtz (c:LA) (d:Int):StT (Nat×Int×LA) (Nat×LA):=fun (b,e,a)=>xvX c d b e a none inL inR
def xsI (a b:LA):=(Iter (xoN b a (↑a.length:Int)) (0,0,[])).getD (0,[])
def xsH (a b:LA):=Iter (xtz b (↑b.length:Int)) ((xsI a b).fst,0,(xsI a b).snd)
def xsG (a b:LA):=(xsH a b).getD (0,[])
def xk7 (a b:LA):=(xsG a b).fst
def xk8 (a b:LA):=(xsG a b).snd
def xz2 {T:Type} (a b:LA) (δ:T) (κ:LA->T):T:=br ((Iter (xoN b a (↑a.length:Int)) (0,0,[])).isSome) (br ((xsH a b).isSome) (br ((xk7 a b).beq (xk8 a b).length&&(decide (xk7 a b<4611686018427387904)&&(xk8 a b).all isE)) (br (decide (0+xk7 a b<=(srtE (xk8 a b)).length)&&true) (κ (List.take (xk7 a b) (List.drop 0 (srtE (xk8 a b))))) δ) δ) δ) δ
def xvV (a b:LA):=xz2 a b none some
def xEz (a b:Bool):Bool:=((a))
def xjL (l:LA) (i:Int):=decide (0<=i)&&decide (i<l.length)
def xtx {T:Type} (l:LA) (e:Nat) (d b c i:Int) (a:LA) (δ:T) (κl:(Int×Int×Int×LA)->T) (κr:(Int×Int×Int×LA)->T):T:=br (decide (i<l.length)) (br (xjL l i) (br (decide (i.toNat<l.length)&&xIZ (Sh.int .i64) ((l.getD i.toNat .top).cells.getD 0 .top)) (br (((l.getD i.toNat .top).cells.getD 0 .top).toInt==d) (br (xjL l i) (br (decide (i.toNat<l.length)&&xIZ (Sh.int .i64) ((l.getD i.toNat .top).cells.getD 1 .top)) (br (xjL l i) (br (decide (i.toNat<l.length)&&xIZ (Sh.int .i64) ((l.getD i.toNat .top).cells.getD 2 .top)) (κl (i64.wrap (b+((l.getD i.toNat .top).cells.getD 1 .top).toInt),i64.wrap (c+((l.getD i.toNat .top).cells.getD 2 .top).toInt),i64.wrap (i+1),a)) δ) δ) δ) δ) (κr (b,c,i,a))) δ) δ) (κr (b,c,i,a))
def xmS (l:LA) (b:Nat) (c:Int):StT (Int×Int×Int×LA) (Int×Int×Int×LA):=fun (d,e,i,a)=>xtx l b c d e i a none inL inR
def xf6 (a:Nat):=decide (0<=i64.wrap ((↑a:Int) - 1))&&decide (i64.wrap ((↑a:Int) - 1)<(↑a:Int))
def xnd (l:LA) (b:Nat) (d e i c:Int) (a:LA):=(Iter (xmS l b c) (d,e,i,a)).getD (0,0,0,[])
def xau (a:Nat):Nat:=0+(i64.wrap ((↑a:Int) - 1)).toNat
def xoR (l:LA) (b:Nat) (d e i c:Int) (a:LA):=(xnd l b d e i c a).snd
def xa3 (l:LA) (b:Nat) (d e i c:Int) (a:LA):=(xnd l b d e i c a).fst
def xoQ (l:LA) (b:Nat) (d e i c:Int) (a:LA):=(xoR l b d e i c a).snd
def xa2 (l:LA) (b:Nat) (d e i c:Int) (a:LA):=(xoR l b d e i c a).fst
def xad (l:LA) (b:Nat) (d e i c:Int) (a:LA):=(xoQ l b d e i c a).snd
def xoO (l:LA) (b:Nat) (d e i c:Int) (a:LA):=xEz (decide (xa3 l b d e i c a>0)) (decide (xa2 l b d e i c a>0))
def xaf (l:LA) (b:Nat) (d e i c:Int) (a:LA):=(xoQ l b d e i c a).fst
def xf5 (l:LA) (a:Nat) (d e i c:Int) (b:LA):=decide (xau a<(xad l a d e i c b).length)
def xoP (l:LA) (b:Nat) (d e i c:Int) (a:LA):=decide (xaf l b d e i c a<l.length)
def xtZ {T:Type} (l:LA) (a:Nat) (d e i c:Int) (b:LA) (δ:T) (κl:(Nat×Int×Int×Int×Int×LA)->T) (κr:(Nat×LA)->T):T:=br (decide (c<1099511627776)) (br ((Iter (xmS l a c) (d,e,i,b)).isSome) (br (xoP l a d e i c b) (br (decide (0<=xaf l a d e i c b)&&xoP l a d e i c b) (br (decide ((xaf l a d e i c b).toNat<l.length)&&xIZ (Sh.int .i64) ((l.getD (xaf l a d e i c b).toNat .top).cells.getD 0 .top)) (br (xoO l a d e i c b) (br (decide ((↑a:Int)>0)) (br (xf6 a) (br (xf5 l a d e i c b&&xIZ (Sh.int .i64) (((xad l a d e i c b).getD (xau a) .top).cells.getD 1 .top)) (br ((((xad l a d e i c b).getD (xau a) .top).cells.getD 1 .top).toInt==c) (br (xf6 a) (br (xf5 l a d e i c b) (κl (a,xa3 l a d e i c b,xa2 l a d e i c b,xaf l a d e i c b,((l.getD (xaf l a d e i c b).toNat .top).cells.getD 0 .top).toInt,(xad l a d e i c b).set (xau a) (AV.agg (List.take 1 ((xad l a d e i c b).getD (xau a) .top).cells++[AV.int .i64 ((l.getD (xaf l a d e i c b).toNat .top).cells.getD 0 .top).toInt]++List.drop 2 ((xad l a d e i c b).getD (xau a) .top).cells)))) δ) δ) (br (a==(xad l a d e i c b).length&&(decide ((a+1)*16<=140737488355328)&&decide (a+1<=4611686018427387904))) (κl (a+1,xa3 l a d e i c b,xa2 l a d e i c b,xaf l a d e i c b,((l.getD (xaf l a d e i c b).toNat .top).cells.getD 0 .top).toInt,xad l a d e i c b++[AV.agg [AV.int .i64 c,AV.int .i64 ((l.getD (xaf l a d e i c b).toNat .top).cells.getD 0 .top).toInt]])) δ)) δ) δ) (br (a==(xad l a d e i c b).length&&(decide ((a+1)*16<=140737488355328)&&decide (a+1<=4611686018427387904))) (κl (a+1,xa3 l a d e i c b,xa2 l a d e i c b,xaf l a d e i c b,((l.getD (xaf l a d e i c b).toNat .top).cells.getD 0 .top).toInt,xad l a d e i c b++[AV.agg [AV.int .i64 c,AV.int .i64 ((l.getD (xaf l a d e i c b).toNat .top).cells.getD 0 .top).toInt]])) δ)) (κl (a,xa3 l a d e i c b,xa2 l a d e i c b,xaf l a d e i c b,((l.getD (xaf l a d e i c b).toNat .top).cells.getD 0 .top).toInt,xad l a d e i c b))) δ) δ) (br (xoO l a d e i c b) (br (decide ((↑a:Int)>0)) (br (xf6 a) (br (xf5 l a d e i c b&&xIZ (Sh.int .i64) (((xad l a d e i c b).getD (xau a) .top).cells.getD 1 .top)) (br ((((xad l a d e i c b).getD (xau a) .top).cells.getD 1 .top).toInt==c) (br (xf6 a) (br (xf5 l a d e i c b) (κl (a,xa3 l a d e i c b,xa2 l a d e i c b,xaf l a d e i c b,1099511627776,(xad l a d e i c b).set (xau a) (AV.agg (List.take 1 ((xad l a d e i c b).getD (xau a) .top).cells++[AV.int .i64 1099511627776]++List.drop 2 ((xad l a d e i c b).getD (xau a) .top).cells)))) δ) δ) (br (a==(xad l a d e i c b).length&&(decide ((a+1)*16<=140737488355328)&&decide (a+1<=4611686018427387904))) (κl (a+1,xa3 l a d e i c b,xa2 l a d e i c b,xaf l a d e i c b,1099511627776,xad l a d e i c b++[AV.agg [AV.int .i64 c,AV.int .i64 1099511627776]])) δ)) δ) δ) (br (a==(xad l a d e i c b).length&&(decide ((a+1)*16<=140737488355328)&&decide (a+1<=4611686018427387904))) (κl (a+1,xa3 l a d e i c b,xa2 l a d e i c b,xaf l a d e i c b,1099511627776,xad l a d e i c b++[AV.agg [AV.int .i64 c,AV.int .i64 1099511627776]])) δ)) (κl (a,xa3 l a d e i c b,xa2 l a d e i c b,xaf l a d e i c b,1099511627776,xad l a d e i c b)))) δ) (κr (a,b))
def xsp (l:LA):StT (Nat×Int×Int×Int×Int×LA) (Nat×LA):=fun (b,d,e,i,c,a)=>xtZ l b d e i c a none inL inR
def xq5 (a b:LA):=Iter (xsp ((xvV a b).getD [])) (0,0,0,0,0,[])
def xq4 (a b:LA):=(xq5 a b).getD (0,[])
def xq2 (a b:LA):=(xq4 a b).fst
def xq3 (a b:LA):=(xq4 a b).snd
def xws {T:Type} (a b:LA) (δ:T) (κ:LA->T):T:=br ((xvV a b).isSome) (br ((xq5 a b).isSome) (br (decide (0+xq2 a b<=(xq3 a b).length)&&true) (κ (List.take (xq2 a b) (List.drop 0 (xq3 a b)))) δ) δ) δ
def xtA (a b:LA):=xws a b none some
def xEA {T:Type} (l:LA) (δ:T) (κ:LA->T):T:=br ((xtA l []).isSome) (κ ((xtA l []).getD [])) δ
def xtP (l:LA):=xEA l none some
def xen {T:Type} (h:LA) (i j:Int) (e:LA) (f:Int) (d:Nat) (c:Int) (a b g:LA) (δ:T) (κl:(Nat×Int×LA×LA×LA)->T) (κr:(Nat×LA)->T):T:=br (decide (c<f)) (br (ixI e c) (br (ixT e c 2 [Sh.int .i64,Sh.int .i64] 0) (br (decide (b.length*32<=140737488355328)&&decide (b.length<=4611686018427387904)) (br (decide (0+b.length<=b.length)&&true&&true&&true&&true) (br (rmB d a 1 40) (κl (d+1,i64.wrap (c+1),a++[AV.agg [AV.list 3 (List.take b.length (List.drop 0 b)),AV.int .i64 (gC e c 0).toInt,AV.int .i64 (gC e c 1).toInt]],b,g)) δ) δ) δ) δ) δ) (κr (d,a))
def xbf (c:LA) (d e:Int) (f:LA) (g:Int):StT (Nat×Int×LA×LA×LA) (Nat×LA):=fun (b,h,a,i,j)=>xen c d e f g b h a i j none inL inR
def xd7:=xyS.l 38 0 [54] [] Tryz.f63 1 lk0 [1,5,7,11,12,13,20,21,22] [1,5,11,12,13] [(5,3,54)] (q9 (xJn 64 xJL) (xJV 0 0 0) (xJW 1 0 0 0) (qL 2) qI qI (qL 2) qI qI) (q2 (qB 0 3 54 xJN) (qB 0 2 141 (q1 (xJX (q2 (qL 3) (qL 2)))))) (fun (_,b,_,c,d,e,f,g,h,_) (a,((i,j,_),_),_)=>(xbf c d e f g,(b,h,a,i,j),fun p=>(.leaf (.exit 2) [AV.func 64 [],AV.osl 0 0 0 p.1,AV.list 2 c,AV.int .i64 d,AV.int .i64 e] [bF 0 3 54 p.2]))) (0,[]) fun (_,_,_,c,d,e,f,g,_,_) _ (b,h,a,i,j)=>((((),b,(),c,d,e,f,g,h,()),(a,((i,j,()),()),())),xen c d e f g b h a i j none)
def xge (a:LA) (e:Int) (d:Nat) (b:Int) (c:LA):=Iter (xbf a e b ((xeE (gC a b 1).toList).getD []) (↑((xeE (gC a b 1).toList).getD []).length:Int)) (d,0,c,(gC a b 0).toList,(gC a b 1).toList)
def xgd (c:LA) (d:Int) (b:Nat) (e:Int) (a:LA):=(xge c d b e a).getD (0,[])
def xem {T:Type} (d:LA) (e:Int) (c:Nat) (b:Int) (a:LA) (δ:T) (κl:(Nat×Int×LA)->T) (κr:(Nat×LA)->T):T:=br (decide (b<e)) (br (ixI d b) (br (ixT d b 2 [Sh.list 3,Sh.list 2] 0) (br ((xeE (gC d b 1).toList).isSome) (br ((xge d e c b a).isSome) (κl ((xgd d e c b a).fst,i64.wrap (b+1),(xgd d e c b a).snd)) δ) δ) δ) δ) (κr (c,a))
def xbT (c:LA) (d:Int):StT (Nat×Int×LA) (Nat×LA):=fun (b,e,a)=>xem c d b e a none inL inR
def xkE:=xyS.l 38 0 [54] [(6,xd7.lp)] Tryz.f63 0 (lk1 xd7.ok) [1,5,11,12,13] [5] [(5,3,54)] (q5 (xJn 64 xJL) (xJV 0 0 0) (qL 2) qI qI) (q1 (qB 0 3 54 xJN)) (fun (_,b,c,d,e,_) (a,_)=>(xbT c d,(b,e,a),fun p=>(.leaf (.exit 0) [AV.osl 0 0 0 p.1] [bF 0 3 54 p.2]))) (0,[]) fun (_,_,c,d,_,_) _ (b,e,a)=>((((),b,c,d,e,()),(a,())),xem c d b e a none)
def xiA (l:LA):=Iter (xbT ((xif l).getD []) (↑((xif l).getD []).length:Int)) (0,0,[])
def xiz (l:LA):=(xiA l).getD (0,[])
def xiw (l:LA):=(xiz l).fst
def xiy (l:LA):=(xiz l).snd
def xjc {T:Type} (l:LA) (δ:T) (κ:LA->T):T:=br ((xif l).isSome) (br ((xiA l).isSome) (br (decide (0+xiw l<=(xiy l).length)&&true) (κ (List.take (xiw l) (List.drop 0 (xiy l)))) δ) δ) δ
def xlc (l:LA):=xjc l none some
def xG7:EO:=xyS.f Tryz.func63 38 0 [54] [(6,xd7.lp),(3,xkE.lp)] (lks (lkC xkE.ok (lkC xd7.ok lkN))) (u2 (uL 3) (sEq (xJn (64:FuncId) xJL))) (fun (l,_,_) _=>xjc l) (fun _ p=>AV.list 3 p) []
def xne {T:Type} (l:LA) (δ:T) (κ:LA->T):T:=br ((xlc l).isSome) (κ ((xlc l).getD [])) δ
def xp0 (l:LA):=xne l none some
def xC1:EO:=xG7.f Tryz.func36 5 0 [] [] lk0 (u1 (uL 3)) (fun (l,_) _=>xne l) (fun _ p=>AV.list 3 p) []
def xrM {T:Type} (h:LA) (i j:Int) (e:LA) (f:Int) (d:Nat) (c:Int) (a b g:LA) (δ:T) (κl:(Nat×Int×LA×LA×LA)->T) (κr:(Nat×LA)->T):T:=br (decide (c<f)) (br (ixI e c) (br (ixT e c 2 [Sh.int .i64,Sh.int .i64] 0) (br (decide (b.length*32<=140737488355328)&&decide (b.length<=4611686018427387904)) (br (decide (0+b.length<=b.length)&&true&&true&&true&&true) (br (rmB d a 1 40) (κl (d+1,i64.wrap (c+1),a++[AV.agg [AV.list 3 (List.take b.length (List.drop 0 b)),AV.int .i64 (gC e c 0).toInt,AV.int .i64 (gC e c 1).toInt]],b,g)) δ) δ) δ) δ) δ) (κr (d,a))
def xjd (c:LA) (d e:Int) (f:LA) (g:Int):StT (Nat×Int×LA×LA×LA) (Nat×LA):=fun (b,h,a,i,j)=>xrM c d e f g b h a i j none inL inR
def xgg (a:LA) (e:Int) (d:Nat) (b:Int) (c:LA):=Iter (xjd a e b ((xtP (gC a b 1).toList).getD []) (↑((xtP (gC a b 1).toList).getD []).length:Int)) (d,0,c,(gC a b 0).toList,(gC a b 1).toList)
def xgf (c:LA) (d:Int) (b:Nat) (e:Int) (a:LA):=(xgg c d b e a).getD (0,[])
def xgH {T:Type} (d:LA) (e:Int) (c:Nat) (b:Int) (a:LA) (δ:T) (κl:(Nat×Int×LA)->T) (κr:(Nat×LA)->T):T:=br (decide (b<e)) (br (ixI d b) (br (ixT d b 2 [Sh.list 3,Sh.list 2] 0) (br ((xtP (gC d b 1).toList).isSome) (br ((xgg d e c b a).isSome) (κl ((xgf d e c b a).fst,i64.wrap (b+1),(xgf d e c b a).snd)) δ) δ) δ) δ) (κr (c,a))
def xfb (c:LA) (d:Int):StT (Nat×Int×LA) (Nat×LA):=fun (b,e,a)=>xgH c d b e a none inL inR
def xfY (b a:Bool):Int:=(br (b) (((-1))) (br (a) ((1)) ((0))))
def xzW {T:Type} (b a:Bool) (δ:T) (κ:Int->T):T:=br (b) (κ ((-1))) (br (a) (κ (1)) (κ (0)))
def xG8:EO:=xC1.fT Tryz.func81 7 0 [] [] lk0 (fun (b,a,_)=>xzW b a none) (u2 (sEq pBool) (sEq pBool)) (fun (b,a,_)=>xfY b a) (fun _ p=>(AV.int .i64 p))
def xfD (a b:Int) (c:List UInt8) (d e:Int) (f:List UInt8):Int:=(br (a != d) ((xfY (decide (a<d)) (decide (a>d)))) (br (b != e) ((xfY (decide (b<e)) (decide (b>e)))) ((xfY (Op.bytesLess c f) !(Op.bytesLess c f || c==f)))))
def xvH {T:Type} (a b:Int) (c:List UInt8) (d e:Int) (f:List UInt8) (δ:T) (κ:Int->T):T:=br (a != d) (κ (xfY (decide (a<d)) (decide (a>d)))) (br (b != e) (κ (xfY (decide (b<e)) (decide (b>e)))) (κ (xfY (Op.bytesLess c f) !(Op.bytesLess c f || c==f))))
def xC2:EO:=xG8.fT Tryz.func49 48 0 [] [] lk0 (fun ((a,b,c,_),(d,e,f,_),_)=>xvH a b c d e f none) (u2 (xJx (u3 uI uI (sEq pStr))) (xJx (u3 uI uI (sEq pStr)))) (fun ((a,b,c,_),(d,e,f,_),_)=>xfD a b c d e f) (fun _ p=>(AV.int .i64 p))
def xcO (a b:LA) (i:Int):=xfD (gC a i 0).toInt (gC a i 1).toInt (gC a i 2).toStr (gC b i 0).toInt (gC b i 1).toInt (gC b i 2).toStr
def xc6 {T:Type} (a b:LA) (i:Int) (δ:T) (κl:(Int)->T) (κr:(Bool×(Int)×(Unit))->T):T:=br (decide (i<a.length)) (br (decide (i<b.length)) (br (ixI a i) (br (ixT a i 3 [Sh.int .i64,Sh.int .i64,Sh.str] 0) (br (ixI b i) (br (ixT b i 3 [Sh.int .i64,Sh.int .i64,Sh.str] 0) (br (xcO a b i != 0) (κr (true,(xcO a b i),())) (κl (i64.wrap (i+1)))) δ) δ) δ) δ) (κr (false,0,()))) (κr (false,0,()))
def xaD (a b:LA):StT (Int) (Bool×(Int)×(Unit)):=fun (i)=>xc6 a b i none inL inR
def xm9:=xC2.l 41 0 [] [] Tryz.f24 0 lk0 [0,1,5] [0,1,4] [] (q3 (qL 3) (qL 3) qI) xJL (fun (a,b,i,_) _=>(xaD a b,(i),fun p=>(.node p.1 (.leaf .ret [AV.list 3 a,AV.list 3 b,AV.int .i64 p.2.1] []) (.leaf (.exit 0) [AV.list 3 a,AV.list 3 b,.top] [])))) (false,0,()) fun (a,b,_,_) _ (i)=>(((a,b,i,()),()),xc6 a b i none)
def xme {T:Type} (a b:LA) (δ:T) (κ:Int->T):T:=br ((Iter (xaD a b) 0).isSome) (br (((Iter (xaD a b) 0).getD (false,0,())).fst) (κ (((Iter (xaD a b) 0).getD (false,0,())).snd.fst)) (br (decide ((↑a.length:Int)<(↑b.length:Int))) (κ ((-1))) (br (decide ((↑a.length:Int)>(↑b.length:Int))) (κ (1)) (κ (0))))) δ
def xav (a b:LA):=xme a b none some
def xG9:EO:=xC2.f Tryz.func24 41 0 [] [(2,xm9.lp)] (lk1 xm9.ok) (u2 (uL 3) (uL 3)) (fun (a,b,_) _=>xme a b) (fun _ p=>AV.int .i64 p) 0
def xoY {T:Type} (a b:LA) (δ:T) (κ:Bool->T):T:=br ((xav a b).isSome) (κ ((xav a b).getD 0==0)) δ
def xri (a b:LA):=xoY a b none some
def xC3:EO:=xG9.f Tryz.func165 9 0 [] [] lk0 (u2 (uL 3) (uL 3)) (fun (a,b,_) _=>xoY a b) (fun _ p=>AV.bool p) false
def xeY {T:Type} (a b:LA) (i:Int) (δ:T) (κl:(Int)->T) (κr:(Bool×(Bool)×(Unit))->T):T:=br (decide (i<a.length)) (br (ixI a i) (br (ixT a i 3 [Sh.int .i64,Sh.int .i64] 1) (br (ixI b i) (br (ixT b i 3 [Sh.int .i64,Sh.int .i64] 1) (br (!((gC a i 1).toInt==(gC b i 1).toInt&&((gC a i 2).toInt==(gC b i 2).toInt&&true))) (κr (true,(false),())) (br (ixI a i) (br (ixS a i (Sh.list 3) 0) (br (ixI b i) (br (ixS b i (Sh.list 3) 0) (br ((xav (gC a i 0).toList (gC b i 0).toList).isSome) (br ((xav (gC a i 0).toList (gC b i 0).toList).getD 0 != 0) (κr (true,(false),())) (κl (i64.wrap (i+1)))) δ) δ) δ) δ) δ)) δ) δ) δ) δ) (κr (false,false,()))
def xaV (a b:LA):StT (Int) (Bool×(Bool)×(Unit)):=fun (i)=>xeY a b i none inL inR
def xlH:=xC3.l 42 0 [] [] Tryz.f10 0 lk0 [0,1,5] [4] [] (q3 (qL 3) (qL 3) qI) xJL (fun (a,b,i,_) _=>(xaV a b,(i),fun p=>(.node p.1 (.leaf .ret [AV.bool p.2.1] []) (.leaf (.exit 0) [.top] [])))) (false,false,()) fun (a,b,_,_) _ (i)=>(((a,b,i,()),()),xeY a b i none)
def xkB {T:Type} (a b:LA) (δ:T) (κ:Bool->T):T:=br ((↑a.length:Int) != (↑b.length:Int)) (κ (false)) (br ((Iter (xaV a b) 0).isSome) (br (((Iter (xaV a b) 0).getD (false,false,())).fst) (κ (((Iter (xaV a b) 0).getD (false,false,())).snd.fst)) (κ (true))) δ)
def xmG (a b:LA):=xkB a b none some
def xC4:EO:=xC3.f Tryz.func10 42 0 [] [(4,xlH.lp)] (lk1 xlH.ok) (u2 (uL 3) (uL 3)) (fun (a,b,_) _=>xkB a b) (fun _ p=>AV.bool p) false
def xde (a b:LA) (i k:Int):=decide ((xav (gC b k 0).toList (gC a i 0).toList).getD 0<0)
def xdf (b:LA) (k:Int):=decide (k.toNat<b.length)&&((b.getD k.toNat .top).cells.length==3&&xI5 [Sh.list 3,Sh.int .i64,Sh.int .i64] (b.getD k.toNat .top).cells 0)
def xdg (a:LA) (i:Int):=decide (i.toNat<a.length)&&((a.getD i.toNat .top).cells.length==3&&xI5 [Sh.list 3,Sh.int .i64,Sh.int .i64] (a.getD i.toNat .top).cells 0)
def xb9 (b:LA) (k:Int):=ixI b k
def xca (a:LA) (i:Int):=ixI a i
def xbO {T:Type} (b:LA) (c:Nat) (i k:Int) (a:LA) (δ:T) (κl:(Nat×Int×Int×LA)->T):T:=br (xb9 b k) (br (xdf b k) (br (rmB c a 1 40) (κl (c+1,i,i64.wrap (k+1),a++[AV.agg [AV.list 3 (gC b k 0).toList,AV.int .i64 (gC b k 1).toInt,AV.int .i64 (gC b k 2).toInt]])) δ) δ) δ
def xbP {T:Type} (a:LA) (c:Nat) (i k:Int) (b:LA) (δ:T) (κl:(Nat×Int×Int×LA)->T):T:=br (xca a i) (br (xdg a i) (br (rmB c b 1 40) (κl (c+1,i64.wrap (i+1),k,b++[AV.agg [AV.list 3 (gC a i 0).toList,AV.int .i64 (gC a i 1).toInt,AV.int .i64 (gC a i 2).toInt]])) δ) δ) δ
def xbN {T:Type} (a b:LA) (d:Nat) (i k:Int) (c:LA) (δ:T) (κl:(Nat×Int×Int×LA)->T):T:=br (i==(↑a.length:Int)) (xbO b d i k c δ κl) (br (decide (k<b.length)) (br (xb9 b k) (br (ixS b k (Sh.list 3) 0) (br (xca a i) (br (ixS a i (Sh.list 3) 0) (br ((xav (gC b k 0).toList (gC a i 0).toList).isSome) (br (xde a b i k) (xbO b d i k c δ κl) (xbP a d i k c δ κl)) δ) δ) δ) δ) δ) (xbP a d i k c δ κl))
def xcv {T:Type} (a b:LA) (d:Nat) (i k:Int) (c:LA) (δ:T) (κl:(Nat×Int×Int×LA)->T) (κr:(Nat×LA)->T):T:=br (decide (i<a.length)) (xbN a b d i k c δ κl) (br (decide (k<b.length)) (xbN a b d i k c δ κl) (κr (d,c)))
def xaJ (a b:LA):StT (Nat×Int×Int×LA) (Nat×LA):=fun (d,i,k,c)=>xcv a b d i k c none inL inR
def xoJ:=xC4.l 61 0 [] [] Tryz.f139 0 lk0 [0,1,5,6,7] [5] [(5,3,54)] (q5 (qL 3) (qL 3) (xJV 0 0 0) qI qI) (q1 (qB 0 3 54 xJN)) (fun (a,b,d,i,k,_) (c,_)=>(xaJ a b,(d,i,k,c),fun p=>(.leaf (.exit 0) [AV.osl 0 0 0 p.1] [bF 0 3 54 p.2]))) (0,[]) fun (a,b,_,_,_,_) _ (d,i,k,c)=>(((a,b,d,i,k,()),(c,())),xcv a b d i k c none)
def xmO (a b:LA):=Iter (xaJ a b) (0,0,0,[])
def xmN (a b:LA):=(xmO a b).getD (0,[])
def xmL (a b:LA):=(xmN a b).snd
def xmM (a b:LA):=(xmN a b).fst
def xnW {T:Type} (a b:LA) (δ:T) (κ:LA->T):T:=br ((xmO a b).isSome) (br (decide (0+xmM a b<=(xmL a b).length)&&true) (κ (List.take (xmM a b) (List.drop 0 (xmL a b)))) δ) δ
def xqC (a b:LA):=xnW a b none some
def xu6:EO:=xC4.f Tryz.func139 61 0 [] [(3,xoJ.lp)] (lk1 xoJ.ok) (u2 (uL 3) (uL 3)) (fun (a,b,_) _=>xnW a b) (fun _ p=>AV.list 3 p) []
def xjE (R:LA->Option (LA)):LA->Option (Bool×AV):=ocOf (xJK (xJZ 3 xJN) xJM) fun (l,_)=>((R l).isSome,AV.list 3 ((R l).getD []))
def xfp (R:LA->Option (LA)):Prop:=OcOk P0 xJI 106 (xjE R)
def xd2 (R:LA->Option (LA)):Env:=(xu6.E.with 106 (xjE R)).fn 20 0 (lsOf []) (xJm [])
theorem xsS (R:LA->Option (LA)) (a:xfp R):xI0 P0 (xJI.at 0) (xd2 R):=(xu6.ok.with a).fn
theorem xrr (R:LA->Option (LA)) (a:xfp R):LoOk P0 (xJI.at (xd2 R).pin) (xd2 R) (Tryz.f106.body.getD .skip):=xhN (by kernel_rfl)
def xly (l:LA):=decide (0<=i64.wrap ((↑l.length:Int).tdiv 2))&&decide (i64.wrap ((↑l.length:Int).tdiv 2)<=(↑l.length:Int))
def xlz (R:LA->Option (LA)) (l:LA):Option (LA):=R (List.take (l.length - (i64.wrap ((↑l.length:Int).tdiv 2)).toNat) (List.drop (i64.wrap ((↑l.length:Int).tdiv 2)).toNat l))
def xlw (R:LA->Option (LA)) (l:LA):Option (LA):=xqC ((R (List.take ((i64.wrap ((↑l.length:Int).tdiv 2)).toNat - 0) (List.drop 0 l))).getD []) ((xlz R l).getD [])
def xet {T:Type} (R:LA->Option (LA)) (l:LA) (δ:T) (κ:LA->T):T:=br (decide ((↑l.length:Int)<2)) (κ (l)) (br (xly l&&true) (br ((R (List.take ((i64.wrap ((↑l.length:Int).tdiv 2)).toNat - 0) (List.drop 0 l))).isSome) (br (xly l) (br ((xlz R l).isSome) (br ((xlw R l).isSome) (κ ((xlw R l).getD [])) δ) δ) δ) δ) δ)
def xbA (R:LA->Option (LA)) (l:LA):=xet R l none some
theorem xvM (R:LA->Option (LA)) (l:LA):Enc (fun (p:LA)=>((AV.list 3 p):AV)) (xbA R l) (XF P0 (xd2 R) Tryz.f106 (Tryz.f106.body.getD .skip) [AV.list 3 l]):=by
 have h:XF P0 (xd2 R) Tryz.f106 (Tryz.f106.body.getD .skip) [AV.list 3 l]=xet R l none (fun (p:LA)=>some ((AV.list 3 p):AV)):=by kernel_rfl
 rw [h];unfold xbA xet;repeat' (first|refine Enc.br ?_ ?_|exact Enc.none|exact Enc.some rfl)
def xvL (R:LA->Option (LA)):LA->Option (Bool×AV):=ocOf (xJK (xJZ 3 xJN) xJM) fun (l,_)=>((xbA R l).isSome,(AV.list 3 ((xbA R l).getD [])))
theorem xvK (R:LA->Option (LA)) (a:xfp R):OcOk P0 xJI 106 (xvL R):=xfA fun e g f=>by
 obtain ⟨l,_⟩:=e;obtain ⟨b,c⟩:=Prod.mk.inj f;refine xeG (p:=(xd2 R).pin) (xgQ xI9 (xJa P0 _) rfl (xsS R a) Tryz.func106 rfl (by kernel_rfl) (xrr R a) ((xvM R _ _ (xaK (d:=[]) b)).trans ?_))
 exact congrArg some c
def xa0:Nat->LA->Option (LA)
 | 0=>fun _=>none
 | fu_+1=>fun l=>xbA (xa0 fu_) l
theorem xoK:∀ n,xfp (xa0 n)
 | 0=>xfA fun _ _ h=>absurd (Prod.mk.inj h).1 Bool.false_ne_true
 | fu_+1=>fun a r h=>xvK (xa0 fu_) (xoK fu_) a r h
def xC5:Env:=xu6.E.with 106 (xjE (xa0 100))
theorem xC7:xI0 P0 xJI xC5:=xu6.ok.with (xoK _)
def xC6:EO:=EO.mk xC5 xC7
def xcc (a b:Int):Bool:=(br (decide (a>=0)) (br (decide (a<b)) ((decide (b<=1099511627776))) ((false))) ((false)))
def xyu {T:Type} (a b:Int) (δ:T) (κ:Bool->T):T:=br (decide (a>=0)) (br (decide (a<b)) (κ (decide (b<=1099511627776))) (κ (false))) (κ (false))
def xHa:EO:=xC6.fT Tryz.func78 18 0 [] [] lk0 (fun ((a,b,_),_)=>xyu a b none) (u1 (xJx (u2 uI uI))) (fun ((a,b,_),_)=>xcc a b) (fun _ p=>(AV.bool p))
def xj7 (a b t:Int):Bool:=(br (xcc a b) (br (decide (a<=t)) ((decide (t<b))) ((false))) ((false)))
def xuQ {T:Type} (a b t:Int) (δ:T) (κ:Bool->T):T:=br (xcc a b) (br (decide (a<=t)) (κ (decide (t<b))) (κ (false))) (κ (false))
def xHb:EO:=xHa.fT Tryz.func47 19 0 [] [] lk0 (fun ((a,b,_),t,_)=>xuQ a b t none) (u2 (xJx (u2 uI uI)) uI) (fun ((a,b,_),t,_)=>xj7 a b t) (fun _ p=>(AV.bool p))
def xkY (a b c d:Int):Int:=(br (a==c&&(b==d&&true)) ((0)) (br (decide (a<c)) (((-1))) (br (a==c) (br (decide (b<d)) (((-1))) ((1))) ((1)))))
def xvF {T:Type} (a b c d:Int) (δ:T) (κ:Int->T):T:=br (a==c&&(b==d&&true)) (κ (0)) (br (decide (a<c)) (κ ((-1))) (br (a==c) (br (decide (b<d)) (κ ((-1))) (κ (1))) (κ (1))))
def xFP:EO:=xHb.fT Tryz.func142 27 0 [] [] lk0 (fun ((a,b,_),(c,d,_),_)=>xvF a b c d none) (u2 (xJx (u2 uI uI)) (xJx (u2 uI uI))) (fun ((a,b,_),(c,d,_),_)=>xkY a b c d) (fun _ p=>(AV.int .i64 p))
def xCz:Int×Int×List UInt8:=((0,0,[]))
def xzV {T:Type} (δ:T) (κ:Int×Int×List UInt8->T):T:=κ (0,0,[])
def xFQ:EO:=xFP.fT Tryz.func105 2 0 [] [] lk0 (fun _=>xzV none) xJM (fun _=>xCz) (fun _ p=>(AV.agg [AV.int .i64 p.1,AV.int .i64 p.2.1,AV.str p.2.2]))
def xvI {T:Type} (a:LA) (i:Int) (δ:T) (κ:Int×Int×List UInt8->T):T:=br (decide (i<0)) (κ (0,0,[])) (br (decide (i>=a.length)) (κ (0,0,[])) (br (ixI a i) (br (ixT a i 3 [Sh.int .i64,Sh.int .i64,Sh.str] 0) (κ ((gC a i 0).toInt,(gC a i 1).toInt,(gC a i 2).toStr)) δ) δ))
def xhQ (a:LA) (i:Int):=xvI a i none some
def xA1:EO:=xFQ.f Tryz.func70 18 0 [] [] lk0 (u2 (uL 3) uI) (fun (a,i,_) _=>xvI a i) (fun _ p=>AV.agg [AV.int .i64 p.1,AV.int .i64 p.2.1,AV.str p.2.2]) (0,0,[])
def xjy (o:LA) (i:Int):=ixI o i
def xoC (b o:LA) (i:Int):=(xhQ b (gC o i 0).toInt).getD (0,0,[])
def xoD (a o:LA) (i:Int):=(xhQ a (gC o i 0).toInt).getD (0,0,[])
def xoA (b o:LA) (i:Int):=(xoC b o i).snd
def xoB (a o:LA) (i:Int):=(xoD a o i).snd
def xoz (a b o:LA) (i:Int):=xfD (xoD a o i).fst (xoB a o i).fst (xoB a o i).snd (xoC b o i).fst (xoA b o i).fst (xoA b o i).snd
def xkq {T:Type} (a b o:LA) (i:Int) (δ:T) (κl:(Int)->T) (κr:(Bool×(Bool)×(Unit))->T):T:=br (decide (i<o.length)) (br (xjy o i) (br (ixS o i (Sh.int .i64) 0) (br ((xhQ a (gC o i 0).toInt).isSome) (br (xjy o i) (br (ixS o i (Sh.int .i64) 0) (br ((xhQ b (gC o i 0).toInt).isSome) (br (xoz a b o i != 0) (br (xjy o i) (br (decide (i.toNat<o.length)&&xIZ Sh.bool (gC o i 1)) (κr (true,(!decide (xoz a b o i<0)==(gC o i 1).toBool),())) δ) δ) (κl (i64.wrap (i+1)))) δ) δ) δ) δ) δ) δ) (κr (false,false,()))
def xch (a b o:LA):StT (Int) (Bool×(Bool)×(Unit)):=fun (i)=>xkq a b o i none inL inR
def xoy:=xA1.l 44 0 [] [] Tryz.f144 0 lk0 [0,1,2,7] [0,1,6] [] (q4 (qL 3) (qL 3) (qL 2) qI) xJL (fun (a,b,o,i,_) _=>(xch a b o,(i),fun p=>(.node p.1 (.leaf .ret [AV.list 3 a,AV.list 3 b,AV.bool p.2.1] []) (.leaf (.exit 0) [AV.list 3 a,AV.list 3 b,.top] [])))) (false,false,()) fun (a,b,o,_,_) _ (i)=>(((a,b,o,i,()),()),xkq a b o i none)
def xnt {T:Type} (a b o:LA) (δ:T) (κ:Bool->T):T:=br ((Iter (xch a b o) 0).isSome) (br (((Iter (xch a b o) 0).getD (false,false,())).fst) (κ (((Iter (xch a b o) 0).getD (false,false,())).snd.fst)) (br ((xav a b).isSome) (κ (decide ((xav a b).getD 0<0))) δ)) δ
def xmj (a b o:LA):=xnt a b o none some
def xA2:EO:=xA1.f Tryz.func144 44 0 [] [(2,xoy.lp)] (lk1 xoy.ok) (u3 (uL 3) (uL 3) (uL 2)) (fun (a,b,o,_) _=>xnt a b o) (fun _ p=>AV.bool p) false
def xb2 (b:LA) (k:Int):=decide (k.toNat<b.length)&&xIZ (Sh.list 3) (gC b k 0)
def xb3 (a:LA) (i:Int):=decide (i.toNat<a.length)&&xIZ (Sh.list 3) (gC a i 0)
def xb4 (a:LA) (i:Int):=ixI a i
def xb5 (b:LA) (k:Int):=ixI b k
def xbJ {T:Type} (b:LA) (c:Nat) (i k:Int) (a:LA) (δ:T) (κl:(Nat×Int×Int×LA)->T):T:=br (xb5 b k) (br (xb2 b k) (br (rmB c a 1 24) (κl (c+1,i,i64.wrap (k+1),a++[AV.list 3 (gC b k 0).toList])) δ) δ) δ
def xbK {T:Type} (a:LA) (c:Nat) (i k:Int) (b:LA) (δ:T) (κl:(Nat×Int×Int×LA)->T):T:=br (xb4 a i) (br (xb3 a i) (br (rmB c b 1 24) (κl (c+1,i64.wrap (i+1),k,b++[AV.list 3 (gC a i 0).toList])) δ) δ) δ
def xbI {T:Type} (a b o:LA) (d:Nat) (i k:Int) (c:LA) (δ:T) (κl:(Nat×Int×Int×LA)->T):T:=br (i==(↑a.length:Int)) (xbJ b d i k c δ κl) (br (decide (k<b.length)) (br (xb5 b k) (br (xb2 b k) (br (xb4 a i) (br (xb3 a i) (br ((xmj (gC b k 0).toList (gC a i 0).toList o).isSome) (br ((xmj (gC b k 0).toList (gC a i 0).toList o).getD false) (xbJ b d i k c δ κl) (xbK a d i k c δ κl)) δ) δ) δ) δ) δ) (xbK a d i k c δ κl))
def xcs {T:Type} (a b o:LA) (d:Nat) (i k:Int) (c:LA) (δ:T) (κl:(Nat×Int×Int×LA)->T) (κr:(Nat×LA)->T):T:=br (decide (i<a.length)) (xbI a b o d i k c δ κl) (br (decide (k<b.length)) (xbI a b o d i k c δ κl) (κr (d,c)))
def xaI (a b o:LA):StT (Nat×Int×Int×LA) (Nat×LA):=fun (d,i,k,c)=>xcs a b o d i k c none inL inR
def xoE:=xA2.l 62 0 [] [] Tryz.f114 0 lk0 [0,1,2,7,8,9] [7] [(7,1,42)] (q6 (qL 1) (qL 1) (qL 2) (xJV 0 0 0) qI qI) (q1 (qB 0 1 42 xJN)) (fun (a,b,o,d,i,k,_) (c,_)=>(xaI a b o,(d,i,k,c),fun p=>(.leaf (.exit 0) [AV.osl 0 0 0 p.1] [bF 0 1 42 p.2]))) (0,[]) fun (a,b,o,_,_,_,_) _ (d,i,k,c)=>(((a,b,o,d,i,k,()),(c,())),xcs a b o d i k c none)
def xmn (a b o:LA):=Iter (xaI a b o) (0,0,0,[])
def xmm (a b o:LA):=(xmn a b o).getD (0,[])
def xmk (a b o:LA):=(xmm a b o).snd
def xml (a b o:LA):=(xmm a b o).fst
def xnu {T:Type} (a b o:LA) (δ:T) (κ:LA->T):T:=br ((xmn a b o).isSome) (br (decide (0+xml a b o<=(xmk a b o).length)&&true) (κ (List.take (xml a b o) (List.drop 0 (xmk a b o)))) δ) δ
def xqj (a b o:LA):=xnu a b o none some
def xtJ:EO:=xA2.f Tryz.func114 62 0 [] [(3,xoE.lp)] (lk1 xoE.ok) (u3 (uL 1) (uL 1) (uL 2)) (fun (a,b,o,_) _=>xnu a b o) (fun _ p=>AV.list 1 p) []
def xlr (R:LA->LA->Option (LA)):LA->Option (Bool×AV):=ocOf (xJK (xJZ 1 xJN) (xJK (xJZ 2 xJN) xJM)) fun (l,(o,_))=>((R l o).isSome,AV.list 1 ((R l o).getD []))
def xgz (R:LA->LA->Option (LA)):Prop:=OcOk P0 xJI 80 (xlr R)
def xe6 (R:LA->LA->Option (LA)):Env:=(xtJ.E.with 80 (xlr R)).fn 34 0 (lsOf []) (xJm [])
theorem xtU (R:LA->LA->Option (LA)) (a:xgz R):xI0 P0 (xJI.at 0) (xe6 R):=(xtJ.ok.with a).fn
theorem xsP (R:LA->LA->Option (LA)) (a:xgz R):LoOk P0 (xJI.at (xe6 R).pin) (xe6 R) (Tryz.f80.body.getD .skip):=xhN (by kernel_rfl)
def xg5 (l:LA):=decide (0<=i64.wrap ((↑l.length:Int).tdiv 2))&&decide (i64.wrap ((↑l.length:Int).tdiv 2)<=(↑l.length:Int))
def xdX (l:LA):Nat:=0+((l.getD 0 .top).cells.getD 0 .top).toList.length
def xg6 (R:LA->LA->Option (LA)) (l o:LA):Option (LA):=R (List.take (l.length - (i64.wrap ((↑l.length:Int).tdiv 2)).toNat) (List.drop (i64.wrap ((↑l.length:Int).tdiv 2)).toNat l)) o
def xg4 (R:LA->LA->Option (LA)) (l o:LA):Option (LA):=xqj ((R (List.take ((i64.wrap ((↑l.length:Int).tdiv 2)).toNat - 0) (List.drop 0 l)) o).getD []) ((xg6 R l o).getD []) o
def xdE {T:Type} (R:LA->LA->Option (LA)) (l o:LA) (δ:T) (κ:LA->T):T:=br ((↑l.length:Int)==0) (κ ([])) (br ((↑l.length:Int)==1) (br (decide (0<(↑l.length:Int))) (br (decide (0<l.length)&&xIZ (Sh.list 3) ((l.getD 0 .top).cells.getD 0 .top)) (br (decide (xdX l*32<=140737488355328)&&decide (xdX l<=4611686018427387904)) (br (decide (0+xdX l<=([]++((l.getD 0 .top).cells.getD 0 .top).toList).length)&&true&&true&&true) (κ ([AV.list 3 (List.take (xdX l) (List.drop 0 ([]++((l.getD 0 .top).cells.getD 0 .top).toList)))])) δ) δ) δ) δ) (br (xg5 l&&true) (br ((R (List.take ((i64.wrap ((↑l.length:Int).tdiv 2)).toNat - 0) (List.drop 0 l)) o).isSome) (br (xg5 l) (br ((xg6 R l o).isSome) (br ((xg4 R l o).isSome) (κ ((xg4 R l o).getD [])) δ) δ) δ) δ) δ))
def xbk (R:LA->LA->Option (LA)) (l o:LA):=xdE R l o none some
theorem xyz (R:LA->LA->Option (LA)) (l o:LA):Enc (fun (p:LA)=>((AV.list 1 p):AV)) (xbk R l o) (XF P0 (xe6 R) Tryz.f80 (Tryz.f80.body.getD .skip) [AV.list 1 l,AV.list 2 o]):=by
 have h:XF P0 (xe6 R) Tryz.f80 (Tryz.f80.body.getD .skip) [AV.list 1 l,AV.list 2 o]=xdE R l o none (fun (p:LA)=>some ((AV.list 1 p):AV)):=by kernel_rfl
 rw [h];unfold xbk xdE;repeat' (first|refine Enc.br ?_ ?_|exact Enc.none|exact Enc.some rfl)
def xyy (R:LA->LA->Option (LA)):LA->Option (Bool×AV):=ocOf (xJK (xJZ 1 xJN) (xJK (xJZ 2 xJN) xJM)) fun (l,(o,_))=>((xbk R l o).isSome,(AV.list 1 ((xbk R l o).getD [])))
theorem xyw (R:LA->LA->Option (LA)) (a:xgz R):OcOk P0 xJI 80 (xyy R):=xfA fun e g f=>by
 obtain ⟨l,⟨o,_⟩⟩:=e;obtain ⟨b,c⟩:=Prod.mk.inj f;refine xeG (p:=(xe6 R).pin) (xgQ xI9 (xJa P0 _) rfl (xtU R a) Tryz.func80 rfl (by kernel_rfl) (xsP R a) ((xyz R _ _ _ (xaK (d:=[]) b)).trans ?_))
 exact congrArg some c
def xbe:Nat->LA->LA->Option (LA)
 | 0=>fun _ _=>none
 | fu_+1=>fun l o=>xbk (xbe fu_) l o
theorem xqf:∀ n,xgz (xbe n)
 | 0=>xfA fun _ _ h=>absurd (Prod.mk.inj h).1 Bool.false_ne_true
 | fu_+1=>fun a r h=>xyw (xbe fu_) (xqf fu_) a r h
def xA3:Env:=xtJ.E.with 80 (xlr (xbe 1000))
theorem xBV:xI0 P0 xJI xA3:=xtJ.ok.with (xqf _)
def xBU:EO:=EO.mk xA3 xBV
def xqi {T:Type} (l:LA) (δ:T) (κ:LA->T):T:=br ((xbe 1000 l []).isSome) (κ ((xbe 1000 l []).getD [])) δ
def xmi (l:LA):=xqi l none some
def xA4:EO:=xBU.f Tryz.func48 5 0 [] [] lk0 (u1 (uL 1)) (fun (l,_) _=>xqi l) (fun _ p=>AV.list 1 p) []
def xeV (a:LA) (i:Int):=decide (i.toNat<a.length)&&xIZ (Sh.list 3) (gC a i 0)
def xeW (a:LA) (i:Int):=ixI a i
def xeX (a:LA) (i:Int):=xri ((a.getD (i64.wrap (i - 1)).toNat .top).cells.getD 0 .top).toList (gC a i 0).toList
def xc7 {T:Type} (c:LA) (b:Nat) (i:Int) (a:LA) (δ:T) (κl:(Nat×Int×LA)->T):T:=br (xeW c i) (br (xeV c i) (br (rmB b a 1 24) (κl (b+1,i64.wrap (i+1),a++[AV.list 3 (gC c i 0).toList])) δ) δ) δ
def xdJ {T:Type} (a:LA) (c:Nat) (i:Int) (b:LA) (δ:T) (κl:(Nat×Int×LA)->T) (κr:(Nat×LA)->T):T:=br (decide (i<a.length)) (br (i==0) (xc7 a c i b δ κl) (br (decide (0<=i64.wrap (i - 1))&&decide (i64.wrap (i - 1)<(↑a.length:Int))) (br (decide ((i64.wrap (i - 1)).toNat<a.length)&&xIZ (Sh.list 3) ((a.getD (i64.wrap (i - 1)).toNat .top).cells.getD 0 .top)) (br (xeW a i) (br (xeV a i) (br ((xeX a i).isSome) (br (!(xeX a i).getD false) (xc7 a c i b δ κl) (κl (c,i64.wrap (i+1),b))) δ) δ) δ) δ) δ)) (κr (c,b))
def xa4 (c:LA):StT (Nat×Int×LA) (Nat×LA):=fun (b,i,a)=>xdJ c b i a none inL inR
def xmf:=xA4.l 38 0 [] [] Tryz.f140 0 lk0 [3,4,5] [4] [(4,1,42)] (q3 (qL 1) (xJV 0 0 0) qI) (q1 (qB 0 1 42 xJN)) (fun (c,b,i,_) (a,_)=>(xa4 c,(b,i,a),fun p=>(.leaf (.exit 0) [AV.osl 0 0 0 p.1] [bF 0 1 42 p.2]))) (0,[]) fun (c,_,_,_) _ (b,i,a)=>(((c,b,i,()),(a,())),xdJ c b i a none)
def xkp (l:LA):=(Iter (xa4 ((xmi l).getD [])) (0,0,[])).getD (0,[])
def xkn (l:LA):=(xkp l).snd
def xko (l:LA):=(xkp l).fst
def xlp {T:Type} (l:LA) (δ:T) (κ:LA->T):T:=br ((xmi l).isSome) (br ((Iter (xa4 ((xmi l).getD [])) (0,0,[])).isSome) (br (decide (0+xko l<=(xkn l).length)&&true) (κ (List.take (xko l) (List.drop 0 (xkn l)))) δ) δ) δ
def xns (l:LA):=xlp l none some
def xA5:EO:=xA4.f Tryz.func140 38 0 [] [(4,xmf.lp)] (lk1 xmf.ok) (u1 (uL 1)) (fun (l,_) _=>xlp l) (fun _ p=>AV.list 1 p) []
def xi5 {T:Type} (l:LA) (b:Nat) (i:Int) (a:LA) (δ:T) (κl:(Nat×Int×LA)->T) (κr:(Nat×LA)->T):T:=br (decide (i<l.length)) (br (ixI l i) (br (ixT l i 3 [Sh.int .i64,Sh.int .i64] 1) (br (xcc (gC l i 1).toInt (gC l i 2).toInt) (br (ixI l i) (br (ixS l i (Sh.list 3) 0) (br (rmB b a 1 24) (κl (b+1,i64.wrap (i+1),a++[AV.list 3 (gC l i 0).toList])) δ) δ) δ) (κl (b,i64.wrap (i+1),a))) δ) δ) (κr (b,a))
def xdd (l:LA):StT (Nat×Int×LA) (Nat×LA):=fun (b,i,a)=>xi5 l b i a none inL inR
def xqA:=xA5.l 27 0 [] [] Tryz.f107 0 lk0 [0,3,4] [3] [(3,1,42)] (q3 (qL 3) (xJV 0 0 0) qI) (q1 (qB 0 1 42 xJN)) (fun (l,b,i,_) (a,_)=>(xdd l,(b,i,a),fun p=>(.leaf (.exit 0) [AV.osl 0 0 0 p.1] [bF 0 1 42 p.2]))) (0,[]) fun (l,_,_,_) _ (b,i,a)=>(((l,b,i,()),(a,())),xi5 l b i a none)
def xpe (l:LA):=(Iter (xdd l) (0,0,[])).getD (0,[])
def xpc (l:LA):=(xpe l).fst
def xpd (l:LA):=(xpe l).snd
def xpb (l:LA):=xns (List.take (xpc l) (List.drop 0 (xpd l)))
def xqB {T:Type} (l:LA) (δ:T) (κ:LA->T):T:=br ((Iter (xdd l) (0,0,[])).isSome) (br (decide (0+xpc l<=(xpd l).length)&&true) (br ((xpb l).isSome) (κ ((xpb l).getD [])) δ) δ) δ
def xpO (l:LA):=xqB l none some
def xrI:EO:=xA5.f Tryz.func107 27 0 [] [(3,xqA.lp)] (lk1 xqA.ok) (u1 (uL 3)) (fun (l,_) _=>xqB l) (fun _ p=>AV.list 1 p) []
def xfB:Env:=xrI.E.fn 51 1 (lsOf []) (xJm [])
theorem xuS:xI0 P0 (xJI.at 1) xfB:=xrI.ok.fn
theorem xtn:LoOk P0 (xJI.at xfB.pin) xfB (Tryz.f85.body.getD .skip):=xhN (by kernel_rfl)
def xcV (k:Nat) (a:LA):=(List.take ((i64.wrap ((↑k:Int) - 1)).toNat - 0) (List.drop 0 a)).length
def xkx (k:Nat) (a:LA):=decide (0+(i64.wrap ((↑k:Int) - 1)).toNat<a.length)
def xii (k:Nat) (a:LA):=((a.getD (0+(i64.wrap ((↑k:Int) - 1)).toNat) .top).cells.getD 1 .top).toInt
def xk0 (k:Nat):=decide (0<=i64.wrap ((↑k:Int) - 1))
def xih (k:Nat):=xk0 k&&decide (i64.wrap ((↑k:Int) - 1)<(↑k:Int))
def xkZ (k:Nat) (a:LA):=xkx k a&&xIZ (Sh.int .i64) ((a.getD (0+(i64.wrap ((↑k:Int) - 1)).toNat) .top).cells.getD 1 .top)
def xgS {T:Type} (k:Nat) (a b:Int) (c:LA) (δ:T) (κ:Bool×(Nat×LA×LA)×(Nat×LA)->T):T:=br (rmB k c 1 16) (κ (false,(0,[],[]),(k+1,c++[AV.agg [AV.int .i64 a,AV.int .i64 b]]))) δ
def xjw {T:Type} (k:Nat) (b c:Int) (a:LA) (δ:T) (κ:Bool×(Nat×LA×LA)×(Nat×LA)->T):T:=br (decide ((↑k:Int)>0)) (br (xih k) (br (xkZ k a) (br (decide (xii k a>=b)) (br (xk0 k&&decide (i64.wrap ((↑k:Int) - 1)<=(↑k:Int))&&true) (br (decide (0+((i64.wrap ((↑k:Int) - 1)).toNat - 0)<=a.length)&&(decide (xcV k a*16<=140737488355328)&&decide (xcV k a<=4611686018427387904))) (br (xih k) (br (xkx k a&&xIZ (Sh.int .i64) ((a.getD (0+(i64.wrap ((↑k:Int) - 1)).toNat) .top).cells.getD 0 .top)) (br (xih k) (br (xkZ k a) (br (xcV k a==xcV k a&&(decide ((xcV k a+1)*16<=140737488355328)&&decide (xcV k a+1<=4611686018427387904))) (κ (true,(xcV k a+1,a,List.take ((i64.wrap ((↑k:Int) - 1)).toNat - 0) (List.drop 0 a)++[AV.agg [AV.int .i64 ((a.getD (0+(i64.wrap ((↑k:Int) - 1)).toNat) .top).cells.getD 0 .top).toInt,AV.int .i64 (if c>xii k a then c else xii k a)]]),(0,[]))) δ) δ) δ) δ) δ) δ) δ) (xgS k b c a δ κ)) δ) δ) (xgS k b c a δ κ)
def xbd (k:Nat) (a b:Int) (c:LA):=xjw k a b c none some
theorem xzU (k:Nat) (a b:Int) (xs:LA):Enc (fun (p:Bool×(Nat×LA×LA)×(Nat×LA))=>((br p.1 ((AV.osl 1 0 0 p.2.1.1,([⟨0,2,44,p.2.1.2.1,false,true⟩,⟨0,2,44,p.2.1.2.2,false,true⟩]:List Box))) ((AV.osl 0 1 0 p.2.2.1,([⟨1,2,44,p.2.2.2,false,true⟩]:List Box)))):(AV×List Box))) (xbd k a b xs) (XFM P0 xfB Tryz.f85 (Tryz.f85.body.getD .skip) [AV.osl (0:Id) 0 0 k,AV.agg [AV.int .i64 a,AV.int .i64 b]] [{ ver:=0,sz:=2,ty:=(44:TypeId),xs:=xs,frz:=false,pm:=true }]):=by
 have h:XFM P0 xfB Tryz.f85 (Tryz.f85.body.getD .skip) [AV.osl (0:Id) 0 0 k,AV.agg [AV.int .i64 a,AV.int .i64 b]] [{ ver:=0,sz:=2,ty:=(44:TypeId),xs:=xs,frz:=false,pm:=true }]=xjw k a b xs none (fun (p:Bool×(Nat×LA×LA)×(Nat×LA))=>some ((br p.1 ((AV.osl 1 0 0 p.2.1.1,([⟨0,2,44,p.2.1.2.1,false,true⟩,⟨0,2,44,p.2.1.2.2,false,true⟩]:List Box))) ((AV.osl 0 1 0 p.2.2.1,([⟨1,2,44,p.2.2.2,false,true⟩]:List Box)))):(AV×List Box))):=by kernel_rfl
 rw [h];unfold xbd xjw xgS;repeat' (first|refine Enc.br ?_ ?_|exact Enc.none|exact Enc.some rfl)
def xzT:LA->List Box->Option (Bool×AV×List Box):=omOf (xJK (sEq (xJV 0 0 0)) (xJK (xJx (xJK (sEq (pInt .i64)) (xJK (sEq (pInt .i64)) xJM))) xJM)) (xJJ (xJY 0 2 (44:TypeId) false true xJN) xJL) fun (k,((a,(b,_)),_)) (c,_)=>((xbd k a b c).isSome,(AV.osl 1 0 0 (br ((xbd k a b c).getD (false,(0,[],[]),(0,[]))).1 ((xbd k a b c).getD (false,(0,[],[]),(0,[]))).2.1.1 ((xbd k a b c).getD (false,(0,[],[]),(0,[]))).2.2.1),
 ([⟨2,2,44,[],false,true⟩,⟨0,2,44,br ((xbd k a b c).getD (false,(0,[],[]),(0,[]))).1 ((xbd k a b c).getD (false,(0,[],[]),(0,[]))).2.1.2.2 ((xbd k a b c).getD (false,(0,[],[]),(0,[]))).2.2.2,false,true⟩]:List Box)))
theorem xzS:OmOk P0 xJI 85 (xzT):=xpV fun e f j h g=>by
 obtain ⟨k,⟨⟨c,⟨i,_⟩⟩,_⟩⟩:=e;obtain ⟨l,_⟩:=f;obtain ⟨b,a⟩:=Prod.mk.inj g;have hx:=xzU _ _ _ _ _ (xaK (d:=(false,(0,[],[]),(0,[]))) b);revert hx a;generalize ((xbd _ _ _ _).getD (false,(0,[],[]),(0,[])))=p;intro a hx;obtain ⟨rfl,rfl⟩:=Prod.mk.inj a;obtain ⟨t,⟨m,n,o⟩,q,r⟩:=p;have hg:GoodM P0 xJI 85 _ _ _ _:=xfL (p:=xfB.pin) (xhv xI9 (xJa P0 _) rfl xuS rfl Tryz.func85 rfl (by kernel_rfl) xtn hx)
 cases t
 . exact GoodM.move0 rfl (by decide) hg
 . exact GoodM.drop0 rfl (by decide) hg
def xBT:EO:=xrI.wM xzS
def xeL {T:Type} (l:LA) (n:Int) (b:Nat) (i:Int) (a:LA) (δ:T) (κl:(Nat×Int×LA)->T) (κr:(Nat×Int×LA)->T):T:=br (decide (i<l.length)) (br (ixI l i) (br (ixS l i (Sh.int .i64) 0) (br (decide ((gC l i 0).toInt<n)) (br (ixI l i) (br (ixS l i (Sh.int .i64) 0) (br (rmB b a 1 8) (κl (b+1,i64.wrap (i+1),a++[AV.int .i64 (gC l i 0).toInt])) δ) δ) δ) (κr (b,i,a))) δ) δ) (κr (b,i,a))
def xbt (l:LA) (n:Int):StT (Nat×Int×LA) (Nat×Int×LA):=fun (b,i,a)=>xeL l n b i a none inL inR
def xjv:=xBT.l 58 0 [] [] Tryz.f79 0 lk0 [0,1,5,6] [0,1,5,6] [(5,1,3)] (q4 (qL 1) qI (xJV 0 0 0) qI) (q1 (qB 0 1 3 xJN)) (fun (l,n,b,i,_) (a,_)=>(xbt l n,(b,i,a),fun p=>(.leaf (.exit 0) [AV.list 1 l,AV.int .i64 n,AV.osl 0 0 0 p.1,AV.int .i64 p.2.1] [bF 0 1 3 p.2.2]))) (0,0,[]) fun (l,n,_,_,_) _ (b,i,a)=>(((l,n,b,i,()),(a,())),xeL l n b i a none)
def xgu {T:Type} (l:LA) (b:Nat) (i:Int) (a:LA) (δ:T) (κl:(Nat×Int×LA)->T) (κr:(Nat×LA)->T):T:=br (decide (i<l.length)) (br (ixI l i) (br (ixS l i (Sh.int .i64) 0) (br (rmB b a 1 8) (κl (b+1,i64.wrap (i+1),a++[AV.int .i64 (gC l i 0).toInt])) δ) δ) δ) (κr (b,a))
def xbu (l:LA):StT (Nat×Int×LA) (Nat×LA):=fun (b,i,a)=>xgu l b i a none inL inR
def xov:=xBT.l 58 0 [] [(3,xjv.lp)] Tryz.f79 1 lk0 [0,5,6] [5] [(5,1,3)] (q3 (qL 1) (xJV 0 0 0) qI) (q1 (qB 0 1 3 xJN)) (fun (l,b,i,_) (a,_)=>(xbu l,(b,i,a),fun p=>(.leaf (.exit 2) [AV.osl 0 0 0 p.1] [bF 0 1 3 p.2]))) (0,[]) fun (l,_,_,_) _ (b,i,a)=>(((l,b,i,()),(a,())),xgu l b i a none)
def xff (l:LA) (n:Int):=(Iter (xbt l n) (0,0,[])).getD (0,0,[])
def xdT (l:LA) (n:Int):=(xff l n).fst
def xfe (l:LA) (n:Int):=(xff l n).snd
def xaY (l:LA) (n:Int):=(xfe l n).fst
def xdR (l:LA) (n:Int):=xdT l n+1
def xdS (l:LA) (n:Int):=(xfe l n).snd
def xfS (l:LA) (n:Int):=Iter (xbu l) (xdR l n,xaY l n,xdS l n++[AV.int .i64 n])
def xfW (l:LA) (n:Int):=Iter (xbu l) (xdT l n,xaY l n,xdS l n)
def xhP (l:LA) (n:Int):=xdT l n==(xdS l n).length
def xfR (l:LA) (n:Int):=(xfS l n).getD (0,[])
def xiX (l:LA) (n:Int):=(xfS l n).isSome
def xfV (l:LA) (n:Int):=(xfW l n).getD (0,[])
def xfP (l:LA) (n:Int):=(xfR l n).fst
def xfQ (l:LA) (n:Int):=(xfR l n).snd
def xfT (l:LA) (n:Int):=(xfV l n).fst
def xfU (l:LA) (n:Int):=(xfV l n).snd
def xll {T:Type} (l:LA) (n:Int) (δ:T) (κ:LA->T):T:=br (xhP l n&&(decide (xdR l n*8<=140737488355328)&&decide (xdR l n<=4611686018427387904))) (br (xiX l n) (br (decide (0+xfP l n<=(xfQ l n).length)&&true) (κ (List.take (xfP l n) (List.drop 0 (xfQ l n)))) δ) δ) δ
def xnj {T:Type} (l:LA) (n:Int) (δ:T) (κ:LA->T):T:=br ((Iter (xbt l n) (0,0,[])).isSome) (br (xaY l n==(↑l.length:Int)) (xll l n δ κ) (br (decide (0<=xaY l n)&&decide (xaY l n<l.length)) (br (decide ((xaY l n).toNat<l.length)&&xIZ (Sh.int .i64) ((l.getD (xaY l n).toNat .top).cells.getD 0 .top)) (br (decide (((l.getD (xaY l n).toNat .top).cells.getD 0 .top).toInt>n)) (xll l n δ κ) (br ((xfW l n).isSome) (br (decide (0+xfT l n<=(xfU l n).length)&&true) (κ (List.take (xfT l n) (List.drop 0 (xfU l n)))) δ) δ)) δ) δ)) δ
def xfd (l:LA) (n:Int):=xnj l n none some
def xyT:EO:=xBT.f Tryz.func79 58 0 [] [(3,xjv.lp),(8,xov.lp)] (lks (lkC xjv.ok (lkC xov.ok lkN))) (u2 (uL 1) uI) (fun (l,n,_) _=>xnj l n) (fun _ p=>AV.list 1 p) []
def xg3:Env:=xyT.E.fn 28 1 (lsOf []) (xJm [])
theorem xvG:xI0 P0 (xJI.at 1) xg3:=xyT.ok.fn
theorem xto:LoOk P0 (xJI.at xg3.pin) xg3 (Tryz.f166.body.getD .skip):=xhN (by kernel_rfl)
def xfC {T:Type} (k:Nat) (a n:Int) (b:LA) (δ:T) (κ:Bool×(Nat×LA)×(Nat×LA)->T):T:=br (rmB k b 1 16) (κ (false,(0,[]),(k+1,b++[AV.agg [AV.int .i64 a,AV.int .i64 n]]))) δ
def xir {T:Type} (k:Nat) (a n:Int) (b:LA) (δ:T) (κ:Bool×(Nat×LA)×(Nat×LA)->T):T:=br (decide ((↑k:Int)>0)) (br (decide (0<=i64.wrap ((↑k:Int) - 1))&&decide (i64.wrap ((↑k:Int) - 1)<(↑k:Int))) (br (decide (0+(i64.wrap ((↑k:Int) - 1)).toNat<b.length)&&xIZ (Sh.int .i64) ((b.getD (0+(i64.wrap ((↑k:Int) - 1)).toNat) .top).cells.getD 1 .top)) (br (((b.getD (0+(i64.wrap ((↑k:Int) - 1)).toNat) .top).cells.getD 1 .top).toInt==n) (κ (true,(k,b),(0,[]))) (xfC k a n b δ κ)) δ) δ) (xfC k a n b δ κ)
def xb0 (k:Nat) (a n:Int) (b:LA):=xir k a n b none some
theorem xAK (k:Nat) (a n:Int) (xs:LA):Enc (fun (p:Bool×(Nat×LA)×(Nat×LA))=>((br p.1 ((AV.osl 0 0 0 p.2.1.1,([⟨0,2,148,p.2.1.2,false,true⟩]:List Box))) ((AV.osl 0 1 0 p.2.2.1,([⟨1,2,148,p.2.2.2,false,true⟩]:List Box)))):(AV×List Box))) (xb0 k a n xs) (XFM P0 xg3 Tryz.f166 (Tryz.f166.body.getD .skip) [AV.osl (0:Id) 0 0 k,AV.int .i64 a,AV.int .i64 n] [{ ver:=0,sz:=2,ty:=(148:TypeId),xs:=xs,frz:=false,pm:=true }]):=by
 have h:XFM P0 xg3 Tryz.f166 (Tryz.f166.body.getD .skip) [AV.osl (0:Id) 0 0 k,AV.int .i64 a,AV.int .i64 n] [{ ver:=0,sz:=2,ty:=(148:TypeId),xs:=xs,frz:=false,pm:=true }]=xir k a n xs none (fun (p:Bool×(Nat×LA)×(Nat×LA))=>some ((br p.1 ((AV.osl 0 0 0 p.2.1.1,([⟨0,2,148,p.2.1.2,false,true⟩]:List Box))) ((AV.osl 0 1 0 p.2.2.1,([⟨1,2,148,p.2.2.2,false,true⟩]:List Box)))):(AV×List Box))):=by kernel_rfl
 rw [h];unfold xb0 xir xfC;repeat' (first|refine Enc.br ?_ ?_|exact Enc.none|exact Enc.some rfl)
def xAJ:LA->List Box->Option (Bool×AV×List Box):=omOf (xJK (sEq (xJV 0 0 0)) (xJK (sEq (pInt .i64)) (xJK (sEq (pInt .i64)) xJM))) (xJJ (xJY 0 2 (148:TypeId) false true xJN) xJL) fun (k,(a,(n,_))) (b,_)=>((xb0 k a n b).isSome,(AV.osl 0 1 0 (br ((xb0 k a n b).getD (false,(0,[]),(0,[]))).1 ((xb0 k a n b).getD (false,(0,[]),(0,[]))).2.1.1 ((xb0 k a n b).getD (false,(0,[]),(0,[]))).2.2.1),([⟨1,2,148,(br ((xb0 k a n b).getD (false,(0,[]),(0,[]))).1 ((xb0 k a n b).getD (false,(0,[]),(0,[]))).2.1.2 ((xb0 k a n b).getD (false,(0,[]),(0,[]))).2.2.2),false,true⟩]:List Box)))
theorem xAI:OmOk P0 xJI 166 (xAJ):=xpV fun e f j i g=>by
 obtain ⟨k,⟨b,⟨n,_⟩⟩⟩:=e;obtain ⟨h,_⟩:=f;obtain ⟨c,a⟩:=Prod.mk.inj g;have hx:=xAK _ _ _ _ _ (xaK (d:=(false,(0,[]),(0,[]))) c);revert hx a;generalize ((xb0 k b n h).getD (false,(0,[]),(0,[])))=p;intro a hx;obtain ⟨rfl,rfl⟩:=Prod.mk.inj a;obtain ⟨t,⟨l,m⟩,o,q⟩:=p;have hg:GoodM P0 xJI 166 _ _ _ _:=xfL (p:=xg3.pin) (xhv xI9 (xJa P0 _) rfl xvG rfl Tryz.func166 rfl (by kernel_rfl) xto hx)
 cases t
 . exact hg
 . exact GoodM.bump1 rfl (by decide) hg
def xu7:EO:=xyT.wM xAI
def xgT (l:LA) (i:Int):=ixI l i
def xk1 {T:Type} (l a:LA) (i:Int) (δ:T) (κl:(LA×Int)->T) (κr:(LA)->T):T:=br (decide (i<l.length)) (br (xgT l i) (br (ixT l i 3 [Sh.int .i64,Sh.int .i64] 0) (br (xcc (gC l i 0).toInt (gC l i 1).toInt) (br (xgT l i) (br (ixS l i (Sh.int .i64) 0) (br ((xfd a (gC l i 0).toInt).isSome) (br (xgT l i) (br (ixS l i (Sh.int .i64) 1) (br ((xfd ((xfd a (gC l i 0).toInt).getD []) (gC l i 1).toInt).isSome) (κl ((xfd ((xfd a (gC l i 0).toInt).getD []) (gC l i 1).toInt).getD [],i64.wrap (i+1))) δ) δ) δ) δ) δ) δ) (κl (a,i64.wrap (i+1)))) δ) δ) (κr (a))
def xdU (l:LA):StT (LA×Int) (LA):=fun (a,i)=>xk1 l a i none inL inR
def xj8:=xu7.l 82 0 [] [] Tryz.f141 0 lk0 [0,3,4] [0,3] [(3,1,1073741824)] (q3 (qL 3) (qL 1) qI) xJL (fun (l,a,i,_) _=>(xdU l,(a,i),fun p=>(.leaf (.exit 0) [AV.list 3 l,AV.list 1 p] []))) [] fun (l,_,_,_) _ (a,i)=>(((l,a,i,()),()),xk1 l a i none)
def xk2 {T:Type} (l b:LA) (c:Nat) (k n i:Int) (a:LA) (δ:T) (κl:(Int×Int×LA)->T) (κr:(Int×LA)->T):T:=br (decide (i<l.length)) (br (ixI l i) (br (ixT l i 3 [Sh.int .i64,Sh.int .i64] 0) (br (ixI b k) (br (ixS b k (Sh.int .i64) 0) (br (xj7 (gC l i 0).toInt (gC l i 1).toInt (gC b k 0).toInt) (br (ixI l i) (br (ixS l i (Sh.int .i64) 2) (κl (i64.wrap (n+(gC l i 2).toInt),i64.wrap (i+1),a)) δ) δ) (κl (n,i64.wrap (i+1),a))) δ) δ) δ) δ) (κr (n,a))
def xdW (l c:LA) (b:Nat) (k:Int):StT (Int×Int×LA) (Int×LA):=fun (n,i,a)=>xk2 l c b k n i a none inL inR
def xj9:=xu7.l 82 0 [] [(3,xj8.lp)] Tryz.f141 2 lk0 [0,3,5,6,7,8] [0,3,5,6,7] [(5,2,148),(3,1,1073741824)] (q6 (qL 3) (qL 1) (xJV 0 0 0) qI qI qI) (q1 (qB 0 2 148 xJN)) (fun (l,c,a,k,n,i,_) (b,_)=>(xdW l c a k,(n,i,b),fun p=>(.leaf (.exit 4) [AV.list 3 l,AV.list 1 c,AV.osl 0 0 0 a,AV.int .i64 k,AV.int .i64 p.1] [bF 0 2 148 p.2]))) (0,[]) fun (l,c,a,k,_,_,_) _ (n,i,b)=>(((l,c,a,k,n,i,()),(b,())),xk2 l c a k n i b none)
def xgx (l c:LA) (b:Nat) (k:Int) (a:LA):=(Iter (xdW l c b k) (0,0,a)).getD (0,[])
def xgZ (l c:LA) (a:Nat) (k:Int) (b:LA):=xb0 a (gC c k 0).toInt (xgx l c a k b).fst (xgx l c a k b).snd
def xgY (l c:LA) (b:Nat) (k:Int) (a:LA):=(xgZ l c b k a).getD (false,(0,[]),0,[])
def xgW (l c:LA) (b:Nat) (k:Int) (a:LA):=(xgY l c b k a).snd
def xgX (l c:LA) (b:Nat) (k:Int) (a:LA):=(xgY l c b k a).fst
def xgU (l c:LA) (b:Nat) (k:Int) (a:LA):=(xgW l c b k a).fst
def xgV (l c:LA) (b:Nat) (k:Int) (a:LA):=(xgW l c b k a).snd
def xij {T:Type} (l c:LA) (b:Nat) (k:Int) (a:LA) (δ:T) (κl:(Nat×Int×LA)->T) (κr:(Nat×LA)->T):T:=br (decide (k<c.length)) (br (ixI c k) (br (ixS c k (Sh.int .i64) 0) (br (decide ((gC c k 0).toInt<1099511627776)) (br ((Iter (xdW l c b k) (0,0,a)).isSome) (br (ixI c k) (br (ixS c k (Sh.int .i64) 0) (br ((xgZ l c b k a).isSome) (κl (br (xgX l c b k a) (xgU l c b k a).fst (xgV l c b k a).fst,i64.wrap (k+1),br (xgX l c b k a) (xgU l c b k a).snd (xgV l c b k a).snd)) δ) δ) δ) δ) (κr (b,a))) δ) δ) (κr (b,a))
def xdV (l c:LA):StT (Nat×Int×LA) (Nat×LA):=fun (b,k,a)=>xij l c b k a none inL inR
def xrR:=xu7.l 82 0 [] [(3,xj8.lp),(14,xj9.lp)] Tryz.f141 1 (lk1 xj9.ok) [0,3,5,6] [5] [(5,2,148),(3,1,1073741824)] (q4 (qL 3) (qL 1) (xJV 0 0 0) qI) (q1 (qB 0 2 148 xJN)) (fun (l,c,b,k,_) (a,_)=>(xdV l c,(b,k,a),fun p=>(.leaf (.exit 2) [AV.osl 0 0 0 p.1] [bF 0 2 148 p.2]))) (0,[]) fun (l,c,_,_,_) _ (b,k,a)=>(((l,c,b,k,()),(a,())),xij l c b k a none)
def xrh (l:LA):=Iter (xdV l ((Iter (xdU l) ([AV.int .i64 0],0)).getD [])) (0,0,[])
def xrg (l:LA):=(xrh l).getD (0,[])
def xre (l:LA):=(xrg l).snd
def xrf (l:LA):=(xrg l).fst
def xse {T:Type} (l:LA) (δ:T) (κ:LA->T):T:=br ((Iter (xdU l) ([AV.int .i64 0],0)).isSome) (br ((xrh l).isSome) (br (decide (0+xrf l<=(xre l).length)&&true) (κ (List.take (xrf l) (List.drop 0 (xre l)))) δ) δ) δ
def xuT (l:LA):=xse l none some
def xC8:EO:=xu7.f Tryz.func141 82 0 [] [(3,xj8.lp),(14,xj9.lp),(10,xrR.lp)] (lks (lkC xj8.ok (lkC xrR.ok (lkC xj9.ok lkN)))) (u1 (uL 3)) (fun (l,_) _=>xse l) (fun _ p=>AV.list 2 p) []
def xgD {T:Type} (l c:LA) (b:Nat) (i:Int) (a:LA) (δ:T) (κl:(Nat×Int×LA)->T) (κr:(Nat×LA)->T):T:=br (decide (i<l.length)) (br (ixI l i) (br (ixS l i (Sh.list 3) 0) (br ((xav (gC l i 0).toList c).isSome) (br ((xav (gC l i 0).toList c).getD 0==0) (br (ixI l i) (br (ixT l i 3 [Sh.int .i64,Sh.int .i64] 1) (br (rmB b a 1 24) (κl (b+1,i64.wrap (i+1),a++[AV.agg [AV.int .i64 (gC l i 1).toInt,AV.int .i64 (gC l i 2).toInt,AV.int .i64 1]])) δ) δ) δ) (κl (b,i64.wrap (i+1),a))) δ) δ) δ) (κr (b,a))
def xci (l b:LA):StT (Nat×Int×LA) (Nat×LA):=fun (c,i,a)=>xgD l b c i a none inL inR
def xoG:=xC8.l 32 0 [] [] Tryz.f108 0 lk0 [0,1,5,6] [5] [(5,3,155)] (q4 (qL 3) (qL 3) (xJV 0 0 0) qI) (q1 (qB 0 3 155 xJN)) (fun (l,b,c,i,_) (a,_)=>(xci l b,(c,i,a),fun p=>(.leaf (.exit 0) [AV.osl 0 0 0 p.1] [bF 0 3 155 p.2]))) (0,[]) fun (l,b,_,_,_) _ (c,i,a)=>(((l,b,c,i,()),(a,())),xgD l b c i a none)
def xmC (l a:LA):=(Iter (xci l a) (0,0,[])).getD (0,[])
def xmA (l a:LA):=(xmC l a).snd
def xmB (l a:LA):=(xmC l a).fst
def xmz (l a:LA):=xuT (List.take (xmB l a) (List.drop 0 (xmA l a)))
def xnO {T:Type} (l a:LA) (δ:T) (κ:LA->T):T:=br ((Iter (xci l a) (0,0,[])).isSome) (br (decide (0+xmB l a<=(xmA l a).length)&&true) (br ((xmz l a).isSome) (κ ((xmz l a).getD [])) δ) δ) δ
def xmy (l a:LA):=xnO l a none some
def xu8:EO:=xC8.f Tryz.func108 32 0 [] [(3,xoG.lp)] (lk1 xoG.ok) (u2 (uL 3) (uL 3)) (fun (l,a,_) _=>xnO l a) (fun _ p=>AV.list 2 p) []
def xeM {T:Type} (a:LA) (c:Nat) (i k:Int) (b:LA) (δ:T) (κl:(Int×LA)->T) (κr:(Int×LA)->T):T:=br (decide (k<a.length)) (br (ixI a k) (br (ixS a k (Sh.list 3) 0) (br (ixI a i) (br (ixS a i (Sh.list 3) 0) (br ((xav (gC a k 0).toList (gC a i 0).toList).isSome) (br ((xav (gC a k 0).toList (gC a i 0).toList).getD 0==0) (κl (i64.wrap (k+1),b)) (κr (k,b))) δ) δ) δ) δ) δ) (κr (k,b))
def xax (c:LA) (b:Nat) (i:Int):StT (Int×LA) (Int×LA):=fun (k,a)=>xeM c b i k a none inL inR
def xeh:=xu8.l 66 0 [] [] Tryz.f71 1 lk0 [3,4,5,6] [3,4,5,6] [(4,2,118)] (q4 (qL 3) (xJV 0 0 0) qI qI) (q1 (qB 0 2 118 xJN)) (fun (c,a,i,k,_) (b,_)=>(xax c a i,(k,b),fun p=>(.leaf (.exit 2) [AV.list 3 c,AV.osl 0 0 0 a,AV.int .i64 i,AV.int .i64 p.1] [bF 0 2 118 p.2]))) (0,[]) fun (c,a,i,_,_) _ (k,b)=>(((c,a,i,k,()),(b,())),xeM c a i k b none)
def xeN {T:Type} (d:LA) (i k:Int) (a:LA) (c:Nat) (n:Int) (b:LA) (δ:T) (κl:(Nat×Int×LA)->T) (κr:(Nat×LA)->T):T:=br (decide (n<a.length)) (br (ixI a n) (br (ixS a n (Sh.list 3) 0) (br (decide (0<=k)&&decide (k<=d.length)&&(decide (0<=i)&&decide (i<=(↑k.toNat:Int)))) (br (ixI a n) (br (ixS a n (Sh.list 3) 0) (br ((xmy (List.take (k.toNat - i.toNat) (List.drop i.toNat d)) (gC a n 0).toList).isSome) (br (rmB c b 1 48) (κl (c+1,i64.wrap (n+1),b++[AV.agg [AV.list 3 (gC a n 0).toList,AV.list 2 ((xmy (List.take (k.toNat - i.toNat) (List.drop i.toNat d)) (gC a n 0).toList).getD [])]])) δ) δ) δ) δ) δ) δ) δ) (κr (c,b))
def xck (d:LA) (i k:Int) (c:LA):StT (Nat×Int×LA) (Nat×LA):=fun (b,n,a)=>xeN d i k c b n a none inL inR
def xf2:=xu8.l 66 0 [] [(6,xeh.lp)] Tryz.f71 2 lk0 [3,4,5,6,7,8] [3,4,6] [(4,2,118)] (q6 (qL 3) (xJV 0 0 0) qI qI (qL 1) qI) (q1 (qB 0 2 118 xJN)) (fun (d,b,i,k,c,n,_) (a,_)=>(xck d i k c,(b,n,a),fun p=>(.leaf (.exit 4) [AV.list 3 d,AV.osl 0 0 0 p.1,AV.int .i64 k] [bF 0 2 118 p.2]))) (0,[]) fun (d,_,i,k,c,_,_) _ (b,n,a)=>(((d,b,i,k,c,n,()),(a,())),xeN d i k c b n a none)
def xbq (c:LA) (b:Nat) (i:Int) (a:LA):=((Iter (xax c b i) (i,a)).getD (0,[])).fst
def xjD (c:LA) (a:Nat) (i:Int) (b:LA):=Iter (xck c i (xbq c a i b) ((xpO (List.take ((xbq c a i b).toNat - i.toNat) (List.drop i.toNat c))).getD [])) (a,0,((Iter (xax c a i) (i,b)).getD (0,[])).snd)
def xjC (c:LA) (b:Nat) (i:Int) (a:LA):=(xjD c b i a).getD (0,[])
def xgF {T:Type} (c:LA) (b:Nat) (i:Int) (a:LA) (δ:T) (κl:(Nat×Int×LA)->T) (κr:(Nat×LA)->T):T:=br (decide (i<c.length)) (br ((Iter (xax c b i) (i,a)).isSome) (br (decide (0<=xbq c b i a)&&decide (xbq c b i a<=c.length)&&(decide (0<=i)&&decide (i<=(↑(xbq c b i a).toNat:Int)))) (br ((xpO (List.take ((xbq c b i a).toNat - i.toNat) (List.drop i.toNat c))).isSome) (br ((xjD c b i a).isSome) (κl ((xjC c b i a).fst,xbq c b i a,(xjC c b i a).snd)) δ) δ) δ) δ) (κr (b,a))
def xcj (c:LA):StT (Nat×Int×LA) (Nat×LA):=fun (b,i,a)=>xgF c b i a none inL inR
def xoI:=xu8.l 66 0 [] [(6,xeh.lp),(10,xf2.lp)] Tryz.f71 0 (lks (lkC xeh.ok (lkC xf2.ok lkN))) [3,4,5] [4] [(4,2,118)] (q3 (qL 3) (xJV 0 0 0) qI) (q1 (qB 0 2 118 xJN)) (fun (c,b,i,_) (a,_)=>(xcj c,(b,i,a),fun p=>(.leaf (.exit 0) [AV.osl 0 0 0 p.1] [bF 0 2 118 p.2]))) (0,[]) fun (c,_,_,_) _ (b,i,a)=>(((c,b,i,()),(a,())),xgF c b i a none)
def xmK (l:LA):=Iter (xcj ((xa0 100 l).getD [])) (0,0,[])
def xmJ (l:LA):=(xmK l).getD (0,[])
def xmH (l:LA):=(xmJ l).fst
def xmI (l:LA):=(xmJ l).snd
def xnV {T:Type} (l:LA) (δ:T) (κ:LA->T):T:=br ((xa0 100 l).isSome) (br ((xmK l).isSome) (br (decide (0+xmH l<=(xmI l).length)&&true) (κ (List.take (xmH l) (List.drop 0 (xmI l)))) δ) δ) δ
def xjB (l:LA):=xnV l none some
def xC9:EO:=xu8.f Tryz.func71 66 0 [] [(6,xeh.lp),(10,xf2.lp),(4,xoI.lp)] (lks (lkC xoI.ok (lkC xeh.ok (lkC xf2.ok lkN)))) (u1 (uL 3)) (fun (l,_) _=>xnV l) (fun _ p=>AV.list 2 p) []
def xcE (l:LA) (n i:Int):=decide ((gC l i 1).toInt>=n)
def xaZ (l:LA) (i:Int):=ixI l i
def xce (l:LA) (b:Nat) (i:Int) (a:LA):=(xbd b (gC l i 0).toInt 1099511627776 a).getD (false,(0,[],[]),0,[])
def xcf (l:LA) (b:Nat) (i:Int) (a:LA):=xbd b (gC l i 0).toInt ((l.getD (i64.wrap (i+1)).toNat .top).cells.getD 0 .top).toInt a
def xcg (l:LA) (i:Int):=decide (i64.wrap (i+1)<(↑l.length:Int))
def xcL (l:LA) (b:Nat) (i:Int) (a:LA):=(xcf l b i a).getD (false,(0,[],[]),0,[])
def xcM (l:LA) (b:Nat) (i:Int) (a:LA):=(xce l b i a).fst
def xcN (l:LA) (b:Nat) (i:Int) (a:LA):=(xce l b i a).snd
def xcH (l:LA) (b:Nat) (i:Int) (a:LA):=(xcL l b i a).snd
def xcI (l:LA) (b:Nat) (i:Int) (a:LA):=(xcL l b i a).fst
def xcJ (l:LA) (b:Nat) (i:Int) (a:LA):=(xcN l b i a).snd
def xcK (l:LA) (b:Nat) (i:Int) (a:LA):=(xcN l b i a).fst
def xcF (l:LA) (b:Nat) (i:Int) (a:LA):=(xcH l b i a).snd
def xcG (l:LA) (b:Nat) (i:Int) (a:LA):=(xcH l b i a).fst
def xbx {T:Type} (l:LA) (n:Int) (b:Nat) (i:Int) (a:LA) (δ:T) (κl:(Nat×Int×LA)->T) (κr:(Nat×LA)->T):T:=br (decide (i<l.length)) (br (xcg l i) (br (decide (0<=i64.wrap (i+1))&&xcg l i) (br (decide ((i64.wrap (i+1)).toNat<l.length)&&xIZ (Sh.int .i64) ((l.getD (i64.wrap (i+1)).toNat .top).cells.getD 0 .top)) (br (xaZ l i) (br (ixS l i (Sh.int .i64) 1) (br (xcE l n i) (br (xaZ l i) (br (ixS l i (Sh.int .i64) 0) (br ((xcf l b i a).isSome) (κl (br (xcI l b i a) (xcG l b i a).fst (xcF l b i a).fst,i64.wrap (i+1),br (xcI l b i a) (xcG l b i a).snd.snd (xcF l b i a).snd)) δ) δ) δ) (κl (b,i64.wrap (i+1),a))) δ) δ) δ) δ) (br (xaZ l i) (br (ixS l i (Sh.int .i64) 1) (br (xcE l n i) (br (xaZ l i) (br (ixS l i (Sh.int .i64) 0) (br ((xbd b (gC l i 0).toInt 1099511627776 a).isSome) (κl (br (xcM l b i a) (xcK l b i a).fst (xcJ l b i a).fst,i64.wrap (i+1),br (xcM l b i a) (xcK l b i a).snd.snd (xcJ l b i a).snd)) δ) δ) δ) (κl (b,i64.wrap (i+1),a))) δ) δ)) (κr (b,a))
def xat (l:LA) (n:Int):StT (Nat×Int×LA) (Nat×LA):=fun (b,i,a)=>xbx l n b i a none inL inR
def xm8:=xC9.l 42 0 [] [] Tryz.f74 0 lk0 [0,1,5,6] [5] [(5,2,44)] (q4 (qL 2) qI (xJV 0 0 0) qI) (q1 (qB 0 2 44 xJN)) (fun (l,n,b,i,_) (a,_)=>(xat l n,(b,i,a),fun p=>(.leaf (.exit 0) [AV.osl 0 0 0 p.1] [bF 0 2 44 p.2]))) (0,[]) fun (l,n,_,_,_) _ (b,i,a)=>(((l,n,b,i,()),(a,())),xbx l n b i a none)
def xlo (l:LA) (n:Int):=(Iter (xat l n) (0,0,[])).getD (0,[])
def xlm (l:LA) (n:Int):=(xlo l n).snd
def xln (l:LA) (n:Int):=(xlo l n).fst
def xl8 {T:Type} (l:LA) (n:Int) (δ:T) (κ:LA->T):T:=br ((Iter (xat l n) (0,0,[])).isSome) (br (decide (0+xln l n<=(xlm l n).length)&&true) (κ (List.take (xln l n) (List.drop 0 (xlm l n)))) δ) δ
def xdD (l:LA) (n:Int):=xl8 l n none some
def xDa:EO:=xC9.f Tryz.func74 42 0 [] [(3,xm8.lp)] (lk1 xm8.ok) (u2 (uL 2) uI) (fun (l,n,_) _=>xl8 l n) (fun _ p=>AV.list 2 p) []
def xgy (l:LA) (i:Int):=decide (i.toNat<l.length)&&((l.getD i.toNat .top).cells.length==2&&xI5 [Sh.int .i64,Sh.int .i64] (l.getD i.toNat .top).cells 0)
def xfg {T:Type} (l:LA) (b:Nat) (i c d:Int) (a:LA) (δ:T) (κl:(Nat×Int×Int×Int×LA)->T) (κr:(Nat×Int×Int×Int×LA)->T):T:=br (decide (i<l.length)) (br (ixI l i) (br (xgy l i) (br (decide (xkY (gC l i 0).toInt (gC l i 1).toInt c d<=0)) (br (ixI l i) (br (xgy l i) (br (rmB b a 1 16) (κl (b+1,i64.wrap (i+1),c,d,a++[AV.agg [AV.int .i64 (gC l i 0).toInt,AV.int .i64 (gC l i 1).toInt]])) δ) δ) δ) (κr (b,i,c,d,a))) δ) δ) (κr (b,i,c,d,a))
def xbH (l:LA):StT (Nat×Int×Int×Int×LA) (Nat×Int×Int×Int×LA):=fun (b,i,c,d,a)=>xfg l b i c d a none inL inR
def xpB:=xDa.l 38 0 [] [] Tryz.f109 0 lk0 [0,3,5,6] [0,3,5,6] [(5,2,44)] (q4 (qL 2) (xJW 0 0 0 0) (xJV 1 0 0) qI) (q2 (qB 0 2 44 (q1 (xJX (q2 qI qI)))) (qB 0 2 44 xJN)) (fun (l,_,b,i,_) (((c,d,_),_),a,_)=>(xbH l,(b,i,c,d,a),fun p=>(.leaf (.exit 0) [AV.list 2 l,AV.own 0 0 0 0,AV.osl 1 0 0 p.1,AV.int .i64 p.2.1] [bF 0 2 44 [AV.agg [AV.int .i64 p.2.2.1,AV.int .i64 p.2.2.2.1]],bF 0 2 44 p.2.2.2.2]))) (0,0,0,0,[]) fun (l,_,_,_,_) _ (b,i,c,d,a)=>(((l,(),b,i,()),(((c,d,()),()),a,())),xfg l b i c d a none)
def xmd (l:LA) (a b:Int):=Iter (xbH l) (0,0,a,b,[])
def xmc (l:LA) (a b:Int):=(xmd l a b).getD (0,0,0,0,[])
def xnr (l:LA) (a b:Int):=(xmc l a b).fst
def xmb (l:LA) (a b:Int):=(xmc l a b).snd
def xg1 (l:LA) (a b:Int):=xnr l a b+1
def xg2 (l:LA) (a b:Int):=(xmb l a b).fst
def xnq (l:LA) (a b:Int):=(xmb l a b).snd
def xnn (l:LA) (a b:Int):=List.take (l.length - (xg2 l a b).toNat) (List.drop (xg2 l a b).toNat l)
def xnp (l:LA) (a b:Int):=(xnq l a b).snd
def xg0 (l:LA) (a b:Int):=xg1 l a b+(xnn l a b).length
def xno (l:LA) (a b:Int):=(xnp l a b).snd
def xnm (l:LA) (a b:Int):=xno l a b++[AV.agg [AV.int .i64 (xnq l a b).fst,AV.int .i64 (xnp l a b).fst]]
def xnl (l:LA) (a b:Int):=xnm l a b++xnn l a b
def xoW {T:Type} (l:LA) (a b:Int) (δ:T) (κ:LA->T):T:=br ((xmd l a b).isSome) (br (xnr l a b==(xno l a b).length&&(decide (xg1 l a b*16<=140737488355328)&&decide (xg1 l a b<=4611686018427387904))) (br (decide (0<=xg2 l a b)&&decide (xg2 l a b<=l.length)) (br (xg1 l a b==(xnm l a b).length&&(decide (xg0 l a b*16<=140737488355328)&&decide (xg0 l a b<=4611686018427387904))) (br (decide (0+xg0 l a b<=(xnl l a b).length)&&true) (κ (List.take (xg0 l a b) (List.drop 0 (xnl l a b)))) δ) δ) δ) δ) δ
def xol (l:LA) (a b:Int):=xoW l a b none some
def xyU:EO:=xDa.f Tryz.func109 38 0 [] [(3,xpB.lp)] (lk1 xpB.ok) (u2 (uL 2) (xJx (u2 uI uI))) (fun (l,(a,b,_),_) _=>xoW l a b) (fun _ p=>AV.list 2 p) []
def xgw {T:Type} (l:LA) (n:Int) (a b:LA) (i:Int) (δ:T) (κl:(LA×Int)->T) (κr:(LA)->T):T:=br (decide (i<a.length)) (br (ixI a i) (br (ixT a i 2 [Sh.int .i64,Sh.int .i64] 0) (br ((xol b (gC a i 0).toInt (gC a i 1).toInt).isSome) (κl ((xol b (gC a i 0).toInt (gC a i 1).toInt).getD [],i64.wrap (i+1))) δ) δ) δ) (κr (b))
def xbw (l:LA) (n:Int) (b:LA):StT (LA×Int) (LA):=fun (a,i)=>xgw l n b a i none inL inR
def xfX:=xyU.l 31 0 [] [] Tryz.f72 1 lk0 [0,3,4,5,6] [0,3,4] [(3,2,1073741824)] (q5 (qL 2) (qL 2) qI (qL 2) qI) xJL (fun (l,a,n,b,i,_) _=>(xbw l n b,(a,i),fun p=>(.leaf (.exit 2) [AV.list 2 l,AV.list 2 p,AV.int .i64 n] []))) [] fun (l,_,n,b,_,_) _ (a,i)=>(((l,a,n,b,i,()),()),xgw l n b a i none)
def xgv {T:Type} (l a:LA) (n:Int) (δ:T) (κl:(LA×Int)->T) (κr:(Bool×(LA×LA)×(LA))->T):T:=br (decide (n<=1048576)) (br ((xdD l n).isSome) (br ((↑((xdD l n).getD []).length:Int)==0) (κr (true,(a,a),[])) (br ((Iter (xbw l n ((xdD l n).getD [])) (a,0)).isSome) (κl ((Iter (xbw l n ((xdD l n).getD [])) (a,0)).getD [],i64.wrap (n+1))) δ)) δ) (κr (false,([],[]),(a)))
def xbv (l:LA):StT (LA×Int) (Bool×(LA×LA)×(LA)):=fun (a,n)=>xgv l a n none inL inR
def xow:=xyU.l 31 0 [] [(9,xfX.lp)] Tryz.f72 0 (lk1 xfX.ok) [0,3,4] [2,3] [(3,2,1073741824)] (q3 (qL 2) (qL 2) qI) xJL (fun (l,a,n,_) _=>(xbv l,(a,n),fun p=>(.node p.1 (.leaf .ret [AV.list 2 p.2.1.1,AV.list 2 p.2.1.2] []) (.leaf (.exit 0) [.top,AV.list 2 p.2.2] [])))) (false,([],[]),[]) fun (l,_,_,_) _ (a,n)=>(((l,a,n,()),()),xgv l a n none)
def xma (l:LA):=(Iter (xbv l) ([],1)).getD (false,([],[]),[])
def xl9 (l:LA):=(xma l).snd
def xnk {T:Type} (l:LA) (δ:T) (κ:LA->T):T:=br ((Iter (xbv l) ([],1)).isSome) (br ((xma l).fst) (κ ((xl9 l).fst.fst)) (κ ((xl9 l).snd))) δ
def xdr (l:LA):=xnk l none some
def xDb:EO:=xyU.f Tryz.func72 31 0 [] [(9,xfX.lp),(3,xow.lp)] (lks (lkC xow.ok (lkC xfX.ok lkN))) (u1 (uL 2)) (fun (l,_) _=>xnk l) (fun _ p=>AV.list 2 p) []
def xgE {T:Type} (d c:LA) (b:Nat) (i:Int) (a:LA) (δ:T) (κl:(Nat×Int×LA)->T) (κr:(Nat×LA)->T):T:=br (decide (i<c.length)) (br (ixI c i) (br (ixT c i 2 [Sh.int .i64,Sh.int .i64] 0) (br (rmB b a 1 40) (κl (b+1,i64.wrap (i+1),a++[AV.agg [AV.list 3 d,AV.int .i64 (gC c i 0).toInt,AV.int .i64 (gC c i 1).toInt]])) δ) δ) δ) (κr (b,a))
def xby (c d:LA):StT (Nat×Int×LA) (Nat×LA):=fun (b,i,a)=>xgE c d b i a none inL inR
def xoH:=xDb.l 23 0 [] [] Tryz.f25 0 lk0 [0,1,5,6] [5] [(5,3,54)] (q4 (qL 3) (qL 2) (xJV 0 0 0) qI) (q1 (qB 0 3 54 xJN)) (fun (c,d,b,i,_) (a,_)=>(xby c d,(b,i,a),fun p=>(.leaf (.exit 0) [AV.osl 0 0 0 p.1] [bF 0 3 54 p.2]))) (0,[]) fun (c,d,_,_,_) _ (b,i,a)=>(((c,d,b,i,()),(a,())),xgE c d b i a none)
def xmF (a b:LA):=(Iter (xby a b) (0,0,[])).getD (0,[])
def xmD (a b:LA):=(xmF a b).snd
def xmE (a b:LA):=(xmF a b).fst
def xnP {T:Type} (a b:LA) (δ:T) (κ:LA->T):T:=br ((Iter (xby a b) (0,0,[])).isSome) (br (decide (0+xmE a b<=(xmD a b).length)&&true) (κ (List.take (xmE a b) (List.drop 0 (xmD a b)))) δ) δ
def xjA (a b:LA):=xnP a b none some
def xDc:EO:=xDb.f Tryz.func25 23 0 [] [(3,xoH.lp)] (lk1 xoH.ok) (u2 (uL 3) (uL 2)) (fun (a,b,_) _=>xnP a b) (fun _ p=>AV.list 3 p) []
def xi4 (g:LA) (a:Nat) (i:Int):=a+((xjA (gC g i 0).toList ((xdr (gC g i 1).toList).getD [])).getD []).length
def xkb {T:Type} (g:LA) (a:Nat) (i:Int) (b:LA) (δ:T) (κl:(Nat×Int×LA)->T) (κr:(Nat×LA)->T):T:=br (decide (i<g.length)) (br (ixI g i) (br (ixS g i (Sh.list 3) 0) (br (ixI g i) (br (ixS g i (Sh.list 2) 1) (br ((xdr (gC g i 1).toList).isSome) (br ((xjA (gC g i 0).toList ((xdr (gC g i 1).toList).getD [])).isSome) (br (a==b.length&&(decide (xi4 g a i*40<=140737488355328)&&decide (xi4 g a i<=4611686018427387904))) (κl (xi4 g a i,i64.wrap (i+1),b++(xjA (gC g i 0).toList ((xdr (gC g i 1).toList).getD [])).getD [])) δ) δ) δ) δ) δ) δ) δ) (κr (a,b))
def xdz (g:LA):StT (Nat×Int×LA) (Nat×LA):=fun (b,i,a)=>xkb g b i a none inL inR
def xqx:=xDc.l 29 0 [] [] Tryz.f40 0 lk0 [3,4,5] [4] [(4,3,54)] (q3 (qL 2) (xJV 0 0 0) qI) (q1 (qB 0 3 54 xJN)) (fun (g,b,i,_) (a,_)=>(xdz g,(b,i,a),fun p=>(.leaf (.exit 0) [AV.osl 0 0 0 p.1] [bF 0 3 54 p.2]))) (0,[]) fun (g,_,_,_) _ (b,i,a)=>(((g,b,i,()),(a,())),xkb g b i a none)
def xqz (l:LA):=(Iter (xdz ((xjB l).getD [])) (0,0,[])).getD (0,[])
def xqw (l:LA):=(xqz l).snd
def xqy (l:LA):=(xqz l).fst
def xrp {T:Type} (l:LA) (δ:T) (κ:LA->T):T:=br ((xjB l).isSome) (br ((Iter (xdz ((xjB l).getD [])) (0,0,[])).isSome) (br (decide (0+xqy l<=(xqw l).length)&&true) (κ (List.take (xqy l) (List.drop 0 (xqw l)))) δ) δ) δ
def xts (l:LA):=xrp l none some
def xDd:EO:=xDc.f Tryz.func40 29 0 [] [(4,xqx.lp)] (lk1 xqx.ok) (u1 (uL 3)) (fun (l,_) _=>xrp l) (fun _ p=>AV.list 3 p) []
def xkc {T:Type} (l:LA) (i:Int) (δ:T) (κl:(Int)->T) (κr:(Bool×(Bool)×(Unit))->T):T:=br (decide (i<l.length)) (br (ixI l i) (br (ixS l i (Sh.list 3) 0) (br (decide ((↑(gC l i 0).toList.length:Int)>60)) (κr (true,(false),())) (κl (i64.wrap (i+1)))) δ) δ) (κr (false,false,()))
def xcu (l:LA):StT (Int) (Bool×(Bool)×(Unit)):=fun (i)=>xkc l i none inL inR
def xq0:=xDd.l 23 0 [] [] Tryz.f27 0 lk0 [0,5] [4] [] (q2 (qL 3) qI) xJL (fun (l,i,_) _=>(xcu l,(i),fun p=>(.node p.1 (.leaf .ret [AV.bool p.2.1] []) (.leaf (.exit 0) [.top] [])))) (false,false,()) fun (l,_,_) _ (i)=>(((l,i,()),()),xkc l i none)
def xrq {T:Type} (l:LA) (a:Int) (δ:T) (κ:Bool->T):T:=br (decide ((↑l.length:Int)>a)) (κ (false)) (br ((Iter (xcu l) 0).isSome) (br (((Iter (xcu l) 0).getD (false,false,())).fst) (κ (((Iter (xcu l) 0).getD (false,false,())).snd.fst)) (κ (true))) δ)
def xlG (l:LA) (a:Int):=xrq l a none some
def xHc:EO:=xDd.f Tryz.func27 23 0 [] [(4,xq0.lp)] (lk1 xq0.ok) (u2 (uL 3) uI) (fun (l,a,_) _=>xrq l a) (fun _ p=>AV.bool p) false
def xCP:Int×Int×List UInt8:=((0,0,[]))
def xz9 {T:Type} (δ:T) (κ:Int×Int×List UInt8->T):T:=κ (0,0,[])
def xGW:EO:=xyN.fT Tryz.func125 2 0 [] [] lk0 (fun _=>xz9 none) xJM (fun _=>xCP) (fun _ p=>(AV.agg [AV.int .i64 p.1,AV.int .i64 p.2.1,AV.str p.2.2]))
def xst {T:Type} (a:LA) (i:Int) (δ:T) (κ:Int×Int×List UInt8->T):T:=br (decide (i<0)) (κ (0,0,[])) (br (decide (i>=a.length)) (κ (0,0,[])) (br (ixI a i) (br (ixT a i 3 [Sh.int .i64,Sh.int .i64,Sh.str] 0) (κ ((gC a i 0).toInt,(gC a i 1).toInt,(gC a i 2).toStr)) δ) δ))
def xod (a:LA) (i:Int):=xst a i none some
def xCX:EO:=xGW.f Tryz.func94 18 0 [] [] lk0 (u2 (uL 3) uI) (fun (a,i,_) _=>xst a i) (fun _ p=>AV.agg [AV.int .i64 p.1,AV.int .i64 p.2.1,AV.str p.2.2]) (0,0,[])
def xid (a b:LA) (c:Int):=(xod a (gC b c 0).toInt).getD (0,0,[])
def xic (a b:LA) (c:Int):=(xid a b c).snd
def xi9 {T:Type} (e c:LA) (f:Int) (d:Nat) (a:Int) (b:LA) (δ:T) (κl:(Nat×Int×LA)->T) (κr:(Nat×LA)->T):T:=br (decide (a<f)) (br (ixI c a) (br (ixS c a (Sh.int .i64) 0) (br ((xod e (gC c a 0).toInt).isSome) (br (rmB d b 1 32) (κl (d+1,i64.wrap (a+1),b++[AV.agg [AV.int .i64 (xid e c a).fst,AV.int .i64 (xic e c a).fst,AV.str (xic e c a).snd]])) δ) δ) δ) δ) (κr (d,b))
def xdk (c d:LA) (e:Int):StT (Nat×Int×LA) (Nat×LA):=fun (b,f,a)=>xi9 c d e b f a none inL inR
def xqO:=xCX.l 25 0 [] [] Tryz.f59 0 lk0 [0,5,11,12,13] [5] [(5,3,86)] (q5 (qL 3) (xJV 0 0 0) (qL 1) qI qI) (q1 (qB 0 3 86 xJN)) (fun (c,b,d,e,f,_) (a,_)=>(xdk c d e,(b,f,a),fun p=>(.leaf (.exit 0) [AV.osl 0 0 0 p.1] [bF 0 3 86 p.2]))) (0,[]) fun (c,_,d,e,_,_) _ (b,f,a)=>(((c,b,d,e,f,()),(a,())),xi9 c d e b f a none)
def xpA (a l:LA):=(Iter (xdk a l (↑l.length:Int)) (0,0,[])).getD (0,[])
def xpy (a l:LA):=(xpA a l).fst
def xpz (a l:LA):=(xpA a l).snd
def xqP {T:Type} (a l:LA) (δ:T) (κ:LA->T):T:=br (decide (32*(↑l.length:Int)<=281474976710656)&&decide ((↑l.length:Int)<=4611686018427387904)) (br ((Iter (xdk a l (↑l.length:Int)) (0,0,[])).isSome) (br (decide (0+xpy a l<=(xpz a l).length)&&true) (κ (List.take (xpy a l) (List.drop 0 (xpz a l)))) δ) δ) δ
def xpT (a l:LA):=xqP a l none some
def xGX:EO:=xCX.f Tryz.func59 25 0 [] [(3,xqO.lp)] (lk1 xqO.ok) (u2 (uL 3) (uL 1)) (fun (a,l,_) _=>xqP a l) (fun _ p=>AV.list 3 p) []
def xr2 {T:Type} (i:Int) (a:LA) (δ:T) (κ:Bool->T):T:=br ((xod a i).isSome) (κ (((xod a i).getD (0,0,[])).fst==0)) δ
def hasNull1 (i:Int) (a:LA):=xr2 i a none some
def xCY:EO:=xGX.f Tryz.func96 9 0 [] [] lk0 (u2 uI (sEq (xJ1 1 0 0 (q1 (qL 3))))) (fun (i,(a,_),_) _=>xr2 i a) (fun _ p=>AV.bool p) false
def xev {T:Type} (b f:LA) (c a:Int) (δ:T) (κl:(Int)->T) (κr:(Bool×(Int)×(Unit))->T):T:=br (decide (a<c)) (br (ixI b a) (br (ixS b a (Sh.int .i64) 0) (br ((hasNull1 (gC b a 0).toInt f).isSome) (br ((hasNull1 (gC b a 0).toInt f).getD false) (κr (true,(a),())) (κl (i64.wrap (a+1)))) δ) δ) δ) (κr (false,0,()))
def xaB (a f:LA) (b:Int):StT (Int) (Bool×(Int)×(Unit)):=fun (c)=>xev a f b c none inL inR
def xkL:=xCY.l 19 0 [] [] Tryz.f126 0 lk0 [0,1,7,8] [4] [] (q4 (qL 1) (xJn 96 (q1 (xJ1 1 0 0 (q1 (qL 3))))) qI qI) xJL (fun (a,((f,_),_),b,c,_) _=>(xaB a f b,(c),fun p=>(.node p.1 (.leaf .ret [AV.int .i64 p.2.1] []) (.leaf (.exit 0) [.top] [])))) (false,0,()) fun (a,((f,_),_),b,_,_) _ (c)=>(((a,((f,()),()),b,c,()),()),xev a f b c none)
def xjK {T:Type} (a b:LA) (δ:T) (κ:Int->T):T:=br ((Iter (xaB a b (↑a.length:Int)) 0).isSome) (br (((Iter (xaB a b (↑a.length:Int)) 0).getD (false,0,())).fst) (κ (((Iter (xaB a b (↑a.length:Int)) 0).getD (false,0,())).snd.fst)) (κ ((-1)))) δ
def xlB (b a:LA):=xjK b a none some
def xGY:EO:=xCY.f Tryz.func126 19 0 [] [(2,xkL.lp)] (lk1 xkL.ok) (u2 (uL 1) (sEq (xJn (96:FuncId) (q1 (xJ1 1 0 0 (q1 (qL 3))))))) (fun (b,((a,_),_),_) _=>xjK b a) (fun _ p=>AV.int .i64 p) 0
def xha {T:Type} (b a:LA) (δ:T) (κ:Bool->T):T:=br ((xlB b a).isSome) (κ (decide ((xlB b a).getD 0>=0))) δ
def xiV (b a:LA):=xha b a none some
def xGZ:EO:=xGY.f Tryz.func95 9 0 [] [] lk0 (u2 (uL 1) (sEq (xJn (96:FuncId) (q1 (xJ1 1 0 0 (q1 (qL 3))))))) (fun (b,((a,_),_),_) _=>xha b a) (fun _ p=>AV.bool p) false
def xm2 {T:Type} (a l:LA) (δ:T) (κ:Bool->T):T:=br ((xiV l a).isSome) (κ ((xiV l a).getD false)) δ
def xla (a l:LA):=xm2 a l none some
def xGx:EO:=xGZ.f Tryz.func60 8 0 [1000042] [] lk0 (u2 (uL 3) (uL 1)) (fun (a,l,_) _=>xm2 a l) (fun _ p=>AV.bool p) false
def xiF {T:Type} (a:LA) (c:List UInt8) (b:LA) (δ:T) (κ:LA×Bool->T):T:=br ((xpT b a).isSome) (br ((xla b a).isSome) (κ ((xpT b a).getD [],!(xla b a).getD false)) δ) δ
def xdu (a:LA) (b:List UInt8) (c:LA):=xiF a b c none some
def xsO:LA->Option (Bool×AV):=fnO (u2 (xJx (u2 (uL 1) (sEq pStr))) (uL 3)) (fun ((a,b,_),c,_) _=>xiF a b c) (fun _ p=>AV.tuple [AV.list 3 p.1,AV.bool p.2]) ([],false)
theorem xsN:OcOk P0 xJI 34 xsO:=fnC xGx.ok Tryz.func34 15 0 [] [] lk0
def xeU {T:Type} (a:List UInt8) (i:Int) (δ:T) (κl:(Int)->T) (κr:(Bool×(Bool)×(Unit))->T):T:=br (decide (i<a.length)) (br (decide (0<=i)&&decide (i<a.length)) (br (decide ((↑(a.getD i.toNat (0:UInt8)).toNat:Int)<32)) (κr (true,(false),())) (br (decide (0<=i)&&decide (i<a.length)) (br (decide ((↑(a.getD i.toNat (0:UInt8)).toNat:Int)>126)) (κr (true,(false),())) (κl (i64.wrap (i+1)))) δ)) δ) (κr (false,false,()))
def xaU (a:List UInt8):StT (Int) (Bool×(Bool)×(Unit)):=fun (i)=>xeU a i none inL inR
def xlF:=xrI.l 20 0 [] [] Tryz.f147 0 lk0 [0,3] [2] [] (q2 pStr qI) xJL (fun (a,i,_) _=>(xaU a,(i),fun p=>(.node p.1 (.leaf .ret [AV.bool p.2.1] []) (.leaf (.exit 0) [.top] [])))) (false,false,()) fun (a,_,_) _ (i)=>(((a,i,()),()),xeU a i none)
def xkm {T:Type} (a:List UInt8) (δ:T) (κ:Bool->T):T:=br ((Iter (xaU a) 0).isSome) (br (((Iter (xaU a) 0).getD (false,false,())).fst) (κ (((Iter (xaU a) 0).getD (false,false,())).snd.fst)) (κ (true))) δ
def xiY (a:List UInt8):=xkm a none some
def xDi:EO:=xrI.f Tryz.func147 20 0 [] [(2,xlF.lp)] (lk1 xlF.ok) (u1 (sEq pStr)) (fun (a,_) _=>xkm a) (fun _ p=>AV.bool p) false
def xoX {T:Type} (c a:Int) (b:List UInt8) (δ:T) (κ:Bool->T):T:=br (c==0) (br (a==0) (κ (b==[])) (κ (false))) (br (c==1) (br (b==[]) (br (decide (a>=(-1125899906842624))) (κ (decide (a<=1125899906842624))) (κ (false))) (κ (false))) (br (c==2) (br (a==0) (br (decide ((↑b.length:Int)<=200)) (br ((xiY b).isSome) (κ ((xiY b).getD false)) δ) (κ (false))) (κ (false))) (br (c==3) (br (b==[]) (br (a==0) (κ (true)) (κ (a==1))) (κ (false))) (κ (false)))))
def xkJ (a b:Int) (c:List UInt8):=xoX a b c none some
def xyv:LA->Option (Bool×AV):=fnO (u1 (xJx (u3 uI uI (sEq pStr)))) (fun ((a,b,c,_),_) _=>xoX a b c) (fun _ p=>AV.bool p) false
theorem xsB:OcOk P0 xJI 121 xyv:=fnC xDi.ok Tryz.func121 61 0 [] [] lk0
def xHf:EO:=xDi.w xsB
def xis (a:Int):Int×Int:=(br (a==1) ((0,0)) (br (a==2) ((0,0)) (br (a==4) ((1,1)) (br (a==18) ((1,1)) (br (a==20) ((1,1)) (br (a==21) ((1,1)) (br (a==5) ((2,1099511627776)) (br (a==6) ((2,1099511627776)) (br (a==7) ((2,2)) (br (a==8) ((2,2)) (br (a==9) ((2,2)) (br (a==10) ((2,2)) (br (a==11) ((2,2)) (br (a==12) ((2,2)) (br (a==13) ((2,2)) (br (a==14) ((2,2)) (br (a==15) ((2,2)) (br (a==16) ((2,2)) (br (a==17) ((2,2)) (br (a==19) ((2,2)) (br (a==22) ((3,3)) (br (a==23) ((1,1099511627776)) (br (a==24) ((4,4)) (((-1),0)))))))))))))))))))))))))
def xyA {T:Type} (a:Int) (δ:T) (κ:Int×Int->T):T:=br (a==1) (κ (0,0)) (br (a==2) (κ (0,0)) (br (a==4) (κ (1,1)) (br (a==18) (κ (1,1)) (br (a==20) (κ (1,1)) (br (a==21) (κ (1,1)) (br (a==5) (κ (2,1099511627776)) (br (a==6) (κ (2,1099511627776)) (br (a==7) (κ (2,2)) (br (a==8) (κ (2,2)) (br (a==9) (κ (2,2)) (br (a==10) (κ (2,2)) (br (a==11) (κ (2,2)) (br (a==12) (κ (2,2)) (br (a==13) (κ (2,2)) (br (a==14) (κ (2,2)) (br (a==15) (κ (2,2)) (br (a==16) (κ (2,2)) (br (a==17) (κ (2,2)) (br (a==19) (κ (2,2)) (br (a==22) (κ (3,3)) (br (a==23) (κ (1,1099511627776)) (br (a==24) (κ (4,4)) (κ ((-1),0))))))))))))))))))))))))
def xHg:EO:=xHf.fT Tryz.func168 35 0 [7000000] [] lk0 (fun (a,_)=>xyA a none) (u1 uI) (fun (a,_)=>xis a) (fun _ p=>(AV.tuple [AV.int .i64 p.1,AV.int .i64 p.2]))
def xnv {T:Type} (a f b c:Int) (d g:List UInt8) (e:LA) (δ:T) (κ:Bool->T):T:=br (decide ((xis a).fst<0)) (κ (false)) (br (decide ((↑e.length:Int)<(xis a).fst)) (κ (false)) (br (decide ((↑e.length:Int)>(xis a).snd)) (κ (false)) (br (!g==[]) (κ (false)) (br (a==1) (br (f==0) (br ((xkJ b c d).isSome) (κ ((xkJ b c d).getD false)) δ) (κ (false))) (br (a==2) (κ (b==0&&(c==0&&(d==[]&&true)))) (br (a==24) (br (b==0&&(c==0&&(d==[]&&true))) (br (decide (f>=0)) (κ (decide (f<13))) (κ (false))) (κ (false))) (br (f==0) (κ (b==0&&(c==0&&(d==[]&&true)))) (κ (false)))))))))
def xmo (b g c d:Int) (e f:List UInt8) (a:LA):=xnv b g c d e f a none some
def xDj:EO:=xHg.f Tryz.func169 75 0 [] [] lk0 (u1 (xJx (u7 uI uI uI uI (sEq pStr) (sEq pStr) (uL 7)))) (fun ((b,h,c,d,e,g,a,_),_) _=>xnv b h c d e g a) (fun _ p=>AV.bool p) false
def xka {T:Type} (l:LA) (a i:Int) (δ:T) (κl:(Int)->T) (κr:(Bool×(Bool)×(Unit))->T):T:=br (decide (i<l.length)) (br (ixI l i) (br (ixS l i (Sh.int .i64) 0) (br ((gC l i 0).toInt != a) (br (ixI l i) (br (ixS l i (Sh.int .i64) 0) (br ((gC l i 0).toInt != 0) (κr (true,(false),())) (κl (i64.wrap (i+1)))) δ) δ) (κl (i64.wrap (i+1)))) δ) δ) (κr (false,false,()))
def xct (l:LA) (a:Int):StT (Int) (Bool×(Bool)×(Unit)):=fun (i)=>xka l a i none inL inR
def xqY:=xDj.l 25 0 [] [] Tryz.f199 0 lk0 [0,1,5] [4] [] (q3 (qL 1) qI qI) xJL (fun (l,a,i,_) _=>(xct l a,(i),fun p=>(.node p.1 (.leaf .ret [AV.bool p.2.1] []) (.leaf (.exit 0) [.top] [])))) (false,false,()) fun (l,a,_,_) _ (i)=>(((l,a,i,()),()),xka l a i none)
def xrk {T:Type} (l:LA) (a:Int) (δ:T) (κ:Bool->T):T:=br ((Iter (xct l a) 0).isSome) (br (((Iter (xct l a) 0).getD (false,false,())).fst) (κ (((Iter (xct l a) 0).getD (false,false,())).snd.fst)) (κ (true))) δ
def xcz (l:LA) (a:Int):=xrk l a none some
def xDk:EO:=xDj.f Tryz.func199 25 0 [] [(2,xqY.lp)] (lk1 xqY.ok) (u2 (uL 1) uI) (fun (l,a,_) _=>xrk l a) (fun _ p=>AV.bool p) false
def xhU (l:LA) (i:Int):=ixI l i
def xhV (l:LA) (i:Int):=decide (i.toNat<l.length)&&xIZ (Sh.int .i64) (gC l i 0)
def xgA {T:Type} (l:LA) (i:Int) (δ:T) (κl:(Int×Int)->T):T:=br (xhU l i) (br (xhV l i) (κl ((gC l i 0).toInt,i64.wrap (i+1))) δ) δ
def xi0 {T:Type} (l:LA) (k i:Int) (δ:T) (κl:(Int×Int)->T) (κr:(Bool×(Int×Bool×Int)×(Int))->T):T:=br (decide (i<l.length)) (br (xhU l i) (br (xhV l i) (br ((gC l i 0).toInt==0) (κl (k,i64.wrap (i+1))) (br (k != 0) (br (xhU l i) (br (xhV l i) (br (k != (gC l i 0).toInt) (κr (true,(0,false,k),0)) (xgA l i δ κl)) δ) δ) (xgA l i δ κl))) δ) δ) (κr (false,(0,false,0),(k)))
def xc9 (l:LA):StT (Int×Int) (Bool×(Int×Bool×Int)×(Int)):=fun (k,i)=>xi0 l k i none inL inR
def xqk:=xDk.l 32 0 [] [] Tryz.f200 0 lk0 [0,4,5] [2,3,4] [] (q3 (qL 1) qI qI) xJL (fun (l,k,i,_) _=>(xc9 l,(k,i),fun p=>(.node p.1 (.leaf .ret [AV.int .i64 p.2.1.1,AV.bool p.2.1.2.1,AV.int .i64 p.2.1.2.2] []) (.leaf (.exit 0) [.top,.top,AV.int .i64 p.2.2] [])))) (false,(0,false,0),0) fun (l,_,_,_) _ (k,i)=>(((l,k,i,()),()),xi0 l k i none)
def xo4 (l:LA):=(Iter (xc9 l) (0,0)).getD (false,(0,false,0),0)
def xo3 (l:LA):=(xo4 l).snd
def xo2 (l:LA):=(xo3 l).fst
def xql {T:Type} (l:LA) (δ:T) (κ:Int×Bool->T):T:=br ((Iter (xc9 l) (0,0)).isSome) (br ((xo4 l).fst) (κ ((xo2 l).fst,(xo2 l).snd.fst)) (κ ((xo3 l).snd,true))) δ
def xds (l:LA):=xql l none some
def xHh:EO:=xDk.f Tryz.func200 32 0 [] [(3,xqk.lp)] (lk1 xqk.ok) (u1 (uL 1)) (fun (l,_) _=>xql l) (fun _ p=>AV.tuple [AV.int .i64 p.1,AV.bool p.2]) (0,false)
def xc0 {T:Type} (l:LA) (δ:T) (κ:Int×Bool->T):T:=br ((xds l).isSome) (κ (3,((xds l).getD (0,false)).snd)) δ
def xc1 {T:Type} (l:LA) (δ:T) (κ:Int×Bool->T):T:=br ((xcz l 1).isSome) (κ (1,(xcz l 1).getD false)) δ
def xhW {T:Type} (l:LA) (δ:T) (κ:Int×Bool->T):T:=br ((xcz l 3).isSome) (κ (3,(xcz l 3).getD false)) δ
def xnI {T:Type} (a c d f:Int) (g h:List UInt8) (e l b:LA) (δ:T) (κ:Int×Bool->T):T:=br (a==1) (κ (d,true)) (br (a==2) (br (ixI b c) (br (ixS b c (Sh.int .i64) 0) (κ ((gC b c 0).toInt,true)) δ) δ) (br (a==4) (xhW l δ κ) (br (a==5) (xhW l δ κ) (br (a==6) (xhW l δ κ) (br (a==7) (xc0 l δ κ) (br (a==8) (xc0 l δ κ) (br (a==9) (xc0 l δ κ) (br (a==10) (xc0 l δ κ) (br (a==11) (xc0 l δ κ) (br (a==12) (xc0 l δ κ) (br (a==13) (xc1 l δ κ) (br (a==14) (xc1 l δ κ) (br (a==15) (xc1 l δ κ) (br (a==16) (xc1 l δ κ) (br (a==17) (xc1 l δ κ) (br (a==18) (xc1 l δ κ) (br (a==19) (br ((xcz l 2).isSome) (κ (2,(xcz l 2).getD false)) δ) (br (a==20) (br ((xcz l 2).isSome) (κ (1,(xcz l 2).getD false)) δ) (br (a==21) (κ (3,true)) (br (a==22) (br (decide (1<=(↑l.length:Int))) (br ((xds (List.take (l.length - 1) (List.drop 1 l))).isSome) (br (((xds (List.take (l.length - 1) (List.drop 1 l))).getD (0,false)).snd) (br (decide (1<=(↑l.length:Int))&&true) (br ((xcz (List.take 1 (List.drop 0 l)) 3).isSome) (κ (((xds (List.take (l.length - 1) (List.drop 1 l))).getD (0,false)).fst,(xcz (List.take 1 (List.drop 0 l)) 3).getD false)) δ) δ) (κ (((xds (List.take (l.length - 1) (List.drop 1 l))).getD (0,false)).fst,false))) δ) δ) (br (a==23) (br ((xds l).isSome) (κ (((xds l).getD (0,false)).fst,((xds l).getD (0,false)).snd)) δ) (br ((xcz l 1).isSome) (κ (3,(xcz l 1).getD false)) δ))))))))))))))))))))))
def xg7 (c h d e:Int) (f g:List UInt8) (a l b:LA):=xnI c h d e f g a l b none some
def xrJ:EO:=xHh.f Tryz.func170 87 0 [7000000] [] lk0 (u3 (xJx (u7 uI uI uI uI (sEq pStr) (sEq pStr) (uL 7))) (uL 1) (uL 1)) (fun ((c,i,d,e,g,h,a,_),l,b,_) _=>xnI c i d e g h a l b) (fun _ p=>AV.tuple [AV.int .i64 p.1,AV.bool p.2]) (0,false)
def xd0 (R:Int->Int->Int->Int->List UInt8->List UInt8->LA->Option (Int)):LA->Option (Bool×AV):=ocOf (xJK (xJx (xJK (sEq (pInt .i64)) (xJK (sEq (pInt .i64)) (xJK (sEq (pInt .i64)) (xJK (sEq (pInt .i64)) (xJK (sEq pStr) (xJK (sEq pStr) (xJK (xJZ 7 xJN) xJM)))))))) xJM) fun ((b,(i,(c,(d,(e,(f,(a,_))))))),_)=>((R b i c d e f a).isSome,AV.int .i64 ((R b i c d e f a).getD 0))
theorem xsR (k:Go.FuncId) (R:Nat->Int->Int->Int->Int->List UInt8->List UInt8->LA->Option (Int)) (g:∀ n,OcOk P0 xJI k (xd0 (R n))):OcOk P0 xJI k (xd0 (fun b i c d e f a=>limN fun n=>R n b i c d e f a)):=xzG g fun v h=>by
 obtain ⟨⟨b,⟨i,⟨c,⟨d,⟨e,⟨f,⟨a,_⟩⟩⟩⟩⟩⟩⟩,_⟩:=v;obtain ⟨n,j⟩:=xwV (R:=fun n=>R n b i c d e f a) h
 exact ⟨n,congrArg (fun o=>(Option.isSome o,(AV.int .i64 (Option.getD o 0):AV))) j⟩
def xdw (R:Int->Int->Int->Int->List UInt8->List UInt8->LA->Option (Int)):Prop:=OcOk P0 xJI 145 (xd0 R)
def xe8 (R:Int->Int->Int->Int->List UInt8->List UInt8->LA->Option (Int)):Env:=(xrJ.E.with 145 (xd0 R)).fn 22 0 (lsOf []) (xJm [])
abbrev xkw (R:Int->Int->Int->Int->List UInt8->List UInt8->LA->Option (Int)):Prop:=xdw R
theorem xtX (R:Int->Int->Int->Int->List UInt8->List UInt8->LA->Option (Int)) (a:xkw R):xI0 P0 (xJI.at 0) (xe8 R):=(xrJ.ok.with a).fn
theorem xrm (R:Int->Int->Int->Int->List UInt8->List UInt8->LA->Option (Int)) (a:xkw R):LoOk P0 (xJI.at (xe8 R).pin) (xe8 R) (xI4 Tryz.f145 0):=xhN (by kernel_rfl)
def xkA (R:Int->Int->Int->Int->List UInt8->List UInt8->LA->Option Int) (i:Int) (a:LA):=R (gC a i 0).toInt (gC a i 1).toInt (gC a i 2).toInt (gC a i 3).toInt (gC a i 4).toStr (gC a i 5).toStr (gC a i 6).toList
def xkz (R:Int->Int->Int->Int->List UInt8->List UInt8->LA->Option Int) (i:Int) (a:LA):=(xkA R i a).getD 0
def xfi {T:Type} (R:Int->Int->Int->Int->List UInt8->List UInt8->LA->Option Int) (n i b c d e:Int) (f g:List UInt8) (a:LA) (δ:T) (κl:(Int×Int×Int×Int×Int×Int×List UInt8×List UInt8×LA)->T) (κr:(Int)->T):T:=br (decide (i<a.length)) (br (ixI a i) (br (ixT a i 7 [Sh.int .i64,Sh.int .i64,Sh.int .i64,Sh.int .i64,Sh.str,Sh.str,Sh.list 7] 0) (br ((xkA R i a).isSome) (κl (if xkz R i a>n then xkz R i a else n,i64.wrap (i+1),b,c,d,e,f,g,a)) δ) δ) δ) (κr (n))
def xbc (R:Int->Int->Int->Int->List UInt8->List UInt8->LA->Option Int):StT (Int×Int×Int×Int×Int×Int×List UInt8×List UInt8×LA) (Int):=fun (n,i,a,b,c,d,e,f,g)=>xfi R n i a b c d e f g none inL inR
def xb7 (R:Int->Int->Int->Int->List UInt8->List UInt8->LA->Option Int):(Int×Int×Int×Int×Int×Int×List UInt8×List UInt8×LA)->LA×List Box:=fun (n,i,a,b,c,d,e,f,g)=>([AV.own 0 0 0 0,AV.int .i64 n,AV.int .i64 i],[⟨0,7,172,[AV.agg [AV.int .i64 a,AV.int .i64 b,AV.int .i64 c,AV.int .i64 d,AV.str e,AV.str f,AV.list 7 g]],false,true⟩])
def xdb (R:Int->Int->Int->Int->List UInt8->List UInt8->LA->Option Int):(Int)->LR:=fun p=>(.leaf (.exit 0) [AV.int .i64 p] [])
abbrev xqp (R:Int->Int->Int->Int->List UInt8->List UInt8->LA->Option Int) (a:LA) (H:List Box):=XR P0 (xe8 R) [1,3,4] [3] [] (xI4 Tryz.f145 0) a H
theorem xuX (R:Int->Int->Int->Int->List UInt8->List UInt8->LA->Option Int) (s:Int×Int×Int×Int×Int×Int×List UInt8×List UInt8×LA):Enc (encR (xb7 R) (xdb R)) (xbc R s) (xqp R (xb7 R s).1 (xb7 R s).2):=by
 obtain ⟨n,i,a,b,c,d,e,f,g⟩:=s;have h:xqp R (xb7 R (n,i,a,b,c,d,e,f,g)).1 (xb7 R (n,i,a,b,c,d,e,f,g)).2=xfi R n i a b c d e f g none (fun s=>some (encR (xb7 R) (xdb R) (.inl s))) (fun p=>some (encR (xb7 R) (xdb R) (.inr p))):=by kernel_rfl
 rw [h];unfold xbc xfi;repeat' (first|refine Enc.br ?_ ?_|exact Enc.none|exact Enc.some rfl)
def xky (R:Int->Int->Int->Int->List UInt8->List UInt8->LA->Option Int):Lp:=lpOf [1,3,4] [3] [] (xJJ (xJW 0 0 0 0) (xJJ (pInt .i64) (xJJ (pInt .i64) xJL))) (xJJ (xJY 0 7 172 false true (xJJ (xJX (xJJ (pInt .i64) (xJJ (pInt .i64) (xJJ (pInt .i64) (xJJ (pInt .i64) (xJJ pStr (xJJ pStr (xJJ (xJ0 7 xJN) xJL)))))))) xJL)) xJL) fun (_,(n,(i,_))) (((a,(b,(c,(d,(e,(f,(g,_))))))),_),_)=>((Iter (xbc R) (n,i,a,b,c,d,e,f,g)).isSome,xdb R ((Iter (xbc R) (n,i,a,b,c,d,e,f,g)).getD 0))
theorem xtr (R:Int->Int->Int->Int->List UInt8->List UInt8->LA->Option Int) (a:xkw R):LoopOk P0 (xJI.at (xe8 R).pin) (xe8 R).nt (xI4 Tryz.f145 0) (xky R):=xzA fun k l o m=>by
 obtain ⟨_,⟨n,⟨i,_⟩⟩⟩:=k;obtain ⟨⟨⟨b,⟨c,⟨d,⟨e,⟨f,⟨g,⟨h,_⟩⟩⟩⟩⟩⟩⟩,_⟩,_⟩:=l;obtain ⟨j,rfl⟩:=Prod.mk.inj m;exact xpK xI9 (xJa P0 _) rfl (xtX R a) (xrm R a) (xb7 R) (xdb R) (fun p=>by simp only [xdb,LR.eval];first|(simp;done)|(repeat' split<;>simp)) (xuX R) (s:=(n,i,b,c,d,e,f,g,h)) (xaK j)
def xdx (R:Int->Int->Int->Int->List UInt8->List UInt8->LA->Option (Int)):Env:=(xrJ.E.with 145 (xd0 R)).fn 22 0 (lsOf []) (xJm [(3,xky R)])
theorem xtY (R:Int->Int->Int->Int->List UInt8->List UInt8->LA->Option (Int)) (a:xdw R):xI0 P0 (xJI.at 0) (xdx R):=(xrJ.ok.with a).fn
theorem xsg (R:Int->Int->Int->Int->List UInt8->List UInt8->LA->Option (Int)) (c:xdw R):LoOk P0 (xJI.at (xdx R).pin) (xdx R) (Tryz.f145.body.getD .skip):=xgi (ls:=[xI4 Tryz.f145 0]) (by kernel_rfl) (fun l b lp a=>by
 simp only [zC,List.not_mem_nil,or_false] at b;rcases b with rfl
 . rw [show (xdx R).lp (xJe (xI4 Tryz.f145 0))=some (xky R) by kernel_rfl] at a
   simp only [z6] at a;subst a;exact xtr R c)
def xnH (R:Int->Int->Int->Int->List UInt8->List UInt8->LA->Option Int) (b i c d:Int) (e f:List UInt8) (a:LA):=Iter (xbc R) (0,0,b,i,c,d,e,f,a)
def xk5 {T:Type} (R:Int->Int->Int->Int->List UInt8->List UInt8->LA->Option Int) (b i c d:Int) (e f:List UInt8) (a:LA) (δ:T) (κ:Int->T):T:=br ((xnH R b i c d e f a).isSome) (κ (i64.wrap ((xnH R b i c d e f a).getD 0+1))) δ
def xgj (R:Int->Int->Int->Int->List UInt8->List UInt8->LA->Option Int) (b i c d:Int) (e f:List UInt8) (a:LA):=xk5 R b i c d e f a none some
theorem xyG (R:Int->Int->Int->Int->List UInt8->List UInt8->LA->Option Int) (b i c d:Int) (e f:List UInt8) (a:LA):Enc (fun (p:Int)=>((AV.int .i64 p):AV)) (xgj R b i c d e f a) (XF P0 (xdx R) Tryz.f145 (Tryz.f145.body.getD .skip) [AV.agg [AV.int .i64 b,AV.int .i64 i,AV.int .i64 c,AV.int .i64 d,AV.str e,AV.str f,AV.list 7 a]]):=by
 have h:XF P0 (xdx R) Tryz.f145 (Tryz.f145.body.getD .skip) [AV.agg [AV.int .i64 b,AV.int .i64 i,AV.int .i64 c,AV.int .i64 d,AV.str e,AV.str f,AV.list 7 a]]=xk5 R b i c d e f a none (fun (p:Int)=>some ((AV.int .i64 p):AV)):=by kernel_rfl
 rw [h];unfold xgj xk5;repeat' (first|refine Enc.br ?_ ?_|exact Enc.none|exact Enc.some rfl)
def xyF (R:Int->Int->Int->Int->List UInt8->List UInt8->LA->Option Int):LA->Option (Bool×AV):=ocOf (xJK (xJx (xJK (sEq (pInt .i64)) (xJK (sEq (pInt .i64)) (xJK (sEq (pInt .i64)) (xJK (sEq (pInt .i64)) (xJK (sEq pStr) (xJK (sEq pStr) (xJK (xJZ 7 xJN) xJM)))))))) xJM) fun ((b,(i,(c,(d,(e,(f,(a,_))))))),_)=>((xgj R b i c d e f a).isSome,(AV.int .i64 ((xgj R b i c d e f a).getD 0)))
theorem xyE (R:Int->Int->Int->Int->List UInt8->List UInt8->LA->Option Int) (a:xdw R):OcOk P0 xJI 145 (xyF R):=xfA fun e h f=>by
 obtain ⟨⟨j,⟨i,⟨k,⟨l,⟨m,⟨n,⟨g,_⟩⟩⟩⟩⟩⟩⟩,_⟩:=e;obtain ⟨b,c⟩:=Prod.mk.inj f;refine xeG (p:=(xdx R).pin) (xgQ xI9 (xJa P0 _) rfl (xtY R a) Tryz.func145 rfl (by kernel_rfl) (xsg R a) ((xyG R _ _ _ _ _ _ _ _ (xaK (d:=0) b)).trans ?_))
 exact congrArg some c
def xcX:Nat->Int->Int->Int->Int->List UInt8->List UInt8->LA->Option (Int)
 | 0=>fun _ _ _ _ _ _ _=>none
 | fu_+1=>fun b i c d e f a=>xgj (xcX fu_) b i c d e f a
theorem xqo:∀ n,xdw (xcX n)
 | 0=>xfA fun _ _ h=>absurd (Prod.mk.inj h).1 Bool.false_ne_true
 | fu_+1=>fun a r h=>xyE (xcX fu_) (xqo fu_) a r h
def xik:Int->Int->Int->Int->List UInt8->List UInt8->LA->Option (Int):=fun b i c d e f a=>limN fun n=>xcX n b i c d e f a
theorem xuW:xdw xik:=xsR 145 xcX xqo
def xu9:Env:=xrJ.E.with 145 (xd0 xik)
theorem xsV:xI0 P0 xJI xu9:=xrJ.ok.with xuW
def xdZ (R:Int->Int->Int->Int->List UInt8->List UInt8->LA->LA->Option (Int×Int)):LA->Option (Bool×AV):=ocOf (xJK (xJx (xJK (sEq (pInt .i64)) (xJK (sEq (pInt .i64)) (xJK (sEq (pInt .i64)) (xJK (sEq (pInt .i64)) (xJK (sEq pStr) (xJK (sEq pStr) (xJK (xJZ 7 xJN) xJM)))))))) (xJK (xJZ 1 xJN) xJM)) fun ((b,(i,(c,(d,(e,(f,(a,_))))))),(g,_))=>((R b i c d e f a g).isSome,AV.tuple [AV.int .i64 (((R b i c d e f a g).getD (0,0))).1,AV.int .i64 (((R b i c d e f a g).getD (0,0))).2])
theorem xsQ (k:Go.FuncId) (R:Nat->Int->Int->Int->Int->List UInt8->List UInt8->LA->LA->Option (Int×Int)) (j:∀ n,OcOk P0 xJI k (xdZ (R n))):OcOk P0 xJI k (xdZ (fun b i c d e f a g=>limN fun n=>R n b i c d e f a g)):=xzG j fun v h=>by
 obtain ⟨⟨b,⟨i,⟨c,⟨d,⟨e,⟨f,⟨a,_⟩⟩⟩⟩⟩⟩⟩,⟨g,_⟩⟩:=v;obtain ⟨n,l⟩:=xwV (R:=fun n=>R n b i c d e f a g) h
 exact ⟨n,congrArg (fun o=>(Option.isSome o,(AV.tuple [AV.int .i64 ((Option.getD o (0,0))).1,AV.int .i64 ((Option.getD o (0,0))).2]:AV))) l⟩
def xdv (R:Int->Int->Int->Int->List UInt8->List UInt8->LA->LA->Option (Int×Int)):Prop:=OcOk P0 xJI 146 (xdZ R)
def xe7 (R:Int->Int->Int->Int->List UInt8->List UInt8->LA->LA->Option (Int×Int)):Env:=(xu9.with 146 (xdZ R)).fn 75 0 (lsOf []) (xJm [])
abbrev xkr (R:Int->Int->Int->Int->List UInt8->List UInt8->LA->LA->Option (Int×Int)):Prop:=xdv R
theorem xtV (R:Int->Int->Int->Int->List UInt8->List UInt8->LA->LA->Option (Int×Int)) (a:xkr R):xI0 P0 (xJI.at 0) (xe7 R):=(xsV.with a).fn
theorem xrl (R:Int->Int->Int->Int->List UInt8->List UInt8->LA->LA->Option (Int×Int)) (a:xkr R):LoOk P0 (xJI.at (xe7 R).pin) (xe7 R) (xI4 Tryz.f146 0):=xhN (by kernel_rfl)
def xkv (R:Int->Int->Int->Int->List UInt8->List UInt8->LA->LA->Option (Int×Int)) (b:LA) (i:Int) (a:LA):Option (Int×Int):=R (gC a i 0).toInt (gC a i 1).toInt (gC a i 2).toInt (gC a i 3).toInt (gC a i 4).toStr (gC a i 5).toStr (gC a i 6).toList b
def xku (R:Int->Int->Int->Int->List UInt8->List UInt8->LA->LA->Option (Int×Int)) (a:LA) (i:Int) (b:LA):Int×Int:=(xkv R a i b).getD (0,0)
def xkt (R:Int->Int->Int->Int->List UInt8->List UInt8->LA->LA->Option (Int×Int)) (a:LA) (i:Int) (b:LA):Int:=(xku R a i b).snd
def xfh {T:Type} (R:Int->Int->Int->Int->List UInt8->List UInt8->LA->LA->Option (Int×Int)) (b:LA) (d:Nat) (i e f g h:Int) (j k:List UInt8) (a c:LA) (δ:T) (κl:(Nat×Int×Int×Int×Int×Int×List UInt8×List UInt8×LA×LA)->T) (κr:(Bool×(Int×Int×Nat×Int×Int×Int×Int×List UInt8×List UInt8×LA×LA)×(Nat×Int×Int×Int×Int×List UInt8×List UInt8×LA×LA))->T):T:=br (decide (i<a.length)) (br (ixI a i) (br (ixT a i 7 [Sh.int .i64,Sh.int .i64,Sh.int .i64,Sh.int .i64,Sh.str,Sh.str,Sh.list 7] 0) (br ((xkv R b i a).isSome) (br (xkt R b i a != 0) (κr (true,(0,xkt R b i a,d,e,f,g,h,j,k,a,c),(0,0,0,0,0,[],[],[],[]))) (br (rmB d c 1 8) (κl (d+1,i64.wrap (i+1),e,f,g,h,j,k,a,c++[AV.int .i64 (xku R b i a).fst])) δ)) δ) δ) δ) (κr (false,(0,0,0,0,0,0,0,[],[],[],[]),(d,e,f,g,h,j,k,a,c)))
def xbb (R:Int->Int->Int->Int->List UInt8->List UInt8->LA->LA->Option (Int×Int)) (a:LA):StT (Nat×Int×Int×Int×Int×Int×List UInt8×List UInt8×LA×LA) (Bool×(Int×Int×Nat×Int×Int×Int×Int×List UInt8×List UInt8×LA×LA)×(Nat×Int×Int×Int×Int×List UInt8×List UInt8×LA×LA)):=fun (c,i,d,e,f,g,h,j,k,b)=>xfh R a c i d e f g h j k b none inL inR
def xb6 (R:Int->Int->Int->Int->List UInt8->List UInt8->LA->LA->Option (Int×Int)) (a:LA):(Nat×Int×Int×Int×Int×Int×List UInt8×List UInt8×LA×LA)->LA×List Box:=fun (c,i,d,e,f,g,h,j,k,b)=>([AV.list 1 a,AV.own 0 0 0 0,AV.osl 1 0 0 c,AV.int .i64 i],[⟨0,7,172,[AV.agg [AV.int .i64 d,AV.int .i64 e,AV.int .i64 f,AV.int .i64 g,AV.str h,AV.str j,AV.list 7 k]],false,true⟩,⟨0,1,3,b,false,true⟩])
def xda (R:Int->Int->Int->Int->List UInt8->List UInt8->LA->LA->Option (Int×Int)) (a:LA):(Bool×(Int×Int×Nat×Int×Int×Int×Int×List UInt8×List UInt8×LA×LA)×(Nat×Int×Int×Int×Int×List UInt8×List UInt8×LA×LA))->LR:=fun p=>(.node p.1 (.leaf .ret [AV.list 1 a,AV.own 0 0 0 0,AV.int .i64 p.2.1.1,AV.int .i64 p.2.1.2.1,AV.osl 1 0 0 p.2.1.2.2.1] [⟨0,7,172,[AV.agg [AV.int .i64 p.2.1.2.2.2.1,AV.int .i64 p.2.1.2.2.2.2.1,AV.int .i64 p.2.1.2.2.2.2.2.1,AV.int .i64 p.2.1.2.2.2.2.2.2.1,AV.str p.2.1.2.2.2.2.2.2.2.1,AV.str p.2.1.2.2.2.2.2.2.2.2.1,AV.list 7 p.2.1.2.2.2.2.2.2.2.2.2.1]],false,true⟩,⟨0,1,3,p.2.1.2.2.2.2.2.2.2.2.2.2,false,true⟩]) (.leaf (.exit 0) [AV.list 1 a,AV.own 0 0 0 0,.top,.top,AV.osl 1 0 0 p.2.2.1] [⟨0,7,172,[AV.agg [AV.int .i64 p.2.2.2.1,AV.int .i64 p.2.2.2.2.1,AV.int .i64 p.2.2.2.2.2.1,AV.int .i64 p.2.2.2.2.2.2.1,AV.str p.2.2.2.2.2.2.2.1,AV.str p.2.2.2.2.2.2.2.2.1,AV.list 7 p.2.2.2.2.2.2.2.2.2.1]],false,true⟩,⟨0,1,3,p.2.2.2.2.2.2.2.2.2.2,false,true⟩]))
abbrev xqn (R:Int->Int->Int->Int->List UInt8->List UInt8->LA->LA->Option (Int×Int)) (a:LA) (H:List Box):=XR P0 (xe7 R) [1,2,8,9] [1,2,4,5,8] [(8,1,3)] (xI4 Tryz.f146 0) a H
theorem xuV (R:Int->Int->Int->Int->List UInt8->List UInt8->LA->LA->Option (Int×Int)) (a:LA) (s:Nat×Int×Int×Int×Int×Int×List UInt8×List UInt8×LA×LA):Enc (encR (xb6 R a) (xda R a)) (xbb R a s) (xqn R (xb6 R a s).1 (xb6 R a s).2):=by
 obtain ⟨c,i,d,e,f,g,j,k,l,b⟩:=s;have h:xqn R (xb6 R a (c,i,d,e,f,g,j,k,l,b)).1 (xb6 R a (c,i,d,e,f,g,j,k,l,b)).2=xfh R a c i d e f g j k l b none (fun s=>some (encR (xb6 R a) (xda R a) (.inl s))) (fun p=>some (encR (xb6 R a) (xda R a) (.inr p))):=by kernel_rfl
 rw [h];unfold xbb xfh;repeat' (first|refine Enc.br ?_ ?_|exact Enc.none|exact Enc.some rfl)
def xks (R:Int->Int->Int->Int->List UInt8->List UInt8->LA->LA->Option (Int×Int)):Lp:=lpOf [1,2,8,9] [1,2,4,5,8] [(8,1,3)] (xJJ (xJ0 1 xJN) (xJJ (xJW 0 0 0 0) (xJJ (xJV 1 0 0) (xJJ (pInt .i64) xJL)))) (xJJ (xJY 0 7 172 false true (xJJ (xJX (xJJ (pInt .i64) (xJJ (pInt .i64) (xJJ (pInt .i64) (xJJ (pInt .i64) (xJJ pStr (xJJ pStr (xJJ (xJ0 7 xJN) xJL)))))))) xJL)) (xJJ (xJY 0 1 3 false true xJN) xJL)) fun (a,(_,(c,(i,_)))) (((d,(e,(f,(g,(h,(j,(k,_))))))),_),(b,_))=>((Iter (xbb R a) (c,i,d,e,f,g,h,j,k,b)).isSome,xda R a ((Iter (xbb R a) (c,i,d,e,f,g,h,j,k,b)).getD (false,(0,0,0,0,0,0,0,[],[],[],[]),(0,0,0,0,0,[],[],[],[]))))
theorem xtq (R:Int->Int->Int->Int->List UInt8->List UInt8->LA->LA->Option (Int×Int)) (c:xkr R):LoopOk P0 (xJI.at (xe7 R).pin) (xe7 R).nt (xI4 Tryz.f146 0) (xks R):=xzA fun n o r q=>by
 obtain ⟨a,⟨_,⟨d,⟨i,_⟩⟩⟩⟩:=n;obtain ⟨⟨⟨e,⟨f,⟨g,⟨h,⟨j,⟨k,⟨l,_⟩⟩⟩⟩⟩⟩⟩,_⟩,⟨b,_⟩⟩:=o;obtain ⟨m,rfl⟩:=Prod.mk.inj q;exact xpK xI9 (xJa P0 _) rfl (xtV R c) (xrl R c) (xb6 R a) (xda R a) (fun p=>by simp only [xda,LR.eval];first|(simp;done)|(repeat' split<;>simp)) (xuV R a) (s:=(d,i,e,f,g,h,j,k,l,b)) (xaK m)
def xdY (R:Int->Int->Int->Int->List UInt8->List UInt8->LA->LA->Option (Int×Int)):Env:=(xu9.with 146 (xdZ R)).fn 75 0 (lsOf []) (xJm [(10,xks R)])
theorem xtW (R:Int->Int->Int->Int->List UInt8->List UInt8->LA->LA->Option (Int×Int)) (a:xdv R):xI0 P0 (xJI.at 0) (xdY R):=(xsV.with a).fn
theorem xsf (R:Int->Int->Int->Int->List UInt8->List UInt8->LA->LA->Option (Int×Int)) (c:xdv R):LoOk P0 (xJI.at (xdY R).pin) (xdY R) (Tryz.f146.body.getD .skip):=xgi (ls:=[xI4 Tryz.f146 0]) (by kernel_rfl) (fun l b lp a=>by
 simp only [zC,List.not_mem_nil,or_false] at b;rcases b with rfl
 . rw [show (xdY R).lp (xJe (xI4 Tryz.f146 0))=some (xks R) by kernel_rfl] at a
   simp only [z6] at a;subst a;exact xtq R c)
def xmu (R:Int->Int->Int->Int->List UInt8->List UInt8->LA->LA->Option (Int×Int)) (b i c d:Int) (e f:List UInt8) (a g:LA):Option
 (Bool ×
  (Int×Int×Nat×Int×Int×Int×Int×List UInt8×List UInt8×LA×LA) ×
   Nat×Int×Int×Int×Int×List UInt8×List UInt8×LA×LA):=Iter (xbb R g) (0,0,b,i,c,d,e,f,a,[])
def xmt (R:Int->Int->Int->Int->List UInt8->List UInt8->LA->LA->Option (Int×Int)) (b i c d:Int) (e f:List UInt8) (a g:LA):Bool ×
 (Int×Int×Nat×Int×Int×Int×Int×List UInt8×List UInt8×LA×LA) ×
  Nat×Int×Int×Int×Int×List UInt8×List UInt8×LA×LA:=(xmu R b i c d e f a g).getD (false,(0,0,0,0,0,0,0,[],[],[],[]),0,0,0,0,0,[],[],[],[])
def xms (R:Int->Int->Int->Int->List UInt8->List UInt8->LA->LA->Option (Int×Int)) (b i c d:Int) (e f:List UInt8) (a g:LA):(Int×Int×Nat×Int×Int×Int×Int×List UInt8×List UInt8×LA×LA) ×
 Nat×Int×Int×Int×Int×List UInt8×List UInt8×LA×LA:=(xmt R b i c d e f a g).snd
def xmq (R:Int->Int->Int->Int->List UInt8->List UInt8->LA->LA->Option (Int×Int)) (b i c d:Int) (e f:List UInt8) (a g:LA):Nat×Int×Int×Int×Int×List UInt8×List UInt8×LA×LA:=(xms R b i c d e f a g).snd
def xmr (R:Int->Int->Int->Int->List UInt8->List UInt8->LA->LA->Option (Int×Int)) (b i c d:Int) (e f:List UInt8) (a g:LA):Int×Int×Nat×Int×Int×Int×Int×List UInt8×List UInt8×LA×LA:=(xms R b i c d e f a g).fst
def xnG (R:Int->Int->Int->Int->List UInt8->List UInt8->LA->LA->Option (Int×Int)) (b i c d:Int) (e f:List UInt8) (a g:LA):Int×Int×Int×Int×List UInt8×List UInt8×LA×LA:=(xmq R b i c d e f a g).snd
def xmp (R:Int->Int->Int->Int->List UInt8->List UInt8->LA->LA->Option (Int×Int)) (b i c d:Int) (e f:List UInt8) (a g:LA):Nat:=(xmq R b i c d e f a g).fst
def xnF (R:Int->Int->Int->Int->List UInt8->List UInt8->LA->LA->Option (Int×Int)) (b i c d:Int) (e f:List UInt8) (a g:LA):Int×Int×Int×List UInt8×List UInt8×LA×LA:=(xnG R b i c d e f a g).snd
def xnE (R:Int->Int->Int->Int->List UInt8->List UInt8->LA->LA->Option (Int×Int)) (b i c d:Int) (e f:List UInt8) (a g:LA):Int×Int×List UInt8×List UInt8×LA×LA:=(xnF R b i c d e f a g).snd
def xnD (R:Int->Int->Int->Int->List UInt8->List UInt8->LA->LA->Option (Int×Int)) (b i c d:Int) (e f:List UInt8) (a g:LA):Int×List UInt8×List UInt8×LA×LA:=(xnE R b i c d e f a g).snd
def xnC (R:Int->Int->Int->Int->List UInt8->List UInt8->LA->LA->Option (Int×Int)) (b i c d:Int) (e f:List UInt8) (a g:LA):List UInt8×List UInt8×LA×LA:=(xnD R b i c d e f a g).snd
def xnB (R:Int->Int->Int->Int->List UInt8->List UInt8->LA->LA->Option (Int×Int)) (b i c d:Int) (e f:List UInt8) (a g:LA):List UInt8×LA×LA:=(xnC R b i c d e f a g).snd
def xnA (R:Int->Int->Int->Int->List UInt8->List UInt8->LA->LA->Option (Int×Int)) (b i c d:Int) (e f:List UInt8) (a g:LA):LA×LA:=(xnB R b i c d e f a g).snd
def xnz (R:Int->Int->Int->Int->List UInt8->List UInt8->LA->LA->Option (Int×Int)) (b i c d:Int) (e f:List UInt8) (a g:LA):LA:=(xnA R b i c d e f a g).snd
def xny (R:Int->Int->Int->Int->List UInt8->List UInt8->LA->LA->Option (Int×Int)) (c i d e:Int) (f g:List UInt8) (a b:LA):Option (Int×Bool):=xg7 (xnG R c i d e f g a b).fst (xnF R c i d e f g a b).fst (xnE R c i d e f g a b).fst (xnD R c i d e f g a b).fst (xnC R c i d e f g a b).fst (xnB R c i d e f g a b).fst (xnA R c i d e f g a b).fst (List.take (xmp R c i d e f g a b) (List.drop 0 (xnz R c i d e f g a b))) b
def xnw (R:Int->Int->Int->Int->List UInt8->List UInt8->LA->LA->Option (Int×Int)) (b i c d:Int) (e f:List UInt8) (a g:LA):Int×Bool:=(xny R b i c d e f a g).getD (0,false)
def xi1 {T:Type} (R:Int->Int->Int->Int->List UInt8->List UInt8->LA->LA->Option (Int×Int)) (b i c d:Int) (e f:List UInt8) (a g:LA) (δ:T) (κ:Int×Int->T):T:=br ((xmu R b i c d e f a g).isSome) (br ((xmt R b i c d e f a g).fst) (κ ((xmr R b i c d e f a g).fst,(xmr R b i c d e f a g).snd.fst)) (br (decide (0+xmp R b i c d e f a g<=(xnz R b i c d e f a g).length)&&true) (br ((xny R b i c d e f a g).isSome) (br (!(xnw R b i c d e f a g).snd) (κ (0,7)) (κ ((xnw R b i c d e f a g).fst,0))) δ) δ)) δ
def xk4 {T:Type} (R:Int->Int->Int->Int->List UInt8->List UInt8->LA->LA->Option (Int×Int)) (b i c d:Int) (e f:List UInt8) (a g:LA) (δ:T) (κ:Int×Int->T):T:=br (decide ((xis b).fst<0)) (κ (0,7)) (br ((xmo b i c d e f a).isSome) (br (!(xmo b i c d e f a).getD false) (κ (0,8)) (br (b==2) (br (decide (i<0)) (κ (0,13)) (br (decide (i>=g.length)) (κ (0,13)) (xi1 R b i c d e f a g δ κ))) (xi1 R b i c d e f a g δ κ))) δ)
def xe2 (R:Int->Int->Int->Int->List UInt8->List UInt8->LA->LA->Option (Int×Int)) (b i c d:Int) (e f:List UInt8) (a g:LA):=xk4 R b i c d e f a g none some
theorem xyD (R:Int->Int->Int->Int->List UInt8->List UInt8->LA->LA->Option (Int×Int)) (b i c d:Int) (e f:List UInt8) (a g:LA):Enc (fun (p:Int×Int)=>((AV.tuple [AV.int .i64 p.1,AV.int .i64 p.2]):AV)) (xe2 R b i c d e f a g) (XF P0 (xdY R) Tryz.f146 (Tryz.f146.body.getD .skip) [AV.agg [AV.int .i64 b,AV.int .i64 i,AV.int .i64 c,AV.int .i64 d,AV.str e,AV.str f,AV.list 7 a],AV.list 1 g]):=by
 have h:XF P0 (xdY R) Tryz.f146 (Tryz.f146.body.getD .skip) [AV.agg [AV.int .i64 b,AV.int .i64 i,AV.int .i64 c,AV.int .i64 d,AV.str e,AV.str f,AV.list 7 a],AV.list 1 g]=xk4 R b i c d e f a g none (fun (p:Int×Int)=>some ((AV.tuple [AV.int .i64 p.1,AV.int .i64 p.2]):AV)):=by kernel_rfl
 rw [h];unfold xe2 xk4 xi1;repeat' (first|refine Enc.br ?_ ?_|exact Enc.none|exact Enc.some rfl)
def xyC (R:Int->Int->Int->Int->List UInt8->List UInt8->LA->LA->Option (Int×Int)):LA->Option (Bool×AV):=ocOf (xJK (xJx (xJK (sEq (pInt .i64)) (xJK (sEq (pInt .i64)) (xJK (sEq (pInt .i64)) (xJK (sEq (pInt .i64)) (xJK (sEq pStr) (xJK (sEq pStr) (xJK (xJZ 7 xJN) xJM)))))))) (xJK (xJZ 1 xJN) xJM)) fun ((b,(i,(c,(d,(e,(f,(a,_))))))),(g,_))=>((xe2 R b i c d e f a g).isSome,(AV.tuple [AV.int .i64 ((xe2 R b i c d e f a g).getD (0,0)).1,AV.int .i64 ((xe2 R b i c d e f a g).getD (0,0)).2]))
theorem xyB (R:Int->Int->Int->Int->List UInt8->List UInt8->LA->LA->Option (Int×Int)) (a:xdv R):OcOk P0 xJI 146 (xyC R):=xfA fun e h f=>by
 obtain ⟨⟨j,⟨i,⟨k,⟨l,⟨m,⟨n,⟨g,_⟩⟩⟩⟩⟩⟩⟩,⟨o,_⟩⟩:=e;obtain ⟨b,c⟩:=Prod.mk.inj f;refine xeG (p:=(xdY R).pin) (xgQ xI9 (xJa P0 _) rfl (xtW R a) Tryz.func146 rfl (by kernel_rfl) (xsf R a) ((xyD R _ _ _ _ _ _ _ _ _ (xaK (d:=(0,0)) b)).trans ?_))
 exact congrArg some c
def xcW:Nat->Int->Int->Int->Int->List UInt8->List UInt8->LA->LA->Option (Int×Int)
 | 0=>fun _ _ _ _ _ _ _ _=>none
 | fu_+1=>fun b i c d e f a g=>xe2 (xcW fu_) b i c d e f a g
theorem xqm:∀ n,xdv (xcW n)
 | 0=>xfA fun _ _ h=>absurd (Prod.mk.inj h).1 Bool.false_ne_true
 | fu_+1=>fun a r h=>xyB (xcW fu_) (xqm fu_) a r h
def xfE:Int->Int->Int->Int->List UInt8->List UInt8->LA->LA->Option (Int×Int):=fun b i c d e f a g=>limN fun n=>xcW n b i c d e f a g
theorem xuU:xdv xfE:=xsQ 146 xcW xqm
def xDl:Env:=xu9.with 146 (xdZ xfE)
theorem xDn:xI0 P0 xJI xDl:=xsV.with xuU
def xDm:EO:=EO.mk xDl xDn
def xo1 {T:Type} (b h c d:Int) (e f:List UInt8) (a g:LA) (δ:T) (κ:Int×Int->T):T:=br ((xik b h c d e f a).isSome) (br (decide ((xik b h c d e f a).getD 0>24)) (κ (0,26)) (br ((xfE b h c d e f a g).isSome) (κ (((xfE b h c d e f a g).getD (0,0)).fst,((xfE b h c d e f a g).getD (0,0)).snd)) δ)) δ
def xrj (c h d e:Int) (f g:List UInt8) (a b:LA):=xo1 c h d e f g a b none some
def xFR:EO:=xDm.f Tryz.func120 14 0 [] [] lk0 (u2 (xJx (u7 uI uI uI uI (sEq pStr) (sEq pStr) (uL 7))) (uL 1)) (fun ((c,i,d,e,g,h,a,_),b,_) _=>xo1 c i d e g h a b) (fun _ p=>AV.tuple [AV.int .i64 p.1,AV.int .i64 p.2]) (0,0)
def xAL:LA:=(([AV.str [(97:UInt8),(100:UInt8),(100:UInt8)],AV.str [(97:UInt8),(102:UInt8),(116:UInt8),(101:UInt8),(114:UInt8)],AV.str [(97:UInt8),(108:UInt8),(108:UInt8)],AV.str [(97:UInt8),(108:UInt8),(116:UInt8),(101:UInt8),(114:UInt8)],AV.str [(97:UInt8),(110:UInt8),(100:UInt8)],AV.str [(97:UInt8),(115:UInt8)],AV.str [(98:UInt8),(101:UInt8),(102:UInt8),(111:UInt8),(114:UInt8),(101:UInt8)],AV.str [(98:UInt8),(101:UInt8),(103:UInt8),(105:UInt8),(110:UInt8)],AV.str [(98:UInt8),(101:UInt8),(116:UInt8),(119:UInt8),(101:UInt8),(101:UInt8),(110:UInt8)],AV.str [(98:UInt8),(111:UInt8),(111:UInt8),(108:UInt8)],AV.str [(98:UInt8),(121:UInt8)],AV.str [(99:UInt8),(104:UInt8),(101:UInt8),(99:UInt8),(107:UInt8)],AV.str [(99:UInt8),(111:UInt8),(97:UInt8),(108:UInt8),(101:UInt8),(115:UInt8),(99:UInt8),(101:UInt8)],AV.str [(99:UInt8),(111:UInt8),(109:UInt8),(109:UInt8),(105:UInt8),(116:UInt8)],AV.str [(99:UInt8),(111:UInt8),(110:UInt8),(116:UInt8),(97:UInt8),(105:UInt8),(110:UInt8),(115:UInt8)],AV.str [(99:UInt8),(111:UInt8),(117:UInt8),(110:UInt8),(116:UInt8)],AV.str [(99:UInt8),(114:UInt8),(101:UInt8),(97:UInt8),(116:UInt8),(101:UInt8)],AV.str [(100:UInt8),(101:UInt8),(102:UInt8),(97:UInt8),(117:UInt8),(108:UInt8),(116:UInt8)],AV.str [(100:UInt8),(101:UInt8),(108:UInt8),(101:UInt8),(116:UInt8),(101:UInt8)],AV.str [(100:UInt8),(101:UInt8),(115:UInt8),(99:UInt8)],AV.str [(100:UInt8),(105:UInt8),(115:UInt8),(116:UInt8),(105:UInt8),(110:UInt8),(99:UInt8),(116:UInt8)],AV.str [(100:UInt8),(114:UInt8),(111:UInt8),(112:UInt8)],AV.str [(100:UInt8),(117:UInt8),(114:UInt8),(105:UInt8),(110:UInt8),(103:UInt8)],AV.str [(101:UInt8),(113:UInt8),(117:UInt8),(97:UInt8),(108:UInt8),(115:UInt8)],AV.str [(101:UInt8),(120:UInt8),(99:UInt8),(101:UInt8),(112:UInt8),(116:UInt8)],AV.str [(102:UInt8),(97:UInt8),(108:UInt8),(115:UInt8),(101:UInt8)],AV.str [(102:UInt8),(105:UInt8),(110:UInt8),(105:UInt8),(115:UInt8),(104:UInt8),(101:UInt8),(100:UInt8),(98:UInt8),(121:UInt8)],AV.str [(102:UInt8),(105:UInt8),(110:UInt8),(105:UInt8),(115:UInt8),(104:UInt8),(101:UInt8),(115:UInt8)],AV.str [(102:UInt8),(111:UInt8),(114:UInt8),(101:UInt8),(105:UInt8),(103:UInt8),(110:UInt8)],AV.str [(102:UInt8),(111:UInt8),(114:UInt8),(101:UInt8),(118:UInt8),(101:UInt8),(114:UInt8)],AV.str [(102:UInt8),(114:UInt8),(111:UInt8),(109:UInt8)],AV.str [(103:UInt8),(114:UInt8),(111:UInt8),(117:UInt8),(112:UInt8)],AV.str [(104:UInt8),(111:UInt8),(108:UInt8),(100:UInt8)],AV.str [(105:UInt8),(102:UInt8)],AV.str [(105:UInt8),(110:UInt8),(115:UInt8),(101:UInt8),(114:UInt8),(116:UInt8)],AV.str [(105:UInt8),(110:UInt8),(116:UInt8)],AV.str [(105:UInt8),(110:UInt8),(116:UInt8),(101:UInt8),(114:UInt8),(115:UInt8),(101:UInt8),(99:UInt8),(116:UInt8)],AV.str [(105:UInt8),(110:UInt8),(116:UInt8),(111:UInt8)],AV.str [(105:UInt8),(115:UInt8)],AV.str [(106:UInt8),(111:UInt8),(105:UInt8),(110:UInt8)],AV.str [(107:UInt8),(101:UInt8),(121:UInt8)],AV.str [(108:UInt8),(101:UInt8),(102:UInt8),(116:UInt8)],AV.str [(108:UInt8),(101:UInt8),(110:UInt8),(103:UInt8),(116:UInt8),(104:UInt8)],AV.str [(108:UInt8),(105:UInt8),(109:UInt8),(105:UInt8),(116:UInt8)],AV.str [(109:UInt8),(97:UInt8),(120:UInt8)],AV.str [(109:UInt8),(101:UInt8),(101:UInt8),(116:UInt8),(115:UInt8)],AV.str [(109:UInt8),(101:UInt8),(116:UInt8),(98:UInt8),(121:UInt8)],AV.str [(109:UInt8),(105:UInt8),(110:UInt8)],AV.str [(110:UInt8),(111:UInt8),(110:UInt8),(115:UInt8),(101:UInt8),(113:UInt8),(117:UInt8),(101:UInt8),(110:UInt8),(99:UInt8),(101:UInt8),(100:UInt8)],AV.str [(110:UInt8),(111:UInt8),(116:UInt8)],AV.str [(110:UInt8),(111:UInt8),(119:UInt8)],AV.str [(110:UInt8),(117:UInt8),(108:UInt8),(108:UInt8)],AV.str [(111:UInt8),(102:UInt8)],AV.str [(111:UInt8),(110:UInt8)],AV.str [(111:UInt8),(114:UInt8)],AV.str [(111:UInt8),(114:UInt8),(100:UInt8),(101:UInt8),(114:UInt8)],AV.str [(111:UInt8),(118:UInt8),(101:UInt8),(114:UInt8),(108:UInt8),(97:UInt8),(112:UInt8),(112:UInt8),(101:UInt8),(100:UInt8),(98:UInt8),(121:UInt8)],AV.str [(111:UInt8),(118:UInt8),(101:UInt8),(114:UInt8),(108:UInt8),(97:UInt8),(112:UInt8),(115:UInt8)],AV.str [(112:UInt8),(114:UInt8),(105:UInt8),(109:UInt8),(97:UInt8),(114:UInt8),(121:UInt8)],AV.str [(112:UInt8),(114:UInt8),(117:UInt8),(110:UInt8),(101:UInt8)],AV.str [(114:UInt8),(101:UInt8),(102:UInt8),(101:UInt8),(114:UInt8),(101:UInt8),(110:UInt8),(99:UInt8),(101:UInt8),(115:UInt8)],AV.str [(114:UInt8),(101:UInt8),(108:UInt8),(101:UInt8),(97:UInt8),(115:UInt8),(101:UInt8)],AV.str [(114:UInt8),(101:UInt8),(110:UInt8),(97:UInt8),(109:UInt8),(101:UInt8)],AV.str [(114:UInt8),(101:UInt8),(116:UInt8),(97:UInt8),(105:UInt8),(110:UInt8)],AV.str [(114:UInt8),(111:UInt8),(108:UInt8),(108:UInt8),(98:UInt8),(97:UInt8),(99:UInt8),(107:UInt8)],AV.str [(115:UInt8),(101:UInt8),(108:UInt8),(101:UInt8),(99:UInt8),(116:UInt8)],AV.str [(115:UInt8),(101:UInt8),(113:UInt8),(117:UInt8),(101:UInt8),(110:UInt8),(99:UInt8),(101:UInt8),(100:UInt8)],AV.str [(115:UInt8),(101:UInt8),(116:UInt8)],AV.str [(115:UInt8),(116:UInt8),(97:UInt8),(114:UInt8),(116:UInt8),(101:UInt8),(100:UInt8),(98:UInt8),(121:UInt8)],AV.str [(115:UInt8),(116:UInt8),(97:UInt8),(114:UInt8),(116:UInt8),(115:UInt8)],AV.str [(115:UInt8),(117:UInt8),(109:UInt8)],AV.str [(115:UInt8),(121:UInt8),(115:UInt8),(116:UInt8),(101:UInt8),(109:UInt8)],AV.str [(115:UInt8),(121:UInt8),(115:UInt8),(116:UInt8),(101:UInt8),(109:UInt8),(102:UInt8),(114:UInt8),(111:UInt8),(109:UInt8)],AV.str [(115:UInt8),(121:UInt8),(115:UInt8),(116:UInt8),(101:UInt8),(109:UInt8),(116:UInt8),(111:UInt8)],AV.str [(116:UInt8),(97:UInt8),(98:UInt8),(108:UInt8),(101:UInt8)],AV.str [(116:UInt8),(101:UInt8),(120:UInt8),(116:UInt8)],AV.str [(116:UInt8),(111:UInt8)],AV.str [(116:UInt8),(114:UInt8),(117:UInt8),(101:UInt8)],AV.str [(116:UInt8),(120:UInt8)],AV.str [(117:UInt8),(110:UInt8),(100:UInt8),(101:UInt8),(114:UInt8)],AV.str [(117:UInt8),(110:UInt8),(105:UInt8),(111:UInt8),(110:UInt8)],AV.str [(117:UInt8),(112:UInt8),(100:UInt8),(97:UInt8),(116:UInt8),(101:UInt8)],AV.str [(118:UInt8),(97:UInt8),(108:UInt8),(105:UInt8),(100:UInt8)],AV.str [(118:UInt8),(97:UInt8),(108:UInt8),(105:UInt8),(100:UInt8),(102:UInt8),(114:UInt8),(111:UInt8),(109:UInt8)],AV.str [(118:UInt8),(97:UInt8),(108:UInt8),(105:UInt8),(100:UInt8),(116:UInt8),(111:UInt8)],AV.str [(118:UInt8),(97:UInt8),(108:UInt8),(117:UInt8),(101:UInt8),(115:UInt8)],AV.str [(119:UInt8),(104:UInt8),(101:UInt8),(114:UInt8),(101:UInt8)]]))
def xyK {T:Type} (δ:T) (κ:LA->T):T:=κ ([AV.str [(97:UInt8),(100:UInt8),(100:UInt8)],AV.str [(97:UInt8),(102:UInt8),(116:UInt8),(101:UInt8),(114:UInt8)],AV.str [(97:UInt8),(108:UInt8),(108:UInt8)],AV.str [(97:UInt8),(108:UInt8),(116:UInt8),(101:UInt8),(114:UInt8)],AV.str [(97:UInt8),(110:UInt8),(100:UInt8)],AV.str [(97:UInt8),(115:UInt8)],AV.str [(98:UInt8),(101:UInt8),(102:UInt8),(111:UInt8),(114:UInt8),(101:UInt8)],AV.str [(98:UInt8),(101:UInt8),(103:UInt8),(105:UInt8),(110:UInt8)],AV.str [(98:UInt8),(101:UInt8),(116:UInt8),(119:UInt8),(101:UInt8),(101:UInt8),(110:UInt8)],AV.str [(98:UInt8),(111:UInt8),(111:UInt8),(108:UInt8)],AV.str [(98:UInt8),(121:UInt8)],AV.str [(99:UInt8),(104:UInt8),(101:UInt8),(99:UInt8),(107:UInt8)],AV.str [(99:UInt8),(111:UInt8),(97:UInt8),(108:UInt8),(101:UInt8),(115:UInt8),(99:UInt8),(101:UInt8)],AV.str [(99:UInt8),(111:UInt8),(109:UInt8),(109:UInt8),(105:UInt8),(116:UInt8)],AV.str [(99:UInt8),(111:UInt8),(110:UInt8),(116:UInt8),(97:UInt8),(105:UInt8),(110:UInt8),(115:UInt8)],AV.str [(99:UInt8),(111:UInt8),(117:UInt8),(110:UInt8),(116:UInt8)],AV.str [(99:UInt8),(114:UInt8),(101:UInt8),(97:UInt8),(116:UInt8),(101:UInt8)],AV.str [(100:UInt8),(101:UInt8),(102:UInt8),(97:UInt8),(117:UInt8),(108:UInt8),(116:UInt8)],AV.str [(100:UInt8),(101:UInt8),(108:UInt8),(101:UInt8),(116:UInt8),(101:UInt8)],AV.str [(100:UInt8),(101:UInt8),(115:UInt8),(99:UInt8)],AV.str [(100:UInt8),(105:UInt8),(115:UInt8),(116:UInt8),(105:UInt8),(110:UInt8),(99:UInt8),(116:UInt8)],AV.str [(100:UInt8),(114:UInt8),(111:UInt8),(112:UInt8)],AV.str [(100:UInt8),(117:UInt8),(114:UInt8),(105:UInt8),(110:UInt8),(103:UInt8)],AV.str [(101:UInt8),(113:UInt8),(117:UInt8),(97:UInt8),(108:UInt8),(115:UInt8)],AV.str [(101:UInt8),(120:UInt8),(99:UInt8),(101:UInt8),(112:UInt8),(116:UInt8)],AV.str [(102:UInt8),(97:UInt8),(108:UInt8),(115:UInt8),(101:UInt8)],AV.str [(102:UInt8),(105:UInt8),(110:UInt8),(105:UInt8),(115:UInt8),(104:UInt8),(101:UInt8),(100:UInt8),(98:UInt8),(121:UInt8)],AV.str [(102:UInt8),(105:UInt8),(110:UInt8),(105:UInt8),(115:UInt8),(104:UInt8),(101:UInt8),(115:UInt8)],AV.str [(102:UInt8),(111:UInt8),(114:UInt8),(101:UInt8),(105:UInt8),(103:UInt8),(110:UInt8)],AV.str [(102:UInt8),(111:UInt8),(114:UInt8),(101:UInt8),(118:UInt8),(101:UInt8),(114:UInt8)],AV.str [(102:UInt8),(114:UInt8),(111:UInt8),(109:UInt8)],AV.str [(103:UInt8),(114:UInt8),(111:UInt8),(117:UInt8),(112:UInt8)],AV.str [(104:UInt8),(111:UInt8),(108:UInt8),(100:UInt8)],AV.str [(105:UInt8),(102:UInt8)],AV.str [(105:UInt8),(110:UInt8),(115:UInt8),(101:UInt8),(114:UInt8),(116:UInt8)],AV.str [(105:UInt8),(110:UInt8),(116:UInt8)],AV.str [(105:UInt8),(110:UInt8),(116:UInt8),(101:UInt8),(114:UInt8),(115:UInt8),(101:UInt8),(99:UInt8),(116:UInt8)],AV.str [(105:UInt8),(110:UInt8),(116:UInt8),(111:UInt8)],AV.str [(105:UInt8),(115:UInt8)],AV.str [(106:UInt8),(111:UInt8),(105:UInt8),(110:UInt8)],AV.str [(107:UInt8),(101:UInt8),(121:UInt8)],AV.str [(108:UInt8),(101:UInt8),(102:UInt8),(116:UInt8)],AV.str [(108:UInt8),(101:UInt8),(110:UInt8),(103:UInt8),(116:UInt8),(104:UInt8)],AV.str [(108:UInt8),(105:UInt8),(109:UInt8),(105:UInt8),(116:UInt8)],AV.str [(109:UInt8),(97:UInt8),(120:UInt8)],AV.str [(109:UInt8),(101:UInt8),(101:UInt8),(116:UInt8),(115:UInt8)],AV.str [(109:UInt8),(101:UInt8),(116:UInt8),(98:UInt8),(121:UInt8)],AV.str [(109:UInt8),(105:UInt8),(110:UInt8)],AV.str [(110:UInt8),(111:UInt8),(110:UInt8),(115:UInt8),(101:UInt8),(113:UInt8),(117:UInt8),(101:UInt8),(110:UInt8),(99:UInt8),(101:UInt8),(100:UInt8)],AV.str [(110:UInt8),(111:UInt8),(116:UInt8)],AV.str [(110:UInt8),(111:UInt8),(119:UInt8)],AV.str [(110:UInt8),(117:UInt8),(108:UInt8),(108:UInt8)],AV.str [(111:UInt8),(102:UInt8)],AV.str [(111:UInt8),(110:UInt8)],AV.str [(111:UInt8),(114:UInt8)],AV.str [(111:UInt8),(114:UInt8),(100:UInt8),(101:UInt8),(114:UInt8)],AV.str [(111:UInt8),(118:UInt8),(101:UInt8),(114:UInt8),(108:UInt8),(97:UInt8),(112:UInt8),(112:UInt8),(101:UInt8),(100:UInt8),(98:UInt8),(121:UInt8)],AV.str [(111:UInt8),(118:UInt8),(101:UInt8),(114:UInt8),(108:UInt8),(97:UInt8),(112:UInt8),(115:UInt8)],AV.str [(112:UInt8),(114:UInt8),(105:UInt8),(109:UInt8),(97:UInt8),(114:UInt8),(121:UInt8)],AV.str [(112:UInt8),(114:UInt8),(117:UInt8),(110:UInt8),(101:UInt8)],AV.str [(114:UInt8),(101:UInt8),(102:UInt8),(101:UInt8),(114:UInt8),(101:UInt8),(110:UInt8),(99:UInt8),(101:UInt8),(115:UInt8)],AV.str [(114:UInt8),(101:UInt8),(108:UInt8),(101:UInt8),(97:UInt8),(115:UInt8),(101:UInt8)],AV.str [(114:UInt8),(101:UInt8),(110:UInt8),(97:UInt8),(109:UInt8),(101:UInt8)],AV.str [(114:UInt8),(101:UInt8),(116:UInt8),(97:UInt8),(105:UInt8),(110:UInt8)],AV.str [(114:UInt8),(111:UInt8),(108:UInt8),(108:UInt8),(98:UInt8),(97:UInt8),(99:UInt8),(107:UInt8)],AV.str [(115:UInt8),(101:UInt8),(108:UInt8),(101:UInt8),(99:UInt8),(116:UInt8)],AV.str [(115:UInt8),(101:UInt8),(113:UInt8),(117:UInt8),(101:UInt8),(110:UInt8),(99:UInt8),(101:UInt8),(100:UInt8)],AV.str [(115:UInt8),(101:UInt8),(116:UInt8)],AV.str [(115:UInt8),(116:UInt8),(97:UInt8),(114:UInt8),(116:UInt8),(101:UInt8),(100:UInt8),(98:UInt8),(121:UInt8)],AV.str [(115:UInt8),(116:UInt8),(97:UInt8),(114:UInt8),(116:UInt8),(115:UInt8)],AV.str [(115:UInt8),(117:UInt8),(109:UInt8)],AV.str [(115:UInt8),(121:UInt8),(115:UInt8),(116:UInt8),(101:UInt8),(109:UInt8)],AV.str [(115:UInt8),(121:UInt8),(115:UInt8),(116:UInt8),(101:UInt8),(109:UInt8),(102:UInt8),(114:UInt8),(111:UInt8),(109:UInt8)],AV.str [(115:UInt8),(121:UInt8),(115:UInt8),(116:UInt8),(101:UInt8),(109:UInt8),(116:UInt8),(111:UInt8)],AV.str [(116:UInt8),(97:UInt8),(98:UInt8),(108:UInt8),(101:UInt8)],AV.str [(116:UInt8),(101:UInt8),(120:UInt8),(116:UInt8)],AV.str [(116:UInt8),(111:UInt8)],AV.str [(116:UInt8),(114:UInt8),(117:UInt8),(101:UInt8)],AV.str [(116:UInt8),(120:UInt8)],AV.str [(117:UInt8),(110:UInt8),(100:UInt8),(101:UInt8),(114:UInt8)],AV.str [(117:UInt8),(110:UInt8),(105:UInt8),(111:UInt8),(110:UInt8)],AV.str [(117:UInt8),(112:UInt8),(100:UInt8),(97:UInt8),(116:UInt8),(101:UInt8)],AV.str [(118:UInt8),(97:UInt8),(108:UInt8),(105:UInt8),(100:UInt8)],AV.str [(118:UInt8),(97:UInt8),(108:UInt8),(105:UInt8),(100:UInt8),(102:UInt8),(114:UInt8),(111:UInt8),(109:UInt8)],AV.str [(118:UInt8),(97:UInt8),(108:UInt8),(105:UInt8),(100:UInt8),(116:UInt8),(111:UInt8)],AV.str [(118:UInt8),(97:UInt8),(108:UInt8),(117:UInt8),(101:UInt8),(115:UInt8)],AV.str [(119:UInt8),(104:UInt8),(101:UInt8),(114:UInt8),(101:UInt8)]])
def xDo:EO:=xFR.fT Tryz.func116 2 0 [] [] lk0 (fun _=>xyK none) xJM (fun _=>xAL) (fun _ p=>(AV.list 1 p))
def xk6 {T:Type} (l:LA) (a:List UInt8) (i:Int) (δ:T) (κl:(Int)->T) (κr:(Bool×(Bool)×(Unit))->T):T:=br (decide (i<l.length)) (br (ixI l i) (br (decide (i.toNat<l.length)&&xIZ Sh.str (gC l i 0)) (br ((gC l i 0).toStr==a) (κr (true,(true),())) (κl (i64.wrap (i+1)))) δ) δ) (κr (false,false,()))
def xc2 (l:LA) (a:List UInt8):StT (Int) (Bool×(Bool)×(Unit)):=fun (i)=>xk6 l a i none inL inR
def xrS:=xDo.l 18 0 [] [] Tryz.f115 0 lk0 [0,1,5] [4] [] (q3 (qL 1) pStr qI) xJL (fun (l,a,i,_) _=>(xc2 l a,(i),fun p=>(.node p.1 (.leaf .ret [AV.bool p.2.1] []) (.leaf (.exit 0) [.top] [])))) (false,false,()) fun (l,a,_,_) _ (i)=>(((l,a,i,()),()),xk6 l a i none)
def xsh {T:Type} (l:LA) (a:List UInt8) (δ:T) (κ:Bool->T):T:=br ((Iter (xc2 l a) 0).isSome) (br (((Iter (xc2 l a) 0).getD (false,false,())).fst) (κ (((Iter (xc2 l a) 0).getD (false,false,())).snd.fst)) (κ (false))) δ
def xuY (l:LA) (a:List UInt8):=xsh l a none some
def xDp:EO:=xDo.f Tryz.func115 18 0 [] [(2,xrS.lp)] (lk1 xrS.ok) (u2 (uL 1) (sEq pStr)) (fun (l,a,_) _=>xsh l a) (fun _ p=>AV.bool p) false
def xgC {T:Type} (a:List UInt8) (i:Int) (κl:(Int)->T) (κr:(Bool×(Bool)×(Unit))->T):T:=br (!(↑(a.getD i.toNat (0:UInt8)).toNat:Int)==95) (κr (true,(false),())) (κl (i64.wrap (i+1)))
def xgB {T:Type} (a:List UInt8) (i:Int) (κl:(Int)->T) (κr:(Bool×(Bool)×(Unit))->T):T:=br (decide ((↑(a.getD i.toNat (0:UInt8)).toNat:Int)>=48)) (br (decide ((↑(a.getD i.toNat (0:UInt8)).toNat:Int)<=57)) (κl (i64.wrap (i+1))) (xgC a i κl κr)) (xgC a i κl κr)
def xi3 {T:Type} (a:List UInt8) (i:Int) (δ:T) (κl:(Int)->T) (κr:(Bool×(Bool)×(Unit))->T):T:=br (decide (i<a.length)) (br (decide (0<=i)&&decide (i<a.length)) (br (decide ((↑(a.getD i.toNat (0:UInt8)).toNat:Int)>=97)) (br (decide ((↑(a.getD i.toNat (0:UInt8)).toNat:Int)<=122)) (κl (i64.wrap (i+1))) (xgB a i κl κr)) (xgB a i κl κr)) δ) (κr (false,false,()))
def xb8 (a:List UInt8):StT (Int) (Bool×(Bool)×(Unit)):=fun (i)=>xi3 a i none inL inR
def xqs:=xDp.l 54 0 [] [] Tryz.f86 0 lk0 [0,3] [0,2] [] (q2 pStr qI) xJL (fun (a,i,_) _=>(xb8 a,(i),fun p=>(.node p.1 (.leaf .ret [AV.str a,AV.bool p.2.1] []) (.leaf (.exit 0) [AV.str a,.top] [])))) (false,false,()) fun (a,_,_) _ (i)=>(((a,i,()),()),xi3 a i none)
def xo9 (a:List UInt8):=xuY [AV.str [(97:UInt8),(100:UInt8),(100:UInt8)],AV.str [(97:UInt8),(102:UInt8),(116:UInt8),(101:UInt8),(114:UInt8)],AV.str [(97:UInt8),(108:UInt8),(108:UInt8)],AV.str [(97:UInt8),(108:UInt8),(116:UInt8),(101:UInt8),(114:UInt8)],AV.str [(97:UInt8),(110:UInt8),(100:UInt8)],AV.str [(97:UInt8),(115:UInt8)],AV.str [(98:UInt8),(101:UInt8),(102:UInt8),(111:UInt8),(114:UInt8),(101:UInt8)],AV.str [(98:UInt8),(101:UInt8),(103:UInt8),(105:UInt8),(110:UInt8)],AV.str [(98:UInt8),(101:UInt8),(116:UInt8),(119:UInt8),(101:UInt8),(101:UInt8),(110:UInt8)],AV.str [(98:UInt8),(111:UInt8),(111:UInt8),(108:UInt8)],AV.str [(98:UInt8),(121:UInt8)],AV.str [(99:UInt8),(104:UInt8),(101:UInt8),(99:UInt8),(107:UInt8)],AV.str [(99:UInt8),(111:UInt8),(97:UInt8),(108:UInt8),(101:UInt8),(115:UInt8),(99:UInt8),(101:UInt8)],AV.str [(99:UInt8),(111:UInt8),(109:UInt8),(109:UInt8),(105:UInt8),(116:UInt8)],AV.str [(99:UInt8),(111:UInt8),(110:UInt8),(116:UInt8),(97:UInt8),(105:UInt8),(110:UInt8),(115:UInt8)],AV.str [(99:UInt8),(111:UInt8),(117:UInt8),(110:UInt8),(116:UInt8)],AV.str [(99:UInt8),(114:UInt8),(101:UInt8),(97:UInt8),(116:UInt8),(101:UInt8)],AV.str [(100:UInt8),(101:UInt8),(102:UInt8),(97:UInt8),(117:UInt8),(108:UInt8),(116:UInt8)],AV.str [(100:UInt8),(101:UInt8),(108:UInt8),(101:UInt8),(116:UInt8),(101:UInt8)],AV.str [(100:UInt8),(101:UInt8),(115:UInt8),(99:UInt8)],AV.str [(100:UInt8),(105:UInt8),(115:UInt8),(116:UInt8),(105:UInt8),(110:UInt8),(99:UInt8),(116:UInt8)],AV.str [(100:UInt8),(114:UInt8),(111:UInt8),(112:UInt8)],AV.str [(100:UInt8),(117:UInt8),(114:UInt8),(105:UInt8),(110:UInt8),(103:UInt8)],AV.str [(101:UInt8),(113:UInt8),(117:UInt8),(97:UInt8),(108:UInt8),(115:UInt8)],AV.str [(101:UInt8),(120:UInt8),(99:UInt8),(101:UInt8),(112:UInt8),(116:UInt8)],AV.str [(102:UInt8),(97:UInt8),(108:UInt8),(115:UInt8),(101:UInt8)],AV.str [(102:UInt8),(105:UInt8),(110:UInt8),(105:UInt8),(115:UInt8),(104:UInt8),(101:UInt8),(100:UInt8),(98:UInt8),(121:UInt8)],AV.str [(102:UInt8),(105:UInt8),(110:UInt8),(105:UInt8),(115:UInt8),(104:UInt8),(101:UInt8),(115:UInt8)],AV.str [(102:UInt8),(111:UInt8),(114:UInt8),(101:UInt8),(105:UInt8),(103:UInt8),(110:UInt8)],AV.str [(102:UInt8),(111:UInt8),(114:UInt8),(101:UInt8),(118:UInt8),(101:UInt8),(114:UInt8)],AV.str [(102:UInt8),(114:UInt8),(111:UInt8),(109:UInt8)],AV.str [(103:UInt8),(114:UInt8),(111:UInt8),(117:UInt8),(112:UInt8)],AV.str [(104:UInt8),(111:UInt8),(108:UInt8),(100:UInt8)],AV.str [(105:UInt8),(102:UInt8)],AV.str [(105:UInt8),(110:UInt8),(115:UInt8),(101:UInt8),(114:UInt8),(116:UInt8)],AV.str [(105:UInt8),(110:UInt8),(116:UInt8)],AV.str [(105:UInt8),(110:UInt8),(116:UInt8),(101:UInt8),(114:UInt8),(115:UInt8),(101:UInt8),(99:UInt8),(116:UInt8)],AV.str [(105:UInt8),(110:UInt8),(116:UInt8),(111:UInt8)],AV.str [(105:UInt8),(115:UInt8)],AV.str [(106:UInt8),(111:UInt8),(105:UInt8),(110:UInt8)],AV.str [(107:UInt8),(101:UInt8),(121:UInt8)],AV.str [(108:UInt8),(101:UInt8),(102:UInt8),(116:UInt8)],AV.str [(108:UInt8),(101:UInt8),(110:UInt8),(103:UInt8),(116:UInt8),(104:UInt8)],AV.str [(108:UInt8),(105:UInt8),(109:UInt8),(105:UInt8),(116:UInt8)],AV.str [(109:UInt8),(97:UInt8),(120:UInt8)],AV.str [(109:UInt8),(101:UInt8),(101:UInt8),(116:UInt8),(115:UInt8)],AV.str [(109:UInt8),(101:UInt8),(116:UInt8),(98:UInt8),(121:UInt8)],AV.str [(109:UInt8),(105:UInt8),(110:UInt8)],AV.str [(110:UInt8),(111:UInt8),(110:UInt8),(115:UInt8),(101:UInt8),(113:UInt8),(117:UInt8),(101:UInt8),(110:UInt8),(99:UInt8),(101:UInt8),(100:UInt8)],AV.str [(110:UInt8),(111:UInt8),(116:UInt8)],AV.str [(110:UInt8),(111:UInt8),(119:UInt8)],AV.str [(110:UInt8),(117:UInt8),(108:UInt8),(108:UInt8)],AV.str [(111:UInt8),(102:UInt8)],AV.str [(111:UInt8),(110:UInt8)],AV.str [(111:UInt8),(114:UInt8)],AV.str [(111:UInt8),(114:UInt8),(100:UInt8),(101:UInt8),(114:UInt8)],AV.str [(111:UInt8),(118:UInt8),(101:UInt8),(114:UInt8),(108:UInt8),(97:UInt8),(112:UInt8),(112:UInt8),(101:UInt8),(100:UInt8),(98:UInt8),(121:UInt8)],AV.str [(111:UInt8),(118:UInt8),(101:UInt8),(114:UInt8),(108:UInt8),(97:UInt8),(112:UInt8),(115:UInt8)],AV.str [(112:UInt8),(114:UInt8),(105:UInt8),(109:UInt8),(97:UInt8),(114:UInt8),(121:UInt8)],AV.str [(112:UInt8),(114:UInt8),(117:UInt8),(110:UInt8),(101:UInt8)],AV.str [(114:UInt8),(101:UInt8),(102:UInt8),(101:UInt8),(114:UInt8),(101:UInt8),(110:UInt8),(99:UInt8),(101:UInt8),(115:UInt8)],AV.str [(114:UInt8),(101:UInt8),(108:UInt8),(101:UInt8),(97:UInt8),(115:UInt8),(101:UInt8)],AV.str [(114:UInt8),(101:UInt8),(110:UInt8),(97:UInt8),(109:UInt8),(101:UInt8)],AV.str [(114:UInt8),(101:UInt8),(116:UInt8),(97:UInt8),(105:UInt8),(110:UInt8)],AV.str [(114:UInt8),(111:UInt8),(108:UInt8),(108:UInt8),(98:UInt8),(97:UInt8),(99:UInt8),(107:UInt8)],AV.str [(115:UInt8),(101:UInt8),(108:UInt8),(101:UInt8),(99:UInt8),(116:UInt8)],AV.str [(115:UInt8),(101:UInt8),(113:UInt8),(117:UInt8),(101:UInt8),(110:UInt8),(99:UInt8),(101:UInt8),(100:UInt8)],AV.str [(115:UInt8),(101:UInt8),(116:UInt8)],AV.str [(115:UInt8),(116:UInt8),(97:UInt8),(114:UInt8),(116:UInt8),(101:UInt8),(100:UInt8),(98:UInt8),(121:UInt8)],AV.str [(115:UInt8),(116:UInt8),(97:UInt8),(114:UInt8),(116:UInt8),(115:UInt8)],AV.str [(115:UInt8),(117:UInt8),(109:UInt8)],AV.str [(115:UInt8),(121:UInt8),(115:UInt8),(116:UInt8),(101:UInt8),(109:UInt8)],AV.str [(115:UInt8),(121:UInt8),(115:UInt8),(116:UInt8),(101:UInt8),(109:UInt8),(102:UInt8),(114:UInt8),(111:UInt8),(109:UInt8)],AV.str [(115:UInt8),(121:UInt8),(115:UInt8),(116:UInt8),(101:UInt8),(109:UInt8),(116:UInt8),(111:UInt8)],AV.str [(116:UInt8),(97:UInt8),(98:UInt8),(108:UInt8),(101:UInt8)],AV.str [(116:UInt8),(101:UInt8),(120:UInt8),(116:UInt8)],AV.str [(116:UInt8),(111:UInt8)],AV.str [(116:UInt8),(114:UInt8),(117:UInt8),(101:UInt8)],AV.str [(116:UInt8),(120:UInt8)],AV.str [(117:UInt8),(110:UInt8),(100:UInt8),(101:UInt8),(114:UInt8)],AV.str [(117:UInt8),(110:UInt8),(105:UInt8),(111:UInt8),(110:UInt8)],AV.str [(117:UInt8),(112:UInt8),(100:UInt8),(97:UInt8),(116:UInt8),(101:UInt8)],AV.str [(118:UInt8),(97:UInt8),(108:UInt8),(105:UInt8),(100:UInt8)],AV.str [(118:UInt8),(97:UInt8),(108:UInt8),(105:UInt8),(100:UInt8),(102:UInt8),(114:UInt8),(111:UInt8),(109:UInt8)],AV.str [(118:UInt8),(97:UInt8),(108:UInt8),(105:UInt8),(100:UInt8),(116:UInt8),(111:UInt8)],AV.str [(118:UInt8),(97:UInt8),(108:UInt8),(117:UInt8),(101:UInt8),(115:UInt8)],AV.str [(119:UInt8),(104:UInt8),(101:UInt8),(114:UInt8),(101:UInt8)]] a
def xnN {T:Type} (a:List UInt8) (δ:T) (κ:Bool->T):T:=br ((Iter (xb8 a) 0).isSome) (br (((Iter (xb8 a) 0).getD (false,false,())).fst) (κ (((Iter (xb8 a) 0).getD (false,false,())).snd.fst)) (br ((xo9 a).isSome) (κ (!(xo9 a).getD false)) δ)) δ
def xqt {T:Type} (a:List UInt8) (δ:T) (κ:Bool->T):T:=br (a==[]) (κ (false)) (br (decide ((↑a.length:Int)>24)) (κ (false)) (br (decide (0<(↑a.length:Int))) (br (decide ((↑(a.getD 0 (0:UInt8)).toNat:Int)>=48)) (br (decide (0<(↑a.length:Int))) (br (decide ((↑(a.getD 0 (0:UInt8)).toNat:Int)<=57)) (κ (false)) (xnN a δ κ)) δ) (xnN a δ κ)) δ))
def xfx (a:List UInt8):=xqt a none some
def xyV:EO:=xDp.f Tryz.func86 54 0 [] [(4,xqs.lp)] (lk1 xqs.ok) (u1 (sEq pStr)) (fun (a,_) _=>xqt a) (fun _ p=>AV.bool p) false
def xhX {T:Type} (b:Nat) (i:Int) (d:List UInt8) (c e f g a:LA) (δ:T) (κl:(Nat×Int×List UInt8×LA×LA×LA×LA×LA)->T) (κr:(Nat×LA)->T):T:=br (decide (i<c.length)) (br (ixI c i) (br (ixS c i (Sh.int .i64) 1) (br (rmB b a 1 8) (κl (b+1,i64.wrap (i+1),d,c,e,f,g,a++[AV.int .i64 (gC c i 1).toInt])) δ) δ) δ) (κr (b,a))
def xcP:StT (Nat×Int×List UInt8×LA×LA×LA×LA×LA) (Nat×LA):=fun (b,i,c,d,e,f,g,a)=>xhX b i c d e f g a none inL inR
def xpC:=xyV.l 23 0 [] [] Tryz.f53 0 lk0 [1,3,4] [3] [(3,1,3)] (q3 (xJW 0 0 0 0) (xJV 1 0 0) qI) (q2 (qB 0 5 27 (q1 (xJX (q5 pStr (qL 3) (qL 1) (qL 2) (qL 7))))) (qB 0 1 3 xJN)) (fun (_,b,i,_) (((c,d,e,f,g,_),_),a,_)=>(xcP,(b,i,c,d,e,f,g,a),fun p=>(.leaf (.exit 0) [AV.osl 0 0 0 p.1] [bF 0 1 3 p.2]))) (0,[]) fun _ _ (b,i,c,d,e,f,g,a)=>((((),b,i,()),(((c,d,e,f,g,()),()),a,())),xhX b i c d e f g a none)
def xnM (e:List UInt8) (b a c d:LA):=Iter xcP (0,0,e,b,a,c,d,[])
def xnL (e:List UInt8) (b a c d:LA):=(xnM e b a c d).getD (0,[])
def xnJ (e:List UInt8) (b a c d:LA):=(xnL e b a c d).snd
def xnK (e:List UInt8) (b a c d:LA):=(xnL e b a c d).fst
def xo8 {T:Type} (e:List UInt8) (b a c d:LA) (δ:T) (κ:LA->T):T:=br ((xnM e b a c d).isSome) (br (decide (0+xnK e b a c d<=(xnJ e b a c d).length)&&true) (κ (List.take (xnK e b a c d) (List.drop 0 (xnJ e b a c d)))) δ) δ
def xd8 (e:List UInt8) (b a c d:LA):=xo8 e b a c d none some
def xyJ:LA->Option (Bool×AV):=fnO (u1 (xJx (u5 (sEq pStr) (uL 3) (uL 1) (uL 2) (uL 7)))) (fun ((e,b,a,c,d,_),_) _=>xo8 e b a c d) (fun _ p=>AV.list 1 p) []
theorem xsC:OcOk P0 xJI 53 xyJ:=fnC xyV.ok Tryz.func53 23 0 [] [(3,xpC.lp)] (lk1 xpC.ok)
def xDq:EO:=xyV.w xsC
def xi2 {T:Type} (b:List UInt8) (i:Int) (c:List UInt8) (a d e f:LA) (δ:T) (κl:(Int×List UInt8×LA×LA×LA×LA)->T) (κr:(Bool×(Int)×(Unit))->T):T:=br (decide (i<a.length)) (br (ixI a i) (br (decide (i.toNat<a.length)&&xIZ Sh.str (gC a i 0)) (br ((gC a i 0).toStr==b) (κr (true,(i),())) (κl (i64.wrap (i+1),c,a,d,e,f))) δ) δ) (κr (false,0,()))
def xdc (a:List UInt8):StT (Int×List UInt8×LA×LA×LA×LA) (Bool×(Int)×(Unit)):=fun (i,b,c,d,e,f)=>xi2 a i b c d e f none inL inR
def xqq:=xDq.l 22 0 [] [] Tryz.f117 0 lk0 [1,2,5] [4] [] (q3 pStr (xJW 0 0 0 0) qI) (q1 (qB 0 5 27 (q1 (xJX (q5 pStr (qL 3) (qL 1) (qL 2) (qL 7)))))) (fun (a,_,i,_) (((b,c,d,e,f,_),_),_)=>(xdc a,(i,b,c,d,e,f),fun p=>(.node p.1 (.leaf .ret [AV.int .i64 p.2.1] []) (.leaf (.exit 0) [.top] [])))) (false,0,()) fun (a,_,_,_) _ (i,b,c,d,e,f)=>(((a,(),i,()),(((b,c,d,e,f,()),()),())),xi2 a i b c d e f none)
def xo7 (e:List UInt8) (b a c d:LA) (f:List UInt8):=Iter (xdc f) (0,e,b,a,c,d)
def xo6 (e:List UInt8) (b a c d:LA) (f:List UInt8):=(xo7 e b a c d f).getD (false,0,())
def xqr {T:Type} (e:List UInt8) (b a c d:LA) (f:List UInt8) (δ:T) (κ:Int->T):T:=br ((xo7 e b a c d f).isSome) (br ((xo6 e b a c d f).fst) (κ ((xo6 e b a c d f).snd.fst)) (κ ((-1)))) δ
def xpN (e:List UInt8) (b a c d:LA) (f:List UInt8):=xqr e b a c d f none some
def xHi:EO:=xDq.f Tryz.func117 22 0 [] [(2,xqq.lp)] (lk1 xqq.ok) (u2 (xJx (u5 (sEq pStr) (uL 3) (uL 1) (uL 2) (uL 7))) (sEq pStr)) (fun ((e,b,a,c,d,_),g,_) _=>xqr e b a c d g) (fun _ p=>AV.int .i64 p) 0
def xjz (e:List UInt8) (a b c d:LA) (i:Int):Bool:=(br (decide (i>=0)) ((decide (i<a.length))) ((false)))
def xwm {T:Type} (e:List UInt8) (a b c d:LA) (i:Int) (δ:T) (κ:Bool->T):T:=br (decide (i>=0)) (κ (decide (i<a.length))) (κ (false))
def xDr:EO:=xHi.fT Tryz.func118 14 0 [] [] lk0 (fun ((e,b,a,c,d,_),i,_)=>xwm e b a c d i none) (u2 (xJx (u5 (sEq pStr) (uL 3) (uL 1) (uL 2) (uL 7))) uI) (fun ((e,b,a,c,d,_),i,_)=>xjz e b a c d i) (fun _ p=>(AV.bool p))
def xf0 {T:Type} (i:Int) (b:List UInt8) (a c d e:LA) (δ:T) (κl:(Int×List UInt8×LA×LA×LA×LA)->T) (κr:(Bool×(Int)×(Unit))->T):T:=br (decide (i<a.length)) (br (ixI a i) (br (ixT a i 3 [Sh.str,Sh.int .i64,Sh.bool] 0) (br ((xfx (gC a i 0).toStr).isSome) (br (!(xfx (gC a i 0).toStr).getD false) (κr (true,(1),())) (br (decide ((gC a i 1).toInt<1)) (κr (true,(7),())) (br (decide ((gC a i 1).toInt>3)) (κr (true,(7),())) (br ((xpN b a c d e (gC a i 0).toStr).isSome) (br (decide ((xpN b a c d e (gC a i 0).toStr).getD 0<i)) (κr (true,(10),())) (κl (i64.wrap (i+1),b,a,c,d,e))) δ)))) δ) δ) δ) (κr (false,0,()))
def xbR:StT (Int×List UInt8×LA×LA×LA×LA) (Bool×(Int)×(Unit)):=fun (i,a,b,c,d,e)=>xf0 i a b c d e none inL inR
def xnb:=xDr.l 45 0 [] [] Tryz.f87 0 lk0 [1,3] [2] [] (q2 (xJW 0 0 0 0) qI) (q1 (qB 0 5 27 (q1 (xJX (q5 pStr (qL 3) (qL 1) (qL 2) (qL 7)))))) (fun (_,i,_) (((a,b,c,d,e,_),_),_)=>(xbR,(i,a,b,c,d,e),fun p=>(.node p.1 (.leaf .ret [AV.int .i64 p.2.1] []) (.leaf (.exit 0) [.top] [])))) (false,0,()) fun _ _ (i,a,b,c,d,e)=>((((),i,()),(((a,b,c,d,e,()),()),())),xf0 i a b c d e none)
def xlt (e:List UInt8) (b a c d:LA):=Iter xbR (0,e,b,a,c,d)
def xls (e:List UInt8) (b a c d:LA):=(xlt e b a c d).getD (false,0,())
def xmv {T:Type} (e:List UInt8) (a b c d:LA) (δ:T) (κ:Int->T):T:=br (decide ((↑a.length:Int)<1)) (κ (13)) (br (decide ((↑a.length:Int)>12)) (κ (13)) (br ((xlt e a b c d).isSome) (br ((xls e a b c d).fst) (κ ((xls e a b c d).snd.fst)) (κ (0))) δ))
def xfF (e:List UInt8) (b a c d:LA):=xmv e b a c d none some
def xDs:EO:=xDr.f Tryz.func87 45 0 [] [(4,xnb.lp)] (lk1 xnb.ok) (u1 (xJx (u5 (sEq pStr) (uL 3) (uL 1) (uL 2) (uL 7)))) (fun ((e,b,a,c,d,_),_) _=>xmv e b a c d) (fun _ p=>AV.int .i64 p) 0
def xer (i:Int) (a:LA):=ixI a i
def xes (i:Int) (a:LA):=decide (i.toNat<a.length)&&xIZ (Sh.int .i64) (gC a i 0)
def xbl (i:Int) (a:LA):=(gC a i 0).toInt
def xd1 {T:Type} (i:Int) (c:List UInt8) (b a d e:LA) (δ:T) (κl:(Int×List UInt8×LA×LA×LA×LA)->T) (κr:(Bool×(Int)×(Unit))->T):T:=br (xer i a) (br (xes i a) (br (decide (0<=xbl i a)&&decide (xbl i a<b.length)) (br (decide ((xbl i a).toNat<b.length)&&xIZ Sh.bool ((b.getD (xbl i a).toNat .top).cells.getD 2 .top)) (br (((b.getD (xbl i a).toNat .top).cells.getD 2 .top).toBool) (κr (true,(12),())) (κl (i64.wrap (i+1),c,b,a,d,e))) δ) δ) δ) δ
def xe9 {T:Type} (i:Int) (b:List UInt8) (c a d e:LA) (δ:T) (κl:(Int×List UInt8×LA×LA×LA×LA)->T) (κr:(Bool×(Int)×(Unit))->T):T:=br (decide (i<a.length)) (br (xer i a) (br (xes i a) (br (!xjz b c a d e (xbl i a)) (κr (true,(25),())) (br (decide (i>0)) (br (xer i a) (br (xes i a) (br (decide (0<=i64.wrap (i - 1))&&decide (i64.wrap (i - 1)<(↑a.length:Int))) (br (decide ((i64.wrap (i - 1)).toNat<a.length)&&xIZ (Sh.int .i64) ((a.getD (i64.wrap (i - 1)).toNat .top).cells.getD 0 .top)) (br (decide (xbl i a<=((a.getD (i64.wrap (i - 1)).toNat .top).cells.getD 0 .top).toInt)) (κr (true,(25),())) (xd1 i b c a d e δ κl κr)) δ) δ) δ) δ) (xd1 i b c a d e δ κl κr))) δ) δ) (κr (false,0,()))
def xbF:StT (Int×List UInt8×LA×LA×LA×LA) (Bool×(Int)×(Unit)):=fun (i,a,b,c,d,e)=>xe9 i a b c d e none inL inR
def xqZ:=xDs.l 51 0 [] [] Tryz.f88 0 lk0 [1,3] [2] [] (q2 (xJW 0 0 0 0) qI) (q1 (qB 0 5 27 (q1 (xJX (q5 pStr (qL 3) (qL 1) (qL 2) (qL 7)))))) (fun (_,i,_) (((a,b,c,d,e,_),_),_)=>(xbF,(i,a,b,c,d,e),fun p=>(.node p.1 (.leaf .ret [AV.int .i64 p.2.1] []) (.leaf (.exit 0) [.top] [])))) (false,0,()) fun _ _ (i,a,b,c,d,e)=>((((),i,()),(((a,b,c,d,e,()),()),())),xe9 i a b c d e none)
def xqv (e:List UInt8) (b a c d:LA):=Iter xbF (0,e,b,a,c,d)
def xqu (e:List UInt8) (b a c d:LA):=(xqv e b a c d).getD (false,0,())
def xrn {T:Type} (e:List UInt8) (b a c d:LA) (δ:T) (κ:Int->T):T:=br ((↑a.length:Int)==0) (κ (25)) (br ((xqv e b a c d).isSome) (br ((xqu e b a c d).fst) (κ ((xqu e b a c d).snd.fst)) (κ (0))) δ)
def xoF (e:List UInt8) (b a c d:LA):=xrn e b a c d none some
def xyW:EO:=xDs.f Tryz.func88 51 0 [] [(4,xqZ.lp)] (lk1 xqZ.ok) (u1 (xJx (u5 (sEq pStr) (uL 3) (uL 1) (uL 2) (uL 7)))) (fun ((e,b,a,c,d,_),_) _=>xrn e b a c d) (fun _ p=>AV.int .i64 p) 0
def xf1 {T:Type} (i k:Int) (b:List UInt8) (c d e f a:LA) (g:List UInt8) (δ:T) (κl:(Int×List UInt8×LA×LA×LA×LA×LA×List UInt8)->T) (κr:(Bool×(Int×List UInt8×LA×LA×LA×LA×LA×List UInt8)×(List UInt8×LA×LA×LA×LA×LA×List UInt8))->T):T:=br (decide (k<i)) (br (ixI a k) (br (ixS a k (Sh.int .i64) 0) (br (ixI a i) (br (ixS a i (Sh.int .i64) 0) (br ((gC a k 0).toInt==(gC a i 0).toInt) (κr (true,(25,b,c,d,e,f,a,g),([],[],[],[],[],[],[]))) (κl (i64.wrap (k+1),b,c,d,e,f,a,g))) δ) δ) δ) δ) (κr (false,(0,[],[],[],[],[],[],[]),(b,c,d,e,f,a,g)))
def xbS (i:Int):StT (Int×List UInt8×LA×LA×LA×LA×LA×List UInt8) (Bool×(Int×List UInt8×LA×LA×LA×LA×LA×List UInt8)×(List UInt8×LA×LA×LA×LA×LA×List UInt8)):=fun (k,a,b,c,d,e,f,g)=>xf1 i k a b c d e f g none inL inR
def xfo:=xyW.l 46 0 [] [] Tryz.f119 1 lk0 [2,3,5,6] [2,3,4,5] [] (q4 (xJW 0 0 0 0) (xJW 1 0 0 0) qI qI) (q2 (qB 0 5 27 (q1 (xJX (q5 pStr (qL 3) (qL 1) (qL 2) (qL 7))))) (qB 0 2 34 (q1 (xJX (q2 (qL 1) pStr))))) (fun (_,_,i,k,_) (((a,b,c,d,e,_),_),((f,g,_),_),_)=>(xbS i,(k,a,b,c,d,e,f,g),fun p=>(.node p.1 (.leaf .ret [AV.own 0 0 0 0,AV.own 1 0 0 0,AV.int .i64 p.2.1.1,AV.int .i64 i] [bF 0 5 27 [AV.agg [AV.str p.2.1.2.1,AV.list 3 p.2.1.2.2.1,AV.list 1 p.2.1.2.2.2.1,AV.list 2 p.2.1.2.2.2.2.1,AV.list 7 p.2.1.2.2.2.2.2.1]],bF 0 2 34 [AV.agg [AV.list 1 p.2.1.2.2.2.2.2.2.1,AV.str p.2.1.2.2.2.2.2.2.2]]]) (.leaf (.exit 2) [AV.own 0 0 0 0,AV.own 1 0 0 0,.top,AV.int .i64 i] [bF 0 5 27 [AV.agg [AV.str p.2.2.1,AV.list 3 p.2.2.2.1,AV.list 1 p.2.2.2.2.1,AV.list 2 p.2.2.2.2.2.1,AV.list 7 p.2.2.2.2.2.2.1]],bF 0 2 34 [AV.agg [AV.list 1 p.2.2.2.2.2.2.2.1,AV.str p.2.2.2.2.2.2.2.2]]])))) (false,(0,[],[],[],[],[],[],[]),([],[],[],[],[],[],[])) fun (_,_,i,_,_) _ (k,a,b,c,d,e,f,g)=>((((),(),i,k,()),(((a,b,c,d,e,()),()),((f,g,()),()),())),xf1 i k a b c d e f g none)
def xiP (i:Int) (a:List UInt8) (b c d e f:LA) (g:List UInt8):=Iter (xbS i) (0,a,b,c,d,e,f,g)
def xiO (i:Int) (a:List UInt8) (b c d e f:LA) (g:List UInt8):=(xiP i a b c d e f g).getD (false,(0,[],[],[],[],[],[],[]),[],[],[],[],[],[],[])
def xiN (i:Int) (a:List UInt8) (b c d e f:LA) (g:List UInt8):=(xiO i a b c d e f g).snd
def xiM (i:Int) (a:List UInt8) (b c d e f:LA) (g:List UInt8):=(xiN i a b c d e f g).snd
def xiL (i:Int) (a:List UInt8) (b c d e f:LA) (g:List UInt8):=(xiM i a b c d e f g).snd
def xiK (i:Int) (a:List UInt8) (b c d e f:LA) (g:List UInt8):=(xiL i a b c d e f g).snd
def xiJ (i:Int) (a:List UInt8) (b c d e f:LA) (g:List UInt8):=(xiK i a b c d e f g).snd
def xiI (i:Int) (a:List UInt8) (b c d e f:LA) (g:List UInt8):=(xiJ i a b c d e f g).snd
def xiH (i:Int) (a:List UInt8) (b c d e f:LA) (g:List UInt8):=(xiI i a b c d e f g).snd
def xeg {T:Type} (i:Int) (b:List UInt8) (c d e f a:LA) (g:List UInt8) (δ:T) (κl:(Int×List UInt8×LA×LA×LA×LA×LA×List UInt8)->T) (κr:(Bool×(Int)×(Unit))->T):T:=br (decide (i<a.length)) (br (ixI a i) (br (ixS a i (Sh.int .i64) 0) (br (!xjz b c d e f (gC a i 0).toInt) (κr (true,(25),())) (br ((xiP i b c d e f a g).isSome) (br ((xiO i b c d e f a g).fst) (κr (true,((xiN i b c d e f a g).fst.fst),())) (κl (i64.wrap (i+1),(xiM i b c d e f a g).fst,(xiL i b c d e f a g).fst,(xiK i b c d e f a g).fst,(xiJ i b c d e f a g).fst,(xiI i b c d e f a g).fst,(xiH i b c d e f a g).fst,(xiH i b c d e f a g).snd))) δ)) δ) δ) (κr (false,0,()))
def xbh:StT (Int×List UInt8×LA×LA×LA×LA×LA×List UInt8) (Bool×(Int)×(Unit)):=fun (i,a,b,c,d,e,f,g)=>xeg i a b c d e f g none inL inR
def xnc:=xyW.l 46 0 [] [(11,xfo.lp)] Tryz.f119 0 (lk1 xfo.ok) [2,3,5] [4] [] (q3 (xJW 0 0 0 0) (xJW 1 0 0 0) qI) (q2 (qB 0 5 27 (q1 (xJX (q5 pStr (qL 3) (qL 1) (qL 2) (qL 7))))) (qB 0 2 34 (q1 (xJX (q2 (qL 1) pStr))))) (fun (_,_,i,_) (((a,b,c,d,e,_),_),((f,g,_),_),_)=>(xbh,(i,a,b,c,d,e,f,g),fun p=>(.node p.1 (.leaf .ret [AV.int .i64 p.2.1] []) (.leaf (.exit 0) [.top] [])))) (false,0,()) fun _ _ (i,a,b,c,d,e,f,g)=>((((),(),i,()),(((a,b,c,d,e,()),()),((f,g,()),()),())),xeg i a b c d e f g none)
def xlv (e:List UInt8) (b a c d f:LA) (g:List UInt8):=Iter xbh (0,e,b,a,c,d,f,g)
def xlu (e:List UInt8) (b a c d f:LA) (g:List UInt8):=(xlv e b a c d f g).getD (false,0,())
def xmw {T:Type} (g:List UInt8) (c a d e f:LA) (b:List UInt8) (δ:T) (κ:Int->T):T:=br ((xfx b).isSome) (br (!(xfx b).getD false) (κ (1)) (br ((↑f.length:Int)==0) (κ (25)) (br ((xlv g c a d e f b).isSome) (br ((xlu g c a d e f b).fst) (κ ((xlu g c a d e f b).snd.fst)) (κ (0))) δ))) δ
def xil (e:List UInt8) (b a c d f:LA) (g:List UInt8):=xmw e b a c d f g none some
def xyX:EO:=xyW.f Tryz.func119 46 0 [] [(11,xfo.lp),(6,xnc.lp)] (lks (lkC xnc.ok (lkC xfo.ok lkN))) (u2 (xJx (u5 (sEq pStr) (uL 3) (uL 1) (uL 2) (uL 7))) (xJx (u2 (uL 1) (sEq pStr)))) (fun ((e,b,a,c,d,_),(g,h,_),_) _=>xmw e b a c d g h) (fun _ p=>AV.int .i64 p) 0
def xd9 {T:Type} (i:Int) (b:List UInt8) (c d a e:LA) (δ:T) (κl:(Int×List UInt8×LA×LA×LA×LA)->T) (κr:(Bool×(Int×List UInt8×LA×LA×LA×LA)×(List UInt8×LA×LA×LA×LA))->T):T:=br (decide (i<a.length)) (br (ixI a i) (br (ixT a i 2 [Sh.list 1,Sh.str] 0) (br ((xil b c d a e (gC a i 0).toList (gC a i 1).toStr).isSome) (br ((xil b c d a e (gC a i 0).toList (gC a i 1).toStr).getD 0 != 0) (κr (true,((xil b c d a e (gC a i 0).toList (gC a i 1).toStr).getD 0,b,c,d,a,e),([],[],[],[],[]))) (κl (i64.wrap (i+1),b,c,d,a,e))) δ) δ) δ) (κr (false,(0,[],[],[],[],[]),(b,c,d,a,e)))
def xa6:StT (Int×List UInt8×LA×LA×LA×LA) (Bool×(Int×List UInt8×LA×LA×LA×LA)×(List UInt8×LA×LA×LA×LA)):=fun (i,a,b,c,d,e)=>xd9 i a b c d e none inL inR
def xfs:=xyX.l 60 0 [] [] Tryz.f89 0 lk0 [1,3] [1,2] [] (q2 (xJW 0 0 0 0) qI) (q1 (qB 0 5 27 (q1 (xJX (q5 pStr (qL 3) (qL 1) (qL 2) (qL 7)))))) (fun (_,i,_) (((a,b,c,d,e,_),_),_)=>(xa6,(i,a,b,c,d,e),fun p=>(.node p.1 (.leaf .ret [AV.own 0 0 0 0,AV.int .i64 p.2.1.1] [bF 0 5 27 [AV.agg [AV.str p.2.1.2.1,AV.list 3 p.2.1.2.2.1,AV.list 1 p.2.1.2.2.2.1,AV.list 2 p.2.1.2.2.2.2.1,AV.list 7 p.2.1.2.2.2.2.2]]]) (.leaf (.exit 0) [AV.own 0 0 0 0,.top] [bF 0 5 27 [AV.agg [AV.str p.2.2.1,AV.list 3 p.2.2.2.1,AV.list 1 p.2.2.2.2.1,AV.list 2 p.2.2.2.2.2.1,AV.list 7 p.2.2.2.2.2.2]]])))) (false,(0,[],[],[],[],[]),([],[],[],[],[])) fun _ _ (i,a,b,c,d,e)=>((((),i,()),(((a,b,c,d,e,()),()),())),xd9 i a b c d e none)
def xfw (i:Int) (b:List UInt8) (c d e a:LA):=xrj (gC a i 0).toInt (gC a i 1).toInt (gC a i 2).toInt (gC a i 3).toInt (gC a i 4).toStr (gC a i 5).toStr (gC a i 6).toList ((xd8 b c d e a).getD [])
def xfv (i:Int) (a:List UInt8) (b c d e:LA):=(xfw i a b c d e).getD (0,0)
def xft (i:Int) (a:List UInt8) (b c d e:LA):=(xfv i a b c d e).fst
def xfu (i:Int) (a:List UInt8) (b c d e:LA):=(xfv i a b c d e).snd
def xea {T:Type} (i:Int) (b:List UInt8) (c d e a:LA) (δ:T) (κl:(Int×List UInt8×LA×LA×LA×LA)->T) (κr:(Bool×(Int)×(Unit))->T):T:=br (decide (i<a.length)) (br (ixI a i) (br (ixT a i 7 [Sh.int .i64,Sh.int .i64,Sh.int .i64,Sh.int .i64,Sh.str,Sh.str,Sh.list 7] 0) (br ((xd8 b c d e a).isSome) (br ((xfw i b c d e a).isSome) (br (xfu i b c d e a != 0) (κr (true,(xfu i b c d e a),())) (br (xft i b c d e a != 3) (br (xft i b c d e a != 0) (κr (true,(7),())) (κl (i64.wrap (i+1),b,c,d,e,a))) (κl (i64.wrap (i+1),b,c,d,e,a)))) δ) δ) δ) δ) (κr (false,0,()))
def xa7:StT (Int×List UInt8×LA×LA×LA×LA) (Bool×(Int)×(Unit)):=fun (i,a,b,c,d,e)=>xea i a b c d e none inL inR
def xkk:=xyX.l 60 0 [] [(4,xfs.lp)] Tryz.f89 1 lk0 [1,5] [2] [] (q2 (xJW 0 0 0 0) qI) (q1 (qB 0 5 27 (q1 (xJX (q5 pStr (qL 3) (qL 1) (qL 2) (qL 7)))))) (fun (_,i,_) (((a,b,c,d,e,_),_),_)=>(xa7,(i,a,b,c,d,e),fun p=>(.node p.1 (.leaf .ret [AV.int .i64 p.2.1] []) (.leaf (.exit 2) [.top] [])))) (false,0,()) fun _ _ (i,a,b,c,d,e)=>((((),i,()),(((a,b,c,d,e,()),()),())),xea i a b c d e none)
def xh6 (e:List UInt8) (b a c d:LA):=Iter xa6 (0,e,b,a,c,d)
def xh5 (e:List UInt8) (b a c d:LA):=(xh6 e b a c d).getD (false,(0,[],[],[],[],[]),[],[],[],[],[])
def xh4 (e:List UInt8) (b a c d:LA):=(xh5 e b a c d).snd
def xh3 (e:List UInt8) (b a c d:LA):=(xh4 e b a c d).snd
def xh2 (e:List UInt8) (b a c d:LA):=(xh3 e b a c d).snd
def xh1 (e:List UInt8) (b a c d:LA):=(xh2 e b a c d).snd
def xh0 (e:List UInt8) (b a c d:LA):=(xh1 e b a c d).snd
def xhx (e:List UInt8) (b a c d:LA):=(xh0 e b a c d).snd
def xhZ (e:List UInt8) (b a c d:LA):=Iter xa7 (0,(xh3 e b a c d).fst,(xh2 e b a c d).fst,(xh1 e b a c d).fst,(xh0 e b a c d).fst,xhx e b a c d)
def xhY (e:List UInt8) (b a c d:LA):=(xhZ e b a c d).getD (false,0,())
def xiG {T:Type} (e:List UInt8) (c a b d:LA) (δ:T) (κ:Int->T):T:=br (decide ((↑b.length:Int)>4)) (κ (5)) (br ((xh6 e c a b d).isSome) (br ((xh5 e c a b d).fst) (κ ((xh4 e c a b d).fst.fst)) (br (decide ((↑(xhx e c a b d).length:Int)>4)) (κ (5)) (br ((xhZ e c a b d).isSome) (br ((xhY e c a b d).fst) (κ ((xhY e c a b d).snd.fst)) (κ (0))) δ))) δ)
def xdy (e:List UInt8) (b a c d:LA):=xiG e b a c d none some
def xFS:EO:=xyX.f Tryz.func89 60 0 [] [(4,xfs.lp),(12,xkk.lp)] (lks (lkC xfs.ok (lkC xkk.ok lkN))) (u1 (xJx (u5 (sEq pStr) (uL 3) (uL 1) (uL 2) (uL 7)))) (fun ((e,b,a,c,d,_),_) _=>xiG e b a c d) (fun _ p=>AV.int .i64 p) 0
def xo5 {T:Type} (e:List UInt8) (b a c d:LA) (δ:T) (κ:Int->T):T:=br ((xfx e).isSome) (br (!(xfx e).getD false) (κ (1)) (br ((xfF e b a c d).isSome) (br ((xfF e b a c d).getD 0==0) (br ((xoF e b a c d).isSome) (br ((xoF e b a c d).getD 0==0) (br ((xdy e b a c d).isSome) (κ ((xdy e b a c d).getD 0)) δ) (κ ((xoF e b a c d).getD 0))) δ) (br ((xfF e b a c d).getD 0==0) (br ((xdy e b a c d).isSome) (κ ((xdy e b a c d).getD 0)) δ) (κ ((xfF e b a c d).getD 0)))) δ)) δ
def xe3 (e:List UInt8) (b a c d:LA):=xo5 e b a c d none some
def xyI:LA->Option (Bool×AV):=fnO (u1 (xJx (u5 (sEq pStr) (uL 3) (uL 1) (uL 2) (uL 7)))) (fun ((e,b,a,c,d,_),_) _=>xo5 e b a c d) (fun _ p=>AV.int .i64 p) 0
theorem xyH:OcOk P0 xJI 51 xyI:=fnC xFS.ok Tryz.func51 19 0 [] [] lk0
def xHm:EO:=xHc.w xsB
def xHn:EO:=xHm.w xyH
def xDu:EO:=xHn.w xsC
def xhT (a l:LA) (i:Int):=(xhQ a (gC l i 0).toInt).getD (0,0,[])
def xhS (a l:LA) (i:Int):=(xhT a l i).snd
def xix {T:Type} (c l:LA) (b:Nat) (i:Int) (a:LA) (δ:T) (κl:(Nat×Int×LA)->T) (κr:(Nat×LA)->T):T:=br (decide (i<l.length)) (br (ixI l i) (br (ixS l i (Sh.int .i64) 0) (br ((xhQ c (gC l i 0).toInt).isSome) (br (rmB b a 1 32) (κl (b+1,i64.wrap (i+1),a++[AV.agg [AV.int .i64 (xhT c l i).fst,AV.int .i64 (xhS c l i).fst,AV.str (xhS c l i).snd]])) δ) δ) δ) δ) (κr (b,a))
def xc8 (c l:LA):StT (Nat×Int×LA) (Nat×LA):=fun (b,i,a)=>xix c l b i a none inL inR
def xqg:=xDu.l 24 0 [] [] Tryz.f39 0 lk0 [0,1,5,6] [5] [(5,3,86)] (q4 (qL 3) (qL 1) (xJV 0 0 0) qI) (q1 (qB 0 3 86 xJN)) (fun (c,l,b,i,_) (a,_)=>(xc8 c l,(b,i,a),fun p=>(.leaf (.exit 0) [AV.osl 0 0 0 p.1] [bF 0 3 86 p.2]))) (0,[]) fun (c,l,_,_,_) _ (b,i,a)=>(((c,l,b,i,()),(a,())),xix c l b i a none)
def xo0 (a l:LA):=(Iter (xc8 a l) (0,0,[])).getD (0,[])
def xoZ (a l:LA):=(xo0 a l).fst
def xox (a l:LA):=(xo0 a l).snd
def xqh {T:Type} (a l:LA) (δ:T) (κ:LA->T):T:=br ((Iter (xc8 a l) (0,0,[])).isSome) (br (decide (0+xoZ a l<=(xox a l).length)&&true) (κ (List.take (xoZ a l) (List.drop 0 (xox a l)))) δ) δ
def xmh (a l:LA):=xqh a l none some
def xDe:EO:=xDu.f Tryz.func39 24 0 [] [(3,xqg.lp)] (lk1 xqg.ok) (u2 (uL 3) (uL 1)) (fun (a,l,_) _=>xqh a l) (fun _ p=>AV.list 3 p) []
def xfZ {T:Type} (a l:LA) (i:Int) (δ:T) (κl:(Int)->T) (κr:(Bool×(Bool)×(Unit))->T):T:=br (decide (i<l.length)) (br (ixI l i) (br (ixS l i (Sh.int .i64) 0) (br ((xhQ a (gC l i 0).toInt).isSome) (br (((xhQ a (gC l i 0).toInt).getD (0,0,[])).fst==0) (κr (true,(true),())) (κl (i64.wrap (i+1)))) δ) δ) δ) (κr (false,false,()))
def xaQ (a l:LA):StT (Int) (Bool×(Bool)×(Unit)):=fun (i)=>xfZ a l i none inL inR
def xna:=xDe.l 20 0 [] [] Tryz.f67 0 lk0 [0,1,5] [4] [] (q3 (qL 3) (qL 1) qI) xJL (fun (a,l,i,_) _=>(xaQ a l,(i),fun p=>(.node p.1 (.leaf .ret [AV.bool p.2.1] []) (.leaf (.exit 0) [.top] [])))) (false,false,()) fun (a,l,_,_) _ (i)=>(((a,l,i,()),()),xfZ a l i none)
def xmg {T:Type} (a l:LA) (δ:T) (κ:Bool->T):T:=br ((Iter (xaQ a l) 0).isSome) (br (((Iter (xaQ a l) 0).getD (false,false,())).fst) (κ (((Iter (xaQ a l) 0).getD (false,false,())).snd.fst)) (κ (false))) δ
def xk3 (a l:LA):=xmg a l none some
def xDf:EO:=xDe.f Tryz.func67 20 0 [] [(2,xna.lp)] (lk1 xna.ok) (u2 (uL 3) (uL 1)) (fun (a,l,_) _=>xmg a l) (fun _ p=>AV.bool p) false
def xhR (a:LA) (i:Int):=ixI a i
def xlq (a:LA) (i:Int):=xkJ (gC a i 0).toInt (gC a i 1).toInt (gC a i 2).toStr
def xiZ {T:Type} (a b:LA) (i:Int) (δ:T) (κl:(Int)->T) (κr:(Bool×(Bool)×(Unit))->T):T:=br (decide (i<a.length)) (br (xhR a i) (br (ixT a i 3 [Sh.int .i64,Sh.int .i64,Sh.str] 0) (br ((xlq a i).isSome) (br (!(xlq a i).getD false) (κr (true,(false),())) (br (xhR a i) (br (ixS a i (Sh.int .i64) 0) (br ((gC a i 0).toInt != 0) (br (xhR a i) (br (ixS a i (Sh.int .i64) 0) (br (ixI b i) (br (ixS b i (Sh.int .i64) 0) (br ((gC a i 0).toInt != (gC b i 0).toInt) (κr (true,(false),())) (κl (i64.wrap (i+1)))) δ) δ) δ) δ) (κl (i64.wrap (i+1)))) δ) δ)) δ) δ) δ) (κr (false,false,()))
def xb1 (b a:LA):StT (Int) (Bool×(Bool)×(Unit)):=fun (i)=>xiZ b a i none inL inR
def xqd:=xDf.l 43 0 [] [] Tryz.f90 0 lk0 [0,1,5] [4] [] (q3 (qL 3) (qL 1) qI) xJL (fun (b,a,i,_) _=>(xb1 b a,(i),fun p=>(.node p.1 (.leaf .ret [AV.bool p.2.1] []) (.leaf (.exit 0) [.top] [])))) (false,false,()) fun (b,a,_,_) _ (i)=>(((b,a,i,()),()),xiZ b a i none)
def xqe {T:Type} (b a:LA) (δ:T) (κ:Bool->T):T:=br ((↑b.length:Int) != (↑a.length:Int)) (κ (false)) (br ((Iter (xb1 b a) 0).isSome) (br (((Iter (xb1 b a) 0).getD (false,false,())).fst) (κ (((Iter (xb1 b a) 0).getD (false,false,())).snd.fst)) (κ (true))) δ)
def xpM (b a:LA):=xqe b a none some
def xHd:EO:=xDf.f Tryz.func90 43 0 [] [(4,xqd.lp)] (lk1 xqd.ok) (u2 (uL 3) (uL 1)) (fun (b,a,_) _=>xqe b a) (fun _ p=>AV.bool p) false
def xvJ (k:Int):Bool:=(br (k==1) ((true)) (br (k==2) ((true)) ((k==3))))
def xzX {T:Type} (k:Int) (δ:T) (κ:Bool->T):T:=br (k==1) (κ (true)) (br (k==2) (κ (true)) (κ (k==3)))
def xDg:EO:=xHd.fT Tryz.func122 13 0 [] [] lk0 (fun (k,_)=>xzX k none) (u1 uI) (fun (k,_)=>xvJ k) (fun _ p=>(AV.bool p))
def xh7 {T:Type} (l:LA) (i:Int) (δ:T) (κl:(Int)->T) (κr:(Bool×(Bool)×(Unit))->T):T:=br (decide (i<l.length)) (br (ixI l i) (br (ixS l i (Sh.int .i64) 0) (br (!xvJ (gC l i 0).toInt) (κr (true,(false),())) (κl (i64.wrap (i+1)))) δ) δ) (κr (false,false,()))
def xbL (l:LA):StT (Int) (Bool×(Bool)×(Unit)):=fun (i)=>xh7 l i none inL inR
def xpD:=xDg.l 16 0 [] [] Tryz.f91 0 lk0 [0,3] [2] [] (q2 (qL 1) qI) xJL (fun (l,i,_) _=>(xbL l,(i),fun p=>(.node p.1 (.leaf .ret [AV.bool p.2.1] []) (.leaf (.exit 0) [.top] [])))) (false,false,()) fun (l,_,_) _ (i)=>(((l,i,()),()),xh7 l i none)
def xpa {T:Type} (l:LA) (δ:T) (κ:Bool->T):T:=br ((Iter (xbL l) 0).isSome) (br (((Iter (xbL l) 0).getD (false,false,())).fst) (κ (((Iter (xbL l) 0).getD (false,false,())).snd.fst)) (κ (true))) δ
def xro (l:LA):=xpa l none some
def xDh:EO:=xDg.f Tryz.func91 16 0 [] [(2,xpD.lp)] (lk1 xpD.ok) (u1 (uL 1)) (fun (l,_) _=>xpa l) (fun _ p=>AV.bool p) false
def xh8 {T:Type} (i:Int) (b a:LA) (δ:T) (κl:(Int×LA×LA)->T) (κr:(Bool×(Bool×LA×LA)×(LA×LA))->T):T:=br (decide (i<a.length)) (br (ixI a i) (br (ixT a i 3 [Sh.int .i64,Sh.int .i64] 1) (br (!xcc (gC a i 1).toInt (gC a i 2).toInt) (κr (true,(false,b,a),([],[]))) (br (ixI a i) (br (ixS a i (Sh.list 3) 0) (br ((xpM (gC a i 0).toList b).isSome) (br (!(xpM (gC a i 0).toList b).getD false) (κr (true,(false,b,a),([],[]))) (κl (i64.wrap (i+1),b,a))) δ) δ) δ)) δ) δ) (κr (false,(false,[],[]),(b,a)))
def xbM:StT (Int×LA×LA) (Bool×(Bool×LA×LA)×(LA×LA)):=fun (i,a,b)=>xh8 i a b none inL inR
def xpE:=xDh.l 46 0 [] [] Tryz.f52 0 lk0 [1,3] [1,2] [] (q2 (xJW 0 0 0 0) qI) (q1 (qB 0 2 93 (q1 (xJX (q2 (qL 1) (qL 3)))))) (fun (_,i,_) (((a,b,_),_),_)=>(xbM,(i,a,b),fun p=>(.node p.1 (.leaf .ret [AV.own 0 0 0 0,AV.bool p.2.1.1] [bF 0 2 93 [AV.agg [AV.list 1 p.2.1.2.1,AV.list 3 p.2.1.2.2]]]) (.leaf (.exit 0) [AV.own 0 0 0 0,.top] [bF 0 2 93 [AV.agg [AV.list 1 p.2.2.1,AV.list 3 p.2.2.2]]])))) (false,(false,[],[]),([],[])) fun _ _ (i,a,b)=>((((),i,()),(((a,b,()),()),())),xh8 i a b none)
def xnU (a b:LA):=(Iter xbM (0,a,b)).getD (false,(false,[],[]),[],[])
def xnT (a b:LA):=(xnU a b).snd
def xnS (a b:LA):=(xnT a b).snd.fst
def xnQ (a b:LA):=(↑(xnS a b).length:Int)
def xnR (a b:LA):=xro (xnS a b)
def xpf {T:Type} (a b:LA) (δ:T) (κ:Bool->T):T:=br ((Iter xbM (0,a,b)).isSome) (br ((xnU a b).fst) (κ ((xnT a b).fst.fst)) (br (decide (xnQ a b>0)) (br (decide (xnQ a b<=48)) (br ((xnR a b).isSome) (κ ((xnR a b).getD false)) δ) (κ (false))) (κ (false)))) δ
def xom (a b:LA):=xpf a b none some
def xHe:EO:=xDh.f Tryz.func52 46 0 [] [(2,xpE.lp)] (lk1 xpE.ok) (u1 (xJx (u2 (uL 1) (uL 3)))) (fun ((a,b,_),_) _=>xpf a b) (fun _ p=>AV.bool p) false
def xmP {T:Type} (e:List UInt8) (b a c d l:LA) (δ:T) (κ:Bool->T):T:=br ((xe3 e b a c d).isSome) (br ((xe3 e b a c d).getD 0==0) (br ((xd8 e b a c d).isSome) (br ((xom ((xd8 e b a c d).getD []) l).isSome) (κ ((xom ((xd8 e b a c d).getD []) l).getD false)) δ) δ) (κ (false))) δ
def xfG (e:List UInt8) (b a c d l:LA):=xmP e b a c d l none some
def xDt:EO:=xHe.f Tryz.func28 15 0 [] [] lk0 (u2 (xJx (u5 (sEq pStr) (uL 3) (uL 1) (uL 2) (uL 7))) (uL 3)) (fun ((e,b,a,c,d,_),l,_) _=>xmP e b a c d l) (fun _ p=>AV.bool p) false
def xi8 {T:Type} (i:Int) (a:LA) (c:List UInt8) (b:LA) (d:List UInt8) (δ:T) (κl:(Int×LA×List UInt8×LA×List UInt8)->T) (κr:(Bool×(Bool)×(Unit))->T):T:=br (decide (i<a.length)) (br (ixI a i) (br (ixS a i (Sh.int .i64) 0) (br (ixI b i) (br (ixS b i (Sh.int .i64) 0) (br ((gC a i 0).toInt != (gC b i 0).toInt) (κr (true,(false),())) (κl (i64.wrap (i+1),a,c,b,d))) δ) δ) δ) δ) (κr (false,false,()))
def xdj:StT (Int×LA×List UInt8×LA×List UInt8) (Bool×(Bool)×(Unit)):=fun (i,a,b,c,d)=>xi8 i a b c d none inL inR
def xqF:=xDt.l 38 0 [] [] Tryz.f54 0 lk0 [2,3,5] [4] [] (q3 (xJW 0 0 0 0) (xJW 1 0 0 0) qI) (q2 (qB 0 2 34 (q1 (xJX (q2 (qL 1) pStr)))) (qB 0 2 34 (q1 (xJX (q2 (qL 1) pStr))))) (fun (_,_,i,_) (((a,b,_),_),((c,d,_),_),_)=>(xdj,(i,a,b,c,d),fun p=>(.node p.1 (.leaf .ret [AV.bool p.2.1] []) (.leaf (.exit 0) [.top] [])))) (false,false,()) fun _ _ (i,a,b,c,d)=>((((),(),i,()),(((a,b,()),()),((c,d,()),()),())),xi8 i a b c d none)
def xpr (a:LA) (b:List UInt8) (c:LA) (d:List UInt8):=Iter xdj (0,a,b,c,d)
def xpq (a:LA) (b:List UInt8) (c:LA) (d:List UInt8):=(xpr a b c d).getD (false,false,())
def xqG {T:Type} (a:LA) (b:List UInt8) (c:LA) (d:List UInt8) (δ:T) (κ:Bool->T):T:=br (!b==d) (κ (false)) (br ((↑a.length:Int) != (↑c.length:Int)) (κ (false)) (br ((xpr a b c d).isSome) (br ((xpq a b c d).fst) (κ ((xpq a b c d).snd.fst)) (κ (true))) δ))
def xpQ (a:LA) (b:List UInt8) (c:LA) (d:List UInt8):=xqG a b c d none some
def xyY:EO:=xDt.f Tryz.func54 38 0 [] [(4,xqF.lp)] (lk1 xqF.ok) (u2 (xJx (u2 (uL 1) (sEq pStr))) (xJx (u2 (uL 1) (sEq pStr)))) (fun ((a,b,_),(c,d,_),_) _=>xqG a b c d) (fun _ p=>AV.bool p) false
def xi6 {T:Type} (j:Bool) (i:Int) (k:List UInt8) (l m a n g:LA) (h b:List UInt8) (c d e f:LA) (δ:T) (κl:(Bool×Int×List UInt8×LA×LA×LA×LA×LA×List UInt8×List UInt8×LA×LA×LA×LA)->T) (κr:(Bool×List UInt8×LA×LA×LA×LA×LA×List UInt8×List UInt8×LA×LA×LA×LA)->T):T:=br (decide (i<a.length)) (br (j) (κl (true,i64.wrap (i+1),k,l,m,a,n,g,h,b,c,d,e,f)) (br (ixI a i) (br (ixT a i 2 [Sh.list 1,Sh.str] 0) (br ((xpQ (gC a i 0).toList (gC a i 1).toStr g h).isSome) (κl ((xpQ (gC a i 0).toList (gC a i 1).toStr g h).getD false,i64.wrap (i+1),k,l,m,a,n,g,h,b,c,d,e,f)) δ) δ) δ)) (κr (j,k,l,m,a,n,g,h,b,c,d,e,f))
def xdh:StT (Bool×Int×List UInt8×LA×LA×LA×LA×LA×List UInt8×List UInt8×LA×LA×LA×LA) (Bool×List UInt8×LA×LA×LA×LA×LA×List UInt8×List UInt8×LA×LA×LA×LA):=fun (f,i,g,h,j,k,l,m,n,a,b,c,d,e)=>xi6 f i g h j k l m n a b c d e none inL inR
def xlA:=xyY.l 76 0 [] [] Tryz.f29 0 lk0 [3,4,5,7,8] [3,4,5,7] [] (q5 (xJW 0 0 0 0) (xJW 1 0 0 0) (xJW 2 0 0 0) pBool qI) (q3 (qB 0 5 27 (q1 (xJX (q5 pStr (qL 3) (qL 1) (qL 2) (qL 7))))) (qB 0 2 34 (q1 (xJX (q2 (qL 1) pStr)))) (qB 0 5 27 (q1 (xJX (q5 pStr (qL 3) (qL 1) (qL 2) (qL 7)))))) (fun (_,_,_,f,i,_) (((g,h,j,k,m,_),_),((n,o,_),_),((a,b,c,d,e,_),_),_)=>(xdh,(f,i,g,h,j,k,m,n,o,a,b,c,d,e),fun p=>(.leaf (.exit 0) [AV.own 0 0 0 0,AV.own 1 0 0 0,AV.own 2 0 0 0,AV.bool p.1] [bF 0 5 27 [AV.agg [AV.str p.2.1,AV.list 3 p.2.2.1,AV.list 1 p.2.2.2.1,AV.list 2 p.2.2.2.2.1,AV.list 7 p.2.2.2.2.2.1]],bF 0 2 34 [AV.agg [AV.list 1 p.2.2.2.2.2.2.1,AV.str p.2.2.2.2.2.2.2.1]],bF 0 5 27 [AV.agg [AV.str p.2.2.2.2.2.2.2.2.1,AV.list 3 p.2.2.2.2.2.2.2.2.2.1,AV.list 1 p.2.2.2.2.2.2.2.2.2.2.1,AV.list 2 p.2.2.2.2.2.2.2.2.2.2.2.1,AV.list 7 p.2.2.2.2.2.2.2.2.2.2.2.2]]]))) (false,[],[],[],[],[],[],[],[],[],[],[],[]) fun _ _ (f,i,g,h,j,k,m,n,o,a,b,c,d,e)=>((((),(),(),f,i,()),(((g,h,j,k,m,()),()),((n,o,()),()),((a,b,c,d,e,()),()),())),xi6 f i g h j k m n o a b c d e none)
def xi7 {T:Type} (a b:LA) (i:Int) (d:LA) (j e:List UInt8) (f c g h:LA) (δ:T) (κl:(Int×LA×List UInt8×List UInt8×LA×LA×LA×LA)->T) (κr:(Bool×(Bool)×(Unit))->T):T:=br (decide (i<d.length)) (br (ixI d i) (br (ixS d i (Sh.int .i64) 0) (br (decide (0<=(gC d i 0).toInt)&&decide ((gC d i 0).toInt<a.length)) (br (decide ((gC d i 0).toInt.toNat<a.length)&&xIZ (Sh.int .i64) ((a.getD (gC d i 0).toInt.toNat .top).cells.getD 0 .top)) (br (ixI c i) (br (ixS c i (Sh.int .i64) 0) (br (decide (0<=(gC c i 0).toInt)&&decide ((gC c i 0).toInt<b.length)) (br (decide ((gC c i 0).toInt.toNat<b.length)&&xIZ (Sh.int .i64) ((b.getD (gC c i 0).toInt.toNat .top).cells.getD 0 .top)) (br (((a.getD (gC d i 0).toInt.toNat .top).cells.getD 0 .top).toInt != ((b.getD (gC c i 0).toInt.toNat .top).cells.getD 0 .top).toInt) (κr (true,(false),())) (κl (i64.wrap (i+1),d,j,e,f,c,g,h))) δ) δ) δ) δ) δ) δ) δ) δ) (κr (false,false,()))
def xdi (a b:LA):StT (Int×LA×List UInt8×List UInt8×LA×LA×LA×LA) (Bool×(Bool)×(Unit)):=fun (i,h,j,c,d,e,f,g)=>xi7 a b i h j c d e f g none inL inR
def xqD:=xyY.l 76 0 [] [(5,xlA.lp)] Tryz.f29 1 lk0 [4,5,9,10,11] [6] [] (q5 (xJW 0 0 0 0) (xJW 1 0 0 0) (qL 1) (qL 1) qI) (q2 (qB 0 2 34 (q1 (xJX (q2 (qL 1) pStr)))) (qB 0 5 27 (q1 (xJX (q5 pStr (qL 3) (qL 1) (qL 2) (qL 7)))))) (fun (_,_,a,b,i,_) (((h,j,_),_),((c,d,e,f,g,_),_),_)=>(xdi a b,(i,h,j,c,d,e,f,g),fun p=>(.node p.1 (.leaf .ret [AV.bool p.2.1] []) (.leaf (.exit 2) [.top] [])))) (false,false,()) fun (_,_,a,b,_,_) _ (i,h,j,c,d,e,f,g)=>((((),(),a,b,i,()),(((h,j,()),()),((c,d,e,f,g,()),()),())),xi7 a b i h j c d e f g none)
def xn7 (j:List UInt8) (g f h i k:LA) (l e:List UInt8) (b a c d:LA):=Iter xdh (false,0,j,g,f,h,i,k,l,e,b,a,c,d)
def xn6 (j:List UInt8) (g f h i k:LA) (l e:List UInt8) (b a c d:LA):=(xn7 j g f h i k l e b a c d).getD (false,[],[],[],[],[],[],[],[],[],[],[],[])
def xn5 (j:List UInt8) (g f h i k:LA) (l e:List UInt8) (b a c d:LA):=(xn6 j g f h i k l e b a c d).snd
def xn4 (j:List UInt8) (g f h i k:LA) (l e:List UInt8) (b a c d:LA):=(xn5 j g f h i k l e b a c d).snd
def xn3 (j:List UInt8) (g f h i k:LA) (l e:List UInt8) (b a c d:LA):=(xn4 j g f h i k l e b a c d).snd
def xn2 (j:List UInt8) (g f h i k:LA) (l e:List UInt8) (b a c d:LA):=(xn3 j g f h i k l e b a c d).snd
def xn1 (j:List UInt8) (g f h i k:LA) (l e:List UInt8) (b a c d:LA):=(xn2 j g f h i k l e b a c d).snd
def xpj (j:List UInt8) (g f h i k:LA) (l e:List UInt8) (b a c d:LA):=xd8 (xn5 j g f h i k l e b a c d).fst (xn4 j g f h i k l e b a c d).fst (xn3 j g f h i k l e b a c d).fst (xn2 j g f h i k l e b a c d).fst (xn1 j g f h i k l e b a c d).fst
def xn0 (j:List UInt8) (g f h i k:LA) (l e:List UInt8) (b a c d:LA):=(xn1 j g f h i k l e b a c d).snd
def xnx (j:List UInt8) (g f h i k:LA) (l e:List UInt8) (b a c d:LA):=(xn0 j g f h i k l e b a c d).snd
def xnZ (j:List UInt8) (g f h i k:LA) (l e:List UInt8) (b a c d:LA):=(xnx j g f h i k l e b a c d).snd
def xnX (j:List UInt8) (g f h i k:LA) (l e:List UInt8) (b a c d:LA):=(xnZ j g f h i k l e b a c d).fst
def xnY (j:List UInt8) (g f h i k:LA) (l e:List UInt8) (b a c d:LA):=(xnZ j g f h i k l e b a c d).snd
def xpo (j:List UInt8) (g f h i k:LA) (l e:List UInt8) (b a c d:LA):=(xnY j g f h i k l e b a c d).snd
def xpp (j:List UInt8) (g f h i k:LA) (l e:List UInt8) (b a c d:LA):=(xnY j g f h i k l e b a c d).fst
def xpm (j:List UInt8) (g f h i k:LA) (l e:List UInt8) (b a c d:LA):=(xpo j g f h i k l e b a c d).snd
def xpn (j:List UInt8) (g f h i k:LA) (l e:List UInt8) (b a c d:LA):=(xpo j g f h i k l e b a c d).fst
def xpk (j:List UInt8) (g f h i k:LA) (l e:List UInt8) (b a c d:LA):=(xpm j g f h i k l e b a c d).fst
def xpl (j:List UInt8) (g f h i k:LA) (l e:List UInt8) (b a c d:LA):=(xpm j g f h i k l e b a c d).snd
def xpi (j:List UInt8) (g f h i k:LA) (l e:List UInt8) (b a c d:LA):=xd8 (xnX j g f h i k l e b a c d) (xpp j g f h i k l e b a c d) (xpn j g f h i k l e b a c d) (xpk j g f h i k l e b a c d) (xpl j g f h i k l e b a c d)
def xph (j:List UInt8) (g f h i k:LA) (l e:List UInt8) (b a c d:LA):=Iter (xdi ((xpj j g f h i k l e b a c d).getD []) ((xpi j g f h i k l e b a c d).getD [])) (0,(xn0 j g f h i k l e b a c d).fst,(xnx j g f h i k l e b a c d).fst,xnX j g f h i k l e b a c d,xpp j g f h i k l e b a c d,xpn j g f h i k l e b a c d,xpk j g f h i k l e b a c d,xpl j g f h i k l e b a c d)
def xpg (j:List UInt8) (g f h i k:LA) (l e:List UInt8) (b a c d:LA):=(xph j g f h i k l e b a c d).getD (false,false,())
def xqE {T:Type} (j:List UInt8) (g f h i k:LA) (l e:List UInt8) (b a c d:LA) (δ:T) (κ:Bool->T):T:=br ((xe3 j g f h i).isSome) (br ((xe3 j g f h i).getD 0 != 0) (κ (false)) (br ((xe3 e b a c d).isSome) (br ((xe3 e b a c d).getD 0 != 0) (κ (false)) (br ((↑k.length:Int) != (↑a.length:Int)) (κ (false)) (br ((xn7 j g f h i k l e b a c d).isSome) (br (!(xn6 j g f h i k l e b a c d).fst) (κ (false)) (br ((xpj j g f h i k l e b a c d).isSome) (br ((xpi j g f h i k l e b a c d).isSome) (br ((xph j g f h i k l e b a c d).isSome) (br ((xpg j g f h i k l e b a c d).fst) (κ ((xpg j g f h i k l e b a c d).snd.fst)) (κ (true))) δ) δ) δ)) δ))) δ)) δ
def xpP (j:List UInt8) (g f h i k:LA) (l e:List UInt8) (b a c d:LA):=xqE j g f h i k l e b a c d none some
def xHj:EO:=xyY.f Tryz.func29 76 0 [] [(5,xlA.lp),(12,xqD.lp)] (lks (lkC xlA.ok (lkC xqD.ok lkN))) (u3 (xJx (u5 (sEq pStr) (uL 3) (uL 1) (uL 2) (uL 7))) (xJx (u2 (uL 1) (sEq pStr))) (xJx (u5 (sEq pStr) (uL 3) (uL 1) (uL 2) (uL 7)))) (fun ((k,h,g,i,j,_),(l,m,_),(e,b,a,c,d,_),_) _=>xqE k h g i j l m e b a c d) (fun _ p=>AV.bool p) false
def xn8 {T:Type} (a:LA) (c:List UInt8) (b:LA) (δ:T) (κ:Bool->T):T:=br ((xk3 b a).isSome) (κ (!(xk3 b a).getD false)) δ
def xmQ (a:LA) (b:List UInt8) (c:LA):=xn8 a b c none some
def xHk:EO:=xHj.f Tryz.func37 10 0 [] [] lk0 (u2 (xJx (u2 (uL 1) (sEq pStr))) (uL 3)) (fun ((a,b,_),c,_) _=>xn8 a b c) (fun _ p=>AV.bool p) false
def xgR (a b c d:Int):Bool:=(br (xcc a b) (br (xcc c d) (br (decide (a<d)) ((decide (c<b))) ((false))) ((false))) ((false)))
def xuR {T:Type} (a b c d:Int) (δ:T) (κ:Bool->T):T:=br (xcc a b) (br (xcc c d) (br (decide (a<d)) (κ (decide (c<b))) (κ (false))) (κ (false))) (κ (false))
def xHl:EO:=xHk.fT Tryz.func77 25 0 [] [] lk0 (fun ((a,b,_),(c,d,_),_)=>xuR a b c d none) (u2 (xJx (u2 uI uI)) (xJx (u2 uI uI))) (fun ((a,b,_),(c,d,_),_)=>xgR a b c d) (fun _ p=>(AV.bool p))
def xeq (a b c d:Int):Int×Int×Bool:=(br (!xgR a b c d) ((0,0,false)) ((if c>a then c else a,if d<b then d else b,true)))
def xtT {T:Type} (a b c d:Int) (δ:T) (κ:Int×Int×Bool->T):T:=br (!xgR a b c d) (κ (0,0,false)) (κ (if c>a then c else a,if d<b then d else b,true))
def xA6:EO:=xHl.fT Tryz.func45 22 0 [] [] lk0 (fun ((a,b,_),(c,d,_),_)=>xtT a b c d none) (u2 (xJx (u2 uI uI)) (xJx (u2 uI uI))) (fun ((a,b,_),(c,d,_),_)=>xeq a b c d) (fun _ p=>(AV.tuple [AV.agg [AV.int .i64 p.1,AV.int .i64 p.2.1],AV.bool p.2.2]))
def xcU (l:LA) (i:Int):=ixI l i
def xeb (l:LA) (i:Int):=decide (i.toNat<l.length)&&xIZ (Sh.list 3) (gC l i 0)
def xeu {T:Type} (l g:LA) (b:Nat) (i:Int) (e:LA) (f:List UInt8) (c d:Int) (a:LA) (δ:T) (κl:(Nat×Int×LA×List UInt8×Int×Int×LA)->T) (κr:(Nat×LA)->T):T:=br (decide (i<l.length)) (br (xcU l i) (br (ixT l i 3 [Sh.int .i64,Sh.int .i64] 1) (br ((xeq (gC l i 1).toInt (gC l i 2).toInt c d).snd.snd) (br (xcU l i) (br (xeb l i) (br ((xmQ e f (gC l i 0).toList).isSome) (br ((xmQ e f (gC l i 0).toList).getD false) (br (xcU l i) (br (xeb l i) (br ((xmh (gC l i 0).toList e).isSome) (br ((xav ((xmh (gC l i 0).toList e).getD []) g).isSome) (br ((xav ((xmh (gC l i 0).toList e).getD []) g).getD 0==0) (br (xcU l i) (br (xeb l i) (br (rmB b a 1 40) (κl (b+1,i64.wrap (i+1),e,f,c,d,a++[AV.agg [AV.list 3 (gC l i 0).toList,AV.int .i64 (xeq (gC l i 1).toInt (gC l i 2).toInt c d).fst,AV.int .i64 (xeq (gC l i 1).toInt (gC l i 2).toInt c d).snd.fst]])) δ) δ) δ) (κl (b,i64.wrap (i+1),e,f,c,d,a))) δ) δ) δ) δ) (κl (b,i64.wrap (i+1),e,f,c,d,a))) δ) δ) δ) (κl (b,i64.wrap (i+1),e,f,c,d,a))) δ) δ) (κr (b,a))
def xbi (l e:LA):StT (Nat×Int×LA×List UInt8×Int×Int×LA) (Nat×LA):=fun (b,i,f,g,c,d,a)=>xeu l e b i f g c d a none inL inR
def xkK:=xA6.l 64 0 [] [] Tryz.f19 0 lk0 [1,2,4,7,9,10] [9] [(9,3,54)] (q6 (qL 3) (qL 3) (xJW 0 0 0 0) (xJW 1 0 0 0) (xJV 2 0 0) qI) (q3 (qB 0 2 34 (q1 (xJX (q2 (qL 1) pStr)))) (qB 0 2 44 (q1 (xJX (q2 qI qI)))) (qB 0 3 54 xJN)) (fun (l,e,_,_,b,i,_) (((f,g,_),_),((c,d,_),_),a,_)=>(xbi l e,(b,i,f,g,c,d,a),fun p=>(.leaf (.exit 0) [AV.osl 0 0 0 p.1] [bF 0 3 54 p.2]))) (0,[]) fun (l,e,_,_,_,_,_) _ (b,i,f,g,c,d,a)=>(((l,e,(),(),b,i,()),(((f,g,()),()),((c,d,()),()),a,())),xeu l e b i f g c d a none)
def xiU (a:LA) (b:List UInt8) (l e:LA) (c d:Int):=Iter (xbi l e) (0,0,a,b,c,d,[])
def xiT (a:LA) (b:List UInt8) (l e:LA) (c d:Int):=(xiU a b l e c d).getD (0,[])
def xiR (a:LA) (b:List UInt8) (l e:LA) (c d:Int):=(xiT a b l e c d).snd
def xiS (a:LA) (b:List UInt8) (l e:LA) (c d:Int):=(xiT a b l e c d).fst
def xiQ (a:LA) (b:List UInt8) (l e:LA) (c d:Int):=xts (List.take (xiS a b l e c d) (List.drop 0 (xiR a b l e c d)))
def xjF {T:Type} (a:LA) (b:List UInt8) (l e:LA) (c d:Int) (δ:T) (κ:LA->T):T:=br ((xiU a b l e c d).isSome) (br (decide (0+xiS a b l e c d<=(xiR a b l e c d).length)&&true) (br ((xiQ a b l e c d).isSome) (κ ((xiQ a b l e c d).getD [])) δ) δ) δ
def xh9 (a:LA) (b:List UInt8) (l e:LA) (c d:Int):=xjF a b l e c d none some
def xFT:EO:=xA6.f Tryz.func19 64 0 [] [(3,xkK.lp)] (lk1 xkK.ok) (u4 (xJx (u2 (uL 1) (sEq pStr))) (uL 3) (uL 3) (xJx (u2 uI uI))) (fun ((a,b,_),l,e,(c,d,_),_) _=>xjF a b l e c d) (fun _ p=>AV.list 3 p) []
def xG2:EO:=xC1.w xsN
def xpw {T:Type} (a b:LA) (δ:T) (κ:Bool->T):T:=br ((xfH a b).isSome) (κ ((xfH a b).getD 0==0)) δ
def xor (a b:LA):=xpw a b none some
def xG0:EO:=xG2.f Tryz.func43 9 0 [] [] lk0 (u2 (uL 3) (uL 3)) (fun (a,b,_) _=>xpw a b) (fun _ p=>AV.bool p) false
def xfN (a b c d:Int):Bool:=(br (xbZ a b) (br (xbZ c d) (br (decide (a<d)) ((decide (c<b))) ((false))) ((false))) ((false)))
def xtS {T:Type} (a b c d:Int) (δ:T) (κ:Bool->T):T:=br (xbZ a b) (br (xbZ c d) (br (decide (a<d)) (κ (decide (c<b))) (κ (false))) (κ (false))) (κ (false))
def xG1:EO:=xG0.fT Tryz.func113 25 0 [] [] lk0 (fun ((a,b,_),(c,d,_),_)=>xtS a b c d none) (u2 (xJx (u2 uI uI)) (xJx (u2 uI uI))) (fun ((a,b,_),(c,d,_),_)=>xfN a b c d) (fun _ p=>(AV.bool p))
def xcx (a b c d:Int):Int×Int×Bool:=(br (!xfN a b c d) ((0,0,false)) ((if c>a then c else a,if d<b then d else b,true)))
def xtk {T:Type} (a b c d:Int) (δ:T) (κ:Int×Int×Bool->T):T:=br (!xfN a b c d) (κ (0,0,false)) (κ (if c>a then c else a,if d<b then d else b,true))
def xCZ:EO:=xG1.fT Tryz.func76 22 0 [] [] lk0 (fun ((a,b,_),(c,d,_),_)=>xtk a b c d none) (u2 (xJx (u2 uI uI)) (xJx (u2 uI uI))) (fun ((a,b,_),(c,d,_),_)=>xcx a b c d) (fun _ p=>(AV.tuple [AV.agg [AV.int .i64 p.1,AV.int .i64 p.2.1],AV.bool p.2.2]))
def xd6 {T:Type} (b:LA) (g:Int) (d:Nat) (a e f:Int) (c:LA) (δ:T) (κl:(Nat×Int×Int×Int×LA)->T) (κr:(Nat×LA)->T):T:=br (decide (a<g)) (br (ixI b a) (br (ixT b a 3 [Sh.list 3,Sh.int .i64,Sh.int .i64] 0) (br ((xcx (gC b a 1).toInt (gC b a 2).toInt e f).snd.snd) (br (rmB d c 1 40) (κl (d+1,i64.wrap (a+1),e,f,c++[AV.agg [AV.list 3 (gC b a 0).toList,AV.int .i64 (xcx (gC b a 1).toInt (gC b a 2).toInt e f).fst,AV.int .i64 (xcx (gC b a 1).toInt (gC b a 2).toInt e f).snd.fst]])) δ) (κl (d,i64.wrap (a+1),e,f,c))) δ) δ) (κr (d,c))
def xa5 (e:LA) (f:Int):StT (Nat×Int×Int×Int×LA) (Nat×LA):=fun (b,g,c,d,a)=>xd6 e f b g c d a none inL inR
def xkj:=xCZ.l 34 0 [] [] Tryz.f44 0 lk0 [3,5,10,11,12] [5] [(5,3,54)] (q5 (xJW 0 0 0 0) (xJV 1 0 0) (qL 3) qI qI) (q2 (qB 0 2 44 (q1 (xJX (q2 qI qI)))) (qB 0 3 54 xJN)) (fun (_,b,e,f,g,_) (((c,d,_),_),a,_)=>(xa5 e f,(b,g,c,d,a),fun p=>(.leaf (.exit 0) [AV.osl 0 0 0 p.1] [bF 0 3 54 p.2]))) (0,[]) fun (_,_,e,f,_,_) _ (b,g,c,d,a)=>((((),b,e,f,g,()),(((c,d,()),()),a,())),xd6 e f b g c d a none)
def xhD (l:LA) (a b:Int):=Iter (xa5 l (↑l.length:Int)) (0,0,a,b,[])
def xhC (l:LA) (a b:Int):=(xhD l a b).getD (0,[])
def xhA (l:LA) (a b:Int):=(xhC l a b).fst
def xhB (l:LA) (a b:Int):=(xhC l a b).snd
def xhz (l:LA) (a b:Int):=xp0 (List.take (xhA l a b) (List.drop 0 (xhB l a b)))
def xiv {T:Type} (l:LA) (a b:Int) (δ:T) (κ:LA->T):T:=br ((xhD l a b).isSome) (br (decide (0+xhA l a b<=(xhB l a b).length)&&true) (br ((xhz l a b).isSome) (κ ((xhz l a b).getD [])) δ) δ) δ
def xkl (l:LA) (a b:Int):=xiv l a b none some
def xCx:EO:=xCZ.f Tryz.func44 34 0 [] [(3,xkj.lp)] (lk1 xkj.ok) (u2 (uL 3) (xJx (u2 uI uI))) (fun (l,(a,b,_),_) _=>xiv l a b) (fun _ p=>AV.list 3 p) []
def xdG {T:Type} (i c:LA) (j:Int) (d:Nat) (a:Int) (e:LA) (f:List UInt8) (g h:Int) (b:LA) (δ:T) (κl:(Nat×Int×LA×List UInt8×Int×Int×LA)->T) (κr:(Nat×Int×Int×LA)->T):T:=br (decide (a<j)) (br (ixI c a) (br (ixT c a 3 [Sh.list 3,Sh.int .i64,Sh.int .i64] 0) (br ((xdu e f (gC c a 0).toList).isSome) (br (((xdu e f (gC c a 0).toList).getD ([],false)).snd) (br ((xor ((xdu e f (gC c a 0).toList).getD ([],false)).fst i).isSome) (br ((xor ((xdu e f (gC c a 0).toList).getD ([],false)).fst i).getD false) (br (rmB d b 1 40) (κl (d+1,i64.wrap (a+1),e,f,g,h,b++[AV.agg [AV.list 3 (gC c a 0).toList,AV.int .i64 (gC c a 1).toInt,AV.int .i64 (gC c a 2).toInt]])) δ) (κl (d,i64.wrap (a+1),e,f,g,h,b))) δ) (κl (d,i64.wrap (a+1),e,f,g,h,b))) δ) δ) δ) (κr (d,g,h,b))
def xaW (e f:LA) (g:Int):StT (Nat×Int×LA×List UInt8×Int×Int×LA) (Nat×Int×Int×LA):=fun (b,h,i,j,c,d,a)=>xdG e f g b h i j c d a none inL inR
def xjo:=xCx.l 41 0 [] [] Tryz.f18 0 lk0 [2,4,7,9,14,15,16] [7,9] [(9,3,54)] (q7 (qL 3) (xJW 0 0 0 0) (xJW 1 0 0 0) (xJV 2 0 0) (qL 3) qI qI) (q3 (qB 0 2 34 (q1 (xJX (q2 (qL 1) pStr)))) (qB 0 2 44 (q1 (xJX (q2 qI qI)))) (qB 0 3 54 xJN)) (fun (e,_,_,b,f,g,h,_) (((i,j,_),_),((c,d,_),_),a,_)=>(xaW e f g,(b,h,i,j,c,d,a),fun p=>(.leaf (.exit 0) [AV.own 0 0 0 0,AV.osl 1 0 0 p.1] [bF 0 2 44 [AV.agg [AV.int .i64 p.2.1,AV.int .i64 p.2.2.1]],bF 0 3 54 p.2.2.2]))) (0,0,0,[]) fun (e,_,_,_,f,g,_,_) _ (b,h,i,j,c,d,a)=>(((e,(),(),b,f,g,h,()),(((i,j,()),()),((c,d,()),()),a,())),xdG e f g b h i j c d a none)
def xgO (a:LA) (b:List UInt8) (l e:LA) (c d:Int):=Iter (xaW e l (↑l.length:Int)) (0,0,a,b,c,d,[])
def xgN (a:LA) (b:List UInt8) (l e:LA) (c d:Int):=(xgO a b l e c d).getD (0,0,0,[])
def xgL (a:LA) (b:List UInt8) (l e:LA) (c d:Int):=(xgN a b l e c d).snd
def xgM (a:LA) (b:List UInt8) (l e:LA) (c d:Int):=(xgN a b l e c d).fst
def xgK (a:LA) (b:List UInt8) (l e:LA) (c d:Int):=(xgL a b l e c d).snd
def xgJ (a:LA) (b:List UInt8) (l e:LA) (c d:Int):=(xgK a b l e c d).snd
def xgI (a:LA) (b:List UInt8) (l e:LA) (c d:Int):=xkl (List.take (xgM a b l e c d) (List.drop 0 (xgJ a b l e c d))) (xgL a b l e c d).fst (xgK a b l e c d).fst
def xhG {T:Type} (a:LA) (b:List UInt8) (l e:LA) (c d:Int) (δ:T) (κ:LA->T):T:=br ((xgO a b l e c d).isSome) (br (decide (0+xgM a b l e c d<=(xgJ a b l e c d).length)&&true) (br ((xgI a b l e c d).isSome) (κ ((xgI a b l e c d).getD [])) δ) δ) δ
def xfK (a:LA) (b:List UInt8) (l e:LA) (c d:Int):=xhG a b l e c d none some
def xr0:LA->Option (Bool×AV):=fnO (u4 (xJx (u2 (uL 1) (sEq pStr))) (uL 3) (uL 3) (xJx (u2 uI uI))) (fun ((a,b,_),l,e,(c,d,_),_) _=>xhG a b l e c d) (fun _ p=>AV.list 3 p) []
theorem xrx:OcOk P0 xJI 18 xr0:=fnC xCx.ok Tryz.func18 41 0 [] [(3,xjo.lp)] (lk1 xjo.ok)
end Go.Sim.M
end
noncomputable section
set_option maxRecDepth 100000
namespace Go.Sim
def stepX (P:Program) (E:Env) (live liveO:List Nat) (conv:List (Nat×Nat×TypeId)) (c:Code) (s:List AV×List Box):Option ((List AV×List Box)⊕{r:Exit×List AV×List Box // r.1≠.normal}) :=
 match XR P E live liveO conv c s.1 s.2 with
 | some (.normal,v,H)=>some (.inl (v,H))
 | some (.exit i,v,H)=>some (.inr ⟨(.exit i,v,H),by simp⟩)
 | some (.ret,v,H)=>some (.inr ⟨(.ret,v,H),by simp⟩)
 | _=>none
def closedLp (P:Program) (E:Env) (live liveO:List Nat) (conv:List (Nat×Nat×TypeId)) (c:Code) (n:Nat):Lp:=⟨live,liveO,conv,fun vals H =>
 match iterN (stepX P E live liveO conv c) n (vals,H) with
 | some r=>some (true,.leaf r.1.1 r.1.2.1 r.1.2.2)
 | none=>none⟩
theorem xkD {P:Program} {Inv:IV} {E:Env} (U:P.follows .mixedOrders=true) (Q:InvOk Inv) (q:Inv.pin=E.pin) (O:xI0 P Inv E) {c:Code} (J:LoOk P Inv E c) {live liveO:List Nat} {conv:List (Nat×Nat×TypeId)} {n:Nat} :
  LoopOk P Inv E.nt c (closedLp P E live liveO conv c n):=fun vals H r h=>by
 simp only [closedLp] at h;split at h
 case h_2=>simp at h
 rename_i r0 hr;simp only [z6,zb,true_and] at h;subst h;exact xpK U Q q O J (σ:=List AV×List Box) (ρ:={r:Exit×List AV×List Box // r.1≠.normal}) (step:=stepX P E live liveO conv c) (fun s=>s) (fun r=>.leaf r.1.1 r.1.2.1 r.1.2.2) (fun r=>r.2)
  (fun s r hs=>by
   unfold stepX at hs;split at hs<;>simp only [z6,reduceCtorEq] at hs;all_goals (subst hs;rename_i hx;exact hx)) (s:=(vals,H)) (r:=r0) (xnh.2 ⟨n,hr⟩)
end Go.Sim
namespace Go.Sim.M
open Go.RowKit Go.Proofs
def mmA (g:FuncId):Bool:=([55,57,128,152,175,136,164,190,100,133,154,131,153,183,138,99,166,85,33]:List Nat).contains g
noncomputable def EA0:Env:={ E0 with ls:=lsOf [42,54,141],fuel:=1000 }
theorem xyP:xI0 P0 xJI EA0:=xFE
noncomputable def runA (E:Env) (fn:Func):List AV->Option (Bool×AV):=fun xs=>match XF P0 E fn (fn.body.getD .skip) xs with
 | some r=>some (true,r)
 | none=>none
theorem xz1 {E:Env} {f:FuncId} {fn:Func} (Q:xI0 P0 (xJI.at 0) E) (J:E.pin=0) (hf:P0.funcs[f]?=some fn) (hb:fn.body.isSome=true) (q:(fn.name == "runtime.NumGoroutine")=false) (O:LoOk P0 (xJI.at 0) E (fn.body.getD .skip)):OcOk P0 xJI f (runA E fn):=fun xs r h=>by
 unfold runA at h;split at h
 case h_2=>simp at h
 rename_i r0 hr;simp only [z6,zb,true_and] at h;subst h;exact xeG (p:=0) (xgQ xI9 (xJa P0 _) J.symm Q hf hb q O hr)
noncomputable def EAr:Env:={ Env.deep P0 mmA EA0 10 with pin:=0,nt:=60,ls:=lsOf [] }
theorem xCV:xI0 P0 (xJI.at 0) EAr:=xhO xI9 mmA (xJa P0 0) xyP (fun _=>rfl) 10
noncomputable def xCU:Lp:=closedLp P0 EAr [3,4,11,12,13] [4] [(4,2,189114876045)] (xI4 Tryz.f98 0) 100
noncomputable def EAr1:Env:={ EAr with lp:=xJm [(xJe (xI4 Tryz.f98 0),xCU)] }
theorem xFO:xI0 P0 (xJI.at 0) EAr1:=xCV
noncomputable def xBI:List AV->Option (Bool×AV):=runA EAr1 Tryz.f98
theorem xGz:OcOk P0 xJI 98 xBI:=xz1 xFO rfl Tryz.func98 rfl (by kernel_rfl) (xgi (ls:=[xI4 Tryz.f98 0]) (by kernel_rfl) (fun l hl lp hs=>by
 simp only [zC,List.not_mem_nil,or_false] at hl;subst hl;rw [show EAr1.lp (xJe (xI4 Tryz.f98 0))=some xCU by kernel_rfl] at hs
 cases hs;exact xkD (E:=EAr) xI9 (xJa P0 _) rfl xCV (xef fun _=>rfl)))
noncomputable def EAlv (p:Nat):Env:={ Env.deep P0 mmA EA0 6 with pin:=p,nt:=71,ls:=lsOf [] }
theorem xA0 (p:Nat):xI0 P0 (xJI.at p) (EAlv p):=xju (xhO xI9 mmA (xJa P0 0) xyP (fun _=>rfl) 6)
noncomputable def xAx (p:Nat):Lp:=closedLp P0 (EAlv p) [0,1,2,3,4] [] [(3,0,0)] (xI4 Tryz.f99 0) 100
noncomputable def EAlv1 (p:Nat):Env:={ EAlv p with lp:=xJm [(xJe (xI4 Tryz.f99 0),xAx p)] }
theorem xEL (p:Nat):xI0 P0 (xJI.at p) (EAlv1 p):=xA0 p
noncomputable def xzv:List AV->List Box->Option (Bool×AV×List Box):=fun xs H=>match XFM P0 (EAlv1 H.length) Tryz.f99 (Tryz.f99.body.getD .skip) xs H with
 | some (r,H')=>some (true,r,H')
 | none=>none
theorem xHE:OmOk P0 xJI 99 xzv:=fun xs H r H' h=>by
 unfold xzv at h;split at h
 case h_2=>simp at h
 rename_i r0 H0 hr;simp only [z6,zb,true_and] at h;obtain ⟨rfl,rfl⟩:=h;refine xfL (p:=H.length) (xhv xI9 (xJa P0 _) rfl (xEL H.length) rfl Tryz.func99 rfl (by kernel_rfl) (xgi (ls:=[xI4 Tryz.f99 0,xI4 Tryz.f99 1]) (by kernel_rfl) (fun l hl lp hs=>?_)) hr)
 simp only [zC,List.not_mem_nil,or_false] at hl;rcases hl with rfl|rfl
 . rw [show (EAlv1 H.length).lp (xJe (xI4 Tryz.f99 0))=some (xAx H.length) by kernel_rfl] at hs
   cases hs;exact xkD (E:=EAlv H.length) xI9 (xJa P0 _) rfl (xA0 H.length) (xef fun _=>rfl)
 . rw [show (EAlv1 H.length).lp (xJe (xI4 Tryz.f99 1))=none by kernel_rfl] at hs
   simp at hs
noncomputable def EAs:Env:=(EA0.with 98 xBI).withM 99 xzv
theorem xCW:xI0 P0 xJI EAs:=(xyP.with xGz).withM xHE
noncomputable def EAd:Env:={ Env.deep P0 mmA EAs 14 with pin:=0 }
theorem xyQ:xI0 P0 (xJI.at 0) EAd:=xju (xhO xI9 mmA (xJa P0 0) xCW (fun _=>rfl) 14)
noncomputable def EAh:Env:={ EAd with ls:=lsOf [1000042] }
noncomputable def xDU:List AV->Option (Bool×AV):=runA EAh Tryz.f60
theorem xHy:OcOk P0 xJI 60 xDU:=xz1 (E:=EAh) xyQ rfl Tryz.func60 rfl (by kernel_rfl) (xef fun _=>rfl)
noncomputable def EAs2:Env:=EAs.with 60 xDU
theorem xv6:xI0 P0 xJI EAs2:=xCW.with xHy
noncomputable def EAm (p:Nat):Env:={ Env.deep P0 mmA EAs2 14 with pin:=p,nt:=24,ls:=lsOf [8000000] }
theorem xGS (p:Nat):xI0 P0 (xJI.at p) (EAm p):=xju (xhO xI9 mmA (xJa P0 0) xv6 (fun _=>rfl) 14)
noncomputable def xzD:List AV->List Box->Option (Bool×AV×List Box):=fun xs H=>match XFM P0 (EAm H.length) Tryz.f33 (Tryz.f33.body.getD .skip) xs H with
 | some (r,H')=>some (true,(match r with|.nils=>.list 2 []|x=>x),H')
 | none=>none
theorem xHF:OmOk P0 xJI 33 xzD:=fun xs H r H' h=>by
 unfold xzD at h;split at h
 case h_2=>simp at h
 rename_i r0 H0 hr;simp only [z6,zb,true_and] at h;obtain ⟨rfl,rfl⟩:=h;have hg:GoodM P0 xJI 33 xs H r0 H0:=xfL (p:=H.length) (xhv xI9 (xJa P0 _) rfl (xGS H.length) rfl Tryz.func33 rfl (by kernel_rfl) (xef fun _=>rfl) hr)
 refine GoodM.subR hg ?_;cases r0<;>first|exact Sub.refl _|exact xz4 2
noncomputable def EAn:Env:={ Env.deep P0 mmA (EAs2.withM 33 xzD) 14 with pin:=0,nt:=67,ls:=lsOf [1000034,1000027,8000000] }
theorem xu5:xI0 P0 (xJI.at 0) EAn:=xju (xhO xI9 mmA (xJa P0 0) (xv6.withM xHF) (fun _=>rfl) 14)
noncomputable def xu4:Lp:=closedLp P0 EAn [1,4,6,9,20,21,22] [1,4,9] [(9,0,1073741824)] (xI4 Tryz.f11 0) 20
noncomputable def xsT:Lp:=closedLp P0 EAn [13,14,16,42,43,44,50,51,52] [13,14,42,43,44] [(14,3,54),(13,1,1073741824)] (xI4 Tryz.f11 2) 20
noncomputable def EAn1:Env:={ EAn with lp:=xJm [(3,xu4),(14,xsT)] }
noncomputable def xyR:Lp:=closedLp P0 EAn1 [13,14,42,43,44] [14] [(14,3,54),(13,1,1073741824)] (xI4 Tryz.f11 1) 20
noncomputable def EAn2:Env:={ EAn with lp:=xJm [(3,xu4),(14,xsT),(11,xyR)] }
theorem xGT:LoopOk P0 (xJI.at 0) EAn.nt (xI4 Tryz.f11 0) xu4:=xkD (E:=EAn) xI9 (xJa P0 _) rfl xu5 (xef fun _=>rfl)
theorem xCT:LoopOk P0 (xJI.at 0) EAn.nt (xI4 Tryz.f11 2) xsT:=xkD (E:=EAn) xI9 (xJa P0 _) rfl xu5 (xef fun _=>rfl)
theorem xGU:LoopOk P0 (xJI.at 0) EAn.nt (xI4 Tryz.f11 1) xyR:=xkD (E:=EAn1) xI9 (xJa P0 _) rfl xu5 (xgi (ls:=[xI4 Tryz.f11 2]) (by kernel_rfl) (fun l hl lp hs=>by
 simp only [zC,List.not_mem_nil,or_false] at hl;subst hl;rw [show EAn1.lp (xJe (xI4 Tryz.f11 2))=some xsT by kernel_rfl] at hs
 cases hs;exact xCT))
noncomputable def xBw (xs:List AV):Option AV:=XF P0 EAn2 Tryz.f11 (Tryz.f11.body.getD .skip) xs
noncomputable def xBv:List AV->Option (Bool×AV):=ocOf (xJK (xJx (xJK (xJZ (1:Nat) xJN) (xJK (sEq pStr) xJM))) (xJK (xJZ (3:Nat) xJN) (xJK (xJx (xJK (sEq pStr) (xJK (xJZ (3:Nat) xJN) (xJK (xJZ (1:Nat) xJN) (xJK (xJZ (2:Nat) xJN) (xJK (xJZ (7:Nat) xJN) xJM)))))) (xJK (xJZ (3:Nat) xJN) xJM)))) fun ((f_fc,(f_ft,_)),(l,((parent_tn,(parent_tcs,(parent_tkey,(parent_tfs,(parent_tck,_))))),(pl,_))))=>((xBw [AV.agg [AV.list 1 f_fc,AV.str f_ft],AV.list 3 l,AV.agg [AV.str parent_tn,AV.list 3 parent_tcs,AV.list 1 parent_tkey,AV.list 2 parent_tfs,AV.list 7 parent_tck],AV.list 3 pl]).isSome,(xBw [AV.agg [AV.list 1 f_fc,AV.str f_ft],AV.list 3 l,AV.agg [AV.str parent_tn,AV.list 3 parent_tcs,AV.list 1 parent_tkey,AV.list 2 parent_tfs,AV.list 7 parent_tck],AV.list 3 pl]).getD .top)
theorem xGh:OcOk P0 xJI 11 xBv:=xfA fun vv rr hh=>by
 obtain ⟨⟨f_fc,⟨f_ft,_⟩⟩,⟨l,⟨⟨parent_tn,⟨parent_tcs,⟨parent_tkey,⟨parent_tfs,⟨parent_tck,_⟩⟩⟩⟩⟩,⟨pl,_⟩⟩⟩⟩:=vv;obtain ⟨J,q⟩:=Prod.mk.inj hh;have hx:=xaK (d:=AV.top) J;refine xeG (p:=0) (xgQ (E:=EAn2) xI9 (xJa P0 _) rfl xu5 Tryz.func11 rfl (by kernel_rfl) ?_ (hx.trans (congrArg some q)))
 exact (xgi (ls:=[xI4 Tryz.f11 0,xI4 Tryz.f11 1,xI4 Tryz.f11 2]) (by kernel_rfl) (fun l hl lp hs=>by
 simp only [zC,List.not_mem_nil,or_false] at hl;rcases hl with rfl|rfl|rfl
 . rw [show EAn2.lp (xJe (xI4 Tryz.f11 0))=some xu4 by kernel_rfl] at hs
   cases hs;exact xGT
 . rw [show EAn2.lp (xJe (xI4 Tryz.f11 1))=some xyR by kernel_rfl] at hs
   cases hs;exact xGU
 . rw [show EAn2.lp (xJe (xI4 Tryz.f11 2))=some xsT by kernel_rfl] at hs
   cases hs;exact xCT))
noncomputable def EAc:Env:={ EAd with ls:=lsOf [] }
noncomputable def xBl:List AV->Option (Bool×AV):=runA EAc Tryz.f30
theorem xF7:OcOk P0 xJI 30 xBl:=xz1 (E:=EAc) xyQ rfl Tryz.func30 rfl (by kernel_rfl) (xef fun _=>rfl)
end Go.Sim.M
end
noncomputable section
set_option maxRecDepth 100000
namespace Go.Sim.M
open Go.RowKit Go.Proofs
mutual
def eqV:AV->AV->Bool
 | .int k a,.int k' b=>decide (k=k')&&decide (a=b)
 | .bool a,.bool b=>a==b
 | .str a,.str b=>decide (a=b)
 | .list n a,.list m b=>Nat.beq n m&&eqVs a b
 | .agg a,.agg b=>eqVs a b
 | .nils,.nils=>true
 | _,_=>false
def eqVs:List AV->List AV->Bool
 | [],[]=>true
 | a::l,b::m=>eqV a b&&eqVs l m
 | _,_=>false
end
mutual
theorem xHt:∀ (a b:AV),eqV a b=true->a=b:=fun a b h=>by
 cases a<;>cases b<;>first|(simp [eqV] at h;done)|skip
 case nils.nils=>rfl
 all_goals simp only [eqV,zf,zl,beq_iff_eq] at h
 all_goals first|(rw [h.1,h.2];done)|(rw [h];done)|(rw [zg h.1,xtL _ _ h.2];done)|(rw [xtL _ _ h])
theorem xtL:∀ (a b:List AV),eqVs a b=true->a=b
 | [],[],_=>rfl
 | a::l,b::m,h=>by simp only [eqVs,zf] at h;rw [xHt a b h.1,xtL l m h.2]
 | [],_::_,h=>by simp [eqVs] at h
 | _::_,[],h=>by simp [eqVs] at h
end
def ptO (args:List AV) (r:AV):List AV->Option (Bool×AV):=fun xs=>match eqVs xs args with
 | true=>some (true,r)
 | false=>none
theorem xCq {P:Program} {Inv:IV} {f:FuncId} {args:List AV} {r:AV} (h:Good P Inv f args r):OcOk P Inv f (ptO args r):=fun xs r0 h0=>by
 unfold ptO at h0;split at h0
 case h_2=>simp at h0
 rename_i he;simp only [z6,zb,true_and] at h0;subst h0;rw [xtL _ _ he];exact h
def vI (n:Int):AV:=.agg [.int .i64 1,.int .i64 n,.str []]
def vN:AV:=.agg [.int .i64 0,.int .i64 0,.str []]
def fA (f t:Int) (r:List AV):AV:=.agg [.list 3 r,.int .i64 f,.int .i64 t]
def frA:AV:=.agg [.list 1 [.int .i64 1],.str [112]]
def colA (n:UInt8) (b:Bool):AV:=.agg [.str [n],.int .i64 1,.bool b]
def paA:AV:=.agg [.str [112],.list 3 [colA 97 false],.list 1 [.int .i64 0],.nils,.nils]
def liA:AV:=.list 3 [fA 0 9 [vI 1,vI 7],fA 0 9 [vI 2,vN]]
def plA:AV:=.list 3 [fA 0 4 [vI 7],fA 6 1099511627776 [vI 7]]
def reA:AV:=.list 3 [fA 4 6 [vI 1,vI 7]]
def deA:AV:=.list 3 [fA 0 9 [vI 1,vI 7]]
def cuA:AV:=.list 3 [fA 3 5 [vI 1,vI 7]]
theorem xGj:xBv [frA,liA,paA,plA]=some (true,reA):=by kernel_rfl
theorem xGi:OcOk P0 xJI 11 (ptO [frA,liA,paA,plA] reA):=xCq (xGh _ _ xGj)
theorem xwM {f:FuncId} {fn:Func} {args:List AV} {r:AV} (hf:P0.funcs[f]?=some fn) (hb:fn.body.isSome=true) (q:(fn.name == "runtime.NumGoroutine")=false) (h:XF P0 EAd fn (fn.body.getD .skip) args=some r):Good P0 xJI f args r :=
 xeG (p:=0) (xgQ xI9 (xJa P0 _) rfl xyQ hf hb q (xef fun _=>rfl) h)
theorem xHN:XF P0 EAd Tryz.f41 (Tryz.f41.body.getD .skip) [reA]=some reA:=by kernel_rfl
theorem xHM:OcOk P0 xJI 41 (ptO [reA] reA):=xCq (xwM Tryz.func41 rfl (by kernel_rfl) xHN)
theorem xGu:XF P0 EAd Tryz.f44 (Tryz.f44.body.getD .skip) [deA,.agg [.int .i64 3,.int .i64 5]]=some cuA:=by kernel_rfl
theorem xGt:OcOk P0 xJI 44 (ptO [deA,.agg [.int .i64 3,.int .i64 5]] cuA):=xCq (xwM Tryz.func44 rfl (by kernel_rfl) xGu)
noncomputable def EAv:Env:=(((EAs2.with 11 (ptO [frA,liA,paA,plA] reA)).with 41 (ptO [reA] reA)).with 44 (ptO [deA,.agg [.int .i64 3,.int .i64 5]] cuA)).with 30 xBl
theorem xGV:xI0 P0 xJI EAv:=(((xv6.with xGi).with xHM).with xGt).with xF7
noncomputable def EAe:Env:={ Env.deep P0 mmA EAv 14 with pin:=0,ls:=lsOf [42,54,141,34,9000027,7000027,5000035,6000001,6000003] }
theorem xGR:xI0 P0 (xJI.at 0) EAe:=xju (xhO xI9 mmA (xJa P0 0) xGV (fun _=>rfl) 14)
end Go.Sim.M
end
noncomputable section
set_option maxRecDepth 100000
namespace Go.Sim.M
open Go.RowKit Go.Proofs
theorem xFY:XF P0 EAe Tryz.f9 (Tryz.f9.body.getD .skip) []=some (.bool true):=by kernel_rfl
def xA8:List AV->Option (Bool×AV)
 | []=>some (true,.bool true)
 | _=>none
theorem xFX:OcOk P0 xJI 9 xA8:=fun xs r h=>by
 unfold xA8 at h;split at h
 . simp only [z6,zb,true_and] at h;subst h;exact xeG (p:=0) (xgQ xI9 (xJa P0 _) rfl xGR Tryz.func9 rfl (by kernel_rfl) (xef fun _=>rfl) xFY)
 . simp at h
end Go.Sim.M
end
noncomputable section
set_option maxRecDepth 100000
namespace Go.Sim.M
open Go.IntKind (i64 u64 u8)
open Go.RowKit Go.Proofs
def xG4:EO:=xFT.w xrx
def xG5:EO:=xG4.w xFX
def xp7 {T:Type} (j:List UInt8) (c d a g:LA) (k:List UInt8) (e f h i:LA) (b:Int) (l m:LA) (δ:T) (κ:Bool->T):T:=br (decide ((↑c.length:Int)>12)) (κ (false)) (br (decide ((↑e.length:Int)>12)) (κ (false)) (br (decide (b<0)) (κ (false)) (br (decide (b>=a.length)) (κ (false)) (br ((xlG l 14).isSome) (br (!(xlG l 14).getD false) (κ (false)) (br ((xlG m 14).isSome) (br (!(xlG m 14).getD false) (κ (false)) (br ((xfG j c d a g l).isSome) (br ((xfG j c d a g l).getD false) (br ((xfG k e f h i m).isSome) (br ((xfG k e f h i m).getD false) (br (ixI a b) (br (ixT a b 2 [Sh.list 1,Sh.str] 0) (br ((xpP j c d a g (gC a b 0).toList (gC a b 1).toStr k e f h i).isSome) (κ ((xpP j c d a g (gC a b 0).toList (gC a b 1).toStr k e f h i).getD false)) δ) δ) δ) (κ (false))) δ) (κ (false))) δ)) δ)) δ))))
def xpJ (i:List UInt8) (c a d e:LA) (j:List UInt8) (f b g h:LA) (k:Int) (l m:LA):=xp7 i c a d e j f b g h k l m none some
def xG3:EO:=xG5.f Tryz.func8 67 0 [1000030] [] lk0 (u1 (xJx (xJK (sEq pStr) (xJK (uL 3) (xJK (uL 1) (xJK (uL 2) (xJK (uL 7) (xJK (sEq pStr) (u7 (uL 3) (uL 1) (uL 2) (uL 7) uI (uL 3) (uL 3)))))))))) (fun ((j,c,a,d,e,k,g,b,h,i,l,m,n,_),_) _=>xp7 j c a d e k g b h i l m n) (fun _ p=>AV.bool p) false
def xfr (a:LA) (b:Int) (c f:LA) (d e:Int):=xmG ((xfK (gC a b 0).toList (gC a b 1).toStr c f d e).getD []) ((xh9 (gC a b 0).toList (gC a b 1).toStr c f d e).getD [])
def xgh {T:Type} (n:List UInt8) (i f a j:LA) (o:List UInt8) (k g l m:LA) (b:Int) (c p h:LA) (d e:Int) (δ:T) (κ:Bool->T):T:=br ((xpJ n i f a j o k g l m b c p).isSome) (br (!(xpJ n i f a j o k g l m b c p).getD false) (κ (true)) (br (decide ((↑h.length:Int)>60)) (κ (true)) (br (ixI a b) (br (ixT a b 2 [Sh.list 1,Sh.str] 0) (br ((xfK (gC a b 0).toList (gC a b 1).toStr c h d e).isSome) (br ((xh9 (gC a b 0).toList (gC a b 1).toStr c h d e).isSome) (br ((xfr a b c h d e).isSome) (br ((xfr a b c h d e).getD false) (κ (true)) (κ (false))) δ) δ) δ) δ) δ))) δ
def xhJ (i:List UInt8) (c a d e:LA) (j:List UInt8) (f b g h:LA) (k:Int) (l m p:LA) (n o:Int):=xgh i c a d e j f b g h k l m p n o none some
def xrc:LA->Option (Bool×AV):=fnO (u3 (xJx (xJK (sEq pStr) (xJK (uL 3) (xJK (uL 1) (xJK (uL 2) (xJK (uL 7) (xJK (sEq pStr) (u7 (uL 3) (uL 1) (uL 2) (uL 7) uI (uL 3) (uL 3))))))))) (uL 3) (xJx (u2 uI uI))) (fun ((i,c,a,d,e,j,f,b,g,h,k,l,m,_),q,(n,o,_),_) _=>xgh i c a d e j f b g h k l m q n o) (fun _ p=>AV.bool p) false
theorem xrb:OcOk P0 xJI 4 xrc:=fnC xG3.ok Tryz.func4 40 0 [1000030,1000044,5000024,6000007] [] lk0
end Go.Sim.M
end
