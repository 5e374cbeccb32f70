/- Part 13 of the proof of the law. -/
import Derived.Test.YtnbckejindjgaaaGreatDoorQG12
import Derived.StillTailTactics
set_option linter.unusedVariables false
set_option linter.unusedSimpArgs false
noncomputable section
set_option maxRecDepth 100000
namespace Go.Sim.M
def cmpI (x y:Int):Int:=if x<y then -1 else if y<x then 1 else 0
def orI (x y:Int):Int:=if x=0 then y else x
end Go.Sim.M
namespace Go.Proofs
open Go.RowKit Go.Sim Go.Sim.M Go.Sort Go.Lib
theorem Tryz.cmp_walk (x y:Int) (w:World):Calls Tryz.prog 103 #[.int .i64 x,.int .i64 y] w fun e w'=>e=.returned (.int .i64 (cmpI x y))/\w'=w:=by
 unfold cmpI
 go_enter Tryz.func103,Tryz.ntmps103
 go_wp2
 all_goals (go_ret;exact ⟨rfl,rfl⟩)
theorem Tryz.or_walk (x y:Int) (b off c:Nat) (w:World) (h0:w.cell? ⟨b,off,none⟩=some (.int .i64 x)) (h1:w.cell? ⟨b,off+1,none⟩=some (.int .i64 y)):Calls Tryz.prog 102 #[.slice (some ⟨b,off,none⟩) 2 c] w fun e w'=>e=.returned (.int .i64 (orI x y))/\w'=w:=by
 unfold orI;by_cases hx:x=0
 . subst hx;rw [if_pos rfl];by_cases hy:y=0
   . subst hy
     go_enter Tryz.func102,Tryz.ntmps102
     go_wp2
     refine wp_loop_rounds 3 ?_;rw [rounds_succ]
     go_wp2
     rw [rounds_succ]
     go_wp2
     rw [rounds_succ]
     go_wp2
     go_ret
     exact ⟨rfl,rfl⟩
   . have hy':(y != 0)=true:=by simpa using hy
     go_enter Tryz.func102,Tryz.ntmps102
     go_wp2
     refine wp_loop_rounds 3 ?_;rw [rounds_succ]
     go_wp2
     rw [rounds_succ]
     go_wp2
     go_ret
     exact ⟨rfl,rfl⟩
 . have hx':(x != 0)=true:=by simpa using hx
   rw [if_neg hx]
   go_enter Tryz.func102,Tryz.ntmps102
   go_wp2
   refine wp_loop_rounds 3 ?_;rw [rounds_succ]
   go_wp2
   go_ret
   exact ⟨rfl,rfl⟩
theorem fill2I (u1 u2:Int):Instr.fill (fun i=>some (i*1,1)) ((Array.range (2*1)).map (fun x=>(Value.int .i64 0).cells[x % (Value.int .i64 0).cells.size]!)) [(0,.int .i64 u1),(1,.int .i64 u2)]=some #[.int .i64 u1,.int .i64 u2]:=by
 simp [Instr.fill,Array.range,Value.cells];apply Array.ext
 . simp
 . intro i h1 h2;rcases i with _|_|i
   . simp
   . simp
   . simp at h2;omega
set_option maxHeartbeats 2000000 in
theorem Tryz.levels2_walk (a b c d:Int) (w:World):Calls Tryz.prog 101 #[.agg #[.int .i64 a,.int .i64 b],.agg #[.int .i64 c,.int .i64 d]] w fun e w'=>e=.returned (.int .i64 (orI (cmpI a c) (cmpI b d)))/\∃ q J,w'=Sort.grow (w.drewN q) J:=by
 go_enter Tryz.func101,Tryz.ntmps101
 go_wp2_with (go_at_call 103;skip)
 have g0:(w.alloc (.cells #[.int .i64 a,.int .i64 b] 44)).heap[w.heap.size]?=some (.cells #[.int .i64 a,.int .i64 b] 44 (0,0)):=heap_alloc_new w _;have g1:((w.alloc (.cells #[.int .i64 a,.int .i64 b] 44)).alloc (.cells #[.int .i64 c,.int .i64 d] 44)).heap[w.heap.size+1]?=some (.cells #[.int .i64 c,.int .i64 d] 44 (0,0)):=by
  have:=heap_alloc_new (w.alloc (.cells #[.int .i64 a,.int .i64 b] 44)) (.cells #[.int .i64 c,.int .i64 d] 44);have e:(w.alloc (.cells #[.int .i64 a,.int .i64 b] 44)).heap.size=w.heap.size+1:=by simp
  rwa [e] at this
 have f0:((w.alloc (.cells #[.int .i64 a,.int .i64 b] 44)).alloc (.cells #[.int .i64 c,.int .i64 d] 44)).cell? ⟨w.heap.size,0,none⟩=some (.int .i64 a):=by
  rw [World.cell?_alloc_past _ _ _ (by simp)];simp only [World.cell?,g0];rfl
 have f1:((w.alloc (.cells #[.int .i64 a,.int .i64 b] 44)).alloc (.cells #[.int .i64 c,.int .i64 d] 44)).cell? ⟨w.heap.size,1,none⟩=some (.int .i64 b):=by
  rw [World.cell?_alloc_past _ _ _ (by simp)];simp only [World.cell?,g0];rfl
 have f2:((w.alloc (.cells #[.int .i64 a,.int .i64 b] 44)).alloc (.cells #[.int .i64 c,.int .i64 d] 44)).cell? ⟨w.heap.size+1,0,none⟩=some (.int .i64 c):=by
  simp only [World.cell?,g1];rfl
 have f3:((w.alloc (.cells #[.int .i64 a,.int .i64 b] 44)).alloc (.cells #[.int .i64 c,.int .i64 d] 44)).cell? ⟨w.heap.size+1,1,none⟩=some (.int .i64 d):=by
  simp only [World.cell?,g1];rfl
 have f4:∃ q J,((w.alloc (.cells #[.int .i64 a,.int .i64 b] 44)).alloc (.cells #[.int .i64 c,.int .i64 d] 44))=Sort.grow (w.drewN q) J:=⟨0,_,by rw [alloc_eq_grow,alloc_eq_grow,grow_grow];rfl⟩
 generalize ((w.alloc (.cells #[.int .i64 a,.int .i64 b] 44)).alloc (.cells #[.int .i64 c,.int .i64 d] 44))=W2 at f0 f1 f2 f3 f4 |-;refine wp_region_still_tail 10 (by kernel_rfl) (by kernel_rfl) ?_
 simp only [List.take_succ_cons,List.take_zero,List.drop_succ_cons,List.drop_zero];change wpStill _ _ (World.drew W2) _ _ _;have f0':W2.drew.cell? ⟨w.heap.size,0,none⟩=some (.int .i64 a):=f0;have f1':W2.drew.cell? ⟨w.heap.size,1,none⟩=some (.int .i64 b):=f1;have f2':W2.drew.cell? ⟨w.heap.size+1,0,none⟩=some (.int .i64 c):=f2;have f3':W2.drew.cell? ⟨w.heap.size+1,1,none⟩=some (.int .i64 d):=f3;have f4':∃ q J,W2.drew=Sort.grow (w.drewN q) J:=by obtain ⟨q,J,e⟩:=f4;exact ⟨q+1,J,by rw [e];rfl⟩
 iterate 4 still_step
 still_call (Tryz.cmp_walk _ _ _)
 iterate 4 still_step
 still_call (Tryz.cmp_walk _ _ _)
 refine wpStill_nil ?_;change wpList _ _ _ _ _ (World.drew W2);generalize World.drew W2=W at f0' f1' f2' f3' f4' |-;generalize O:cmpI a c=u1;generalize Q:cmpI b d=u2;obtain ⟨ie,q1,q2,q3⟩:∃ ie,Tryz.prog.info? 3=some ie/\ie.zero=some (.int .i64 0)/\ie.size=1:=⟨(Tryz.prog.info? 3).get (by kernel_rfl),(Option.some_get _).symm,by kernel_rfl,by kernel_rfl⟩
 refine wpList_buildSlice rfl 23 3 2 _ rfl #[.int .i64 u1,.int .i64 u2] ie (.int .i64 0) (by kernel_rfl) q1 q2 (by rw [q3];decide) (by rw [q3];decide) (by rw [q3];refine Eq.trans (congrArg _ ?_) (fill2I u1 u2);simp [Act.eval]) ?_
 simp only [Act.put]
 go_wp2_with fail
 have g2:(W.alloc (.cells #[.int .i64 u1,.int .i64 u2] 3)).heap[W.heap.size]?=some (.cells #[.int .i64 u1,.int .i64 u2] 3 (0,0)):=heap_alloc_new W _;refine (Tryz.or_walk u1 u2 W.heap.size 0 2 (W.alloc (.cells #[.int .i64 u1,.int .i64 u2] 3)) (by simp only [World.cell?,g2];rfl) (by simp only [World.cell?,g2];rfl)).mono ?_
 rintro e w' ⟨rfl,rfl⟩
 go_wp2
 go_ret
 obtain ⟨q,J,hq⟩:=f4';exact ⟨by rw [O,Q];rfl,q,_,by rw [hq,alloc_eq_grow,grow_grow]⟩
end Go.Proofs
namespace Go.Sim.M
abbrev TyE:Type:=Fin 1099511627777×Int×Int
def intsE (x:TyE):List Int:=[(x.1.val:Int),x.2.1,x.2.2]
def cmpE (x y:TyE):Int:=(x.1.val:Int) - (y.1.val:Int)
end Go.Sim.M
namespace Go.Proofs
open Go.RowKit Go.Sim Go.Sim.M Go.Sort
set_option maxHeartbeats 1000000 in
theorem Tryz.walkE (a b c a' b' c' r:Int) (hr:IntKind.i64.wrap (a - a')=r) (W:World):Calls Tryz.prog 129 #[.agg #[.int .i64 a,.int .i64 b,.int .i64 c],.agg #[.int .i64 a',.int .i64 b',.int .i64 c']] W fun e w'=>e=.returned (.int .i64 r)/\∃ q os',w'=Sort.grow (W.drewN q) os':=by
 go_enter Tryz.func129,Tryz.ntmps129
 go_wp2
 go_ret
 subst hr;exact ⟨rfl,0,_,by rw [alloc_eq_grow,alloc_eq_grow,grow_grow];rfl⟩
end Go.Proofs
namespace Go.Sim.M
open Go.RowKit Go.Proofs Go.Sort
def isE:AV->Bool
 | .agg [.int .i64 a,.int .i64 _,.int .i64 _]=>decide (0<=a)&&decide (a<=1099511627776)
 | _=>false
def decE:AV->TyE
 | .agg [.int _ a,.int _ b,.int _ c]=>(Fin.ofNat 1099511627777 a.toNat,b,c)
 | _=>default
noncomputable def srtE (xs:List AV):List AV:=(pdqL cmpE (xs.map decE)).map (encI intsE)
theorem xHw {x:AV} (h:isE x=true):encI intsE (decE x)=x:=by
 unfold isE at h;split at h
 . rename_i a b c;simp only [Bool.and_eq_true,decide_eq_true_eq] at h;have:a.toNat % 1099511627777=a.toNat:=Nat.mod_eq_of_lt (by omega)
   simp only [decE,encI,intsE,List.map_cons,List.map_nil,Fin.ofNat,this,Int.toNat_of_nonneg h.1]
 . simp at h
theorem xGf {xs:List AV} (h:xs.all isE=true):(xs.map decE).map (encI intsE)=xs:=by
 rw [List.map_map]
 conv=>rhs;rw [<-List.map_id xs]
 refine List.map_congr_left fun x hx=>?_
 exact xHw (List.all_eq_true.1 h x hx)
theorem ltE (x y:TyE):ltOf cmpE x y=decide (x.1.val<y.1.val):=by
 unfold ltOf cmpE;by_cases h:x.1.val<y.1.val
 . rw [decide_eq_true h,decide_eq_true (by omega)]
 . rw [decide_eq_false h,decide_eq_false (by omega)]
theorem swoE:SWO (ltOf cmpE) where
 irrefl x:=by rw [ltE];simp
 trans x y z h1 h2:=by rw [ltE] at *;simp at *;omega
 ntrans x y z h1 h2:=by rw [ltE] at *;simp at *;omega
noncomputable def xzM:List AV->List Box->Option (Bool×AV×List Box)
 | [.osl (.b 0) ver 0 n,.func g []],[⟨ver',3,ty,xs,false,true⟩]=>match Nat.beq g 129&&Nat.beq ty 137 with
  | true=>some (Nat.beq ver ver'&&(Nat.beq n xs.length&&(decide (n<4611686018427387904)&&xs.all isE)),.tuple [],[⟨ver',3,137,srtE xs,false,true⟩])
  | false=>none
 | _,_=>none
theorem xJh:OmOk Tryz.prog xMv 128 xzM:=fun Q H r H' h=>by
 unfold xzM at h;split at h
 . rename_i ver n g O ty xs;split at h
   case h_2=>simp at h
   rename_i hg;simp only [Bool.and_eq_true] at hg;obtain rfl:=Nat.eq_of_beq_eq_true hg.1;obtain rfl:=Nat.eq_of_beq_eq_true hg.2;simp only [Option.some.injEq,Prod.mk.injEq,Bool.and_eq_true,decide_eq_true_eq] at h;obtain ⟨⟨h1,h2,h3,h4⟩,rfl,rfl⟩:=h;obtain rfl:=Nat.eq_of_beq_eq_true h1;obtain rfl:=Nat.eq_of_beq_eq_true h2;have q:∃ ti,xLO Tryz.prog 137=some ti/\ti.sz=3/\ti.agg=true:=by
    have h:(match xLO Tryz.prog 137 with|some ti=>(ti.sz==3)&&ti.agg|none=>false)=true:=by kernel_rfl
    split at h
    . rename_i ti q;simp only [Bool.and_eq_true,beq_iff_eq] at h;exact ⟨ti,q,h.1,h.2⟩
    . simp at h
   obtain ⟨ti,q,hz,ha⟩:=q;have J:=xqK (P:=Tryz.prog) (Inv:=xMv) Tryz.srl128 3 (by decide) (fun w=>by rw [<-ha];exact xkW q w) (fun w=>by rw [<-hz];exact xcG q w)
    intsE (fun _=>rfl) cmpE swoE 129 rfl (xdU Tryz.func128 rfl (by kernel_rfl)) (xmW (xdU Tryz.func129 rfl (by kernel_rfl)))
    (fun x y W=>Tryz.walkE _ _ _ _ _ _ (cmpE x y) (by
     have:=x.1.isLt;have:=y.1.isLt;unfold cmpE;exact xbn (by omega) (by omega)) W)
    ver 137 rfl (xs.map decE) (by simpa using h3)
   rw [List.length_map,xGf h4] at J;exact J
 . simp at h
end Go.Sim.M
namespace Go.Sim.M
abbrev TyS:Type:=Fin 1099511627777×Int
def intsS (x:TyS):List Int:=[(x.1.val:Int),x.2]
def cmpS (x y:TyS):Int:=(x.1.val:Int) - (y.1.val:Int)
end Go.Sim.M
namespace Go.Proofs
open Go.RowKit Go.Sim Go.Sim.M Go.Sort
set_option maxHeartbeats 1000000 in
theorem Tryz.walkS (a b a' b' r:Int) (hr:IntKind.i64.wrap (a - a')=r) (W:World):Calls Tryz.prog 137 #[.agg #[.int .i64 a,.int .i64 b],.agg #[.int .i64 a',.int .i64 b']] W fun e w'=>e=.returned (.int .i64 r)/\∃ q os',w'=Sort.grow (W.drewN q) os':=by
 go_enter Tryz.func137,Tryz.ntmps137
 go_wp2
 go_ret
 subst hr;exact ⟨rfl,0,_,by rw [alloc_eq_grow,alloc_eq_grow,grow_grow];rfl⟩
end Go.Proofs
namespace Go.Sim.M
open Go.RowKit Go.Proofs Go.Sort
def isS:AV->Bool
 | .agg [.int .i64 a,.int .i64 _]=>decide (0<=a)&&decide (a<=1099511627776)
 | _=>false
def decS:AV->TyS
 | .agg [.int _ a,.int _ b]=>(Fin.ofNat 1099511627777 a.toNat,b)
 | _=>default
noncomputable def srtS (xs:List AV):List AV:=(pdqL cmpS (xs.map decS)).map (encI intsS)
theorem xHz {x:AV} (h:isS x=true):encI intsS (decS x)=x:=by
 unfold isS at h;split at h
 . rename_i a b;simp only [Bool.and_eq_true,decide_eq_true_eq] at h;have:a.toNat % 1099511627777=a.toNat:=Nat.mod_eq_of_lt (by omega)
   simp only [decS,encI,intsS,List.map_cons,List.map_nil,Fin.ofNat,this,Int.toNat_of_nonneg h.1]
 . simp at h
theorem xGh {xs:List AV} (h:xs.all isS=true):(xs.map decS).map (encI intsS)=xs:=by
 rw [List.map_map]
 conv=>rhs;rw [<-List.map_id xs]
 refine List.map_congr_left fun x hx=>?_
 exact xHz (List.all_eq_true.1 h x hx)
theorem ltS (x y:TyS):ltOf cmpS x y=decide (x.1.val<y.1.val):=by
 unfold ltOf cmpS;by_cases h:x.1.val<y.1.val
 . rw [decide_eq_true h,decide_eq_true (by omega)]
 . rw [decide_eq_false h,decide_eq_false (by omega)]
theorem swoS:SWO (ltOf cmpS) where
 irrefl x:=by rw [ltS];simp
 trans x y z h1 h2:=by rw [ltS] at *;simp at *;omega
 ntrans x y z h1 h2:=by rw [ltS] at *;simp at *;omega
noncomputable def xzO:List AV->List Box->Option (Bool×AV×List Box)
 | [.osl (.b 0) ver 0 n,.func g []],[⟨ver',2,ty,xs,false,true⟩]=>match Nat.beq g 137&&Nat.beq ty 148 with
  | true=>some (Nat.beq ver ver'&&(Nat.beq n xs.length&&(decide (n<4611686018427387904)&&xs.all isS)),.tuple [],[⟨ver',2,148,srtS xs,false,true⟩])
  | false=>none
 | _,_=>none
theorem xJj:OmOk Tryz.prog xMv 136 xzO:=fun Q H r H' h=>by
 unfold xzO at h;split at h
 . rename_i ver n g O ty xs;split at h
   case h_2=>simp at h
   rename_i hg;simp only [Bool.and_eq_true] at hg;obtain rfl:=Nat.eq_of_beq_eq_true hg.1;obtain rfl:=Nat.eq_of_beq_eq_true hg.2;simp only [Option.some.injEq,Prod.mk.injEq,Bool.and_eq_true,decide_eq_true_eq] at h;obtain ⟨⟨h1,h2,h3,h4⟩,rfl,rfl⟩:=h;obtain rfl:=Nat.eq_of_beq_eq_true h1;obtain rfl:=Nat.eq_of_beq_eq_true h2;have q:∃ ti,xLO Tryz.prog 148=some ti/\ti.sz=2/\ti.agg=true:=by
    have h:(match xLO Tryz.prog 148 with|some ti=>(ti.sz==2)&&ti.agg|none=>false)=true:=by kernel_rfl
    split at h
    . rename_i ti q;simp only [Bool.and_eq_true,beq_iff_eq] at h;exact ⟨ti,q,h.1,h.2⟩
    . simp at h
   obtain ⟨ti,q,hz,ha⟩:=q;have J:=xqK (P:=Tryz.prog) (Inv:=xMv) Tryz.srl136 2 (by decide) (fun w=>by rw [<-ha];exact xkW q w) (fun w=>by rw [<-hz];exact xcG q w)
    intsS (fun _=>rfl) cmpS swoS 137 rfl (xdU Tryz.func136 rfl (by kernel_rfl)) (xmW (xdU Tryz.func137 rfl (by kernel_rfl)))
    (fun x y W=>Tryz.walkS _ _ _ _ (cmpS x y) (by
     have:=x.1.isLt;have:=y.1.isLt;unfold cmpS;exact xbn (by omega) (by omega)) W)
    ver 148 rfl (xs.map decS) (by simpa using h3)
   rw [List.length_map,xGh h4] at J;exact J
 . simp at h
end Go.Sim.M
namespace Go.Sim.M
abbrev TyP:Type:=Int×Int
def intsP (x:TyP):List Int:=[x.1,x.2]
def cmpP (x y:TyP):Int:=orI (cmpI x.1 y.1) (cmpI x.2 y.2)
end Go.Sim.M
namespace Go.Sim.M
open Go.RowKit Go.Proofs Go.Sort
def isP:AV->Bool
 | .agg [.int .i64 _,.int .i64 _]=>true
 | _=>false
def decP:AV->TyP
 | .agg [.int _ a,.int _ b]=>(a,b)
 | _=>default
noncomputable def srtP (xs:List AV):List AV:=(pdqL cmpP (xs.map decP)).map (encI intsP)
theorem xHy {x:AV} (h:isP x=true):encI intsP (decP x)=x:=by
 unfold isP at h;split at h
 . rfl
 . simp at h
theorem xGg {xs:List AV} (h:xs.all isP=true):(xs.map decP).map (encI intsP)=xs:=by
 rw [List.map_map]
 conv=>rhs;rw [<-List.map_id xs]
 refine List.map_congr_left fun x hx=>?_
 exact xHy (List.all_eq_true.1 h x hx)
theorem ltP (x y:TyP):ltOf cmpP x y=decide (x.1<y.1\/x.1=y.1/\x.2<y.2):=by
 unfold ltOf cmpP orI cmpI;by_cases h:x.1<y.1\/x.1=y.1/\x.2<y.2
 . rw [decide_eq_true h];simp only [decide_eq_true_eq];rcases h with h|⟨h,h'⟩
   . simp [h]
   . simp [h,h']
 . rw [decide_eq_false h];simp only [decide_eq_false_iff_not];have h1:¬ x.1<y.1:=fun e=>h (.inl e)
   by_cases h2:y.1<x.1
   . simp [h1,h2]
   . have h3:x.1=y.1:=by omega
     have h4:¬ x.2<y.2:=fun e=>h (.inr ⟨h3,e⟩)
     by_cases h5:y.2<x.2
     . simp [h1,h2,h4,h5]
     . simp [h1,h2,h4,h5]
theorem swoP:SWO (ltOf cmpP) where
 irrefl x:=by rw [ltP];simp
 trans x y z h1 h2:=by rw [ltP] at *;simp only [decide_eq_true_eq] at *;omega
 ntrans x y z h1 h2:=by rw [ltP] at *;simp only [decide_eq_true_eq,decide_eq_false_iff_not] at *;omega
noncomputable def xzN:List AV->List Box->Option (Bool×AV×List Box)
 | [.osl (.b 0) ver 0 n,.func g []],[⟨ver',2,ty,xs,false,true⟩]=>match Nat.beq g 101&&Nat.beq ty 44 with
  | true=>some (Nat.beq ver ver'&&(Nat.beq n xs.length&&(decide (n<4611686018427387904)&&xs.all isP)),.tuple [],[⟨ver',2,44,srtP xs,false,true⟩])
  | false=>none
 | _,_=>none
theorem xJi:OmOk Tryz.prog xMv 100 xzN:=fun Q H r H' h=>by
 unfold xzN at h;split at h
 . rename_i ver n g O ty xs;split at h
   case h_2=>simp at h
   rename_i hg;simp only [Bool.and_eq_true] at hg;obtain rfl:=Nat.eq_of_beq_eq_true hg.1;obtain rfl:=Nat.eq_of_beq_eq_true hg.2;simp only [Option.some.injEq,Prod.mk.injEq,Bool.and_eq_true,decide_eq_true_eq] at h;obtain ⟨⟨h1,h2,h3,h4⟩,rfl,rfl⟩:=h;obtain rfl:=Nat.eq_of_beq_eq_true h1;obtain rfl:=Nat.eq_of_beq_eq_true h2;have q:∃ ti,xLO Tryz.prog 44=some ti/\ti.sz=2/\ti.agg=true:=by
    have h:(match xLO Tryz.prog 44 with|some ti=>(ti.sz==2)&&ti.agg|none=>false)=true:=by kernel_rfl
    split at h
    . rename_i ti q;simp only [Bool.and_eq_true,beq_iff_eq] at h;exact ⟨ti,q,h.1,h.2⟩
    . simp at h
   obtain ⟨ti,q,hz,ha⟩:=q;have J:=xqK (P:=Tryz.prog) (Inv:=xMv) Tryz.srl100 2 (by decide) (fun w=>by rw [<-ha];exact xkW q w) (fun w=>by rw [<-hz];exact xcG q w)
    intsP (fun _=>rfl) cmpP swoP 101 rfl (xdU Tryz.func100 rfl (by kernel_rfl)) (xmW (xdU Tryz.func101 rfl (by kernel_rfl)))
    (fun x y W=>Tryz.levels2_walk _ _ _ _ W)
    ver 44 rfl (xs.map decP) (by simpa using h3)
   rw [List.length_map,xGg h4] at J;exact J
 . simp at h
end Go.Sim.M
end
noncomputable section
namespace Go.Sim.M
open Go.RowKit Go.Proofs
noncomputable def E1:Env:=((xIl.E.withM 136 xzO).withM 100 xzN).withM 128 xzM
theorem xIi:xLP Tryz.prog xMv E1:=((xIl.ok.withM xJj).withM xJi).withM xJh
noncomputable def xKv:EO:=EO.mk E1 xIi
end Go.Sim.M
end
noncomputable section
set_option maxRecDepth 100000
namespace Go.Sim.M
open Go.IntKind (i64 u64 u8)
open Go.RowKit Go.Proofs
def xib:Env:=E1.fn 29 1 (lsOf []) (xMa [])
theorem xy9:xLP P0 (xMv.at 1) xib:=xIi.fn
theorem xvF:LoOk P0 (xMv.at xib.pin) xib (Tryz.f138.body.getD .skip):=xmf (by kernel_rfl)
def xqM {T:Type} (k:Nat) (a n:Int) (b:LA) (δ:T) (κ:Bool×(Nat×LA)×(Nat×LA)->T):T:=br (rmB k b 1 16) (κ (false,(0,[]),(k+1,b++[AV.agg [AV.int .i64 a,AV.int .i64 n]]))) δ
def xtv {T:Type} (k:Nat) (b n:Int) (a:LA) (δ:T) (κ:Bool×(Nat×LA)×(Nat×LA)->T):T:=br (decide ((↑k:Int)>0)) (br (decide (0<=i64.wrap ((↑k:Int) - 1))&&decide (i64.wrap ((↑k:Int) - 1)<(↑k:Int))) (br (decide (0+(i64.wrap ((↑k:Int) - 1)).toNat<a.length)&&xLN (Sh.int .i64) ((a.getD (0+(i64.wrap ((↑k:Int) - 1)).toNat) .top).cells.getD 1 .top)) (br (((a.getD (0+(i64.wrap ((↑k:Int) - 1)).toNat) .top).cells.getD 1 .top).toInt==n) (κ (true,(k,a),(0,[]))) (xqM k b n a δ κ)) δ) δ) (xqM k b n a δ κ)
def xcK (k:Nat) (a n:Int) (b:LA):=xtv k a n b none some
theorem xDv (k:Nat) (a n:Int) (xs:LA):Enc (fun (p:Bool×(Nat×LA)×(Nat×LA))=>((br p.1 ((AV.osl 0 0 0 p.2.1.1,([⟨0,2,148,p.2.1.2,false,true⟩]:List Box))) ((AV.osl 0 1 0 p.2.2.1,([⟨1,2,148,p.2.2.2,false,true⟩]:List Box)))):(AV×List Box))) (xcK k a n xs) (XFM P0 xib Tryz.f138 (Tryz.f138.body.getD .skip) [AV.osl (0:Id) 0 0 k,AV.int .i64 a,AV.int .i64 n] [{ ver:=0,sz:=2,ty:=(148:TypeId),xs:=xs,frz:=false,pm:=true }]):=by
 have h:XFM P0 xib Tryz.f138 (Tryz.f138.body.getD .skip) [AV.osl (0:Id) 0 0 k,AV.int .i64 a,AV.int .i64 n] [{ ver:=0,sz:=2,ty:=(148:TypeId),xs:=xs,frz:=false,pm:=true }]=xtv k a n xs none (fun (p:Bool×(Nat×LA)×(Nat×LA))=>some ((br p.1 ((AV.osl 0 0 0 p.2.1.1,([⟨0,2,148,p.2.1.2,false,true⟩]:List Box))) ((AV.osl 0 1 0 p.2.2.1,([⟨1,2,148,p.2.2.2,false,true⟩]:List Box)))):(AV×List Box))):=by kernel_rfl
 rw [h];unfold xcK xtv xqM;repeat' (first|refine Enc.br ?_ ?_|exact Enc.none|exact Enc.some rfl)
def xDu:LA->List Box->Option (Bool×AV×List Box):=omOf (xMy (sEq (xMJ 0 0 0)) (xMy (sEq (pInt .i64)) (xMy (sEq (pInt .i64)) xMA))) (xMw (xMM 0 2 (148:TypeId) false true xMB) xMz) fun (k,(a,(n,_))) (b,_)=>((xcK k a n b).isSome,(AV.osl 0 1 0 (br ((xcK k a n b).getD (false,(0,[]),(0,[]))).1 ((xcK k a n b).getD (false,(0,[]),(0,[]))).2.1.1 ((xcK k a n b).getD (false,(0,[]),(0,[]))).2.2.1),([⟨1,2,148,(br ((xcK k a n b).getD (false,(0,[]),(0,[]))).1 ((xcK k a n b).getD (false,(0,[]),(0,[]))).2.1.2 ((xcK k a n b).getD (false,(0,[]),(0,[]))).2.2.2),false,true⟩]:List Box)))
theorem xDt:OmOk P0 xMv 138 (xDu):=xtF fun e f j i g=>by
 obtain ⟨k,⟨b,⟨n,_⟩⟩⟩:=e;obtain ⟨h,_⟩:=f;obtain ⟨c,a⟩:=Prod.mk.inj g;have hx:=xDv _ _ _ _ _ (xbH (d:=(false,(0,[]),(0,[]))) c);revert hx a;generalize ((xcK k b n h).getD (false,(0,[]),(0,[])))=p;intro a hx;obtain ⟨rfl,rfl⟩:=Prod.mk.inj a;obtain ⟨t,⟨l,m⟩,o,q⟩:=p;have hg:GoodM P0 xMv 138 _ _ _ _:=xid (p:=xib.pin) (xka xLY (xLZ P0 _) rfl xy9 rfl Tryz.func138 rfl (by kernel_rfl) xvF hx)
 cases t
 . exact hg
 . exact GoodM.bump1 rfl (by decide) hg
def xuY:EO:=xKv.wM xDt
def xl3 {T:Type} (d:LA) (e:Int) (b:Nat) (c:Int) (a:LA) (δ:T) (κl:(Nat×Int×LA)->T) (κr:(Nat×LA)->T):T:=br (decide (c<e)) (br (ixI d c) (br (ixT d c 3 [Sh.int .i64,Sh.int .i64,Sh.int .i64] 0) (br (xfP (gC d c 0).toInt (gC d c 1).toInt) (br (rmB b a 2 16) (κl (b+2,i64.wrap (c+1),a++[AV.agg [AV.int .i64 (gC d c 0).toInt,AV.int .i64 (gC d c 2).toInt],AV.agg [AV.int .i64 (gC d c 1).toInt,AV.int .i64 (i64.wrap (0 - (gC d c 2).toInt))]])) δ) (κl (b,i64.wrap (c+1),a))) δ) δ) (κr (b,a))
def xem (c:LA) (d:Int):StT (Nat×Int×LA) (Nat×LA):=fun (b,e,a)=>xl3 c d b e a none inL inR
def xhx:=xuY.l 106 0 [] [] Tryz.f104 0 lk0 [3,10,11,12] [3] [(3,2,148)] (q4 (xMJ 0 0 0) (qL 3) qI qI) (q1 (qB 0 2 148 xMB)) (fun (b,c,d,e,_) (a,_)=>(xem c d,(b,e,a),fun p=>(.leaf (.exit 0) [AV.osl 0 0 0 p.1] [bF 0 2 148 p.2]))) (0,[]) fun (_,c,d,_,_) _ (b,e,a)=>(((b,c,d,e,()),(a,())),xl3 c d b e a none)
def xtU (i:Int) (a:LA):=decide (0+i.toNat<a.length)
def xuN {T:Type} (b e:Nat) (d i:Int) (a c:LA) (δ:T) (κl:(Int×Int×LA×LA)->T) (κr:(Int×Int×LA×LA)->T):T:=br (decide (i<(↑b:Int))) (br (decide (0<=i)&&decide (i<(↑b:Int))) (br (xtU i a&&xLN (Sh.int .i64) ((a.getD (0+i.toNat) .top).cells.getD 0 .top)) (br (((a.getD (0+i.toNat) .top).cells.getD 0 .top).toInt==0) (br (decide (0<=i)&&decide (i<(↑b:Int))) (br (xtU i a&&xLN (Sh.int .i64) ((a.getD (0+i.toNat) .top).cells.getD 1 .top)) (κl (i64.wrap (d+((a.getD (0+i.toNat) .top).cells.getD 1 .top).toInt),i64.wrap (i+1),a,c)) δ) δ) (κr (d,i,a,c))) δ) δ) (κr (d,i,a,c))
def xiR (b d:Nat):StT (Int×Int×LA×LA) (Int×Int×LA×LA):=fun (e,i,a,c)=>xuN b d e i a c none inL inR
def xkY:=xuY.l 106 0 [] [(3,xhx.lp)] Tryz.f104 1 lk0 [3,6,7,8] [3,6,7,8] [(3,2,148),(6,2,148)] (q4 (xMJ 0 0 0) (xMJ 1 0 0) qI qI) (q2 (qB 0 2 148 xMB) (qB 0 2 148 xMB)) (fun (a,c,e,i,_) (b,d,_)=>(xiR a c,(e,i,b,d),fun p=>(.leaf (.exit 2) [AV.osl 0 0 0 a,AV.osl 1 0 0 c,AV.int .i64 p.1,AV.int .i64 p.2.1] [bF 0 2 148 p.2.2.1,bF 0 2 148 p.2.2.2]))) (0,0,[],[]) fun (a,c,_,_,_) _ (e,i,b,d)=>(((a,c,e,i,()),(b,d,())),xuN a c e i b d none)
def xia (i:Int) (a:LA):=decide (0+i.toNat<a.length)
def xi5 {T:Type} (b f:Nat) (e d i:Int) (a c:LA) (δ:T) (κl:(Int×Int×LA×LA)->T) (κr:(Int×Int×LA×LA)->T):T:=br (decide (i<(↑b:Int))) (br (decide (0<=i)&&decide (i<(↑b:Int))) (br (xia i a&&xLN (Sh.int .i64) ((a.getD (0+i.toNat) .top).cells.getD 0 .top)) (br (((a.getD (0+i.toNat) .top).cells.getD 0 .top).toInt==e) (br (decide (0<=i)&&decide (i<(↑b:Int))) (br (xia i a&&xLN (Sh.int .i64) ((a.getD (0+i.toNat) .top).cells.getD 1 .top)) (κl (i64.wrap (d+((a.getD (0+i.toNat) .top).cells.getD 1 .top).toInt),i64.wrap (i+1),a,c)) δ) δ) (κr (d,i,a,c))) δ) δ) (κr (d,i,a,c))
def xdd (b d:Nat) (e:Int):StT (Int×Int×LA×LA) (Int×Int×LA×LA):=fun (f,i,a,c)=>xi5 b d e f i a c none inL inR
def xkZ:=xuY.l 106 0 [] [(3,xhx.lp),(11,xkY.lp)] Tryz.f104 3 lk0 [3,6,7,8,9] [3,6,7,8,9] [(3,2,148),(6,2,148)] (q5 (xMJ 0 0 0) (xMJ 1 0 0) qI qI qI) (q2 (qB 0 2 148 xMB) (qB 0 2 148 xMB)) (fun (a,c,f,i,e,_) (b,d,_)=>(xdd a c e,(f,i,b,d),fun p=>(.leaf (.exit 6) [AV.osl 0 0 0 a,AV.osl 1 0 0 c,AV.int .i64 p.1,AV.int .i64 p.2.1,AV.int .i64 e] [bF 0 2 148 p.2.2.1,bF 0 2 148 p.2.2.2]))) (0,0,[],[]) fun (a,c,_,_,e,_) _ (f,i,b,d)=>(((a,c,f,i,e,()),(b,d,())),xi5 a c e f i b d none)
def xgO (i:Int) (a:LA):=decide (0+i.toNat<a.length)&&xLN (Sh.int .i64) ((a.getD (0+i.toNat) .top).cells.getD 0 .top)
def xex (i:Int) (a:LA):=((a.getD (0+i.toNat) .top).cells.getD 0 .top).toInt
def xgP (b d:Nat) (e i:Int) (a c:LA):=Iter (xdd b d (xex i a)) (e,i,a,c)
def xh9 (b d:Nat) (e i:Int) (a c:LA):=(xgP b d e i a c).getD (0,0,[],[])
def xh7 (b d:Nat) (e i:Int) (a c:LA):=(xh9 b d e i a c).snd
def xh8 (b d:Nat) (e i:Int) (a c:LA):=(xh9 b d e i a c).fst
def xh6 (b d:Nat) (e i:Int) (a c:LA):=(xh7 b d e i a c).snd
def xh5 (b c:Nat) (e i:Int) (a d:LA):=xcK c (xex i a) (xh8 b c e i a d) (xh6 b c e i a d).snd
def xh4 (b d:Nat) (e i:Int) (a c:LA):=(xh5 b d e i a c).getD (false,(0,[]),0,[])
def xh2 (b d:Nat) (e i:Int) (a c:LA):=(xh4 b d e i a c).fst
def xh3 (b d:Nat) (e i:Int) (a c:LA):=(xh4 b d e i a c).snd
def xh0 (b d:Nat) (e i:Int) (a c:LA):=(xh3 b d e i a c).snd
def xh1 (b d:Nat) (e i:Int) (a c:LA):=(xh3 b d e i a c).fst
def xi4 {T:Type} (b d:Nat) (e i:Int) (a c:LA) (δ:T) (κl:(Nat×Int×Int×LA×LA)->T) (κr:(Nat×LA)->T):T:=br (decide (i<(↑b:Int))) (br (decide (0<=i)&&decide (i<(↑b:Int))) (br (xgO i a) (br (decide (xex i a<1099511627776)) (br (decide (0<=i)&&decide (i<(↑b:Int))) (br (xgO i a) (br ((xgP b d e i a c).isSome) (br ((xh5 b d e i a c).isSome) (κl (br (xh2 b d e i a c) (xh1 b d e i a c).fst (xh0 b d e i a c).fst,xh8 b d e i a c,(xh7 b d e i a c).fst,(xh6 b d e i a c).fst,br (xh2 b d e i a c) (xh1 b d e i a c).snd (xh0 b d e i a c).snd)) δ) δ) δ) δ) (κr (d,c))) δ) δ) (κr (d,c))
def xen (b:Nat):StT (Nat×Int×Int×LA×LA) (Nat×LA):=fun (d,e,i,a,c)=>xi4 b d e i a c none inL inR
def xtV:=xuY.l 106 0 [] [(3,xhx.lp),(11,xkY.lp),(17,xkZ.lp)] Tryz.f104 2 (lk1 xkZ.ok) [3,6,7,8] [6] [(3,2,148),(6,2,148)] (q4 (xMJ 0 0 0) (xMJ 1 0 0) qI qI) (q2 (qB 0 2 148 xMB) (qB 0 2 148 xMB)) (fun (b,d,e,i,_) (a,c,_)=>(xen b,(d,e,i,a,c),fun p=>(.leaf (.exit 4) [AV.osl 0 0 0 p.1] [bF 0 2 148 p.2]))) (0,[]) fun (b,_,_,_,_) _ (d,e,i,a,c)=>(((b,d,e,i,()),(a,c,())),xi4 b d e i a c none)
def xsj (l:LA):=(Iter (xem l (↑l.length:Int)) (0,0,[])).getD (0,[])
def xkD (l:LA):=(xsj l).fst
def xoi (l:LA):=(xsj l).snd
def xsi (l:LA):=Iter (xiR (xkD l) 0) (0,0,srtS (xoi l),[])
def xsh (l:LA):=(xsi l).getD (0,0,[],[])
def xsf (l:LA):=(xsh l).fst
def xsg (l:LA):=(xsh l).snd
def xse (l:LA):=(xsg l).snd
def xtu (l:LA):=xcK 0 0 (xsf l) (xse l).snd
def xtt (l:LA):=(xtu l).getD (false,(0,[]),0,[])
def xtr (l:LA):=(xtt l).fst
def xts (l:LA):=(xtt l).snd
def xtp (l:LA):=(xts l).fst
def xtq (l:LA):=(xts l).snd
def xto (l:LA):=Iter (xen (xkD l)) (br (xtr l) (xtp l).fst (xtq l).fst,xsf l,(xsg l).fst,(xse l).fst,br (xtr l) (xtp l).snd (xtq l).snd)
def xtn (l:LA):=(xto l).getD (0,[])
def xtl (l:LA):=(xtn l).snd
def xtm (l:LA):=(xtn l).fst
def xuu {T:Type} (l:LA) (δ:T) (κ:LA->T):T:=br ((Iter (xem l (↑l.length:Int)) (0,0,[])).isSome) (br ((xkD l).beq (xoi l).length&&(decide (xkD l<4611686018427387904)&&(xoi l).all isS)) (br ((xsi l).isSome) (br ((xtu l).isSome) (br ((xto l).isSome) (br (decide (0+xtm l<=(xtl l).length)&&true) (κ (List.take (xtm l) (List.drop 0 (xtl l)))) δ) δ) δ) δ) δ) δ
def xut (l:LA):=xuu l none some
def xFJ:EO:=xuY.f Tryz.func104 106 0 [] [(3,xhx.lp),(11,xkY.lp),(17,xkZ.lp),(15,xtV.lp)] (lks (lkC xhx.ok (lkC xkY.ok (lkC xtV.ok (lkC xkZ.ok lkN))))) (u1 (uL 3)) (fun (l,_) _=>xuu l) (fun _ p=>AV.list 2 p) []
def xeL {T:Type} (d:LA) (e:Int) (c:Nat) (b:Int) (a:LA) (δ:T) (κl:(Nat×Int×LA)->T) (κr:(Nat×LA)->T):T:=br (decide (b<e)) (br (ixI d b) (br (ixT d b 2 [Sh.int .i64,Sh.int .i64] 0) (br (rmB c a 1 24) (κl (c+1,i64.wrap (b+1),a++[AV.agg [AV.int .i64 (gC d b 0).toInt,AV.int .i64 (gC d b 1).toInt,AV.int .i64 1]])) δ) δ) δ) (κr (c,a))
def xbi (c:LA) (d:Int):StT (Nat×Int×LA) (Nat×LA):=fun (b,e,a)=>xeL c d b e a none inL inR
def xlz:=xFJ.l 20 0 [] [] Tryz.f66 0 lk0 [3,6,7,8] [3] [(3,3,155)] (q4 (xMJ 0 0 0) (qL 2) qI qI) (q1 (qB 0 3 155 xMB)) (fun (b,c,d,e,_) (a,_)=>(xbi c d,(b,e,a),fun p=>(.leaf (.exit 0) [AV.osl 0 0 0 p.1] [bF 0 3 155 p.2]))) (0,[]) fun (_,c,d,_,_) _ (b,e,a)=>(((b,c,d,e,()),(a,())),xeL c d b e a none)
def xjn (l:LA):=(Iter (xbi l (↑l.length:Int)) (0,0,[])).getD (0,[])
def xjl (l:LA):=(xjn l).fst
def xjm (l:LA):=(xjn l).snd
def xjk (l:LA):=xut (List.take (xjl l) (List.drop 0 (xjm l)))
def xjW {T:Type} (l:LA) (δ:T) (κ:LA->T):T:=br ((Iter (xbi l (↑l.length:Int)) (0,0,[])).isSome) (br (decide (0+xjl l<=(xjm l).length)&&true) (br ((xjk l).isSome) (κ ((xjk l).getD [])) δ) δ) δ
def xd4 (l:LA):=xjW l none some
def xtw:EO:=xFJ.f Tryz.func66 20 0 [] [(3,xlz.lp)] (lk1 xlz.ok) (u1 (uL 2)) (fun (l,_) _=>xjW l) (fun _ p=>AV.list 2 p) []
def xjC {T:Type} (o n:Int) (e f:Nat) (k p m j:Int) (h l i g a:Nat) (b:LA) (d:Nat) (c:LA) (δ:T) (κl:(Int×Int×Nat×Nat×Nat×Nat×Nat×LA×Nat×LA)->T) (κr:(Int×Nat×Nat×Nat×Nat×LA×Nat×LA×Nat)->T):T:=br (decide (m<p)) (br (a==e) (br (a==e) (br (a==e&&(decide (f<b.length)&&xLN (Sh.int .i64) ((b.getD f .top).cells.getD 0 .top))) (br (d==g&&(rmB i c 1 16)) (κl (i64.wrap (m+1),j,h,l,i+1,g+1,a,List.take h b,g+1,c++[AV.agg [AV.int .i64 ((b.getD f .top).cells.getD 0 .top).toInt,AV.int .i64 o]])) δ) δ) δ) δ) (κr (j,l,h,g,i,b,a,c,d))
def xb7 (m n:Int) (e f:Nat) (k o:Int):StT (Int×Int×Nat×Nat×Nat×Nat×Nat×LA×Nat×LA) (Int×Nat×Nat×Nat×Nat×LA×Nat×LA×Nat):=fun (p,g,h,i,j,l,a,b,c,d)=>xjC m n e f k o p g h i j l a b c d none inL inR
def xip:=xtw.l 71 5 [] [] Tryz.f99 1 lk0 [0,1,2,3,4,7,8,37,38] [0,1,2,3,4,7,8] [(3,0,0)] (q9 qI qI (xMK 0 0 0 0) (xMK 1 0 0 0) (xMK 2 0 0 0) (pOwnV 3 0) qI qI qI) (q5 (qB 0 1 3 (q1 qI)) (xMM 0 1 142 false false (q1 (pOslV 3 0))) (xMM 0 1 47 false false (q1 (pOslV 4 0))) (pBoxV 2 144 false true xMB) (pBoxV 2 44 false true xMB)) (fun (o,n,_,_,_,(e,f),k,q,r,_) ((g,_),((h,i),_),((j,m),_),(a,b),(c,d),_)=>(xb7 o n e f k q,(r,g,i,h,m,j,a,b,c,d),fun p=>(.leaf (.exit 2) [AV.int .i64 o,AV.int .i64 n,AV.own 0 0 0 0,AV.own 1 0 0 0,AV.own 2 0 0 0,AV.own 3 e f 0,AV.int .i64 k] [bF 0 1 3 [AV.int .i64 p.1],⟨0,1,142,[AV.osl 3 p.2.1 0 p.2.2.1],false,false⟩,⟨0,1,47,[AV.osl 4 p.2.2.2.1 0 p.2.2.2.2.1],false,false⟩,bF p.2.2.2.2.2.2.1 2 144 p.2.2.2.2.2.1,bF p.2.2.2.2.2.2.2.2 2 44 p.2.2.2.2.2.2.2.1]))) (0,0,0,0,0,[],0,[],0) fun (o,n,_,_,_,(e,f),k,q,_,_) _ (r,g,i,h,m,j,a,b,c,d)=>(((o,n,(),(),(),(e,f),k,q,r,()),((g,()),((h,i),()),((j,m),()),(a,b),(c,d),())),xjC o n e f k q r g i h m j a b c d none)
def xay (a:Nat):Nat:=0+(i64.wrap ((↑a:Int) - 1)).toNat
def xcB (n b:Int) (c d:Nat) (a:LA):Int:=if i64.wrap (b - n)<((a.getD (xay c) .top).cells.getD 1 .top).toInt then i64.wrap (b - n) else ((a.getD (xay c) .top).cells.getD 1 .top).toInt
def xhb (j n d:Int) (c g h i a:Nat) (b:LA) (e:Nat) (f:LA):=Iter (xb7 j n g (xay c) (xcB n d c a b) (xcB n d c a b)) (0,d,c,g,h,i,a,List.take c b,e,f)
def xe5 (j n e:Int) (f g h i a:Nat) (b:LA) (c:Nat) (d:LA):=(xhb j n e f g h i a b c d).getD (0,0,0,0,0,[],0,[],0)
def xha (j n e:Int) (f g h i a:Nat) (b:LA) (c:Nat) (d:LA):=(xe5 j n e f g h i a b c d).snd
def xea (j n e:Int) (f g h i a:Nat) (b:LA) (c:Nat) (d:LA):=(xha j n e f g h i a b c d).fst
def xg9 (j n e:Int) (f g h i a:Nat) (b:LA) (c:Nat) (d:LA):=(xha j n e f g h i a b c d).snd
def xd9 (j n e:Int) (f g h i a:Nat) (b:LA) (c:Nat) (d:LA):=(xg9 j n e f g h i a b c d).fst
def xe4 (j n e:Int) (f g h i a:Nat) (b:LA) (c:Nat) (d:LA):=(xg9 j n e f g h i a b c d).snd
def xd8 (j n e:Int) (f g h i a:Nat) (b:LA) (c:Nat) (d:LA):=i64.wrap ((↑(xd9 j n e f g h i a b c d):Int) - 1)
def xe3 (j n e:Int) (f g h i a:Nat) (b:LA) (c:Nat) (d:LA):=(xe4 j n e f g h i a b c d).snd
def xg8 (j n e:Int) (f g h i a:Nat) (b:LA) (c:Nat) (d:LA):=(xe3 j n e f g h i a b c d).snd
def xfO (j n e:Int) (f g h i a:Nat) (b:LA) (c:Nat) (d:LA):=(xg8 j n e f g h i a b c d).fst
def xio (j n e:Int) (f g h i a:Nat) (b:LA) (c:Nat) (d:LA):=(xg8 j n e f g h i a b c d).snd
def xb6 (j n f:Int) (g e h i a:Nat) (b:LA) (c:Nat) (d:LA):=(xio j n f g e h i a b c d).fst==e
def xin (j n f:Int) (e g h i a:Nat) (b:LA) (c:Nat) (d:LA):=decide (xay e<(xfO j n f e g h i a b c d).length)
def xd7 (j n f:Int) (e g h i a:Nat) (b:LA) (c:Nat) (d:LA):=((xfO j n f e g h i a b c d).getD (xay e) .top).cells
def xeb (j n e:Int) (f g h i a:Nat) (b:LA) (c:Nat) (d:LA):=(xio j n e f g h i a b c d).snd
def xc9 (j n f:Int) (e g h i a:Nat) (b:LA) (c:Nat) (d:LA):=(xfO j n f e g h i a b c d).set (xay e) (AV.agg (List.take 1 (xd7 j n f e g h i a b c d)++[AV.int .i64 (i64.wrap (((xd7 j n f e g h i a b c d).getD 1 .top).toInt - xcB n f e a b))]++List.drop 2 (xd7 j n f e g h i a b c d)))
def xeP {T:Type} (j n g:Int) (f e h i a:Nat) (b:LA) (c:Nat) (d:LA) (δ:T) (κl:(Int×Nat×Nat×Nat×Nat×Nat×LA×Nat×LA)->T) (κr:(Int×Nat×Nat×Nat×Nat×LA×Nat×LA×Nat)->T):T:=br (decide (g>n)) (br (a==e) (br (a==e&&(decide (0<=i64.wrap ((↑f:Int) - 1))&&decide (i64.wrap ((↑f:Int) - 1)<(↑f:Int)))) (br (a==e) (br (a==e) (br (a==e&&(decide (xay f<b.length)&&xLN (Sh.int .i64) ((b.getD (xay f) .top).cells.getD 1 .top))) (br ((xhb j n g f e h i a b c d).isSome) (br (xb6 j n g f e h i a b c d) (br (xb6 j n g f e h i a b c d) (br (xb6 j n g f e h i a b c d&&(xin j n g f e h i a b c d&&xLN (Sh.int .i64) ((xd7 j n g f e h i a b c d).getD 1 .top))) (br (xb6 j n g f e h i a b c d) (br (xb6 j n g f e h i a b c d) (br (xb6 j n g f e h i a b c d&&xin j n g f e h i a b c d) (br (e==e) (br (e==e) (br (e==e&&(decide (xay f<(xc9 j n g f e h i a b c d).length)&&xLN (Sh.int .i64) (((xc9 j n g f e h i a b c d).getD (xay f) .top).cells.getD 1 .top))) (br ((((xc9 j n g f e h i a b c d).getD (xay f) .top).cells.getD 1 .top).toInt==0) (br (e==xea j n g f e h i a b c d) (br (e==xea j n g f e h i a b c d&&(decide (0<=xd8 j n g f e h i a b c d)&&decide (xd8 j n g f e h i a b c d<=(↑(xd9 j n g f e h i a b c d):Int))&&true)) (κl (i64.wrap ((xe5 j n g f e h i a b c d).fst - xcB n g f a b),(xd8 j n g f e h i a b c d).toNat - 0,xea j n g f e h i a b c d,(xe3 j n g f e h i a b c d).fst,(xe4 j n g f e h i a b c d).fst,e,List.take ((xd8 j n g f e h i a b c d).toNat - 0) (xc9 j n g f e h i a b c d),(xeb j n g f e h i a b c d).snd,(xeb j n g f e h i a b c d).fst)) δ) δ) (κl (i64.wrap ((xe5 j n g f e h i a b c d).fst - xcB n g f a b),xd9 j n g f e h i a b c d,xea j n g f e h i a b c d,(xe3 j n g f e h i a b c d).fst,(xe4 j n g f e h i a b c d).fst,e,List.take (xd9 j n g f e h i a b c d) (xc9 j n g f e h i a b c d),(xeb j n g f e h i a b c d).snd,(xeb j n g f e h i a b c d).fst))) δ) δ) δ) δ) δ) δ) δ) δ) δ) δ) δ) δ) δ) δ) δ) (κr (g,e,f,i,h,b,a,d,c))
def xbu (j n:Int):StT (Int×Nat×Nat×Nat×Nat×Nat×LA×Nat×LA) (Int×Nat×Nat×Nat×Nat×LA×Nat×LA×Nat):=fun (e,f,g,h,i,a,b,c,d)=>xeP j n e f g h i a b c d none inL inR
def xry:=xtw.l 71 5 [] [(7,xip.lp)] Tryz.f99 0 (lk1 xip.ok) [0,1,2,3,4] [] [(3,0,0)] (q5 qI qI (xMK 0 0 0 0) (xMK 1 0 0 0) (xMK 2 0 0 0)) (q5 (qB 0 1 3 (q1 qI)) (xMM 0 1 142 false false (q1 (pOslV 3 0))) (xMM 0 1 47 false false (q1 (pOslV 4 0))) (pBoxV 2 144 false true xMB) (pBoxV 2 44 false true xMB)) (fun (j,n,_,_,_,_) ((e,_),((f,g),_),((h,i),_),(a,b),(c,d),_)=>(xbu j n,(e,g,f,i,h,a,b,c,d),fun p=>(.leaf (.exit 0) [] [bF 0 1 3 [AV.int .i64 p.1],⟨0,1,142,[AV.osl 3 p.2.1 0 p.2.2.1],false,false⟩,⟨0,1,47,[AV.osl 4 p.2.2.2.1 0 p.2.2.2.2.1],false,false⟩,bF p.2.2.2.2.2.2.1 2 144 p.2.2.2.2.2.1,bF p.2.2.2.2.2.2.2.2 2 44 p.2.2.2.2.2.2.2.1]))) (0,0,0,0,0,[],0,[],0) fun (j,n,_,_,_,_) _ (e,g,f,i,h,a,b,c,d)=>(((j,n,(),(),(),()),((e,()),((f,g),()),((h,i),()),(a,b),(c,d),())),xeP j n e g f i h a b c d none)
def xge:Env:=xtw.E.fn 71 5 (lsOf []) (xMa [(7,xip.lp),(3,xry.lp)])
theorem xwS:xLP P0 (xMv.at 5) xge:=xtw.ok.fn
theorem xve:LoOk P0 (xMv.at xge.pin) xge (Tryz.f99.body.getD .skip):=xgY (ls:=[xLT Tryz.f99 0,xLT Tryz.f99 1]) (by kernel_rfl) (lkC xry.ok (lkC xip.ok lkN))
def xkP (a n h:Int) (b c:Nat) (d e:LA):=Iter (xbu a n) (n,b+1,1,c,0,1,List.take (b+1) (d++[AV.agg [AV.int .i64 a,AV.int .i64 (i64.wrap (n - h))]]),0,e)
def xkQ (a n h:Int) (b c:Nat) (d e:LA):=Iter (xbu a n) (h,b,0,c,0,0,List.take b d,0,e)
def xkK (a n h:Int) (b c:Nat) (d e:LA):=(xkP a n h b c d e).getD (0,0,0,0,0,[],0,[],0)
def xkO (a n h:Int) (b c:Nat) (d e:LA):=(xkQ a n h b c d e).getD (0,0,0,0,0,[],0,[],0)
def xlQ (a n h:Int) (b c:Nat) (d e:LA):=(xkK a n h b c d e).snd
def xkN (a n h:Int) (b c:Nat) (d e:LA):=(xkO a n h b c d e).snd
def xlN (a n h:Int) (b c:Nat) (d e:LA):=(xlQ a n h b c d e).snd
def xkM (a n h:Int) (b c:Nat) (d e:LA):=(xkN a n h b c d e).snd
def xlM (a n h:Int) (b c:Nat) (d e:LA):=(xlN a n h b c d e).snd
def xkL (a n h:Int) (b c:Nat) (d e:LA):=(xkM a n h b c d e).snd
def xlL (a n h:Int) (b c:Nat) (d e:LA):=(xlM a n h b c d e).snd
def xkJ (a n h:Int) (b c:Nat) (d e:LA):=(xkL a n h b c d e).snd
def xlK (a n h:Int) (b c:Nat) (d e:LA):=(xlL a n h b c d e).snd
def xlR (a n h:Int) (b c:Nat) (d e:LA):=(xkJ a n h b c d e).snd
def xlJ (a n h:Int) (b c:Nat) (d e:LA):=(xlK a n h b c d e).snd
def xlP (a n h:Int) (b c:Nat) (d e:LA):=(xlR a n h b c d e).snd
def xlI (a n h:Int) (b c:Nat) (d e:LA):=(xlJ a n h b c d e).snd
def xlO (a n h:Int) (b c:Nat) (d e:LA):=(xlP a n h b c d e).snd
def xkd {T:Type} (a n h:Int) (b d:Nat) (c e:LA) (δ:T) (κ:Int×Nat×Nat×Nat×Nat×LA×Nat×LA×Nat->T):T:=br (decide (n>h)) (br (rmB b c 1 16) (br ((xkP a n h b d c e).isSome) (κ ((xkK a n h b d c e).fst,(xlQ a n h b d c e).fst,(xlN a n h b d c e).fst,(xlM a n h b d c e).fst,(xlL a n h b d c e).fst,(xlK a n h b d c e).fst,(xlJ a n h b d c e).fst,(xlI a n h b d c e).fst,(xlI a n h b d c e).snd)) δ) δ) (br ((xkQ a n h b d c e).isSome) (κ ((xkO a n h b d c e).fst,(xkN a n h b d c e).fst,(xkM a n h b d c e).fst,(xkL a n h b d c e).fst,(xkJ a n h b d c e).fst,(xlR a n h b d c e).fst,(xlP a n h b d c e).fst,(xlO a n h b d c e).fst,(xlO a n h b d c e).snd)) δ)
def xkI (a n h:Int) (b c:Nat) (d e:LA):=xkd a n h b c d e none some
theorem xB7 (a n h:Int) (b c:Nat) (d e:LA):Enc (fun (p:Int×Nat×Nat×Nat×Nat×LA×Nat×LA×Nat)=>(((AV.tuple [],([⟨0,1,3,[AV.int .i64 p.1],false,true⟩,⟨0,1,142,[AV.osl 3 p.2.1 0 p.2.2.1],false,false⟩,⟨0,1,47,[AV.osl 4 p.2.2.2.1 0 p.2.2.2.2.1],false,false⟩,⟨p.2.2.2.2.2.2.1,2,144,p.2.2.2.2.2.1,false,true⟩,⟨p.2.2.2.2.2.2.2.2,2,44,p.2.2.2.2.2.2.2.1,false,true⟩]:List Box))):(AV×List Box))) (xkI a n h b c d e) (XFM P0 xge Tryz.f99 (Tryz.f99.body.getD .skip) [AV.int .i64 a,AV.int .i64 n,AV.own (0:Id) 0 0 0,AV.own (1:Id) 0 0 0,AV.own (2:Id) 0 0 0] [{ ver:=0,sz:=1,ty:=(3:TypeId),xs:=[AV.int .i64 h],frz:=false,pm:=true },{ ver:=0,sz:=1,ty:=(142:TypeId),xs:=[AV.osl (3:Id) 0 0 b],frz:=false,pm:=false },{ ver:=0,sz:=1,ty:=(47:TypeId),xs:=[AV.osl (4:Id) 0 0 c],frz:=false,pm:=false },{ ver:=0,sz:=2,ty:=(144:TypeId),xs:=d,frz:=false,pm:=true },{ ver:=0,sz:=2,ty:=(44:TypeId),xs:=e,frz:=false,pm:=true }]):=by
 have h:XFM P0 xge Tryz.f99 (Tryz.f99.body.getD .skip) [AV.int .i64 a,AV.int .i64 n,AV.own (0:Id) 0 0 0,AV.own (1:Id) 0 0 0,AV.own (2:Id) 0 0 0] [{ ver:=0,sz:=1,ty:=(3:TypeId),xs:=[AV.int .i64 h],frz:=false,pm:=true },{ ver:=0,sz:=1,ty:=(142:TypeId),xs:=[AV.osl (3:Id) 0 0 b],frz:=false,pm:=false },{ ver:=0,sz:=1,ty:=(47:TypeId),xs:=[AV.osl (4:Id) 0 0 c],frz:=false,pm:=false },{ ver:=0,sz:=2,ty:=(144:TypeId),xs:=d,frz:=false,pm:=true },{ ver:=0,sz:=2,ty:=(44:TypeId),xs:=e,frz:=false,pm:=true }]=xkd a n h b c d e none (fun (p:Int×Nat×Nat×Nat×Nat×LA×Nat×LA×Nat)=>some (((AV.tuple [],([⟨0,1,3,[AV.int .i64 p.1],false,true⟩,⟨0,1,142,[AV.osl 3 p.2.1 0 p.2.2.1],false,false⟩,⟨0,1,47,[AV.osl 4 p.2.2.2.1 0 p.2.2.2.2.1],false,false⟩,⟨p.2.2.2.2.2.2.1,2,144,p.2.2.2.2.2.1,false,true⟩,⟨p.2.2.2.2.2.2.2.2,2,44,p.2.2.2.2.2.2.2.1,false,true⟩]:List Box))):(AV×List Box))):=by kernel_rfl
 rw [h];unfold xkI xkd;repeat' (first|refine Enc.br ?_ ?_|exact Enc.none|exact Enc.some rfl)
end Go.Sim.M
end
noncomputable section
set_option maxRecDepth 100000
namespace Go.Sim
open Go.RowKit
theorem GoodM.aged {P:Program} {Inv:IV} {f:FuncId} {args:List AV} {H E:List Box} {p q v k t s y:Nat} {xs:List AV}
  (h:GoodM P Inv f args H (.tuple []) E) (hz:∀ bx,H[q]?=some bx->bx.ver=0)
  (ep:E[p]?=some ⟨0,1,t,[.osl (.b q) v 0 k],false,false⟩) (eq:E[q]?=some ⟨v,s,y,xs,false,true⟩) (pt:isC t=false) (py:isC y=false)
  (ho:∀ n bx,E[n]?=some bx->isC bx.ty=false/\(n=p\/n=q\/bx.pm=true\/∃ n' v' k',n'≠q/\bx.xs=[.osl (.b n') v' 0 k'])) :
  GoodM P Inv f args H (.tuple []) ((E.set p ⟨0,1,t,[.osl (.b q) 1 0 k],false,false⟩).set q ⟨1,s,y,xs,false,true⟩):=by
 have pq:p≠q:=fun e=>by
  subst e;rw [ep] at eq;simp at eq
 refine ⟨h.1,fun w0 w A M vs hI hB hR ac=>(h.2 w0 w A M vs hI hB hR ac).mono ?_⟩
 rintro e w' ⟨u,A',M',rfl,h1,h2,h3,h4,h5⟩;let M'':Id->Option MB:=fun id=>if id=.b q then (M' id).map fun m=>⟨m.b,1,m.sz,m.cap,m.ty⟩ else M' id
 have eo:∀ id,id≠.b q->M'' id=M' id:=fun id g1=>if_neg g1
 have e4:∀ m,M' (.b q)=some m->M'' (.b q)=some ⟨m.b,1,m.sz,m.cap,m.ty⟩:=fun m hm=>(if_pos rfl).trans (by rw [hm];rfl)
 have O:∀ id m1,M'' id=some m1->∃ m0,M' id=some m0/\m1.b=m0.b/\m1.cap=m0.cap:=fun id m1 J=>by
  by_cases g3:id=.b q
  . subst g3;cases hm:M' (.b q) with
    | none=>simp [M'',hm] at J
    | some m=>rw [e4 m hm] at J;simp only [z6] at J;subst J;exact ⟨m,rfl,rfl,rfl⟩
  . exact ⟨m1,eo id g3▸J,rfl,rfl⟩
 have Q:∀ n bx m,E[n]?=some bx->M' (.b n)=some m->BoxAt w' A' M' w0.heap.size (.b n) m bx:=fun n bx m hn hm=>by
  obtain ⟨bx',g1,g2⟩:=h4.box _ m hm;rw [xbt,hn] at g1;cases g1;exact g2
 have hv:∀ m,M' (.b q)=some m->v=m.ver:=fun m hm=>(Q q _ m eq hm).ver
 have hx:∀ c n' v' k',n'≠q->Rel w' A' M' c (.osl (.b n') v' 0 k')->Rel w' A' M'' c (.osl (.b n') v' 0 k'):=fun c n' v' k' hn hr=>by
  obtain ⟨m0,g1,g2,g3,g4⟩:=Rel.osl_inv hr;exact .osl c _ v' 0 k' m0 ((eo _ fun e=>hn (by cases e;rfl)).trans g1) g2 g3 g4
 have hy:∀ c,Rel w' A' M' c (.osl (.b q) v 0 k)->Rel w' A' M'' c (.osl (.b q) 1 0 k):=fun c hr=>by
  obtain ⟨m0,g1,g2,g3,g4⟩:=Rel.osl_inv hr;exact .osl c _ 1 0 k _ (e4 m0 g1) (zd _) g3 fun _=>g4 (hv m0 g1)
 have hb:∀ id (bx bx':Box) (m m':MB),isC bx.ty=false->bx'=⟨m'.ver,bx.sz,bx.ty,bx'.xs,bx.frz,bx.pm⟩->m'=⟨m.b,m'.ver,m.sz,m.cap,m.ty⟩->bx'.xs.length=bx.xs.length->(∀ x,x∈bx'.xs->x.okElem m.sz=true) ->
   (∀ c i j,Rel w' A' (MP M' bx.pm) c ((bx.xs.getD i .top).cells.getD j .top)->Rel w' A' (MP M'' bx.pm) c ((bx'.xs.getD i .top).cells.getD j .top))->BoxAt w' A' M' w0.heap.size id m bx->BoxAt w' A' M'' w0.heap.size id m' bx':=fun id bx bx' m m' U W Y hl ab hc g=>by
  rw [W,Y];have V:xLR m.ty=false:=g.nomap (xas U);refine ⟨rfl,g.sz,g.ty,g.capm,hl▸g.fits,ab,g.low,g.lt,fun h0=>?_,g.guard⟩
  obtain ⟨c,c1,c2,c3⟩:=g.cells h0;refine ⟨c,.of V (c1.plain V),c2,fun i j hi hj=>?_⟩
  have:=c3 i j (hl▸hi) hj;rw [xam U,xaL U] at this;rw [xam U,xaL (bx:=⟨m'.ver,bx.sz,bx.ty,bx'.xs,bx.frz,bx.pm⟩) U];exact hc _ i j this
 have ht:∀ a v1 v2 d,(∀ c,Rel w' A' M' c (.osl a v1 0 d)->Rel w' A' M'' c (.osl a v2 0 d))->∀ c i j,Rel w' A' M' c ((([.osl a v1 0 d]:List AV).getD i .top).cells.getD j .top)->Rel w' A' M'' c ((([.osl a v2 0 d]:List AV).getD i .top).cells.getD j .top):=fun a v1 v2 d hh c i j hr=>by
  match i,j with
  | 0,0=>exact hh c hr
  | 0,j+1=>exact .top _
  | i+1,0=>exact .top _
  | i+1,j+1=>exact .top _
 have hg:∀ n bx,E[n]?=some bx->∃ bx',((E.set p ⟨0,1,t,[.osl (.b q) 1 0 k],false,false⟩).set q ⟨1,s,y,xs,false,true⟩)[n]?=some bx'/\isC bx'.ty=false/\(∀ m m1,M' (.b n)=some m->M'' (.b n)=some m1->BoxAt w' A' M'' w0.heap.size (.b n) m1 bx'):=fun n bx hn=>by
  have hn':=xcA hn;obtain ⟨hC,hc⟩:=ho n bx hn;by_cases g1:n=q
  . subst g1;rw [hn] at eq;cases eq;refine ⟨_,zL (by simpa using hn'),py,fun m m1 e1 e2=>?_⟩
    rw [e4 m e1] at e2;cases e2;have g:=Q n _ m hn e1;exact hb _ ⟨v,s,y,xs,false,true⟩ ⟨1,s,y,xs,false,true⟩ m _ py rfl rfl rfl g.ok (fun c i j hr=>hr) g
  . have ge:∀ m m1,M' (.b n)=some m->M'' (.b n)=some m1->m1=m:=fun m m1 e1 e2=>by
     rw [eo _ fun e=>g1 (by cases e;rfl),e1] at e2;cases e2;rfl
    by_cases g2:n=p
    . subst g2;rw [hn] at ep;cases ep;refine ⟨_,(zX (Ne.symm g1)).trans (zL hn'),pt,fun m m1 e1 e2=>?_⟩
      cases ge m m1 e1 e2;have g:=Q n _ m hn e1;have hv:0=m.ver:=g.ver;have hz:m.sz=1:=g.sz.symm;exact hb _ ⟨0,1,t,[.osl (.b q) v 0 k],false,false⟩ ⟨0,1,t,[.osl (.b q) 1 0 k],false,false⟩ m m pt (by rw [<-hv]) rfl rfl (fun x hx=>by simp only [zv] at hx;subst hx;rw [hz];rfl) (ht _ _ _ _ hy) g
    . refine ⟨bx,(zX (Ne.symm g1)).trans ((zX (Ne.symm g2)).trans hn),hC,fun m m1 e1 e2=>?_⟩
      cases ge m m1 e1 e2;have g:=Q n _ m hn e1;refine hb _ bx bx m m hC (by rw [<-g.ver]) rfl rfl g.ok ?_ g
      rcases hc with hc|hc|hc|⟨n',v',k',hc,hd⟩
      . exact absurd hc g2
      . exact absurd hc g1
      . rw [hc];exact fun c i j hr=>hr
      . cases ad:bx.pm with
        | true=>exact fun c i j hr=>hr
        | false=>rw [hd];exact ht _ _ _ _ fun c=>hx c n' v' k' hc
 have hR':HR w' A' M'' w0.heap.size ((E.set p ⟨0,1,t,[.osl (.b q) 1 0 k],false,false⟩).set q ⟨1,s,y,xs,false,true⟩):=by
  refine ⟨fun id m1 J=>?_,fun id id' m1 m2 k1 k2 c1 c2 he=>?_,h4.lt⟩
  . obtain ⟨m0,g1,_⟩:=O id m1 J;obtain ⟨bx,q1,q2⟩:=h4.box _ m0 g1;cases id with
    | r n i j =>
     rw [eo _ (fun e=>by cases e),g1] at J
     cases J;obtain ⟨c0,r1,_⟩:=xpH q1;obtain ⟨bx',r2,r3,_⟩:=hg n c0 r1;rw [xdi r1 (ho n c0 r1).1] at q1;cases q1;exact ⟨_,xdi r2 r3,hb _ tombB tombB m1 m1 rfl (by rw [<-q2.ver]) rfl rfl q2.ok (fun c i j hr=>hr) q2⟩
    | b n =>
     obtain ⟨bx',r2,_,r3⟩:=hg n bx q1;exact ⟨bx',r2,r3 _ _ g1 J⟩
  . obtain ⟨n1,a1,a2,a3⟩:=O id m1 k1;obtain ⟨n2,b1,b2,b3⟩:=O id' m2 k2;exact h4.inj id id' n1 n2 a1 b1 (a3▸c1) (b3▸c2) (by rw [<-a2,<-b2,he])
 refine ⟨u,A',M'',rfl,h1,h2,⟨h3.size,h3.keep,h3.less,h3.more,fun id m Z hm=>?_,fun id m1 J h0=>?_⟩,hR',?_⟩
 . obtain ⟨m',g1,g2⟩:=h3.ids id m Z hm;by_cases q4:id=.b q
   . subst q4;obtain ⟨bx,r1,r2⟩:=hR.box _ m hm;exact ⟨_,e4 m' g1,.inr (by rw [<-r2.ver,hz bx r1];exact Nat.zero_lt_one)⟩
   . exact ⟨m',(eo id q4).trans g1,g2⟩
 . obtain ⟨m0,g1,g2,g3⟩:=O id m1 J;rw [g2];exact h3.src id m0 g1 (g3▸h0)
 . obtain ⟨aa,rfl,q1,_⟩:=h5.tuple_inv;exact .tuple aa [] q1 (by simp)
namespace M
open Go.Proofs
noncomputable def set2 (q n h:Int) (ns no:Nat) (sx ox:List AV):Option (Int×Nat×Nat×List AV×List AV):=(xkI q n h ns no sx ox).bind fun p =>
 br (Nat.beq p.2.1 p.2.2.2.2.2.2.1&&Nat.beq p.2.2.2.1 p.2.2.2.2.2.2.2.2) (some (p.1,p.2.2.1,p.2.2.2.2.1,p.2.2.2.2.2.1,p.2.2.2.2.2.2.2.1)) none
noncomputable def xG6:List AV->List Box->Option (Bool×AV×List Box):=omOf (xMy (sEq (pInt IntKind.i64)) (xMy (sEq (pInt IntKind.i64)) (xMy (sEq (xMK 0 0 0 0)) (xMy (sEq (xMK 1 0 0 0)) (xMy (sEq (xMK 2 0 0 0)) xMA)))))
 (xMw (xMM 0 1 3 false true (xMw (pInt IntKind.i64) xMz)) (xMw (xMM 0 1 142 false false (xMw (xMJ 3 0 0) xMz)) (xMw (xMM 0 1 47 false false (xMw (xMJ 4 0 0) xMz)) (xMw (xMM 0 2 144 false true xMB) (xMw (xMM 0 2 44 false true xMB) xMz)))))
 fun (q,(n,(_,(_,(_,_))))) ((h,_),((ns,_),((no,_),(sx,(ox,_)))))=>((set2 q n h ns no sx ox).isSome,(.tuple [],[⟨0,1,3,[.int .i64 ((set2 q n h ns no sx ox).getD (0,0,0,[],[])).1],false,true⟩,⟨0,1,142,[.osl (.b 3) 1 0 ((set2 q n h ns no sx ox).getD (0,0,0,[],[])).2.1],false,false⟩,⟨0,1,47,[.osl (.b 4) 1 0 ((set2 q n h ns no sx ox).getD (0,0,0,[],[])).2.2.1],false,false⟩,⟨1,2,144,((set2 q n h ns no sx ox).getD (0,0,0,[],[])).2.2.2.1,false,true⟩,⟨1,2,44,((set2 q n h ns no sx ox).getD (0,0,0,[],[])).2.2.2.2,false,true⟩]))
theorem xKk:OmOk P0 xMv 99 xG6:=xtF fun vv bb rr Y hh=>by
 obtain ⟨J,⟨n,⟨_,⟨_,⟨_,_⟩⟩⟩⟩⟩:=vv;obtain ⟨⟨h,_⟩,⟨⟨ns,_⟩,⟨⟨no,_⟩,⟨sx,⟨ox,_⟩⟩⟩⟩⟩:=bb;obtain ⟨O,V⟩:=Prod.mk.inj hh;cases hs:xkI J n h ns no sx ox with
 | none=>rw [show set2 J n h ns no sx ox=none by unfold set2;rw [hs];rfl] at O;simp at O
 | some p =>
  have Q:set2 J n h ns no sx ox=br (Nat.beq p.2.1 p.2.2.2.2.2.2.1&&Nat.beq p.2.2.2.1 p.2.2.2.2.2.2.2.2) (some (p.1,p.2.2.1,p.2.2.2.2.1,p.2.2.2.2.2.1,p.2.2.2.2.2.2.2.1)) none:=by unfold set2;rw [hs];rfl
  cases ht:Nat.beq p.2.1 p.2.2.2.2.2.2.1&&Nat.beq p.2.2.2.1 p.2.2.2.2.2.2.2.2 with
  | false=>rw [Q,ht] at O;simp [br] at O
  | true =>
   rw [ht] at Q;have W:set2 J n h ns no sx ox=some (p.1,p.2.2.1,p.2.2.2.2.1,p.2.2.2.2.2.1,p.2.2.2.2.2.2.2.1):=Q;rw [W] at V;simp only [zh] at V;simp only [zf] at ht;have e1:=zg ht.1;have e2:=zg ht.2;have hx:=xB7 J n h ns no sx ox p hs;have hg:GoodM P0 xMv 99 _ _ _ _:=xid (p:=xge.pin) (xka xLY (xLZ P0 _) rfl xwS rfl Tryz.func99 rfl (by kernel_rfl) xve hx)
   rw [<-e1,<-e2] at hg;have U:=GoodM.aged (p:=1) (q:=3) hg (fun bx hb=>by cases hb;rfl) rfl rfl rfl rfl (fun n bx hn=>by
    match n with
    | 0=>cases hn;exact ⟨rfl,.inr (.inr (.inl rfl))⟩
    | 1=>cases hn;exact ⟨rfl,.inl rfl⟩
    | 2=>cases hn;exact ⟨rfl,.inr (.inr (.inr ⟨_,_,_,by decide,rfl⟩))⟩
    | 3=>cases hn;exact ⟨rfl,.inr (.inl rfl)⟩
    | 4=>cases hn;exact ⟨rfl,.inr (.inr (.inl rfl))⟩
    | n+5=>simp at hn)
   have U:=GoodM.aged (p:=2) (q:=4) U (fun bx hb=>by cases hb;rfl) rfl rfl rfl rfl (fun n bx hn=>by
    match n with
    | 0=>cases hn;exact ⟨rfl,.inr (.inr (.inl rfl))⟩
    | 1=>cases hn;exact ⟨rfl,.inr (.inr (.inr ⟨_,_,_,by decide,rfl⟩))⟩
    | 2=>cases hn;exact ⟨rfl,.inl rfl⟩
    | 3=>cases hn;exact ⟨rfl,.inr (.inr (.inl rfl))⟩
    | 4=>cases hn;exact ⟨rfl,.inr (.inl rfl)⟩
    | n+5=>simp at hn)
   obtain ⟨rfl,rfl⟩:=Prod.mk.inj V;exact U
noncomputable def ESet:Env:=xtw.E.withM 99 xG6
theorem xIw:xLP P0 xMv ESet:=xtw.ok.withM xKk
noncomputable def xDI:EO:=EO.mk ESet xIw
end M
end Go.Sim
end
noncomputable section
set_option maxRecDepth 100000
namespace Go.Sim.M
open Go.IntKind (i64 u64 u8)
open Go.RowKit Go.Proofs
def xkC (a:LA) (h b:Int) (f c:Nat) (g:Int) (d e:LA):Int:=if 0>(gC a b 1).toInt then 0 else (gC a b 1).toInt
def xkB (f:LA) (h g:Int) (d a:Nat) (e:Int) (b c:LA):=set2 (gC f g 0).toInt (if 1048576<xkC f h g d a e b c then 1048576 else xkC f h g d a e b c) e a d c b
def xkA (f:LA) (g h:Int) (d a:Nat) (e:Int) (b c:LA):=(xkB f g h d a e b c).getD (0,0,0,[],[])
def xkz (f:LA) (g h:Int) (d a:Nat) (e:Int) (b c:LA):=(xkA f g h d a e b c).snd
def xkw (f:LA) (g h:Int) (d a:Nat) (e:Int) (b c:LA):=(xkz f g h d a e b c).fst
def xky (f:LA) (g h:Int) (d a:Nat) (e:Int) (b c:LA):=(xkz f g h d a e b c).snd
def xkv (f:LA) (g h:Int) (d a:Nat) (e:Int) (b c:LA):=(xky f g h d a e b c).snd
def xhk {T:Type} (g:LA) (h e:Int) (d a:Nat) (f:Int) (b c:LA) (δ:T) (κl:(Int×Nat×Nat×Int×LA×LA)->T) (κr:(Nat×Int×Nat×LA×LA)->T):T:=br (decide (e<h)) (br (ixI g e) (br (ixT g e 2 [Sh.int .i64,Sh.int .i64] 0) (br ((xkB g h e d a f b c).isSome) (κl (i64.wrap (e+1),(xky g h e d a f b c).fst,xkw g h e d a f b c,(xkA g h e d a f b c).fst,(xkv g h e d a f b c).snd,List.take (xkw g h e d a f b c) (xkv g h e d a f b c).fst)) δ) δ) δ) (κr (d,f,a,b,c))
def xcy (f:LA) (g:Int):StT (Int×Nat×Nat×Int×LA×LA) (Nat×Int×Nat×LA×LA):=fun (h,d,a,e,b,c)=>xhk f g h d a e b c none inL inR
def xp3:=xDI.l 30 0 [] [] Tryz.f65 0 lk0 [3,4,6,10,11,12] [3,6] [(3,2,44),(4,2,144),(4,0,0)] (q6 (xMK 0 0 0 0) (xMK 1 0 0 0) (xMb 99 (q3 (xMK 2 0 0 0) (xMK 1 0 0 0) (xMK 0 0 0 0))) (qL 2) qI qI) (q5 (xMM 0 1 47 false false (q1 (xMJ 3 0 0))) (xMM 0 1 142 false false (q1 (xMJ 4 0 0))) (qB 0 1 3 (q1 qI)) (qB 0 2 44 xMB) (qB 0 2 144 xMB)) (fun (_,_,(_,_,_,_),f,g,h,_) ((d,_),(a,_),(e,_),b,c,_)=>(xcy f g,(h,d,a,e,b,c),fun p=>(.leaf (.exit 0) [AV.own 0 0 0 0,AV.func 99 [AV.own 1 0 0 0,AV.own 2 0 0 0,AV.own 0 0 0 0]] [⟨0,1,47,[AV.osl 3 0 0 p.1],false,false⟩,bF 0 1 3 [AV.int .i64 p.2.1],⟨0,1,142,[AV.osl 4 0 0 p.2.2.1],false,false⟩,bF 0 2 44 p.2.2.2.1,bF 0 2 144 p.2.2.2.2]))) (0,0,0,[],[]) fun (_,_,(_,_,_,_),f,g,_,_) _ (h,d,a,e,b,c)=>((((),(),((),(),(),()),f,g,h,()),((d,()),(a,()),(e,()),b,c,())),xhk f g h d a e b c none)
def xoh (l:LA):=Iter (xcy l (↑l.length:Int)) (0,0,0,0,[],[])
def xog (l:LA):=(xoh l).getD (0,0,0,[],[])
def xof (l:LA):=(xog l).snd
def xoe (l:LA):=(xof l).snd
def xod (l:LA):=(xoe l).snd
def xoc (l:LA):=set2 1099511627776 0 (xof l).fst (xoe l).fst (xog l).fst (xod l).snd (xod l).fst
def xob (l:LA):=((xoc l).getD (0,0,0,[],[])).snd.snd
def xgM (l:LA):=(xob l).fst
def xgN (l:LA):=(xob l).snd.snd
def xpp {T:Type} (l:LA) (δ:T) (κ:LA->T):T:=br ((xoh l).isSome) (br ((xoc l).isSome) (br ((xgM l).beq (xgN l).length&&(decide (xgM l<4611686018427387904)&&(xgN l).all isP)) (br (decide (0+xgM l<=(srtP (xgN l)).length)&&true) (κ (List.take (xgM l) (List.drop 0 (srtP (xgN l))))) δ) δ) δ) δ
def xoa (l:LA):=xpp l none some
def xJH:EO:=xDI.f Tryz.func65 30 0 [] [(6,xp3.lp)] (lk1 xp3.ok) (u1 (uL 2)) (fun (l,_) _=>xpp l) (fun _ p=>AV.list 2 p) []
def xmY {T:Type} (a:LA) (δ:T) (κ:LA->T):T:=br ((↑a.length:Int)==1) (κ (a)) (br ((xd4 a).isSome) (br ((xoa ((xd4 a).getD [])).isSome) (κ ((xoa ((xd4 a).getD [])).getD [])) δ) δ)
def xe0 (a:LA):=xmY a none some
def xBo:EO:=xJH.f Tryz.func64 10 0 [] [] lk0 (u1 (uL 2)) (fun (a,_) _=>xmY a) (fun _ p=>AV.list 2 p) []
def xjP {T:Type} (b e:LA) (f:Int) (c:Nat) (a:Int) (d:LA) (δ:T) (κl:(Nat×Int×LA)->T) (κr:(Nat×LA)->T):T:=br (decide (a<f)) (br (decide (0<=a)&&decide (a<e.length)) (br (decide (a.toNat<e.length)&&((e.getD a.toNat .top).cells.length==2&&xLU [Sh.int .i64,Sh.int .i64] (e.getD a.toNat .top).cells 0)) (br (xfP ((e.getD a.toNat .top).cells.getD 0 .top).toInt ((e.getD a.toNat .top).cells.getD 1 .top).toInt) (br (c==d.length&&(decide ((c+2)*24<=140737488355328)&&decide (c+2<=4611686018427387904))) (κl (c+2,i64.wrap (a+1),d++[AV.agg [AV.int .i64 ((e.getD a.toNat .top).cells.getD 0 .top).toInt,AV.int .i64 1,AV.int .i64 0],AV.agg [AV.int .i64 ((e.getD a.toNat .top).cells.getD 1 .top).toInt,AV.int .i64 (-1),AV.int .i64 0]])) δ) (κl (c,i64.wrap (a+1),d))) δ) δ) (κr (c,d))
def xby (b d:LA) (e:Int):StT (Nat×Int×LA) (Nat×LA):=fun (c,f,a)=>xjP b d e c f a none inL inR
def xmH:=xBo.l 49 0 [] [] Tryz.f97 0 lk0 [1,5,10,11,12] [1,5] [(5,3,137)] (q5 (qL 2) (xMJ 0 0 0) (qL 2) qI qI) (q1 (qB 0 3 137 xMB)) (fun (b,c,d,e,f,_) (a,_)=>(xby b d e,(c,f,a),fun p=>(.leaf (.exit 0) [AV.list 2 b,AV.osl 0 0 0 p.1] [bF 0 3 137 p.2]))) (0,[]) fun (b,_,d,e,_,_) _ (c,f,a)=>(((b,c,d,e,f,()),(a,())),xjP b d e c f a none)
def xjQ {T:Type} (d:LA) (e:Int) (b:Nat) (a:Int) (c:LA) (δ:T) (κl:(Nat×Int×LA)->T) (κr:(Nat×LA)->T):T:=br (decide (a<e)) (br (decide (0<=a)&&decide (a<d.length)) (br (decide (a.toNat<d.length)&&((d.getD a.toNat .top).cells.length==2&&xLU [Sh.int .i64,Sh.int .i64] (d.getD a.toNat .top).cells 0)) (br (xfP ((d.getD a.toNat .top).cells.getD 0 .top).toInt ((d.getD a.toNat .top).cells.getD 1 .top).toInt) (br (b==c.length&&(decide ((b+2)*24<=140737488355328)&&decide (b+2<=4611686018427387904))) (κl (b+2,i64.wrap (a+1),c++[AV.agg [AV.int .i64 ((d.getD a.toNat .top).cells.getD 0 .top).toInt,AV.int .i64 0,AV.int .i64 1],AV.agg [AV.int .i64 ((d.getD a.toNat .top).cells.getD 1 .top).toInt,AV.int .i64 0,AV.int .i64 (-1)]])) δ) (κl (b,i64.wrap (a+1),c))) δ) δ) (κr (b,c))
def xdy (c:LA) (d:Int):StT (Nat×Int×LA) (Nat×LA):=fun (b,e,a)=>xjQ c d b e a none inL inR
def xsb:=xBo.l 49 0 [] [(3,xmH.lp)] Tryz.f97 1 lk0 [5,28,29,30] [5] [(5,3,137)] (q4 (xMJ 0 0 0) (qL 2) qI qI) (q1 (qB 0 3 137 xMB)) (fun (b,c,d,e,_) (a,_)=>(xdy c d,(b,e,a),fun p=>(.leaf (.exit 2) [AV.osl 0 0 0 p.1] [bF 0 3 137 p.2]))) (0,[]) fun (_,c,d,_,_) _ (b,e,a)=>(((b,c,d,e,()),(a,())),xjQ c d b e a none)
def xl2 (a b:LA):=(Iter (xby b a (↑a.length:Int)) (0,0,[])).getD (0,[])
def xl1 (a b:LA):=Iter (xdy b (↑b.length:Int)) ((xl2 a b).fst,0,(xl2 a b).snd)
def xl0 (a b:LA):=(xl1 a b).getD (0,[])
def xgj (a b:LA):=(xl0 a b).fst
def xgk (a b:LA):=(xl0 a b).snd
def xsc {T:Type} (a b:LA) (δ:T) (κ:LA->T):T:=br ((Iter (xby b a (↑a.length:Int)) (0,0,[])).isSome) (br ((xl1 a b).isSome) (br ((xgj a b).beq (xgk a b).length&&(decide (xgj a b<4611686018427387904)&&(xgk a b).all isE)) (br (decide (0+xgj a b<=(srtE (xgk a b)).length)&&true) (κ (List.take (xgj a b) (List.drop 0 (srtE (xgk a b))))) δ) δ) δ) δ
def xgG (a b:LA):=xsc a b none some
def xJI:EO:=xBo.f Tryz.func97 49 0 [] [(3,xmH.lp),(9,xsb.lp)] (lks (lkC xmH.ok (lkC xsb.ok lkN))) (u2 (uL 2) (uL 2)) (fun (a,b,_) _=>xsc a b) (fun _ p=>AV.list 3 p) []
def xG8 (a b:Bool):Bool:=((a))
def xeZ (a b:Bool):Bool:=(br (a) ((!b)) ((false)))
def xv2 {T:Type} (a b:Bool) (δ:T) (κ:Bool->T):T:=br (a) (κ (!b)) (κ (false))
def xBp:EO:=xJI.fT Tryz.func62 10 0 [] [] lk0 (fun (a,b,_)=>xv2 a b none) (u2 (sEq pBool) (sEq pBool)) (fun (a,b,_)=>xeZ a b) (fun _ p=>(AV.bool p))
def xkt (l:LA) (i:Int):=decide (0<=i)&&decide (i<l.length)
def xv4 {T:Type} (l:LA) (e:Nat) (d b c i:Int) (a:LA) (δ:T) (κl:(Int×Int×Int×LA)->T) (κr:(Int×Int×Int×LA)->T):T:=br (decide (i<l.length)) (br (xkt l i) (br (decide (i.toNat<l.length)&&xLN (Sh.int .i64) ((l.getD i.toNat .top).cells.getD 0 .top)) (br (((l.getD i.toNat .top).cells.getD 0 .top).toInt==d) (br (xkt l i) (br (decide (i.toNat<l.length)&&xLN (Sh.int .i64) ((l.getD i.toNat .top).cells.getD 1 .top)) (br (xkt l i) (br (decide (i.toNat<l.length)&&xLN (Sh.int .i64) ((l.getD i.toNat .top).cells.getD 2 .top)) (κl (i64.wrap (b+((l.getD i.toNat .top).cells.getD 1 .top).toInt),i64.wrap (c+((l.getD i.toNat .top).cells.getD 2 .top).toInt),i64.wrap (i+1),a)) δ) δ) δ) δ) (κr (b,c,i,a))) δ) δ) (κr (b,c,i,a))
def xn8 (l:LA) (b:Nat) (c:Int):StT (Int×Int×Int×LA) (Int×Int×Int×LA):=fun (d,e,i,a)=>xv4 l b c d e i a none inL inR
def xgI (a:Nat):=decide (0<=i64.wrap ((↑a:Int) - 1))&&decide (i64.wrap ((↑a:Int) - 1)<(↑a:Int))
def xoy (l:LA) (b:Nat) (d e i c:Int) (a:LA):=(Iter (xn8 l b c) (d,e,i,a)).getD (0,0,0,[])
def xaz (a:Nat):Nat:=0+(i64.wrap ((↑a:Int) - 1)).toNat
def xpY (l:LA) (b:Nat) (d e i c:Int) (a:LA):=(xoy l b d e i c a).snd
def xa6 (l:LA) (b:Nat) (d e i c:Int) (a:LA):=(xoy l b d e i c a).fst
def xpX (l:LA) (b:Nat) (d e i c:Int) (a:LA):=(xpY l b d e i c a).snd
def xa5 (l:LA) (b:Nat) (d e i c:Int) (a:LA):=(xpY l b d e i c a).fst
def xaf (l:LA) (b:Nat) (d e i c:Int) (a:LA):=(xpX l b d e i c a).snd
def xpV (l:LA) (b:Nat) (d e i c:Int) (a:LA):=xG8 (decide (xa6 l b d e i c a>0)) (decide (xa5 l b d e i c a>0))
def xah (l:LA) (b:Nat) (d e i c:Int) (a:LA):=(xpX l b d e i c a).fst
def xgH (l:LA) (a:Nat) (d e i c:Int) (b:LA):=decide (xaz a<(xaf l a d e i c b).length)
def xpW (l:LA) (b:Nat) (d e i c:Int) (a:LA):=decide (xah l b d e i c a<l.length)
def xv3 {T:Type} (l:LA) (a:Nat) (d e i c:Int) (b:LA) (δ:T) (κl:(Nat×Int×Int×Int×Int×LA)->T) (κr:(Nat×LA)->T):T:=br (decide (c<1099511627776)) (br ((Iter (xn8 l a c) (d,e,i,b)).isSome) (br (xpW l a d e i c b) (br (decide (0<=xah l a d e i c b)&&xpW l a d e i c b) (br (decide ((xah l a d e i c b).toNat<l.length)&&xLN (Sh.int .i64) ((l.getD (xah l a d e i c b).toNat .top).cells.getD 0 .top)) (br (xpV l a d e i c b) (br (decide ((↑a:Int)>0)) (br (xgI a) (br (xgH l a d e i c b&&xLN (Sh.int .i64) (((xaf l a d e i c b).getD (xaz a) .top).cells.getD 1 .top)) (br ((((xaf l a d e i c b).getD (xaz a) .top).cells.getD 1 .top).toInt==c) (br (xgI a) (br (xgH l a d e i c b) (κl (a,xa6 l a d e i c b,xa5 l a d e i c b,xah l a d e i c b,((l.getD (xah l a d e i c b).toNat .top).cells.getD 0 .top).toInt,(xaf l a d e i c b).set (xaz a) (AV.agg (List.take 1 ((xaf l a d e i c b).getD (xaz a) .top).cells++[AV.int .i64 ((l.getD (xah l a d e i c b).toNat .top).cells.getD 0 .top).toInt]++List.drop 2 ((xaf l a d e i c b).getD (xaz a) .top).cells)))) δ) δ) (br (a==(xaf l a d e i c b).length&&(decide ((a+1)*16<=140737488355328)&&decide (a+1<=4611686018427387904))) (κl (a+1,xa6 l a d e i c b,xa5 l a d e i c b,xah l a d e i c b,((l.getD (xah l a d e i c b).toNat .top).cells.getD 0 .top).toInt,xaf l a d e i c b++[AV.agg [AV.int .i64 c,AV.int .i64 ((l.getD (xah l a d e i c b).toNat .top).cells.getD 0 .top).toInt]])) δ)) δ) δ) (br (a==(xaf l a d e i c b).length&&(decide ((a+1)*16<=140737488355328)&&decide (a+1<=4611686018427387904))) (κl (a+1,xa6 l a d e i c b,xa5 l a d e i c b,xah l a d e i c b,((l.getD (xah l a d e i c b).toNat .top).cells.getD 0 .top).toInt,xaf l a d e i c b++[AV.agg [AV.int .i64 c,AV.int .i64 ((l.getD (xah l a d e i c b).toNat .top).cells.getD 0 .top).toInt]])) δ)) (κl (a,xa6 l a d e i c b,xa5 l a d e i c b,xah l a d e i c b,((l.getD (xah l a d e i c b).toNat .top).cells.getD 0 .top).toInt,xaf l a d e i c b))) δ) δ) (br (xpV l a d e i c b) (br (decide ((↑a:Int)>0)) (br (xgI a) (br (xgH l a d e i c b&&xLN (Sh.int .i64) (((xaf l a d e i c b).getD (xaz a) .top).cells.getD 1 .top)) (br ((((xaf l a d e i c b).getD (xaz a) .top).cells.getD 1 .top).toInt==c) (br (xgI a) (br (xgH l a d e i c b) (κl (a,xa6 l a d e i c b,xa5 l a d e i c b,xah l a d e i c b,1099511627776,(xaf l a d e i c b).set (xaz a) (AV.agg (List.take 1 ((xaf l a d e i c b).getD (xaz a) .top).cells++[AV.int .i64 1099511627776]++List.drop 2 ((xaf l a d e i c b).getD (xaz a) .top).cells)))) δ) δ) (br (a==(xaf l a d e i c b).length&&(decide ((a+1)*16<=140737488355328)&&decide (a+1<=4611686018427387904))) (κl (a+1,xa6 l a d e i c b,xa5 l a d e i c b,xah l a d e i c b,1099511627776,xaf l a d e i c b++[AV.agg [AV.int .i64 c,AV.int .i64 1099511627776]])) δ)) δ) δ) (br (a==(xaf l a d e i c b).length&&(decide ((a+1)*16<=140737488355328)&&decide (a+1<=4611686018427387904))) (κl (a+1,xa6 l a d e i c b,xa5 l a d e i c b,xah l a d e i c b,1099511627776,xaf l a d e i c b++[AV.agg [AV.int .i64 c,AV.int .i64 1099511627776]])) δ)) (κl (a,xa6 l a d e i c b,xa5 l a d e i c b,xah l a d e i c b,1099511627776,xaf l a d e i c b)))) δ) (κr (a,b))
def xus (l:LA):StT (Nat×Int×Int×Int×Int×LA) (Nat×LA):=fun (b,d,e,i,c,a)=>xv3 l b d e i c a none inL inR
def xsL (a b:LA):=Iter (xus ((xgG a b).getD [])) (0,0,0,0,0,[])
def xsK (a b:LA):=(xsL a b).getD (0,[])
def xsI (a b:LA):=(xsK a b).fst
def xsJ (a b:LA):=(xsK a b).snd
def xzP {T:Type} (a b:LA) (δ:T) (κ:LA->T):T:=br ((xgG a b).isSome) (br ((xsL a b).isSome) (br (decide (0+xsI a b<=(xsJ a b).length)&&true) (κ (List.take (xsI a b) (List.drop 0 (xsJ a b)))) δ) δ) δ
def xvD (a b:LA):=xzP a b none some
def xG9 {T:Type} (l:LA) (δ:T) (κ:LA->T):T:=br ((xvD l []).isSome) (κ ((xvD l []).getD [])) δ
def xvT (l:LA):=xG9 l none some
def xku (l:LA) (i:Int):=decide (0<=i)&&decide (i<l.length)
def xq2 {T:Type} (l:LA) (e:Nat) (d b c i:Int) (a:LA) (δ:T) (κl:(Int×Int×Int×LA)->T) (κr:(Int×Int×Int×LA)->T):T:=br (decide (i<l.length)) (br (xku l i) (br (decide (i.toNat<l.length)&&xLN (Sh.int .i64) ((l.getD i.toNat .top).cells.getD 0 .top)) (br (((l.getD i.toNat .top).cells.getD 0 .top).toInt==d) (br (xku l i) (br (decide (i.toNat<l.length)&&xLN (Sh.int .i64) ((l.getD i.toNat .top).cells.getD 1 .top)) (br (xku l i) (br (decide (i.toNat<l.length)&&xLN (Sh.int .i64) ((l.getD i.toNat .top).cells.getD 2 .top)) (κl (i64.wrap (b+((l.getD i.toNat .top).cells.getD 1 .top).toInt),i64.wrap (c+((l.getD i.toNat .top).cells.getD 2 .top).toInt),i64.wrap (i+1),a)) δ) δ) δ) δ) (κr (b,c,i,a))) δ) δ) (κr (b,c,i,a))
def xiQ (l:LA) (b:Nat) (c:Int):StT (Int×Int×Int×LA) (Int×Int×Int×LA):=fun (d,e,i,a)=>xq2 l b c d e i a none inL inR
def xgL:=xBp.l 92 0 [] [] Tryz.f61 1 lk0 [2,7,8,9,10,11,12] [2,7,8,9,10,11,12] [(8,2,44)] (q7 (xMb 62 xMz) (qL 3) (xMJ 0 0 0) qI qI qI qI) (q1 (qB 0 2 44 xMB)) (fun (_,l,a,d,e,i,c,_) (b,_)=>(xiQ l a c,(d,e,i,b),fun p=>(.leaf (.exit 2) [AV.func 62 [],AV.list 3 l,AV.osl 0 0 0 a,AV.int .i64 p.1,AV.int .i64 p.2.1,AV.int .i64 p.2.2.1,AV.int .i64 c] [bF 0 2 44 p.2.2.2]))) (0,0,0,[]) fun (_,l,a,_,_,_,c,_) _ (d,e,i,b)=>((((),l,a,d,e,i,c,()),(b,())),xq2 l a c d e i b none)
def xgK (a:Nat):=decide (0<=i64.wrap ((↑a:Int) - 1))&&decide (i64.wrap ((↑a:Int) - 1)<(↑a:Int))
def xoz (l:LA) (b:Nat) (d e i c:Int) (a:LA):=(Iter (xiQ l b c) (d,e,i,a)).getD (0,0,0,[])
def xaA (a:Nat):Nat:=0+(i64.wrap ((↑a:Int) - 1)).toNat
def xa8 (l:LA) (b:Nat) (d e i c:Int) (a:LA):=(xoz l b d e i c a).fst
def xp2 (l:LA) (b:Nat) (d e i c:Int) (a:LA):=(xoz l b d e i c a).snd
def xa7 (l:LA) (b:Nat) (d e i c:Int) (a:LA):=(xp2 l b d e i c a).fst
def xp1 (l:LA) (b:Nat) (d e i c:Int) (a:LA):=(xp2 l b d e i c a).snd
def xag (l:LA) (b:Nat) (d e i c:Int) (a:LA):=(xp1 l b d e i c a).snd
def xpx (l:LA) (b:Nat) (d e i c:Int) (a:LA):=xeZ (decide (xa8 l b d e i c a>0)) (decide (xa7 l b d e i c a>0))
def xai (l:LA) (b:Nat) (d e i c:Int) (a:LA):=(xp1 l b d e i c a).fst
def xgJ (l:LA) (a:Nat) (d e i c:Int) (b:LA):=decide (xaA a<(xag l a d e i c b).length)
def xp0 (l:LA) (b:Nat) (d e i c:Int) (a:LA):=decide (xai l b d e i c a<l.length)
def xq1 {T:Type} (l:LA) (a:Nat) (d e i c:Int) (b:LA) (δ:T) (κl:(Nat×Int×Int×Int×Int×LA)->T) (κr:(Nat×LA)->T):T:=br (decide (c<1099511627776)) (br ((Iter (xiQ l a c) (d,e,i,b)).isSome) (br (xp0 l a d e i c b) (br (decide (0<=xai l a d e i c b)&&xp0 l a d e i c b) (br (decide ((xai l a d e i c b).toNat<l.length)&&xLN (Sh.int .i64) ((l.getD (xai l a d e i c b).toNat .top).cells.getD 0 .top)) (br (xpx l a d e i c b) (br (decide ((↑a:Int)>0)) (br (xgK a) (br (xgJ l a d e i c b&&xLN (Sh.int .i64) (((xag l a d e i c b).getD (xaA a) .top).cells.getD 1 .top)) (br ((((xag l a d e i c b).getD (xaA a) .top).cells.getD 1 .top).toInt==c) (br (xgK a) (br (xgJ l a d e i c b) (κl (a,xa8 l a d e i c b,xa7 l a d e i c b,xai l a d e i c b,((l.getD (xai l a d e i c b).toNat .top).cells.getD 0 .top).toInt,(xag l a d e i c b).set (xaA a) (AV.agg (List.take 1 ((xag l a d e i c b).getD (xaA a) .top).cells++[AV.int .i64 ((l.getD (xai l a d e i c b).toNat .top).cells.getD 0 .top).toInt]++List.drop 2 ((xag l a d e i c b).getD (xaA a) .top).cells)))) δ) δ) (br (a==(xag l a d e i c b).length&&(decide ((a+1)*16<=140737488355328)&&decide (a+1<=4611686018427387904))) (κl (a+1,xa8 l a d e i c b,xa7 l a d e i c b,xai l a d e i c b,((l.getD (xai l a d e i c b).toNat .top).cells.getD 0 .top).toInt,xag l a d e i c b++[AV.agg [AV.int .i64 c,AV.int .i64 ((l.getD (xai l a d e i c b).toNat .top).cells.getD 0 .top).toInt]])) δ)) δ) δ) (br (a==(xag l a d e i c b).length&&(decide ((a+1)*16<=140737488355328)&&decide (a+1<=4611686018427387904))) (κl (a+1,xa8 l a d e i c b,xa7 l a d e i c b,xai l a d e i c b,((l.getD (xai l a d e i c b).toNat .top).cells.getD 0 .top).toInt,xag l a d e i c b++[AV.agg [AV.int .i64 c,AV.int .i64 ((l.getD (xai l a d e i c b).toNat .top).cells.getD 0 .top).toInt]])) δ)) (κl (a,xa8 l a d e i c b,xa7 l a d e i c b,xai l a d e i c b,((l.getD (xai l a d e i c b).toNat .top).cells.getD 0 .top).toInt,xag l a d e i c b))) δ) δ) (br (xpx l a d e i c b) (br (decide ((↑a:Int)>0)) (br (xgK a) (br (xgJ l a d e i c b&&xLN (Sh.int .i64) (((xag l a d e i c b).getD (xaA a) .top).cells.getD 1 .top)) (br ((((xag l a d e i c b).getD (xaA a) .top).cells.getD 1 .top).toInt==c) (br (xgK a) (br (xgJ l a d e i c b) (κl (a,xa8 l a d e i c b,xa7 l a d e i c b,xai l a d e i c b,1099511627776,(xag l a d e i c b).set (xaA a) (AV.agg (List.take 1 ((xag l a d e i c b).getD (xaA a) .top).cells++[AV.int .i64 1099511627776]++List.drop 2 ((xag l a d e i c b).getD (xaA a) .top).cells)))) δ) δ) (br (a==(xag l a d e i c b).length&&(decide ((a+1)*16<=140737488355328)&&decide (a+1<=4611686018427387904))) (κl (a+1,xa8 l a d e i c b,xa7 l a d e i c b,xai l a d e i c b,1099511627776,xag l a d e i c b++[AV.agg [AV.int .i64 c,AV.int .i64 1099511627776]])) δ)) δ) δ) (br (a==(xag l a d e i c b).length&&(decide ((a+1)*16<=140737488355328)&&decide (a+1<=4611686018427387904))) (κl (a+1,xa8 l a d e i c b,xa7 l a d e i c b,xai l a d e i c b,1099511627776,xag l a d e i c b++[AV.agg [AV.int .i64 c,AV.int .i64 1099511627776]])) δ)) (κl (a,xa8 l a d e i c b,xa7 l a d e i c b,xai l a d e i c b,1099511627776,xag l a d e i c b)))) δ) (κr (a,b))
def xn9 (l:LA):StT (Nat×Int×Int×Int×Int×LA) (Nat×LA):=fun (b,d,e,i,c,a)=>xq1 l b d e i c a none inL inR
def xpZ:=xBp.l 92 0 [] [(6,xgL.lp)] Tryz.f61 0 (lk1 xgL.ok) [2,7,8,9,10,11,12] [8] [(8,2,44)] (q7 (xMb 62 xMz) (qL 3) (xMJ 0 0 0) qI qI qI qI) (q1 (qB 0 2 44 xMB)) (fun (_,l,b,d,e,i,c,_) (a,_)=>(xn9 l,(b,d,e,i,c,a),fun p=>(.leaf (.exit 0) [AV.osl 0 0 0 p.1] [bF 0 2 44 p.2]))) (0,[]) fun (_,l,_,_,_,_,_,_) _ (b,d,e,i,c,a)=>((((),l,b,d,e,i,c,()),(a,())),xq1 l b d e i c a none)
def xsP (a b:LA):=Iter (xn9 ((xgG a b).getD [])) (0,0,0,0,0,[])
def xsO (a b:LA):=(xsP a b).getD (0,[])
def xsM (a b:LA):=(xsO a b).fst
def xsN (a b:LA):=(xsO a b).snd
def xtT {T:Type} (a b:LA) (δ:T) (κ:LA->T):T:=br ((xgG a b).isSome) (br ((xsP a b).isSome) (br (decide (0+xsM a b<=(xsN a b).length)&&true) (κ (List.take (xsM a b) (List.drop 0 (xsN a b)))) δ) δ) δ
def xsd (a b:LA):=xtT a b none some
def xJJ:EO:=xBp.f Tryz.func61 92 0 [] [(6,xgL.lp),(5,xpZ.lp)] (lks (lkC xpZ.ok (lkC xgL.ok lkN))) (u3 (uL 2) (uL 2) (sEq (xMb (62:FuncId) xMz))) (fun (a,b,_,_) _=>xtT a b) (fun _ p=>AV.list 2 p) []
def xn7 {T:Type} (a b:LA) (δ:T) (κ:LA->T):T:=br ((xsd a b).isSome) (κ ((xsd a b).getD [])) δ
def xdx (a b:LA):=xn7 a b none some
def xBq:EO:=xJJ.f Tryz.func35 8 0 [] [] lk0 (u2 (uL 2) (uL 2)) (fun (a,b,_) _=>xn7 a b) (fun _ p=>AV.list 2 p) []
def xeK {T:Type} (h:LA) (i j:Int) (e:LA) (f:Int) (d:Nat) (c:Int) (a b g:LA) (δ:T) (κl:(Nat×Int×LA×LA×LA)->T) (κr:(Nat×LA)->T):T:=br (decide (c<f)) (br (ixI e c) (br (ixT e c 2 [Sh.int .i64,Sh.int .i64] 0) (br (decide (b.length*32<=140737488355328)&&decide (b.length<=4611686018427387904)) (br (decide (0+b.length<=b.length)&&true&&true&&true&&true) (br (rmB d a 1 40) (κl (d+1,i64.wrap (c+1),a++[AV.agg [AV.list 3 (List.take b.length (List.drop 0 b)),AV.int .i64 (gC e c 0).toInt,AV.int .i64 (gC e c 1).toInt]],b,g)) δ) δ) δ) δ) δ) (κr (d,a))
def xbh (c:LA) (d e:Int) (f:LA) (g:Int):StT (Nat×Int×LA×LA×LA) (Nat×LA):=fun (b,h,a,i,j)=>xeK c d e f g b h a i j none inL inR
def xep:=xBq.l 38 0 [54] [] Tryz.f63 1 lk0 [1,5,7,11,12,13,20,21,22] [1,5,11,12,13] [(5,3,54)] (q9 (xMb 64 xMz) (xMJ 0 0 0) (xMK 1 0 0 0) (qL 2) qI qI (qL 2) qI qI) (q2 (qB 0 3 54 xMB) (qB 0 2 141 (q1 (xML (q2 (qL 3) (qL 2)))))) (fun (_,b,_,c,d,e,f,g,h,_) (a,((i,j,_),_),_)=>(xbh c d e f g,(b,h,a,i,j),fun p=>(.leaf (.exit 2) [AV.func 64 [],AV.osl 0 0 0 p.1,AV.list 2 c,AV.int .i64 d,AV.int .i64 e] [bF 0 3 54 p.2]))) (0,[]) fun (_,_,_,c,d,e,f,g,_,_) _ (b,h,a,i,j)=>((((),b,(),c,d,e,f,g,h,()),(a,((i,j,()),()),())),xeK c d e f g b h a i j none)
def xgT (a:LA) (e:Int) (d:Nat) (b:Int) (c:LA):=Iter (xbh a e b ((xe0 (gC a b 1).toList).getD []) (↑((xe0 (gC a b 1).toList).getD []).length:Int)) (d,0,c,(gC a b 0).toList,(gC a b 1).toList)
def xgS (c:LA) (d:Int) (b:Nat) (e:Int) (a:LA):=(xgT c d b e a).getD (0,[])
def xeJ {T:Type} (d:LA) (e:Int) (c:Nat) (b:Int) (a:LA) (δ:T) (κl:(Nat×Int×LA)->T) (κr:(Nat×LA)->T):T:=br (decide (b<e)) (br (ixI d b) (br (ixT d b 2 [Sh.list 3,Sh.list 2] 0) (br ((xe0 (gC d b 1).toList).isSome) (br ((xgT d e c b a).isSome) (κl ((xgS d e c b a).fst,i64.wrap (b+1),(xgS d e c b a).snd)) δ) δ) δ) δ) (κr (c,a))
def xb2 (c:LA) (d:Int):StT (Nat×Int×LA) (Nat×LA):=fun (b,e,a)=>xeJ c d b e a none inL inR
def xly:=xBq.l 38 0 [54] [(6,xep.lp)] Tryz.f63 0 (lk1 xep.ok) [1,5,11,12,13] [5] [(5,3,54)] (q5 (xMb 64 xMz) (xMJ 0 0 0) (qL 2) qI qI) (q1 (qB 0 3 54 xMB)) (fun (_,b,c,d,e,_) (a,_)=>(xb2 c d,(b,e,a),fun p=>(.leaf (.exit 0) [AV.osl 0 0 0 p.1] [bF 0 3 54 p.2]))) (0,[]) fun (_,_,c,d,_,_) _ (b,e,a)=>((((),b,c,d,e,()),(a,())),xeJ c d b e a none)
def xjj (l:LA):=Iter (xb2 ((xiW l).getD []) (↑((xiW l).getD []).length:Int)) (0,0,[])
def xji (l:LA):=(xjj l).getD (0,[])
def xjg (l:LA):=(xji l).fst
def xjh (l:LA):=(xji l).snd
def xjU {T:Type} (l:LA) (δ:T) (κ:LA->T):T:=br ((xiW l).isSome) (br ((xjj l).isSome) (br (decide (0+xjg l<=(xjh l).length)&&true) (κ (List.take (xjg l) (List.drop 0 (xjh l)))) δ) δ) δ
def xl7 (l:LA):=xjU l none some
def xJK:EO:=xBq.f Tryz.func63 38 0 [54] [(6,xep.lp),(3,xly.lp)] (lks (lkC xly.ok (lkC xep.ok lkN))) (u2 (uL 3) (sEq (xMb (64:FuncId) xMz))) (fun (l,_,_) _=>xjU l) (fun _ p=>AV.list 3 p) []
def xoA {T:Type} (l:LA) (δ:T) (κ:LA->T):T:=br ((xl7 l).isSome) (κ ((xl7 l).getD [])) δ
def xrp (l:LA):=xoA l none some
def xFK:EO:=xJK.f Tryz.func36 5 0 [] [] lk0 (u1 (uL 3)) (fun (l,_) _=>xoA l) (fun _ p=>AV.list 3 p) []
def xtB {T:Type} (h:LA) (i j:Int) (e:LA) (f:Int) (d:Nat) (c:Int) (a b g:LA) (δ:T) (κl:(Nat×Int×LA×LA×LA)->T) (κr:(Nat×LA)->T):T:=br (decide (c<f)) (br (ixI e c) (br (ixT e c 2 [Sh.int .i64,Sh.int .i64] 0) (br (decide (b.length*32<=140737488355328)&&decide (b.length<=4611686018427387904)) (br (decide (0+b.length<=b.length)&&true&&true&&true&&true) (br (rmB d a 1 40) (κl (d+1,i64.wrap (c+1),a++[AV.agg [AV.list 3 (List.take b.length (List.drop 0 b)),AV.int .i64 (gC e c 0).toInt,AV.int .i64 (gC e c 1).toInt]],b,g)) δ) δ) δ) δ) δ) (κr (d,a))
def xjV (c:LA) (d e:Int) (f:LA) (g:Int):StT (Nat×Int×LA×LA×LA) (Nat×LA):=fun (b,h,a,i,j)=>xtB c d e f g b h a i j none inL inR
def xgV (a:LA) (e:Int) (d:Nat) (b:Int) (c:LA):=Iter (xjV a e b ((xvT (gC a b 1).toList).getD []) (↑((xvT (gC a b 1).toList).getD []).length:Int)) (d,0,c,(gC a b 0).toList,(gC a b 1).toList)
def xgU (c:LA) (d:Int) (b:Nat) (e:Int) (a:LA):=(xgV c d b e a).getD (0,[])
def xhl {T:Type} (d:LA) (e:Int) (c:Nat) (b:Int) (a:LA) (δ:T) (κl:(Nat×Int×LA)->T) (κr:(Nat×LA)->T):T:=br (decide (b<e)) (br (ixI d b) (br (ixT d b 2 [Sh.list 3,Sh.list 2] 0) (br ((xvT (gC d b 1).toList).isSome) (br ((xgV d e c b a).isSome) (κl ((xgU d e c b a).fst,i64.wrap (b+1),(xgU d e c b a).snd)) δ) δ) δ) δ) (κr (c,a))
def xfM (c:LA) (d:Int):StT (Nat×Int×LA) (Nat×LA):=fun (b,e,a)=>xhl c d b e a none inL inR
def xgz (b a:Bool):Int:=(br (b) (((-1))) (br (a) ((1)) ((0))))
def xCw {T:Type} (b a:Bool) (δ:T) (κ:Int->T):T:=br (b) (κ ((-1))) (br (a) (κ (1)) (κ (0)))
def xJL:EO:=xFK.fT Tryz.func81 7 0 [] [] lk0 (fun (b,a,_)=>xCw b a none) (u2 (sEq pBool) (sEq pBool)) (fun (b,a,_)=>xgz b a) (fun _ p=>(AV.int .i64 p))
def xgf (a b:Int) (c:List UInt8) (d e:Int) (f:List UInt8):Int:=(br (a != d) ((xgz (decide (a<d)) (decide (a>d)))) (br (b != e) ((xgz (decide (b<e)) (decide (b>e)))) ((xgz (Op.bytesLess c f) !(Op.bytesLess c f || c==f)))))
def xyZ {T:Type} (a b:Int) (c:List UInt8) (d e:Int) (f:List UInt8) (δ:T) (κ:Int->T):T:=br (a != d) (κ (xgz (decide (a<d)) (decide (a>d)))) (br (b != e) (κ (xgz (decide (b<e)) (decide (b>e)))) (κ (xgz (Op.bytesLess c f) !(Op.bytesLess c f || c==f))))
def xFL:EO:=xJL.fT Tryz.func49 48 0 [] [] lk0 (fun ((a,b,c,_),(d,e,f,_),_)=>xyZ a b c d e f none) (u2 (xMO (u3 uI uI (sEq pStr))) (xMO (u3 uI uI (sEq pStr)))) (fun ((a,b,c,_),(d,e,f,_),_)=>xgf a b c d e f) (fun _ p=>(AV.int .i64 p))
def xcZ (a b:LA) (i:Int):=xgf (gC a i 0).toInt (gC a i 1).toInt (gC a i 2).toStr (gC b i 0).toInt (gC b i 1).toInt (gC b i 2).toStr
def xdk {T:Type} (a b:LA) (i:Int) (δ:T) (κl:(Int)->T) (κr:(Bool×(Int)×(Unit))->T):T:=br (decide (i<a.length)) (br (decide (i<b.length)) (br (ixI a i) (br (ixT a i 3 [Sh.int .i64,Sh.int .i64,Sh.str] 0) (br (ixI b i) (br (ixT b i 3 [Sh.int .i64,Sh.int .i64,Sh.str] 0) (br (xcZ a b i != 0) (κr (true,(xcZ a b i),())) (κl (i64.wrap (i+1)))) δ) δ) δ) δ) (κr (false,0,()))) (κr (false,0,()))
def xaI (a b:LA):StT (Int) (Bool×(Int)×(Unit)):=fun (i)=>xdk a b i none inL inR
def xou:=xFL.l 41 0 [] [] Tryz.f24 0 lk0 [0,1,5] [0,1,4] [] (q3 (qL 3) (qL 3) qI) xMz (fun (a,b,i,_) _=>(xaI a b,(i),fun p=>(.node p.1 (.leaf .ret [AV.list 3 a,AV.list 3 b,AV.int .i64 p.2.1] []) (.leaf (.exit 0) [AV.list 3 a,AV.list 3 b,.top] [])))) (false,0,()) fun (a,b,_,_) _ (i)=>(((a,b,i,()),()),xdk a b i none)
def xnw {T:Type} (a b:LA) (δ:T) (κ:Int->T):T:=br ((Iter (xaI a b) 0).isSome) (br (((Iter (xaI a b) 0).getD (false,0,())).fst) (κ (((Iter (xaI a b) 0).getD (false,0,())).snd.fst)) (br (decide ((↑a.length:Int)<(↑b.length:Int))) (κ ((-1))) (br (decide ((↑a.length:Int)>(↑b.length:Int))) (κ (1)) (κ (0))))) δ
def xaQ (a b:LA):=xnw a b none some
def xJM:EO:=xFL.f Tryz.func24 41 0 [] [(2,xou.lp)] (lk1 xou.ok) (u2 (uL 3) (uL 3)) (fun (a,b,_) _=>xnw a b) (fun _ p=>AV.int .i64 p) 0
def xuI {T:Type} (a b:LA) (δ:T) (κ:Bool->T):T:=br ((xaQ a b).isSome) (κ ((xaQ a b).getD 0==0)) δ
def xs6 (a b:LA):=xuI a b none some
def xdq (a b:LA) (i k:Int):=decide ((xaQ (gC b k 0).toList (gC a i 0).toList).getD 0<0)
def xdr (b:LA) (k:Int):=decide (k.toNat<b.length)&&((b.getD k.toNat .top).cells.length==3&&xLU [Sh.list 3,Sh.int .i64,Sh.int .i64] (b.getD k.toNat .top).cells 0)
def xds (a:LA) (i:Int):=decide (i.toNat<a.length)&&((a.getD i.toNat .top).cells.length==3&&xLU [Sh.list 3,Sh.int .i64,Sh.int .i64] (a.getD i.toNat .top).cells 0)
def xch (b:LA) (k:Int):=ixI b k
def xci (a:LA) (i:Int):=ixI a i
def xbU {T:Type} (b:LA) (c:Nat) (i k:Int) (a:LA) (δ:T) (κl:(Nat×Int×Int×LA)->T):T:=br (xch b k) (br (xdr b k) (br (rmB c a 1 40) (κl (c+1,i,i64.wrap (k+1),a++[AV.agg [AV.list 3 (gC b k 0).toList,AV.int .i64 (gC b k 1).toInt,AV.int .i64 (gC b k 2).toInt]])) δ) δ) δ
def xbV {T:Type} (a:LA) (c:Nat) (i k:Int) (b:LA) (δ:T) (κl:(Nat×Int×Int×LA)->T):T:=br (xci a i) (br (xds a i) (br (rmB c b 1 40) (κl (c+1,i64.wrap (i+1),k,b++[AV.agg [AV.list 3 (gC a i 0).toList,AV.int .i64 (gC a i 1).toInt,AV.int .i64 (gC a i 2).toInt]])) δ) δ) δ
def xbT {T:Type} (a b:LA) (d:Nat) (i k:Int) (c:LA) (δ:T) (κl:(Nat×Int×Int×LA)->T):T:=br (i==(↑a.length:Int)) (xbU b d i k c δ κl) (br (decide (k<b.length)) (br (xch b k) (br (ixS b k (Sh.list 3) 0) (br (xci a i) (br (ixS a i (Sh.list 3) 0) (br ((xaQ (gC b k 0).toList (gC a i 0).toList).isSome) (br (xdq a b i k) (xbU b d i k c δ κl) (xbV a d i k c δ κl)) δ) δ) δ) δ) δ) (xbV a d i k c δ κl))
def xdT {T:Type} (a b:LA) (d:Nat) (i k:Int) (c:LA) (δ:T) (κl:(Nat×Int×Int×LA)->T) (κr:(Nat×LA)->T):T:=br (decide (i<a.length)) (xbT a b d i k c δ κl) (br (decide (k<b.length)) (xbT a b d i k c δ κl) (κr (d,c)))
def xa3 (a b:LA):StT (Nat×Int×Int×LA) (Nat×LA):=fun (d,i,k,c)=>xdT a b d i k c none inL inR
def xn2 (a b:LA):=Iter (xa3 a b) (0,0,0,[])
def xn1 (a b:LA):=(xn2 a b).getD (0,[])
def xnx (a b:LA):=(xn1 a b).snd
def xn0 (a b:LA):=(xn1 a b).fst
def xtQ {T:Type} (a b:LA) (δ:T) (κ:LA->T):T:=br ((xn2 a b).isSome) (br (decide (0+xn0 a b<=(xnx a b).length)&&true) (κ (List.take (xn0 a b) (List.drop 0 (xnx a b)))) δ) δ
def xr3 (a b:LA):=xtQ a b none some
def xmt (l:LA):=decide (0<=i64.wrap ((↑l.length:Int).tdiv 2))&&decide (i64.wrap ((↑l.length:Int).tdiv 2)<=(↑l.length:Int))
def xmu (R:LA->Option (LA)) (l:LA):Option (LA):=R (List.take (l.length - (i64.wrap ((↑l.length:Int).tdiv 2)).toNat) (List.drop (i64.wrap ((↑l.length:Int).tdiv 2)).toNat l))
def xms (R:LA->Option (LA)) (l:LA):Option (LA):=xr3 ((R (List.take ((i64.wrap ((↑l.length:Int).tdiv 2)).toNat - 0) (List.drop 0 l))).getD []) ((xmu R l).getD [])
def xjL {T:Type} (R:LA->Option (LA)) (l:LA) (δ:T) (κ:LA->T):T:=br (decide ((↑l.length:Int)<2)) (κ (l)) (br (xmt l&&true) (br ((R (List.take ((i64.wrap ((↑l.length:Int).tdiv 2)).toNat - 0) (List.drop 0 l))).isSome) (br (xmt l) (br ((xmu R l).isSome) (br ((xms R l).isSome) (κ ((xms R l).getD [])) δ) δ) δ) δ) δ)
def xe2 (R:LA->Option (LA)) (l:LA):=xjL R l none some
def xcJ:Nat->LA->Option (LA)
 | 0=>fun _=>none
 | fu_+1=>fun l=>xe2 (xcJ fu_) l
def xer (a b:Int):Bool:=(br (decide (a>=0)) (br (decide (a<b)) ((decide (b<=1099511627776))) ((false))) ((false)))
def xA0 {T:Type} (a b:Int) (δ:T) (κ:Bool->T):T:=br (decide (a>=0)) (br (decide (a<b)) (κ (decide (b<=1099511627776))) (κ (false))) (κ (false))
def xJN:EO:=xJM.fT Tryz.func78 18 0 [] [] lk0 (fun ((a,b,_),_)=>xA0 a b none) (u1 (xMO (u2 uI uI))) (fun ((a,b,_),_)=>xer a b) (fun _ p=>(AV.bool p))
def xfD (a b t:Int):Bool:=(br (xer a b) (br (decide (a<=t)) ((decide (t<b))) ((false))) ((false)))
def xw2 {T:Type} (a b t:Int) (δ:T) (κ:Bool->T):T:=br (xer a b) (br (decide (a<=t)) (κ (decide (t<b))) (κ (false))) (κ (false))
def xJO:EO:=xJN.fT Tryz.func47 19 0 [] [] lk0 (fun ((a,b,_),t,_)=>xw2 a b t none) (u2 (xMO (u2 uI uI)) uI) (fun ((a,b,_),t,_)=>xfD a b t) (fun _ p=>(AV.bool p))
def xp9 (a b c d:Int):Int:=(br (a==c&&(b==d&&true)) ((0)) (br (decide (a<c)) (((-1))) (br (a==c) (br (decide (b<d)) (((-1))) ((1))) ((1)))))
def xFg:Int×Int×List UInt8:=((0,0,[]))
def xCv {T:Type} (δ:T) (κ:Int×Int×List UInt8->T):T:=κ (0,0,[])
def xIt:EO:=xJO.fT Tryz.func105 2 0 [] [] lk0 (fun _=>xCv none) xMA (fun _=>xFg) (fun _ p=>(AV.agg [AV.int .i64 p.1,AV.int .i64 p.2.1,AV.str p.2.2]))
def xyx {T:Type} (a:LA) (i:Int) (δ:T) (κ:Int×Int×List UInt8->T):T:=br (decide (i<0)) (κ (0,0,[])) (br (decide (i>=a.length)) (κ (0,0,[])) (br (ixI a i) (br (ixT a i 3 [Sh.int .i64,Sh.int .i64,Sh.str] 0) (κ ((gC a i 0).toInt,(gC a i 1).toInt,(gC a i 2).toStr)) δ) δ))
def xit (a:LA) (i:Int):=xyx a i none some
def xDF:EO:=xIt.f Tryz.func70 18 0 [] [] lk0 (u2 (uL 3) uI) (fun (a,i,_) _=>xyx a i) (fun _ p=>AV.agg [AV.int .i64 p.1,AV.int .i64 p.2.1,AV.str p.2.2]) (0,0,[])
def xki (o:LA) (i:Int):=ixI o i
def xpP (b o:LA) (i:Int):=(xit b (gC o i 0).toInt).getD (0,0,[])
def xpQ (a o:LA) (i:Int):=(xit a (gC o i 0).toInt).getD (0,0,[])
def xpN (b o:LA) (i:Int):=(xpP b o i).snd
def xpO (a o:LA) (i:Int):=(xpQ a o i).snd
def xpM (a b o:LA) (i:Int):=xgf (xpQ a o i).fst (xpO a o i).fst (xpO a o i).snd (xpP b o i).fst (xpN b o i).fst (xpN b o i).snd
def xli {T:Type} (a b o:LA) (i:Int) (δ:T) (κl:(Int)->T) (κr:(Bool×(Bool)×(Unit))->T):T:=br (decide (i<o.length)) (br (xki o i) (br (ixS o i (Sh.int .i64) 0) (br ((xit a (gC o i 0).toInt).isSome) (br (xki o i) (br (ixS o i (Sh.int .i64) 0) (br ((xit b (gC o i 0).toInt).isSome) (br (xpM a b o i != 0) (br (xki o i) (br (decide (i.toNat<o.length)&&xLN Sh.bool (gC o i 1)) (κr (true,(!decide (xpM a b o i<0)==(gC o i 1).toBool),())) δ) δ) (κl (i64.wrap (i+1)))) δ) δ) δ) δ) δ) δ) (κr (false,false,()))
def xcr (a b o:LA):StT (Int) (Bool×(Bool)×(Unit)):=fun (i)=>xli a b o i none inL inR
def xpL:=xDF.l 44 0 [] [] Tryz.f144 0 lk0 [0,1,2,7] [0,1,6] [] (q4 (qL 3) (qL 3) (qL 2) qI) xMz (fun (a,b,o,i,_) _=>(xcr a b o,(i),fun p=>(.node p.1 (.leaf .ret [AV.list 3 a,AV.list 3 b,AV.bool p.2.1] []) (.leaf (.exit 0) [AV.list 3 a,AV.list 3 b,.top] [])))) (false,false,()) fun (a,b,o,_,_) _ (i)=>(((a,b,o,i,()),()),xli a b o i none)
def xoN {T:Type} (a b o:LA) (δ:T) (κ:Bool->T):T:=br ((Iter (xcr a b o) 0).isSome) (br (((Iter (xcr a b o) 0).getD (false,false,())).fst) (κ (((Iter (xcr a b o) 0).getD (false,false,())).snd.fst)) (br ((xaQ a b).isSome) (κ (decide ((xaQ a b).getD 0<0))) δ)) δ
def xnz (a b o:LA):=xoN a b o none some
def xDG:EO:=xDF.f Tryz.func144 44 0 [] [(2,xpL.lp)] (lk1 xpL.ok) (u3 (uL 3) (uL 3) (uL 2)) (fun (a,b,o,_) _=>xoN a b o) (fun _ p=>AV.bool p) false
def xca (b:LA) (k:Int):=decide (k.toNat<b.length)&&xLN (Sh.list 3) (gC b k 0)
def xcb (a:LA) (i:Int):=decide (i.toNat<a.length)&&xLN (Sh.list 3) (gC a i 0)
def xcc (a:LA) (i:Int):=ixI a i
def xcd (b:LA) (k:Int):=ixI b k
def xbP {T:Type} (b:LA) (c:Nat) (i k:Int) (a:LA) (δ:T) (κl:(Nat×Int×Int×LA)->T):T:=br (xcd b k) (br (xca b k) (br (rmB c a 1 24) (κl (c+1,i,i64.wrap (k+1),a++[AV.list 3 (gC b k 0).toList])) δ) δ) δ
def xbQ {T:Type} (a:LA) (c:Nat) (i k:Int) (b:LA) (δ:T) (κl:(Nat×Int×Int×LA)->T):T:=br (xcc a i) (br (xcb a i) (br (rmB c b 1 24) (κl (c+1,i64.wrap (i+1),k,b++[AV.list 3 (gC a i 0).toList])) δ) δ) δ
def xbO {T:Type} (a b o:LA) (d:Nat) (i k:Int) (c:LA) (δ:T) (κl:(Nat×Int×Int×LA)->T):T:=br (i==(↑a.length:Int)) (xbP b d i k c δ κl) (br (decide (k<b.length)) (br (xcd b k) (br (xca b k) (br (xcc a i) (br (xcb a i) (br ((xnz (gC b k 0).toList (gC a i 0).toList o).isSome) (br ((xnz (gC b k 0).toList (gC a i 0).toList o).getD false) (xbP b d i k c δ κl) (xbQ a d i k c δ κl)) δ) δ) δ) δ) δ) (xbQ a d i k c δ κl))
def xcC {T:Type} (a b o:LA) (d:Nat) (i k:Int) (c:LA) (δ:T) (κl:(Nat×Int×Int×LA)->T) (κr:(Nat×LA)->T):T:=br (decide (i<a.length)) (xbO a b o d i k c δ κl) (br (decide (k<b.length)) (xbO a b o d i k c δ κl) (κr (d,c)))
def xaN (a b o:LA):StT (Nat×Int×Int×LA) (Nat×LA):=fun (d,i,k,c)=>xcC a b o d i k c none inL inR
def xpR:=xDG.l 62 0 [] [] Tryz.f114 0 lk0 [0,1,2,7,8,9] [7] [(7,1,42)] (q6 (qL 1) (qL 1) (qL 2) (xMJ 0 0 0) qI qI) (q1 (qB 0 1 42 xMB)) (fun (a,b,o,d,i,k,_) (c,_)=>(xaN a b o,(d,i,k,c),fun p=>(.leaf (.exit 0) [AV.osl 0 0 0 p.1] [bF 0 1 42 p.2]))) (0,[]) fun (a,b,o,_,_,_,_) _ (d,i,k,c)=>(((a,b,o,d,i,k,()),(c,())),xcC a b o d i k c none)
def xnD (a b o:LA):=Iter (xaN a b o) (0,0,0,[])
def xnC (a b o:LA):=(xnD a b o).getD (0,[])
def xnA (a b o:LA):=(xnC a b o).snd
def xnB (a b o:LA):=(xnC a b o).fst
def xoO {T:Type} (a b o:LA) (δ:T) (κ:LA->T):T:=br ((xnD a b o).isSome) (br (decide (0+xnB a b o<=(xnA a b o).length)&&true) (κ (List.take (xnB a b o) (List.drop 0 (xnA a b o)))) δ) δ
def xrO (a b o:LA):=xoO a b o none some
def xvM:EO:=xDG.f Tryz.func114 62 0 [] [(3,xpR.lp)] (lk1 xpR.ok) (u3 (uL 1) (uL 1) (uL 2)) (fun (a,b,o,_) _=>xoO a b o) (fun _ p=>AV.list 1 p) []
def xmm (R:LA->LA->Option (LA)):LA->Option (Bool×AV):=ocOf (xMy (xMN 1 xMB) (xMy (xMN 2 xMB) xMA)) fun (l,(o,_))=>((R l o).isSome,AV.list 1 ((R l o).getD []))
def xhe (R:LA->LA->Option (LA)):Prop:=OcOk P0 xMv 80 (xmm R)
def xfG (R:LA->LA->Option (LA)):Env:=(xvM.E.with 80 (xmm R)).fn 34 0 (lsOf []) (xMa [])
theorem xvY (R:LA->LA->Option (LA)) (a:xhe R):xLP P0 (xMv.at 0) (xfG R):=(xvM.ok.with a).fn
theorem xuU (R:LA->LA->Option (LA)) (a:xhe R):LoOk P0 (xMv.at (xfG R).pin) (xfG R) (Tryz.f80.body.getD .skip):=xmf (by kernel_rfl)
def xhO (l:LA):=decide (0<=i64.wrap ((↑l.length:Int).tdiv 2))&&decide (i64.wrap ((↑l.length:Int).tdiv 2)<=(↑l.length:Int))
def xef (l:LA):Nat:=0+((l.getD 0 .top).cells.getD 0 .top).toList.length
def xhP (R:LA->LA->Option (LA)) (l o:LA):Option (LA):=R (List.take (l.length - (i64.wrap ((↑l.length:Int).tdiv 2)).toNat) (List.drop (i64.wrap ((↑l.length:Int).tdiv 2)).toNat l)) o
def xhN (R:LA->LA->Option (LA)) (l o:LA):Option (LA):=xrO ((R (List.take ((i64.wrap ((↑l.length:Int).tdiv 2)).toNat - 0) (List.drop 0 l)) o).getD []) ((xhP R l o).getD []) o
def xdY {T:Type} (R:LA->LA->Option (LA)) (l o:LA) (δ:T) (κ:LA->T):T:=br ((↑l.length:Int)==0) (κ ([])) (br ((↑l.length:Int)==1) (br (decide (0<(↑l.length:Int))) (br (decide (0<l.length)&&xLN (Sh.list 3) ((l.getD 0 .top).cells.getD 0 .top)) (br (decide (xef l*32<=140737488355328)&&decide (xef l<=4611686018427387904)) (br (decide (0+xef l<=([]++((l.getD 0 .top).cells.getD 0 .top).toList).length)&&true&&true&&true) (κ ([AV.list 3 (List.take (xef l) (List.drop 0 ([]++((l.getD 0 .top).cells.getD 0 .top).toList)))])) δ) δ) δ) δ) (br (xhO l&&true) (br ((R (List.take ((i64.wrap ((↑l.length:Int).tdiv 2)).toNat - 0) (List.drop 0 l)) o).isSome) (br (xhO l) (br ((xhP R l o).isSome) (br ((xhN R l o).isSome) (κ ((xhN R l o).getD [])) δ) δ) δ) δ) δ))
def xbo (R:LA->LA->Option (LA)) (l o:LA):=xdY R l o none some
theorem xA4 (R:LA->LA->Option (LA)) (l o:LA):Enc (fun (p:LA)=>((AV.list 1 p):AV)) (xbo R l o) (XF P0 (xfG R) Tryz.f80 (Tryz.f80.body.getD .skip) [AV.list 1 l,AV.list 2 o]):=by
 have h:XF P0 (xfG R) Tryz.f80 (Tryz.f80.body.getD .skip) [AV.list 1 l,AV.list 2 o]=xdY R l o none (fun (p:LA)=>some ((AV.list 1 p):AV)):=by kernel_rfl
 rw [h];unfold xbo xdY;repeat' (first|refine Enc.br ?_ ?_|exact Enc.none|exact Enc.some rfl)
def xA3 (R:LA->LA->Option (LA)):LA->Option (Bool×AV):=ocOf (xMy (xMN 1 xMB) (xMy (xMN 2 xMB) xMA)) fun (l,(o,_))=>((xbo R l o).isSome,(AV.list 1 ((xbo R l o).getD [])))
theorem xA2 (R:LA->LA->Option (LA)) (a:xhe R):OcOk P0 xMv 80 (xA3 R):=xjb fun e g f=>by
 obtain ⟨l,⟨o,_⟩⟩:=e;obtain ⟨b,c⟩:=Prod.mk.inj f;refine xfN (p:=(xfG R).pin) (xi8 xLY (xLZ P0 _) rfl (xvY R a) Tryz.func80 rfl (by kernel_rfl) (xuU R a) ((xA4 R _ _ _ (xbH (d:=[]) b)).trans ?_))
 exact congrArg some c
def xbg:Nat->LA->LA->Option (LA)
 | 0=>fun _ _=>none
 | fu_+1=>fun l o=>xbo (xbg fu_) l o
theorem xrM:∀ n,xhe (xbg n)
 | 0=>xjb fun _ _ h=>absurd (Prod.mk.inj h).1 Bool.false_ne_true
 | fu_+1=>fun a r h=>xA2 (xbg fu_) (xrM fu_) a r h
def xDH:Env:=xvM.E.with 80 (xmm (xbg 1000))
theorem xEy:xLP P0 xMv xDH:=xvM.ok.with (xrM _)
def xEw:EO:=EO.mk xDH xEy
def xrN {T:Type} (l:LA) (δ:T) (κ:LA->T):T:=br ((xbg 1000 l []).isSome) (κ ((xbg 1000 l []).getD [])) δ
def xkT (l:LA):=xrN l none some
def xvN:EO:=xEw.f Tryz.func48 5 0 [] [] lk0 (u1 (uL 1)) (fun (l,_) _=>xrN l) (fun _ p=>AV.list 1 p) []
def xfp (a:LA) (i:Int):=decide (i.toNat<a.length)&&xLN (Sh.list 3) (gC a i 0)
def xfq (a:LA) (i:Int):=ixI a i
def xfr (a:LA) (i:Int):=xs6 ((a.getD (i64.wrap (i - 1)).toNat .top).cells.getD 0 .top).toList (gC a i 0).toList
def xdl {T:Type} (c:LA) (b:Nat) (i:Int) (a:LA) (δ:T) (κl:(Nat×Int×LA)->T):T:=br (xfq c i) (br (xfp c i) (br (rmB b a 1 24) (κl (b+1,i64.wrap (i+1),a++[AV.list 3 (gC c i 0).toList])) δ) δ) δ
def xf2 {T:Type} (a:LA) (c:Nat) (i:Int) (b:LA) (δ:T) (κl:(Nat×Int×LA)->T) (κr:(Nat×LA)->T):T:=br (decide (i<a.length)) (br (i==0) (xdl a c i b δ κl) (br (decide (0<=i64.wrap (i - 1))&&decide (i64.wrap (i - 1)<(↑a.length:Int))) (br (decide ((i64.wrap (i - 1)).toNat<a.length)&&xLN (Sh.list 3) ((a.getD (i64.wrap (i - 1)).toNat .top).cells.getD 0 .top)) (br (xfq a i) (br (xfp a i) (br ((xfr a i).isSome) (br (!(xfr a i).getD false) (xdl a c i b δ κl) (κl (c,i64.wrap (i+1),b))) δ) δ) δ) δ) δ)) (κr (c,b))
def xbK (c:LA):StT (Nat×Int×LA) (Nat×LA):=fun (b,i,a)=>xf2 c b i a none inL inR
def xlh (l:LA):=(Iter (xbK ((xkT l).getD [])) (0,0,[])).getD (0,[])
def xlf (l:LA):=(xlh l).snd
def xlg (l:LA):=(xlh l).fst
def xrJ {T:Type} (l:LA) (δ:T) (κ:LA->T):T:=br ((xkT l).isSome) (br ((Iter (xbK ((xkT l).getD [])) (0,0,[])).isSome) (br (decide (0+xlg l<=(xlf l).length)&&true) (κ (List.take (xlg l) (List.drop 0 (xlf l)))) δ) δ) δ
def xoM (l:LA):=xrJ l none some
def xnV {T:Type} (l:LA) (b:Nat) (i:Int) (a:LA) (δ:T) (κl:(Nat×Int×LA)->T) (κr:(Nat×LA)->T):T:=br (decide (i<l.length)) (br (ixI l i) (br (ixT l i 3 [Sh.int .i64,Sh.int .i64] 1) (br (xer (gC l i 1).toInt (gC l i 2).toInt) (br (ixI l i) (br (ixS l i (Sh.list 3) 0) (br (rmB b a 1 24) (κl (b+1,i64.wrap (i+1),a++[AV.list 3 (gC l i 0).toList])) δ) δ) δ) (κl (b,i64.wrap (i+1),a))) δ) δ) (κr (b,a))
def xeD (l:LA):StT (Nat×Int×LA) (Nat×LA):=fun (b,i,a)=>xnV l b i a none inL inR
def xqt (l:LA):=(Iter (xeD l) (0,0,[])).getD (0,[])
def xqr (l:LA):=(xqt l).fst
def xqs (l:LA):=(xqt l).snd
def xqq (l:LA):=xoM (List.take (xqr l) (List.drop 0 (xqs l)))
def xvw {T:Type} (l:LA) (δ:T) (κ:LA->T):T:=br ((Iter (xeD l) (0,0,[])).isSome) (br (decide (0+xqr l<=(xqs l).length)&&true) (br ((xqq l).isSome) (κ ((xqq l).getD [])) δ) δ) δ
def xrd (l:LA):=xvw l none some
def xc5 (k:Nat) (a:LA):=(List.take ((i64.wrap ((↑k:Int) - 1)).toNat - 0) (List.drop 0 a)).length
def xlT (k:Nat) (a:LA):=decide (0+(i64.wrap ((↑k:Int) - 1)).toNat<a.length)
def xiZ (k:Nat) (a:LA):=((a.getD (0+(i64.wrap ((↑k:Int) - 1)).toNat) .top).cells.getD 1 .top).toInt
def xlU (k:Nat):=decide (0<=i64.wrap ((↑k:Int) - 1))
def xiY (k:Nat):=xlU k&&decide (i64.wrap ((↑k:Int) - 1)<(↑k:Int))
def xlS (k:Nat) (a:LA):=xlT k a&&xLN (Sh.int .i64) ((a.getD (0+(i64.wrap ((↑k:Int) - 1)).toNat) .top).cells.getD 1 .top)
def xkS {T:Type} (k:Nat) (a b:Int) (c:LA) (δ:T) (κ:Bool×(Nat×LA×LA)×(Nat×LA)->T):T:=br (rmB k c 1 16) (κ (false,(0,[],[]),(k+1,c++[AV.agg [AV.int .i64 a,AV.int .i64 b]]))) δ
def xrF {T:Type} (k:Nat) (b c:Int) (a:LA) (δ:T) (κ:Bool×(Nat×LA×LA)×(Nat×LA)->T):T:=br (decide ((↑k:Int)>0)) (br (xiY k) (br (xlS k a) (br (decide (xiZ k a>=b)) (br (xlU k&&decide (i64.wrap ((↑k:Int) - 1)<=(↑k:Int))&&true) (br (decide (0+((i64.wrap ((↑k:Int) - 1)).toNat - 0)<=a.length)&&(decide (xc5 k a*16<=140737488355328)&&decide (xc5 k a<=4611686018427387904))) (br (xiY k) (br (xlT k a&&xLN (Sh.int .i64) ((a.getD (0+(i64.wrap ((↑k:Int) - 1)).toNat) .top).cells.getD 0 .top)) (br (xiY k) (br (xlS k a) (br (xc5 k a==xc5 k a&&(decide ((xc5 k a+1)*16<=140737488355328)&&decide (xc5 k a+1<=4611686018427387904))) (κ (true,(xc5 k a+1,a,List.take ((i64.wrap ((↑k:Int) - 1)).toNat - 0) (List.drop 0 a)++[AV.agg [AV.int .i64 ((a.getD (0+(i64.wrap ((↑k:Int) - 1)).toNat) .top).cells.getD 0 .top).toInt,AV.int .i64 (if c>xiZ k a then c else xiZ k a)]]),(0,[]))) δ) δ) δ) δ) δ) δ) δ) (xkS k b c a δ κ)) δ) δ) (xkS k b c a δ κ)
def xgy (k:Nat) (a b:Int) (c:LA):=xrF k a b c none some
def xhc {T:Type} (l:LA) (n:Int) (b:Nat) (i:Int) (a:LA) (δ:T) (κl:(Nat×Int×LA)->T) (κr:(Nat×Int×LA)->T):T:=br (decide (i<l.length)) (br (ixI l i) (br (ixS l i (Sh.int .i64) 0) (br (decide ((gC l i 0).toInt<n)) (br (ixI l i) (br (ixS l i (Sh.int .i64) 0) (br (rmB b a 1 8) (κl (b+1,i64.wrap (i+1),a++[AV.int .i64 (gC l i 0).toInt])) δ) δ) δ) (κr (b,i,a))) δ) δ) (κr (b,i,a))
def xck (l:LA) (n:Int):StT (Nat×Int×LA) (Nat×Int×LA):=fun (b,i,a)=>xhc l n b i a none inL inR
def xk4 {T:Type} (l:LA) (b:Nat) (i:Int) (a:LA) (δ:T) (κl:(Nat×Int×LA)->T) (κr:(Nat×LA)->T):T:=br (decide (i<l.length)) (br (ixI l i) (br (ixS l i (Sh.int .i64) 0) (br (rmB b a 1 8) (κl (b+1,i64.wrap (i+1),a++[AV.int .i64 (gC l i 0).toInt])) δ) δ) δ) (κr (b,a))
def xcl (l:LA):StT (Nat×Int×LA) (Nat×LA):=fun (b,i,a)=>xk4 l b i a none inL inR
def xfR (l:LA) (n:Int):=(Iter (xck l n) (0,0,[])).getD (0,0,[])
def xee (l:LA) (n:Int):=(xfR l n).fst
def xfQ (l:LA) (n:Int):=(xfR l n).snd
def xa0 (l:LA) (n:Int):=(xfQ l n).fst
def xec (l:LA) (n:Int):=xee l n+1
def xed (l:LA) (n:Int):=(xfQ l n).snd
def xgs (l:LA) (n:Int):=Iter (xcl l) (xec l n,xa0 l n,xed l n++[AV.int .i64 n])
def xgw (l:LA) (n:Int):=Iter (xcl l) (xee l n,xa0 l n,xed l n)
def xir (l:LA) (n:Int):=xee l n==(xed l n).length
def xgr (l:LA) (n:Int):=(xgs l n).getD (0,[])
def xjD (l:LA) (n:Int):=(xgs l n).isSome
def xgv (l:LA) (n:Int):=(xgw l n).getD (0,[])
def xgp (l:LA) (n:Int):=(xgr l n).fst
def xgq (l:LA) (n:Int):=(xgr l n).snd
def xgt (l:LA) (n:Int):=(xgv l n).fst
def xgu (l:LA) (n:Int):=(xgv l n).snd
def xmh {T:Type} (l:LA) (n:Int) (δ:T) (κ:LA->T):T:=br (xir l n&&(decide (xec l n*8<=140737488355328)&&decide (xec l n<=4611686018427387904))) (br (xjD l n) (br (decide (0+xgp l n<=(xgq l n).length)&&true) (κ (List.take (xgp l n) (List.drop 0 (xgq l n)))) δ) δ) δ
def xtI {T:Type} (l:LA) (n:Int) (δ:T) (κ:LA->T):T:=br ((Iter (xck l n) (0,0,[])).isSome) (br (xa0 l n==(↑l.length:Int)) (xmh l n δ κ) (br (decide (0<=xa0 l n)&&decide (xa0 l n<l.length)) (br (decide ((xa0 l n).toNat<l.length)&&xLN (Sh.int .i64) ((l.getD (xa0 l n).toNat .top).cells.getD 0 .top)) (br (decide (((l.getD (xa0 l n).toNat .top).cells.getD 0 .top).toInt>n)) (xmh l n δ κ) (br ((xgw l n).isSome) (br (decide (0+xgt l n<=(xgu l n).length)&&true) (κ (List.take (xgt l n) (List.drop 0 (xgu l n)))) δ) δ)) δ) δ)) δ
def xbF (l:LA) (n:Int):=xtI l n none some
def xix {T:Type} (k:Nat) (a n:Int) (b:LA) (δ:T) (κ:Bool×(Nat×LA)×(Nat×LA)->T):T:=br (rmB k b 1 16) (κ (false,(0,[]),(k+1,b++[AV.agg [AV.int .i64 a,AV.int .i64 n]]))) δ
def xpB {T:Type} (k:Nat) (a n:Int) (b:LA) (δ:T) (κ:Bool×(Nat×LA)×(Nat×LA)->T):T:=br (decide ((↑k:Int)>0)) (br (decide (0<=i64.wrap ((↑k:Int) - 1))&&decide (i64.wrap ((↑k:Int) - 1)<(↑k:Int))) (br (decide (0+(i64.wrap ((↑k:Int) - 1)).toNat<b.length)&&xLN (Sh.int .i64) ((b.getD (0+(i64.wrap ((↑k:Int) - 1)).toNat) .top).cells.getD 1 .top)) (br (((b.getD (0+(i64.wrap ((↑k:Int) - 1)).toNat) .top).cells.getD 1 .top).toInt==n) (κ (true,(k,b),(0,[]))) (xix k a n b δ κ)) δ) δ) (xix k a n b δ κ)
def xpK (k:Nat) (a n:Int) (b:LA):=xpB k a n b none some
def xhC (l:LA) (i:Int):=ixI l i
def xqa {T:Type} (l a:LA) (i:Int) (δ:T) (κl:(LA×Int)->T) (κr:(LA)->T):T:=br (decide (i<l.length)) (br (xhC l i) (br (ixT l i 3 [Sh.int .i64,Sh.int .i64] 0) (br (xer (gC l i 0).toInt (gC l i 1).toInt) (br (xhC l i) (br (ixS l i (Sh.int .i64) 0) (br ((xbF a (gC l i 0).toInt).isSome) (br (xhC l i) (br (ixS l i (Sh.int .i64) 1) (br ((xbF ((xbF a (gC l i 0).toInt).getD []) (gC l i 1).toInt).isSome) (κl ((xbF ((xbF a (gC l i 0).toInt).getD []) (gC l i 1).toInt).getD [],i64.wrap (i+1))) δ) δ) δ) δ) δ) δ) (κl (a,i64.wrap (i+1)))) δ) δ) (κr (a))
def xfS (l:LA):StT (LA×Int) (LA):=fun (a,i)=>xqa l a i none inL inR
def xqb {T:Type} (l b:LA) (c:Nat) (k n i:Int) (a:LA) (δ:T) (κl:(Int×Int×LA)->T) (κr:(Int×LA)->T):T:=br (decide (i<l.length)) (br (ixI l i) (br (ixT l i 3 [Sh.int .i64,Sh.int .i64] 0) (br (ixI b k) (br (ixS b k (Sh.int .i64) 0) (br (xfD (gC l i 0).toInt (gC l i 1).toInt (gC b k 0).toInt) (br (ixI l i) (br (ixS l i (Sh.int .i64) 2) (κl (i64.wrap (n+(gC l i 2).toInt),i64.wrap (i+1),a)) δ) δ) (κl (n,i64.wrap (i+1),a))) δ) δ) δ) δ) (κr (n,a))
def xfU (l c:LA) (b:Nat) (k:Int):StT (Int×Int×LA) (Int×LA):=fun (n,i,a)=>xqb l c b k n i a none inL inR
def xhJ (l c:LA) (b:Nat) (k:Int) (a:LA):=(Iter (xfU l c b k) (0,0,a)).getD (0,[])
def xhI (l c:LA) (a:Nat) (k:Int) (b:LA):=xpK a (gC c k 0).toInt (xhJ l c a k b).fst (xhJ l c a k b).snd
def xhH (l c:LA) (b:Nat) (k:Int) (a:LA):=(xhI l c b k a).getD (false,(0,[]),0,[])
def xhF (l c:LA) (b:Nat) (k:Int) (a:LA):=(xhH l c b k a).snd
def xhG (l c:LA) (b:Nat) (k:Int) (a:LA):=(xhH l c b k a).fst
def xhD (l c:LA) (b:Nat) (k:Int) (a:LA):=(xhF l c b k a).fst
def xhE (l c:LA) (b:Nat) (k:Int) (a:LA):=(xhF l c b k a).snd
def xlV {T:Type} (l c:LA) (b:Nat) (k:Int) (a:LA) (δ:T) (κl:(Nat×Int×LA)->T) (κr:(Nat×LA)->T):T:=br (decide (k<c.length)) (br (ixI c k) (br (ixS c k (Sh.int .i64) 0) (br (decide ((gC c k 0).toInt<1099511627776)) (br ((Iter (xfU l c b k) (0,0,a)).isSome) (br (ixI c k) (br (ixS c k (Sh.int .i64) 0) (br ((xhI l c b k a).isSome) (κl (br (xhG l c b k a) (xhD l c b k a).fst (xhE l c b k a).fst,i64.wrap (k+1),br (xhG l c b k a) (xhD l c b k a).snd (xhE l c b k a).snd)) δ) δ) δ) δ) (κr (b,a))) δ) δ) (κr (b,a))
def xfT (l c:LA):StT (Nat×Int×LA) (Nat×LA):=fun (b,k,a)=>xlV l c b k a none inL inR
def xs5 (l:LA):=Iter (xfT l ((Iter (xfS l) ([AV.int .i64 0],0)).getD [])) (0,0,[])
def xs4 (l:LA):=(xs5 l).getD (0,[])
def xs2 (l:LA):=(xs4 l).snd
def xs3 (l:LA):=(xs4 l).fst
def xyY {T:Type} (l:LA) (δ:T) (κ:LA->T):T:=br ((Iter (xfS l) ([AV.int .i64 0],0)).isSome) (br ((xs5 l).isSome) (br (decide (0+xs3 l<=(xs2 l).length)&&true) (κ (List.take (xs3 l) (List.drop 0 (xs2 l)))) δ) δ) δ
def xw3 (l:LA):=xyY l none some
def xls {T:Type} (l c:LA) (b:Nat) (i:Int) (a:LA) (δ:T) (κl:(Nat×Int×LA)->T) (κr:(Nat×LA)->T):T:=br (decide (i<l.length)) (br (ixI l i) (br (ixS l i (Sh.list 3) 0) (br ((xaQ (gC l i 0).toList c).isSome) (br ((xaQ (gC l i 0).toList c).getD 0==0) (br (ixI l i) (br (ixT l i 3 [Sh.int .i64,Sh.int .i64] 1) (br (rmB b a 1 24) (κl (b+1,i64.wrap (i+1),a++[AV.agg [AV.int .i64 (gC l i 1).toInt,AV.int .i64 (gC l i 2).toInt,AV.int .i64 1]])) δ) δ) δ) (κl (b,i64.wrap (i+1),a))) δ) δ) δ) (κr (b,a))
def xdL (l b:LA):StT (Nat×Int×LA) (Nat×LA):=fun (c,i,a)=>xls l b c i a none inL inR
def xnR (l a:LA):=(Iter (xdL l a) (0,0,[])).getD (0,[])
def xnP (l a:LA):=(xnR l a).snd
def xnQ (l a:LA):=(xnR l a).fst
def xnO (l a:LA):=xw3 (List.take (xnQ l a) (List.drop 0 (xnP l a)))
def xtN {T:Type} (l a:LA) (δ:T) (κ:LA->T):T:=br ((Iter (xdL l a) (0,0,[])).isSome) (br (decide (0+xnQ l a<=(xnP l a).length)&&true) (br ((xnO l a).isSome) (κ ((xnO l a).getD [])) δ) δ) δ
def xnN (l a:LA):=xtN l a none some
def xhi {T:Type} (a:LA) (c:Nat) (i k:Int) (b:LA) (δ:T) (κl:(Int×LA)->T) (κr:(Int×LA)->T):T:=br (decide (k<a.length)) (br (ixI a k) (br (ixS a k (Sh.list 3) 0) (br (ixI a i) (br (ixS a i (Sh.list 3) 0) (br ((xaQ (gC a k 0).toList (gC a i 0).toList).isSome) (br ((xaQ (gC a k 0).toList (gC a i 0).toList).getD 0==0) (κl (i64.wrap (k+1),b)) (κr (k,b))) δ) δ) δ) δ) δ) (κr (k,b))
def xbE (c:LA) (b:Nat) (i:Int):StT (Int×LA) (Int×LA):=fun (k,a)=>xhi c b i k a none inL inR
def xhj {T:Type} (d:LA) (i k:Int) (a:LA) (c:Nat) (n:Int) (b:LA) (δ:T) (κl:(Nat×Int×LA)->T) (κr:(Nat×LA)->T):T:=br (decide (n<a.length)) (br (ixI a n) (br (ixS a n (Sh.list 3) 0) (br (decide (0<=k)&&decide (k<=d.length)&&(decide (0<=i)&&decide (i<=(↑k.toNat:Int)))) (br (ixI a n) (br (ixS a n (Sh.list 3) 0) (br ((xnN (List.take (k.toNat - i.toNat) (List.drop i.toNat d)) (gC a n 0).toList).isSome) (br (rmB c b 1 48) (κl (c+1,i64.wrap (n+1),b++[AV.agg [AV.list 3 (gC a n 0).toList,AV.list 2 ((xnN (List.take (k.toNat - i.toNat) (List.drop i.toNat d)) (gC a n 0).toList).getD [])]])) δ) δ) δ) δ) δ) δ) δ) (κr (c,b))
def xdN (d:LA) (i k:Int) (c:LA):StT (Nat×Int×LA) (Nat×LA):=fun (b,n,a)=>xhj d i k c b n a none inL inR
def xbw (c:LA) (b:Nat) (i:Int) (a:LA):=((Iter (xbE c b i) (i,a)).getD (0,[])).fst
def xkm (c:LA) (a:Nat) (i:Int) (b:LA):=Iter (xdN c i (xbw c a i b) ((xrd (List.take ((xbw c a i b).toNat - i.toNat) (List.drop i.toNat c))).getD [])) (a,0,((Iter (xbE c a i) (i,b)).getD (0,[])).snd)
def xkl (c:LA) (b:Nat) (i:Int) (a:LA):=(xkm c b i a).getD (0,[])
def xlu {T:Type} (c:LA) (b:Nat) (i:Int) (a:LA) (δ:T) (κl:(Nat×Int×LA)->T) (κr:(Nat×LA)->T):T:=br (decide (i<c.length)) (br ((Iter (xbE c b i) (i,a)).isSome) (br (decide (0<=xbw c b i a)&&decide (xbw c b i a<=c.length)&&(decide (0<=i)&&decide (i<=(↑(xbw c b i a).toNat:Int)))) (br ((xrd (List.take ((xbw c b i a).toNat - i.toNat) (List.drop i.toNat c))).isSome) (br ((xkm c b i a).isSome) (κl ((xkl c b i a).fst,xbw c b i a,(xkl c b i a).snd)) δ) δ) δ) δ) (κr (b,a))
def xdM (c:LA):StT (Nat×Int×LA) (Nat×LA):=fun (b,i,a)=>xlu c b i a none inL inR
def xnZ (l:LA):=Iter (xdM ((xcJ 100 l).getD [])) (0,0,[])
def xnY (l:LA):=(xnZ l).getD (0,[])
def xnW (l:LA):=(xnY l).fst
def xnX (l:LA):=(xnY l).snd
def xtP {T:Type} (l:LA) (δ:T) (κ:LA->T):T:=br ((xcJ 100 l).isSome) (br ((xnZ l).isSome) (br (decide (0+xnW l<=(xnX l).length)&&true) (κ (List.take (xnW l) (List.drop 0 (xnX l)))) δ) δ) δ
def xkk (l:LA):=xtP l none some
def xcO (l:LA) (n i:Int):=decide ((gC l i 1).toInt>=n)
def xa2 (l:LA) (i:Int):=ixI l i
def xcm (l:LA) (b:Nat) (i:Int) (a:LA):=(xgy b (gC l i 0).toInt 1099511627776 a).getD (false,(0,[],[]),0,[])
def xcn (l:LA) (b:Nat) (i:Int) (a:LA):=xgy b (gC l i 0).toInt ((l.getD (i64.wrap (i+1)).toNat .top).cells.getD 0 .top).toInt a
def xco (l:LA) (i:Int):=decide (i64.wrap (i+1)<(↑l.length:Int))
def xcV (l:LA) (b:Nat) (i:Int) (a:LA):=(xcn l b i a).getD (false,(0,[],[]),0,[])
def xcW (l:LA) (b:Nat) (i:Int) (a:LA):=(xcm l b i a).fst
def xcX (l:LA) (b:Nat) (i:Int) (a:LA):=(xcm l b i a).snd
def xcR (l:LA) (b:Nat) (i:Int) (a:LA):=(xcV l b i a).snd
def xcS (l:LA) (b:Nat) (i:Int) (a:LA):=(xcV l b i a).fst
def xcT (l:LA) (b:Nat) (i:Int) (a:LA):=(xcX l b i a).snd
def xcU (l:LA) (b:Nat) (i:Int) (a:LA):=(xcX l b i a).fst
def xcP (l:LA) (b:Nat) (i:Int) (a:LA):=(xcR l b i a).snd
def xcQ (l:LA) (b:Nat) (i:Int) (a:LA):=(xcR l b i a).fst
def xdj {T:Type} (l:LA) (n:Int) (b:Nat) (i:Int) (a:LA) (δ:T) (κl:(Nat×Int×LA)->T) (κr:(Nat×LA)->T):T:=br (decide (i<l.length)) (br (xco l i) (br (decide (0<=i64.wrap (i+1))&&xco l i) (br (decide ((i64.wrap (i+1)).toNat<l.length)&&xLN (Sh.int .i64) ((l.getD (i64.wrap (i+1)).toNat .top).cells.getD 0 .top)) (br (xa2 l i) (br (ixS l i (Sh.int .i64) 1) (br (xcO l n i) (br (xa2 l i) (br (ixS l i (Sh.int .i64) 0) (br ((xcn l b i a).isSome) (κl (br (xcS l b i a) (xcQ l b i a).fst (xcP l b i a).fst,i64.wrap (i+1),br (xcS l b i a) (xcQ l b i a).snd.snd (xcP l b i a).snd)) δ) δ) δ) (κl (b,i64.wrap (i+1),a))) δ) δ) δ) δ) (br (xa2 l i) (br (ixS l i (Sh.int .i64) 1) (br (xcO l n i) (br (xa2 l i) (br (ixS l i (Sh.int .i64) 0) (br ((xgy b (gC l i 0).toInt 1099511627776 a).isSome) (κl (br (xcW l b i a) (xcU l b i a).fst (xcT l b i a).fst,i64.wrap (i+1),br (xcW l b i a) (xcU l b i a).snd.snd (xcT l b i a).snd)) δ) δ) δ) (κl (b,i64.wrap (i+1),a))) δ) δ)) (κr (b,a))
def xaH (l:LA) (n:Int):StT (Nat×Int×LA) (Nat×LA):=fun (b,i,a)=>xdj l n b i a none inL inR
def xmk (l:LA) (n:Int):=(Iter (xaH l n) (0,0,[])).getD (0,[])
def xmi (l:LA) (n:Int):=(xmk l n).snd
def xmj (l:LA) (n:Int):=(xmk l n).fst
def xsz {T:Type} (l:LA) (n:Int) (δ:T) (κ:LA->T):T:=br ((Iter (xaH l n) (0,0,[])).isSome) (br (decide (0+xmj l n<=(xmi l n).length)&&true) (κ (List.take (xmj l n) (List.drop 0 (xmi l n)))) δ) δ
def xdX (l:LA) (n:Int):=xsz l n none some
def xhd (l:LA) (i:Int):=decide (i.toNat<l.length)&&((l.getD i.toNat .top).cells.length==2&&xLU [Sh.int .i64,Sh.int .i64] (l.getD i.toNat .top).cells 0)
def xis {T:Type} (l:LA) (b:Nat) (i c d:Int) (a:LA) (δ:T) (κl:(Nat×Int×Int×Int×LA)->T) (κr:(Nat×Int×Int×Int×LA)->T):T:=br (decide (i<l.length)) (br (ixI l i) (br (xhd l i) (br (decide (xp9 (gC l i 0).toInt (gC l i 1).toInt c d<=0)) (br (ixI l i) (br (xhd l i) (br (rmB b a 1 16) (κl (b+1,i64.wrap (i+1),c,d,a++[AV.agg [AV.int .i64 (gC l i 0).toInt,AV.int .i64 (gC l i 1).toInt]])) δ) δ) δ) (κr (b,i,c,d,a))) δ) δ) (κr (b,i,c,d,a))
def xcY (l:LA):StT (Nat×Int×Int×Int×LA) (Nat×Int×Int×Int×LA):=fun (b,i,c,d,a)=>xis l b i c d a none inL inR
def xnv (l:LA) (a b:Int):=Iter (xcY l) (0,0,a,b,[])
def xnu (l:LA) (a b:Int):=(xnv l a b).getD (0,0,0,0,[])
def xoL (l:LA) (a b:Int):=(xnu l a b).fst
def xnt (l:LA) (a b:Int):=(xnu l a b).snd
def xhL (l:LA) (a b:Int):=xoL l a b+1
def xhM (l:LA) (a b:Int):=(xnt l a b).fst
def xoK (l:LA) (a b:Int):=(xnt l a b).snd
def xoH (l:LA) (a b:Int):=List.take (l.length - (xhM l a b).toNat) (List.drop (xhM l a b).toNat l)
def xoJ (l:LA) (a b:Int):=(xoK l a b).snd
def xhK (l:LA) (a b:Int):=xhL l a b+(xoH l a b).length
def xoI (l:LA) (a b:Int):=(xoJ l a b).snd
def xoG (l:LA) (a b:Int):=xoI l a b++[AV.agg [AV.int .i64 (xoK l a b).fst,AV.int .i64 (xoJ l a b).fst]]
def xoF (l:LA) (a b:Int):=xoG l a b++xoH l a b
def xuG {T:Type} (l:LA) (a b:Int) (δ:T) (κ:LA->T):T:=br ((xnv l a b).isSome) (br (xoL l a b==(xoI l a b).length&&(decide (xhL l a b*16<=140737488355328)&&decide (xhL l a b<=4611686018427387904))) (br (decide (0<=xhM l a b)&&decide (xhM l a b<=l.length)) (br (xhL l a b==(xoG l a b).length&&(decide (xhK l a b*16<=140737488355328)&&decide (xhK l a b<=4611686018427387904))) (br (decide (0+xhK l a b<=(xoF l a b).length)&&true) (κ (List.take (xhK l a b) (List.drop 0 (xoF l a b)))) δ) δ) δ) δ) δ
def xpA (l:LA) (a b:Int):=xuG l a b none some
def xld {T:Type} (l:LA) (n:Int) (a b:LA) (i:Int) (δ:T) (κl:(LA×Int)->T) (κr:(LA)->T):T:=br (decide (i<a.length)) (br (ixI a i) (br (ixT a i 2 [Sh.int .i64,Sh.int .i64] 0) (br ((xpA b (gC a i 0).toInt (gC a i 1).toInt).isSome) (κl ((xpA b (gC a i 0).toInt (gC a i 1).toInt).getD [],i64.wrap (i+1))) δ) δ) δ) (κr (b))
def xcq (l:LA) (n:Int) (b:LA):StT (LA×Int) (LA):=fun (a,i)=>xld l n b a i none inL inR
def xlc {T:Type} (l a:LA) (n:Int) (δ:T) (κl:(LA×Int)->T) (κr:(Bool×(LA×LA)×(LA))->T):T:=br (decide (n<=1048576)) (br ((xdX l n).isSome) (br ((↑((xdX l n).getD []).length:Int)==0) (κr (true,(a,a),[])) (br ((Iter (xcq l n ((xdX l n).getD [])) (a,0)).isSome) (κl ((Iter (xcq l n ((xdX l n).getD [])) (a,0)).getD [],i64.wrap (n+1))) δ)) δ) (κr (false,([],[]),(a)))
def xcp (l:LA):StT (LA×Int) (Bool×(LA×LA)×(LA)):=fun (a,n)=>xlc l a n none inL inR
def xns (l:LA):=(Iter (xcp l) ([],1)).getD (false,([],[]),[])
def xnr (l:LA):=(xns l).snd
def xtK {T:Type} (l:LA) (δ:T) (κ:LA->T):T:=br ((Iter (xcp l) ([],1)).isSome) (br ((xns l).fst) (κ ((xnr l).fst.fst)) (κ ((xnr l).snd))) δ
def xdJ (l:LA):=xtK l none some
def xlt {T:Type} (d c:LA) (b:Nat) (i:Int) (a:LA) (δ:T) (κl:(Nat×Int×LA)->T) (κr:(Nat×LA)->T):T:=br (decide (i<c.length)) (br (ixI c i) (br (ixT c i 2 [Sh.int .i64,Sh.int .i64] 0) (br (rmB b a 1 40) (κl (b+1,i64.wrap (i+1),a++[AV.agg [AV.list 3 d,AV.int .i64 (gC c i 0).toInt,AV.int .i64 (gC c i 1).toInt]])) δ) δ) δ) (κr (b,a))
def xcs (c d:LA):StT (Nat×Int×LA) (Nat×LA):=fun (b,i,a)=>xlt c d b i a none inL inR
def xnU (a b:LA):=(Iter (xcs a b) (0,0,[])).getD (0,[])
def xnS (a b:LA):=(xnU a b).snd
def xnT (a b:LA):=(xnU a b).fst
def xtO {T:Type} (a b:LA) (δ:T) (κ:LA->T):T:=br ((Iter (xcs a b) (0,0,[])).isSome) (br (decide (0+xnT a b<=(xnS a b).length)&&true) (κ (List.take (xnT a b) (List.drop 0 (xnS a b)))) δ) δ
def xhR (a b:LA):=xtO a b none some
def xjK (g:LA) (a:Nat) (i:Int):=a+((xhR (gC g i 0).toList ((xdJ (gC g i 1).toList).getD [])).getD []).length
def xo6 {T:Type} (g:LA) (a:Nat) (i:Int) (b:LA) (δ:T) (κl:(Nat×Int×LA)->T) (κr:(Nat×LA)->T):T:=br (decide (i<g.length)) (br (ixI g i) (br (ixS g i (Sh.list 3) 0) (br (ixI g i) (br (ixS g i (Sh.list 2) 1) (br ((xdJ (gC g i 1).toList).isSome) (br ((xhR (gC g i 0).toList ((xdJ (gC g i 1).toList).getD [])).isSome) (br (a==b.length&&(decide (xjK g a i*40<=140737488355328)&&decide (xjK g a i<=4611686018427387904))) (κl (xjK g a i,i64.wrap (i+1),b++(xhR (gC g i 0).toList ((xdJ (gC g i 1).toList).getD [])).getD [])) δ) δ) δ) δ) δ) δ) δ) (κr (a,b))
def xe7 (g:LA):StT (Nat×Int×LA) (Nat×LA):=fun (b,i,a)=>xo6 g b i a none inL inR
def xr2 (l:LA):=(Iter (xe7 ((xkk l).getD [])) (0,0,[])).getD (0,[])
def xr0 (l:LA):=(xr2 l).snd
def xr1 (l:LA):=(xr2 l).fst
def xwq {T:Type} (l:LA) (δ:T) (κ:LA->T):T:=br ((xkk l).isSome) (br ((Iter (xe7 ((xkk l).getD [])) (0,0,[])).isSome) (br (decide (0+xr1 l<=(xr0 l).length)&&true) (κ (List.take (xr1 l) (List.drop 0 (xr0 l)))) δ) δ) δ
def xvu (l:LA):=xwq l none some
def xkV {T:Type} (l:LA) (i:Int) (δ:T) (κl:(Int)->T) (κr:(Bool×(Bool)×(Unit))->T):T:=br (decide (i<l.length)) (br (ixI l i) (br (ixS l i (Sh.list 3) 0) (br (decide ((↑(gC l i 0).toList.length:Int)>60)) (κr (true,(false),())) (κl (i64.wrap (i+1)))) δ) δ) (κr (false,false,()))
def xcE (l:LA):StT (Int) (Bool×(Bool)×(Unit)):=fun (i)=>xkV l i none inL inR
def xsD:=xvN.l 23 0 [] [] Tryz.f27 0 lk0 [0,5] [4] [] (q2 (qL 3) qI) xMz (fun (l,i,_) _=>(xcE l,(i),fun p=>(.node p.1 (.leaf .ret [AV.bool p.2.1] []) (.leaf (.exit 0) [.top] [])))) (false,false,()) fun (l,_,_) _ (i)=>(((l,i,()),()),xkV l i none)
def xth {T:Type} (l:LA) (a:Int) (δ:T) (κ:Bool->T):T:=br (decide ((↑l.length:Int)>a)) (κ (false)) (br ((Iter (xcE l) 0).isSome) (br (((Iter (xcE l) 0).getD (false,false,())).fst) (κ (((Iter (xcE l) 0).getD (false,false,())).snd.fst)) (κ (true))) δ)
def xmP (l:LA) (a:Int):=xth l a none some
def xFM:EO:=xvN.f Tryz.func27 23 0 [] [(4,xsD.lp)] (lk1 xsD.ok) (u2 (uL 3) uI) (fun (l,a,_) _=>xth l a) (fun _ p=>AV.bool p) false
def xlx {T:Type} (l:LA) (t:Int) (b:Nat) (i:Int) (a:LA) (δ:T) (κl:(Nat×Int×LA)->T) (κr:(Nat×LA)->T):T:=br (decide (i<l.length)) (br (ixI l i) (br (ixT l i 3 [Sh.int .i64,Sh.int .i64] 1) (br (xfD (gC l i 1).toInt (gC l i 2).toInt t) (br (ixI l i) (br (ixS l i (Sh.list 3) 0) (br (rmB b a 1 24) (κl (b+1,i64.wrap (i+1),a++[AV.list 3 (gC l i 0).toList])) δ) δ) δ) (κl (b,i64.wrap (i+1),a))) δ) δ) (κr (b,a))
def xel (l:LA) (t:Int):StT (Nat×Int×LA) (Nat×LA):=fun (b,i,a)=>xlx l t b i a none inL inR
def xtM:=xFM.l 30 0 [] [] Tryz.f22 0 lk0 [0,1,5,6] [5] [(5,1,42)] (q4 (qL 3) qI (xMJ 0 0 0) qI) (q1 (qB 0 1 42 xMB)) (fun (l,t,b,i,_) (a,_)=>(xel l t,(b,i,a),fun p=>(.leaf (.exit 0) [AV.osl 0 0 0 p.1] [bF 0 1 42 p.2]))) (0,[]) fun (l,t,_,_,_) _ (b,i,a)=>(((l,t,b,i,()),(a,())),xlx l t b i a none)
def xtg (l:LA) (t:Int):=(Iter (xel l t) (0,0,[])).getD (0,[])
def xte (l:LA) (t:Int):=(xtg l t).fst
def xtf (l:LA) (t:Int):=(xtg l t).snd
def xtd (l:LA) (t:Int):=xkT (List.take (xte l t) (List.drop 0 (xtf l t)))
def xuj {T:Type} (l:LA) (t:Int) (δ:T) (κ:LA->T):T:=br ((Iter (xel l t) (0,0,[])).isSome) (br (decide (0+xte l t<=(xtf l t).length)&&true) (br ((xtd l t).isSome) (κ ((xtd l t).getD [])) δ) δ) δ
def xmr (l:LA) (t:Int):=xuj l t none some
def xJP:EO:=xFM.f Tryz.func22 30 0 [] [(3,xtM.lp)] (lk1 xtM.ok) (u2 (uL 3) uI) (fun (l,t,_) _=>xuj l t) (fun _ p=>AV.list 1 p) []
def xFy:Int×Int×List UInt8:=((0,0,[]))
def xCM {T:Type} (δ:T) (κ:Int×Int×List UInt8->T):T:=κ (0,0,[])
def xJy:EO:=xBi.fT Tryz.func125 2 0 [] [] lk0 (fun _=>xCM none) xMA (fun _=>xFy) (fun _ p=>(AV.agg [AV.int .i64 p.1,AV.int .i64 p.2.1,AV.str p.2.2]))
def xuz {T:Type} (a:LA) (i:Int) (δ:T) (κ:Int×Int×List UInt8->T):T:=br (decide (i<0)) (κ (0,0,[])) (br (decide (i>=a.length)) (κ (0,0,[])) (br (ixI a i) (br (ixT a i 3 [Sh.int .i64,Sh.int .i64,Sh.str] 0) (κ ((gC a i 0).toInt,(gC a i 1).toInt,(gC a i 2).toStr)) δ) δ))
def xps (a:LA) (i:Int):=xuz a i none some
def xFG:EO:=xJy.f Tryz.func94 18 0 [] [] lk0 (u2 (uL 3) uI) (fun (a,i,_) _=>xuz a i) (fun _ p=>AV.agg [AV.int .i64 p.1,AV.int .i64 p.2.1,AV.str p.2.2]) (0,0,[])
def xiT (a b:LA) (c:Int):=(xps a (gC b c 0).toInt).getD (0,0,[])
def xiS (a b:LA) (c:Int):=(xiT a b c).snd
def xjR {T:Type} (e c:LA) (f:Int) (d:Nat) (a:Int) (b:LA) (δ:T) (κl:(Nat×Int×LA)->T) (κr:(Nat×LA)->T):T:=br (decide (a<f)) (br (ixI c a) (br (ixS c a (Sh.int .i64) 0) (br ((xps e (gC c a 0).toInt).isSome) (br (rmB d b 1 32) (κl (d+1,i64.wrap (a+1),b++[AV.agg [AV.int .i64 (xiT e c a).fst,AV.int .i64 (xiS e c a).fst,AV.str (xiS e c a).snd]])) δ) δ) δ) δ) (κr (d,b))
def xdz (c d:LA) (e:Int):StT (Nat×Int×LA) (Nat×LA):=fun (b,f,a)=>xjR c d e b f a none inL inR
def xsk:=xFG.l 25 0 [] [] Tryz.f59 0 lk0 [0,5,11,12,13] [5] [(5,3,86)] (q5 (qL 3) (xMJ 0 0 0) (qL 1) qI qI) (q1 (qB 0 3 86 xMB)) (fun (c,b,d,e,f,_) (a,_)=>(xdz c d e,(b,f,a),fun p=>(.leaf (.exit 0) [AV.osl 0 0 0 p.1] [bF 0 3 86 p.2]))) (0,[]) fun (c,_,d,e,_,_) _ (b,f,a)=>(((c,b,d,e,f,()),(a,())),xjR c d e b f a none)
def xqP (a l:LA):=(Iter (xdz a l (↑l.length:Int)) (0,0,[])).getD (0,[])
def xqN (a l:LA):=(xqP a l).fst
def xqO (a l:LA):=(xqP a l).snd
def xsl {T:Type} (a l:LA) (δ:T) (κ:LA->T):T:=br (decide (32*(↑l.length:Int)<=281474976710656)&&decide ((↑l.length:Int)<=4611686018427387904)) (br ((Iter (xdz a l (↑l.length:Int)) (0,0,[])).isSome) (br (decide (0+xqN a l<=(xqO a l).length)&&true) (κ (List.take (xqN a l) (List.drop 0 (xqO a l)))) δ) δ) δ
def xk1 (a l:LA):=xsl a l none some
def xJz:EO:=xFG.f Tryz.func59 25 0 [] [(3,xsk.lp)] (lk1 xsk.ok) (u2 (uL 3) (uL 1)) (fun (a,l,_) _=>xsl a l) (fun _ p=>AV.list 3 p) []
def xt1 {T:Type} (i:Int) (a:LA) (δ:T) (κ:Bool->T):T:=br ((xps a i).isSome) (κ (((xps a i).getD (0,0,[])).fst==0)) δ
def hasNull1 (i:Int) (a:LA):=xt1 i a none some
def xFH:EO:=xJz.f Tryz.func96 9 0 [] [] lk0 (u2 uI (sEq (xMQ 1 0 0 (q1 (qL 3))))) (fun (i,(a,_),_) _=>xt1 i a) (fun _ p=>AV.bool p) false
def xeS {T:Type} (b f:LA) (c a:Int) (δ:T) (κl:(Int)->T) (κr:(Bool×(Int)×(Unit))->T):T:=br (decide (a<c)) (br (ixI b a) (br (ixS b a (Sh.int .i64) 0) (br ((hasNull1 (gC b a 0).toInt f).isSome) (br ((hasNull1 (gC b a 0).toInt f).getD false) (κr (true,(a),())) (κl (i64.wrap (a+1)))) δ) δ) δ) (κr (false,0,()))
def xaF (a f:LA) (b:Int):StT (Int) (Bool×(Int)×(Unit)):=fun (c)=>xeS a f b c none inL inR
def xlF:=xFH.l 19 0 [] [] Tryz.f126 0 lk0 [0,1,7,8] [4] [] (q4 (qL 1) (xMb 96 (q1 (xMQ 1 0 0 (q1 (qL 3))))) qI qI) xMz (fun (a,((f,_),_),b,c,_) _=>(xaF a f b,(c),fun p=>(.node p.1 (.leaf .ret [AV.int .i64 p.2.1] []) (.leaf (.exit 0) [.top] [])))) (false,0,()) fun (a,((f,_),_),b,_,_) _ (c)=>(((a,((f,()),()),b,c,()),()),xeS a f b c none)
def xks {T:Type} (a b:LA) (δ:T) (κ:Int->T):T:=br ((Iter (xaF a b (↑a.length:Int)) 0).isSome) (br (((Iter (xaF a b (↑a.length:Int)) 0).getD (false,0,())).fst) (κ (((Iter (xaF a b (↑a.length:Int)) 0).getD (false,0,())).snd.fst)) (κ ((-1)))) δ
def xmG (b a:LA):=xks b a none some
def xJA:EO:=xFH.f Tryz.func126 19 0 [] [(2,xlF.lp)] (lk1 xlF.ok) (u2 (uL 1) (sEq (xMb (96:FuncId) (q1 (xMQ 1 0 0 (q1 (qL 3))))))) (fun (b,((a,_),_),_) _=>xks b a) (fun _ p=>AV.int .i64 p) 0
def xhU {T:Type} (b a:LA) (δ:T) (κ:Bool->T):T:=br ((xmG b a).isSome) (κ (decide ((xmG b a).getD 0>=0))) δ
def xjB (b a:LA):=xhU b a none some
def xJB:EO:=xJA.f Tryz.func95 9 0 [] [] lk0 (u2 (uL 1) (sEq (xMb (96:FuncId) (q1 (xMQ 1 0 0 (q1 (qL 3))))))) (fun (b,((a,_),_),_) _=>xhU b a) (fun _ p=>AV.bool p) false
def xol {T:Type} (a l:LA) (δ:T) (κ:Bool->T):T:=br ((xjB l a).isSome) (κ ((xjB l a).getD false)) δ
def xl5 (a l:LA):=xol a l none some
def xFI:EO:=xJB.f Tryz.func60 8 0 [1000042] [] lk0 (u2 (uL 3) (uL 1)) (fun (a,l,_) _=>xol a l) (fun _ p=>AV.bool p) false
def xr9 {T:Type} (f:List UInt8) (c a d e b:LA) (δ:T) (κ:LA->T):T:=br ((xk1 b a).isSome) (κ ((xk1 b a).getD [])) δ
def xn6 (e:List UInt8) (b a c d f:LA):=xr9 e b a c d f none some
def xCF:LA->Option (Bool×AV):=fnO (u2 (xMO (u5 (sEq pStr) (uL 3) (uL 1) (uL 2) (uL 7))) (uL 3)) (fun ((e,b,a,c,d,_),f,_) _=>xr9 e b a c d f) (fun _ p=>AV.list 3 p) []
theorem xvB:OcOk P0 xMv 32 xCF:=fnC xFI.ok Tryz.func32 9 0 [] [] lk0
def xJC:EO:=xFI.w xvB
def xjo {T:Type} (a:LA) (c:List UInt8) (b:LA) (δ:T) (κ:LA×Bool->T):T:=br ((xk1 b a).isSome) (br ((xl5 b a).isSome) (κ ((xk1 b a).getD [],!(xl5 b a).getD false)) δ) δ
def xdP (a:LA) (b:List UInt8) (c:LA):=xjo a b c none some
def xuT:LA->Option (Bool×AV):=fnO (u2 (xMO (u2 (uL 1) (sEq pStr))) (uL 3)) (fun ((a,b,_),c,_) _=>xjo a b c) (fun _ p=>AV.tuple [AV.list 3 p.1,AV.bool p.2]) ([],false)
theorem xuS:OcOk P0 xMv 34 xuT:=fnC xJC.ok Tryz.func34 15 0 [] [] lk0
def xfo {T:Type} (a:List UInt8) (i:Int) (δ:T) (κl:(Int)->T) (κr:(Bool×(Bool)×(Unit))->T):T:=br (decide (i<a.length)) (br (decide (0<=i)&&decide (i<a.length)) (br (decide ((↑(a.getD i.toNat (0:UInt8)).toNat:Int)<32)) (κr (true,(false),())) (br (decide (0<=i)&&decide (i<a.length)) (br (decide ((↑(a.getD i.toNat (0:UInt8)).toNat:Int)>126)) (κr (true,(false),())) (κl (i64.wrap (i+1)))) δ)) δ) (κr (false,false,()))
def xaZ (a:List UInt8):StT (Int) (Bool×(Bool)×(Unit)):=fun (i)=>xfo a i none inL inR
def xmO:=xvN.l 20 0 [] [] Tryz.f147 0 lk0 [0,3] [2] [] (q2 pStr qI) xMz (fun (a,i,_) _=>(xaZ a,(i),fun p=>(.node p.1 (.leaf .ret [AV.bool p.2.1] []) (.leaf (.exit 0) [.top] [])))) (false,false,()) fun (a,_,_) _ (i)=>(((a,i,()),()),xfo a i none)
def xle {T:Type} (a:List UInt8) (δ:T) (κ:Bool->T):T:=br ((Iter (xaZ a) 0).isSome) (br (((Iter (xaZ a) 0).getD (false,false,())).fst) (κ (((Iter (xaZ a) 0).getD (false,false,())).snd.fst)) (κ (true))) δ
def xjE (a:List UInt8):=xle a none some
def xFP:EO:=xvN.f Tryz.func147 20 0 [] [(2,xmO.lp)] (lk1 xmO.ok) (u1 (sEq pStr)) (fun (a,_) _=>xle a) (fun _ p=>AV.bool p) false
def xqc {T:Type} (c a:Int) (b:List UInt8) (δ:T) (κ:Bool->T):T:=br (c==0) (br (a==0) (κ (b==[])) (κ (false))) (br (c==1) (br (b==[]) (br (decide (a>=(-1125899906842624))) (κ (decide (a<=1125899906842624))) (κ (false))) (κ (false))) (br (c==2) (br (a==0) (br (decide ((↑b.length:Int)<=200)) (br ((xjE b).isSome) (κ ((xjE b).getD false)) δ) (κ (false))) (κ (false))) (br (c==3) (br (b==[]) (br (a==0) (κ (true)) (κ (a==1))) (κ (false))) (κ (false)))))
def xlE (a b:Int) (c:List UInt8):=xqc a b c none some
def xA1:LA->Option (Bool×AV):=fnO (u1 (xMO (u3 uI uI (sEq pStr)))) (fun ((a,b,c,_),_) _=>xqc a b c) (fun _ p=>AV.bool p) false
theorem xuH:OcOk P0 xMv 121 xA1:=fnC xFP.ok Tryz.func121 61 0 [] [] lk0
def xJS:EO:=xFP.w xuH
def xjc (a:Int):Int×Int:=(br (a==1) ((0,0)) (br (a==2) ((0,0)) (br (a==4) ((1,1)) (br (a==18) ((1,1)) (br (a==20) ((1,1)) (br (a==21) ((1,1)) (br (a==5) ((2,1099511627776)) (br (a==6) ((2,1099511627776)) (br (a==7) ((2,2)) (br (a==8) ((2,2)) (br (a==9) ((2,2)) (br (a==10) ((2,2)) (br (a==11) ((2,2)) (br (a==12) ((2,2)) (br (a==13) ((2,2)) (br (a==14) ((2,2)) (br (a==15) ((2,2)) (br (a==16) ((2,2)) (br (a==17) ((2,2)) (br (a==19) ((2,2)) (br (a==22) ((3,3)) (br (a==23) ((1,1099511627776)) (br (a==24) ((4,4)) (((-1),0)))))))))))))))))))))))))
def xA5 {T:Type} (a:Int) (δ:T) (κ:Int×Int->T):T:=br (a==1) (κ (0,0)) (br (a==2) (κ (0,0)) (br (a==4) (κ (1,1)) (br (a==18) (κ (1,1)) (br (a==20) (κ (1,1)) (br (a==21) (κ (1,1)) (br (a==5) (κ (2,1099511627776)) (br (a==6) (κ (2,1099511627776)) (br (a==7) (κ (2,2)) (br (a==8) (κ (2,2)) (br (a==9) (κ (2,2)) (br (a==10) (κ (2,2)) (br (a==11) (κ (2,2)) (br (a==12) (κ (2,2)) (br (a==13) (κ (2,2)) (br (a==14) (κ (2,2)) (br (a==15) (κ (2,2)) (br (a==16) (κ (2,2)) (br (a==17) (κ (2,2)) (br (a==19) (κ (2,2)) (br (a==22) (κ (3,3)) (br (a==23) (κ (1,1099511627776)) (br (a==24) (κ (4,4)) (κ ((-1),0))))))))))))))))))))))))
def xJT:EO:=xJS.fT Tryz.func168 35 0 [7000000] [] lk0 (fun (a,_)=>xA5 a none) (u1 uI) (fun (a,_)=>xjc a) (fun _ p=>(AV.tuple [AV.int .i64 p.1,AV.int .i64 p.2]))
def xoP {T:Type} (a f b c:Int) (d g:List UInt8) (e:LA) (δ:T) (κ:Bool->T):T:=br (decide ((xjc a).fst<0)) (κ (false)) (br (decide ((↑e.length:Int)<(xjc a).fst)) (κ (false)) (br (decide ((↑e.length:Int)>(xjc a).snd)) (κ (false)) (br (!g==[]) (κ (false)) (br (a==1) (br (f==0) (br ((xlE b c d).isSome) (κ ((xlE b c d).getD false)) δ) (κ (false))) (br (a==2) (κ (b==0&&(c==0&&(d==[]&&true)))) (br (a==24) (br (b==0&&(c==0&&(d==[]&&true))) (br (decide (f>=0)) (κ (decide (f<13))) (κ (false))) (κ (false))) (br (f==0) (κ (b==0&&(c==0&&(d==[]&&true)))) (κ (false)))))))))
def xnE (b g c d:Int) (e f:List UInt8) (a:LA):=xoP b g c d e f a none some
def xFQ:EO:=xJT.f Tryz.func169 75 0 [] [] lk0 (u1 (xMO (u7 uI uI uI uI (sEq pStr) (sEq pStr) (uL 7)))) (fun ((b,h,c,d,e,g,a,_),_) _=>xoP b h c d e g a) (fun _ p=>AV.bool p) false
def xkU {T:Type} (l:LA) (a i:Int) (δ:T) (κl:(Int)->T) (κr:(Bool×(Bool)×(Unit))->T):T:=br (decide (i<l.length)) (br (ixI l i) (br (ixS l i (Sh.int .i64) 0) (br ((gC l i 0).toInt != a) (br (ixI l i) (br (ixS l i (Sh.int .i64) 0) (br ((gC l i 0).toInt != 0) (κr (true,(false),())) (κl (i64.wrap (i+1)))) δ) δ) (κl (i64.wrap (i+1)))) δ) δ) (κr (false,false,()))
def xcD (l:LA) (a:Int):StT (Int) (Bool×(Bool)×(Unit)):=fun (i)=>xkU l a i none inL inR
def xsB:=xFQ.l 25 0 [] [] Tryz.f199 0 lk0 [0,1,5] [4] [] (q3 (qL 1) qI qI) xMz (fun (l,a,i,_) _=>(xcD l a,(i),fun p=>(.node p.1 (.leaf .ret [AV.bool p.2.1] []) (.leaf (.exit 0) [.top] [])))) (false,false,()) fun (l,a,_,_) _ (i)=>(((l,a,i,()),()),xkU l a i none)
def xs8 {T:Type} (l:LA) (a:Int) (δ:T) (κ:Bool->T):T:=br ((Iter (xcD l a) 0).isSome) (br (((Iter (xcD l a) 0).getD (false,false,())).fst) (κ (((Iter (xcD l a) 0).getD (false,false,())).snd.fst)) (κ (true))) δ
def xcI (l:LA) (a:Int):=xs8 l a none some
def xFR:EO:=xFQ.f Tryz.func199 25 0 [] [(2,xsB.lp)] (lk1 xsB.ok) (u2 (uL 1) uI) (fun (l,a,_) _=>xs8 l a) (fun _ p=>AV.bool p) false
def xiz (l:LA) (i:Int):=ixI l i
def xiA (l:LA) (i:Int):=decide (i.toNat<l.length)&&xLN (Sh.int .i64) (gC l i 0)
def xhf {T:Type} (l:LA) (i:Int) (δ:T) (κl:(Int×Int)->T):T:=br (xiz l i) (br (xiA l i) (κl ((gC l i 0).toInt,i64.wrap (i+1))) δ) δ
def xjG {T:Type} (l:LA) (k i:Int) (δ:T) (κl:(Int×Int)->T) (κr:(Bool×(Int×Bool×Int)×(Int))->T):T:=br (decide (i<l.length)) (br (xiz l i) (br (xiA l i) (br ((gC l i 0).toInt==0) (κl (k,i64.wrap (i+1))) (br (k != 0) (br (xiz l i) (br (xiA l i) (br (k != (gC l i 0).toInt) (κr (true,(0,false,k),0)) (xhf l i δ κl)) δ) δ) (xhf l i δ κl))) δ) δ) (κr (false,(0,false,0),(k)))
def xdm (l:LA):StT (Int×Int) (Bool×(Int×Bool×Int)×(Int)):=fun (k,i)=>xjG l k i none inL inR
def xrP:=xFR.l 32 0 [] [] Tryz.f200 0 lk0 [0,4,5] [2,3,4] [] (q3 (qL 1) qI qI) xMz (fun (l,k,i,_) _=>(xdm l,(k,i),fun p=>(.node p.1 (.leaf .ret [AV.int .i64 p.2.1.1,AV.bool p.2.1.2.1,AV.int .i64 p.2.1.2.2] []) (.leaf (.exit 0) [.top,.top,AV.int .i64 p.2.2] [])))) (false,(0,false,0),0) fun (l,_,_,_) _ (k,i)=>(((l,k,i,()),()),xjG l k i none)
def xqj (l:LA):=(Iter (xdm l) (0,0)).getD (false,(0,false,0),0)
def xqi (l:LA):=(xqj l).snd
def xqh (l:LA):=(xqi l).fst
def xrQ {T:Type} (l:LA) (δ:T) (κ:Int×Bool->T):T:=br ((Iter (xdm l) (0,0)).isSome) (br ((xqj l).fst) (κ ((xqh l).fst,(xqh l).snd.fst)) (κ ((xqi l).snd,true))) δ
def xdK (l:LA):=xrQ l none some
def xJU:EO:=xFR.f Tryz.func200 32 0 [] [(3,xrP.lp)] (lk1 xrP.ok) (u1 (uL 1)) (fun (l,_) _=>xrQ l) (fun _ p=>AV.tuple [AV.int .i64 p.1,AV.bool p.2]) (0,false)
def xda {T:Type} (l:LA) (δ:T) (κ:Int×Bool->T):T:=br ((xdK l).isSome) (κ (3,((xdK l).getD (0,false)).snd)) δ
def xdb {T:Type} (l:LA) (δ:T) (κ:Int×Bool->T):T:=br ((xcI l 1).isSome) (κ (1,(xcI l 1).getD false)) δ
def xiB {T:Type} (l:LA) (δ:T) (κ:Int×Bool->T):T:=br ((xcI l 3).isSome) (κ (3,(xcI l 3).getD false)) δ
def xo0 {T:Type} (a c d f:Int) (g h:List UInt8) (e l b:LA) (δ:T) (κ:Int×Bool->T):T:=br (a==1) (κ (d,true)) (br (a==2) (br (ixI b c) (br (ixS b c (Sh.int .i64) 0) (κ ((gC b c 0).toInt,true)) δ) δ) (br (a==4) (xiB l δ κ) (br (a==5) (xiB l δ κ) (br (a==6) (xiB l δ κ) (br (a==7) (xda l δ κ) (br (a==8) (xda l δ κ) (br (a==9) (xda l δ κ) (br (a==10) (xda l δ κ) (br (a==11) (xda l δ κ) (br (a==12) (xda l δ κ) (br (a==13) (xdb l δ κ) (br (a==14) (xdb l δ κ) (br (a==15) (xdb l δ κ) (br (a==16) (xdb l δ κ) (br (a==17) (xdb l δ κ) (br (a==18) (xdb l δ κ) (br (a==19) (br ((xcI l 2).isSome) (κ (2,(xcI l 2).getD false)) δ) (br (a==20) (br ((xcI l 2).isSome) (κ (1,(xcI l 2).getD false)) δ) (br (a==21) (κ (3,true)) (br (a==22) (br (decide (1<=(↑l.length:Int))) (br ((xdK (List.take (l.length - 1) (List.drop 1 l))).isSome) (br (((xdK (List.take (l.length - 1) (List.drop 1 l))).getD (0,false)).snd) (br (decide (1<=(↑l.length:Int))&&true) (br ((xcI (List.take 1 (List.drop 0 l)) 3).isSome) (κ (((xdK (List.take (l.length - 1) (List.drop 1 l))).getD (0,false)).fst,(xcI (List.take 1 (List.drop 0 l)) 3).getD false)) δ) δ) (κ (((xdK (List.take (l.length - 1) (List.drop 1 l))).getD (0,false)).fst,false))) δ) δ) (br (a==23) (br ((xdK l).isSome) (κ (((xdK l).getD (0,false)).fst,((xdK l).getD (0,false)).snd)) δ) (br ((xcI l 1).isSome) (κ (3,(xcI l 1).getD false)) δ))))))))))))))))))))))
def xhQ (c h d e:Int) (f g:List UInt8) (a l b:LA):=xo0 c h d e f g a l b none some
def xty:EO:=xJU.f Tryz.func170 87 0 [7000000] [] lk0 (u3 (xMO (u7 uI uI uI uI (sEq pStr) (sEq pStr) (uL 7))) (uL 1) (uL 1)) (fun ((c,i,d,e,g,h,a,_),l,b,_) _=>xo0 c i d e g h a l b) (fun _ p=>AV.tuple [AV.int .i64 p.1,AV.bool p.2]) (0,false)
def xej (R:Int->Int->Int->Int->List UInt8->List UInt8->LA->Option (Int)):LA->Option (Bool×AV):=ocOf (xMy (xMO (xMy (sEq (pInt .i64)) (xMy (sEq (pInt .i64)) (xMy (sEq (pInt .i64)) (xMy (sEq (pInt .i64)) (xMy (sEq pStr) (xMy (sEq pStr) (xMy (xMN 7 xMB) xMA)))))))) xMA) fun ((b,(i,(c,(d,(e,(f,(a,_))))))),_)=>((R b i c d e f a).isSome,AV.int .i64 ((R b i c d e f a).getD 0))
theorem xuW (k:Go.FuncId) (R:Nat->Int->Int->Int->Int->List UInt8->List UInt8->LA->Option (Int)) (g:∀ n,OcOk P0 xMv k (xej (R n))):OcOk P0 xMv k (xej (fun b i c d e f a=>limN fun n=>R n b i c d e f a)):=xCg g fun v h=>by
 obtain ⟨⟨b,⟨i,⟨c,⟨d,⟨e,⟨f,⟨a,_⟩⟩⟩⟩⟩⟩⟩,_⟩:=v;obtain ⟨n,j⟩:=xAm (R:=fun n=>R n b i c d e f a) h
 exact ⟨n,congrArg (fun o=>(Option.isSome o,(AV.int .i64 (Option.getD o 0):AV))) j⟩
def xdR (R:Int->Int->Int->Int->List UInt8->List UInt8->LA->Option (Int)):Prop:=OcOk P0 xMv 145 (xej R)
def xfI (R:Int->Int->Int->Int->List UInt8->List UInt8->LA->Option (Int)):Env:=(xty.E.with 145 (xej R)).fn 22 0 (lsOf []) (xMa [])
abbrev xlo (R:Int->Int->Int->Int->List UInt8->List UInt8->LA->Option (Int)):Prop:=xdR R
theorem xv0 (R:Int->Int->Int->Int->List UInt8->List UInt8->LA->Option (Int)) (a:xlo R):xLP P0 (xMv.at 0) (xfI R):=(xty.ok.with a).fn
theorem xta (R:Int->Int->Int->Int->List UInt8->List UInt8->LA->Option (Int)) (a:xlo R):LoOk P0 (xMv.at (xfI R).pin) (xfI R) (xLT Tryz.f145 0):=xmf (by kernel_rfl)
def xlr (R:Int->Int->Int->Int->List UInt8->List UInt8->LA->Option Int) (i:Int) (a:LA):=R (gC a i 0).toInt (gC a i 1).toInt (gC a i 2).toInt (gC a i 3).toInt (gC a i 4).toStr (gC a i 5).toStr (gC a i 6).toList
def xlq (R:Int->Int->Int->Int->List UInt8->List UInt8->LA->Option Int) (i:Int) (a:LA):=(xlr R i a).getD 0
def xfW {T:Type} (R:Int->Int->Int->Int->List UInt8->List UInt8->LA->Option Int) (n i b c d e:Int) (f g:List UInt8) (a:LA) (δ:T) (κl:(Int×Int×Int×Int×Int×Int×List UInt8×List UInt8×LA)->T) (κr:(Int)->T):T:=br (decide (i<a.length)) (br (ixI a i) (br (ixT a i 7 [Sh.int .i64,Sh.int .i64,Sh.int .i64,Sh.int .i64,Sh.str,Sh.str,Sh.list 7] 0) (br ((xlr R i a).isSome) (κl (if xlq R i a>n then xlq R i a else n,i64.wrap (i+1),b,c,d,e,f,g,a)) δ) δ) δ) (κr (n))
def xbf (R:Int->Int->Int->Int->List UInt8->List UInt8->LA->Option Int):StT (Int×Int×Int×Int×Int×Int×List UInt8×List UInt8×LA) (Int):=fun (n,i,a,b,c,d,e,f,g)=>xfW R n i a b c d e f g none inL inR
def xcf (R:Int->Int->Int->Int->List UInt8->List UInt8->LA->Option Int):(Int×Int×Int×Int×Int×Int×List UInt8×List UInt8×LA)->LA×List Box:=fun (n,i,a,b,c,d,e,f,g)=>([AV.own 0 0 0 0,AV.int .i64 n,AV.int .i64 i],[⟨0,7,172,[AV.agg [AV.int .i64 a,AV.int .i64 b,AV.int .i64 c,AV.int .i64 d,AV.str e,AV.str f,AV.list 7 g]],false,true⟩])
def xdo (R:Int->Int->Int->Int->List UInt8->List UInt8->LA->Option Int):(Int)->LR:=fun p=>(.leaf (.exit 0) [AV.int .i64 p] [])
abbrev xrU (R:Int->Int->Int->Int->List UInt8->List UInt8->LA->Option Int) (a:LA) (H:List Box):=XR P0 (xfI R) [1,3,4] [3] [] (xLT Tryz.f145 0) a H
theorem xw7 (R:Int->Int->Int->Int->List UInt8->List UInt8->LA->Option Int) (s:Int×Int×Int×Int×Int×Int×List UInt8×List UInt8×LA):Enc (encR (xcf R) (xdo R)) (xbf R s) (xrU R (xcf R s).1 (xcf R s).2):=by
 obtain ⟨n,i,a,b,c,d,e,f,g⟩:=s;have h:xrU R (xcf R (n,i,a,b,c,d,e,f,g)).1 (xcf R (n,i,a,b,c,d,e,f,g)).2=xfW R n i a b c d e f g none (fun s=>some (encR (xcf R) (xdo R) (.inl s))) (fun p=>some (encR (xcf R) (xdo R) (.inr p))):=by kernel_rfl
 rw [h];unfold xbf xfW;repeat' (first|refine Enc.br ?_ ?_|exact Enc.none|exact Enc.some rfl)
def xlp (R:Int->Int->Int->Int->List UInt8->List UInt8->LA->Option Int):Lp:=lpOf [1,3,4] [3] [] (xMw (xMK 0 0 0 0) (xMw (pInt .i64) (xMw (pInt .i64) xMz))) (xMw (xMM 0 7 172 false true (xMw (xML (xMw (pInt .i64) (xMw (pInt .i64) (xMw (pInt .i64) (xMw (pInt .i64) (xMw pStr (xMw pStr (xMw (xMP 7 xMB) xMz)))))))) xMz)) xMz) fun (_,(n,(i,_))) (((a,(b,(c,(d,(e,(f,(g,_))))))),_),_)=>((Iter (xbf R) (n,i,a,b,c,d,e,f,g)).isSome,xdo R ((Iter (xbf R) (n,i,a,b,c,d,e,f,g)).getD 0))
theorem xvt (R:Int->Int->Int->Int->List UInt8->List UInt8->LA->Option Int) (a:xlo R):LoopOk P0 (xMv.at (xfI R).pin) (xfI R).nt (xLT Tryz.f145 0) (xlp R):=xB9 fun k l o m=>by
 obtain ⟨_,⟨n,⟨i,_⟩⟩⟩:=k;obtain ⟨⟨⟨b,⟨c,⟨d,⟨e,⟨f,⟨g,⟨h,_⟩⟩⟩⟩⟩⟩⟩,_⟩,_⟩:=l;obtain ⟨j,rfl⟩:=Prod.mk.inj m;exact xq8 xLY (xLZ P0 _) rfl (xv0 R a) (xta R a) (xcf R) (xdo R) (fun p=>by simp only [xdo,LR.eval];first|(simp;done)|(repeat' split<;>simp)) (xw7 R) (s:=(n,i,b,c,d,e,f,g,h)) (xbH j)
def xei (R:Int->Int->Int->Int->List UInt8->List UInt8->LA->Option (Int)):Env:=(xty.E.with 145 (xej R)).fn 22 0 (lsOf []) (xMa [(3,xlp R)])
theorem xv1 (R:Int->Int->Int->Int->List UInt8->List UInt8->LA->Option (Int)) (a:xdR R):xLP P0 (xMv.at 0) (xei R):=(xty.ok.with a).fn
theorem xuh (R:Int->Int->Int->Int->List UInt8->List UInt8->LA->Option (Int)) (c:xdR R):LoOk P0 (xMv.at (xei R).pin) (xei R) (Tryz.f145.body.getD .skip):=xgY (ls:=[xLT Tryz.f145 0]) (by kernel_rfl) (fun l b lp a=>by
 simp only [zC,List.not_mem_nil,or_false] at b;rcases b with rfl
 . rw [show (xei R).lp (xL2 (xLT Tryz.f145 0))=some (xlp R) by kernel_rfl] at a
   simp only [z6] at a;subst a;exact xvt R c)
def xox (R:Int->Int->Int->Int->List UInt8->List UInt8->LA->Option Int) (b i c d:Int) (e f:List UInt8) (a:LA):=Iter (xbf R) (0,0,b,i,c,d,e,f,a)
def xlY {T:Type} (R:Int->Int->Int->Int->List UInt8->List UInt8->LA->Option Int) (b i c d:Int) (e f:List UInt8) (a:LA) (δ:T) (κ:Int->T):T:=br ((xox R b i c d e f a).isSome) (κ (i64.wrap ((xox R b i c d e f a).getD 0+1))) δ
def xgx (R:Int->Int->Int->Int->List UInt8->List UInt8->LA->Option Int) (b i c d:Int) (e f:List UInt8) (a:LA):=xlY R b i c d e f a none some
theorem xBb (R:Int->Int->Int->Int->List UInt8->List UInt8->LA->Option Int) (b i c d:Int) (e f:List UInt8) (a:LA):Enc (fun (p:Int)=>((AV.int .i64 p):AV)) (xgx R b i c d e f a) (XF P0 (xei R) Tryz.f145 (Tryz.f145.body.getD .skip) [AV.agg [AV.int .i64 b,AV.int .i64 i,AV.int .i64 c,AV.int .i64 d,AV.str e,AV.str f,AV.list 7 a]]):=by
 have h:XF P0 (xei R) Tryz.f145 (Tryz.f145.body.getD .skip) [AV.agg [AV.int .i64 b,AV.int .i64 i,AV.int .i64 c,AV.int .i64 d,AV.str e,AV.str f,AV.list 7 a]]=xlY R b i c d e f a none (fun (p:Int)=>some ((AV.int .i64 p):AV)):=by kernel_rfl
 rw [h];unfold xgx xlY;repeat' (first|refine Enc.br ?_ ?_|exact Enc.none|exact Enc.some rfl)
def xBa (R:Int->Int->Int->Int->List UInt8->List UInt8->LA->Option Int):LA->Option (Bool×AV):=ocOf (xMy (xMO (xMy (sEq (pInt .i64)) (xMy (sEq (pInt .i64)) (xMy (sEq (pInt .i64)) (xMy (sEq (pInt .i64)) (xMy (sEq pStr) (xMy (sEq pStr) (xMy (xMN 7 xMB) xMA)))))))) xMA) fun ((b,(i,(c,(d,(e,(f,(a,_))))))),_)=>((xgx R b i c d e f a).isSome,(AV.int .i64 ((xgx R b i c d e f a).getD 0)))
theorem xA9 (R:Int->Int->Int->Int->List UInt8->List UInt8->LA->Option Int) (a:xdR R):OcOk P0 xMv 145 (xBa R):=xjb fun e h f=>by
 obtain ⟨⟨j,⟨i,⟨k,⟨l,⟨m,⟨n,⟨g,_⟩⟩⟩⟩⟩⟩⟩,_⟩:=e;obtain ⟨b,c⟩:=Prod.mk.inj f;refine xfN (p:=(xei R).pin) (xi8 xLY (xLZ P0 _) rfl (xv1 R a) Tryz.func145 rfl (by kernel_rfl) (xuh R a) ((xBb R _ _ _ _ _ _ _ _ (xbH (d:=0) b)).trans ?_))
 exact congrArg some c
def xc7:Nat->Int->Int->Int->Int->List UInt8->List UInt8->LA->Option (Int)
 | 0=>fun _ _ _ _ _ _ _=>none
 | fu_+1=>fun b i c d e f a=>xgx (xc7 fu_) b i c d e f a
theorem xrT:∀ n,xdR (xc7 n)
 | 0=>xjb fun _ _ h=>absurd (Prod.mk.inj h).1 Bool.false_ne_true
 | fu_+1=>fun a r h=>xA9 (xc7 fu_) (xrT fu_) a r h
def xi0:Int->Int->Int->Int->List UInt8->List UInt8->LA->Option (Int):=fun b i c d e f a=>limN fun n=>xc7 n b i c d e f a
theorem xw6:xdR xi0:=xuW 145 xc7 xrT
def xyl:Env:=xty.E.with 145 (xej xi0)
theorem xuZ:xLP P0 xMv xyl:=xty.ok.with xw6
def xeh (R:Int->Int->Int->Int->List UInt8->List UInt8->LA->LA->Option (Int×Int)):LA->Option (Bool×AV):=ocOf (xMy (xMO (xMy (sEq (pInt .i64)) (xMy (sEq (pInt .i64)) (xMy (sEq (pInt .i64)) (xMy (sEq (pInt .i64)) (xMy (sEq pStr) (xMy (sEq pStr) (xMy (xMN 7 xMB) xMA)))))))) (xMy (xMN 1 xMB) xMA)) fun ((b,(i,(c,(d,(e,(f,(a,_))))))),(g,_))=>((R b i c d e f a g).isSome,AV.tuple [AV.int .i64 (((R b i c d e f a g).getD (0,0))).1,AV.int .i64 (((R b i c d e f a g).getD (0,0))).2])
theorem xuV (k:Go.FuncId) (R:Nat->Int->Int->Int->Int->List UInt8->List UInt8->LA->LA->Option (Int×Int)) (j:∀ n,OcOk P0 xMv k (xeh (R n))):OcOk P0 xMv k (xeh (fun b i c d e f a g=>limN fun n=>R n b i c d e f a g)):=xCg j fun v h=>by
 obtain ⟨⟨b,⟨i,⟨c,⟨d,⟨e,⟨f,⟨a,_⟩⟩⟩⟩⟩⟩⟩,⟨g,_⟩⟩:=v;obtain ⟨n,l⟩:=xAm (R:=fun n=>R n b i c d e f a g) h
 exact ⟨n,congrArg (fun o=>(Option.isSome o,(AV.tuple [AV.int .i64 ((Option.getD o (0,0))).1,AV.int .i64 ((Option.getD o (0,0))).2]:AV))) l⟩
def xdQ (R:Int->Int->Int->Int->List UInt8->List UInt8->LA->LA->Option (Int×Int)):Prop:=OcOk P0 xMv 146 (xeh R)
def xfH (R:Int->Int->Int->Int->List UInt8->List UInt8->LA->LA->Option (Int×Int)):Env:=(xyl.with 146 (xeh R)).fn 75 0 (lsOf []) (xMa [])
abbrev xlj (R:Int->Int->Int->Int->List UInt8->List UInt8->LA->LA->Option (Int×Int)):Prop:=xdQ R
theorem xvZ (R:Int->Int->Int->Int->List UInt8->List UInt8->LA->LA->Option (Int×Int)) (a:xlj R):xLP P0 (xMv.at 0) (xfH R):=(xuZ.with a).fn
theorem xs9 (R:Int->Int->Int->Int->List UInt8->List UInt8->LA->LA->Option (Int×Int)) (a:xlj R):LoOk P0 (xMv.at (xfH R).pin) (xfH R) (xLT Tryz.f146 0):=xmf (by kernel_rfl)
def xln (R:Int->Int->Int->Int->List UInt8->List UInt8->LA->LA->Option (Int×Int)) (b:LA) (i:Int) (a:LA):Option (Int×Int):=R (gC a i 0).toInt (gC a i 1).toInt (gC a i 2).toInt (gC a i 3).toInt (gC a i 4).toStr (gC a i 5).toStr (gC a i 6).toList b
def xlm (R:Int->Int->Int->Int->List UInt8->List UInt8->LA->LA->Option (Int×Int)) (a:LA) (i:Int) (b:LA):Int×Int:=(xln R a i b).getD (0,0)
def xll (R:Int->Int->Int->Int->List UInt8->List UInt8->LA->LA->Option (Int×Int)) (a:LA) (i:Int) (b:LA):Int:=(xlm R a i b).snd
def xfV {T:Type} (R:Int->Int->Int->Int->List UInt8->List UInt8->LA->LA->Option (Int×Int)) (b:LA) (d:Nat) (i e f g h:Int) (j k:List UInt8) (a c:LA) (δ:T) (κl:(Nat×Int×Int×Int×Int×Int×List UInt8×List UInt8×LA×LA)->T) (κr:(Bool×(Int×Int×Nat×Int×Int×Int×Int×List UInt8×List UInt8×LA×LA)×(Nat×Int×Int×Int×Int×List UInt8×List UInt8×LA×LA))->T):T:=br (decide (i<a.length)) (br (ixI a i) (br (ixT a i 7 [Sh.int .i64,Sh.int .i64,Sh.int .i64,Sh.int .i64,Sh.str,Sh.str,Sh.list 7] 0) (br ((xln R b i a).isSome) (br (xll R b i a != 0) (κr (true,(0,xll R b i a,d,e,f,g,h,j,k,a,c),(0,0,0,0,0,[],[],[],[]))) (br (rmB d c 1 8) (κl (d+1,i64.wrap (i+1),e,f,g,h,j,k,a,c++[AV.int .i64 (xlm R b i a).fst])) δ)) δ) δ) δ) (κr (false,(0,0,0,0,0,0,0,[],[],[],[]),(d,e,f,g,h,j,k,a,c)))
def xbe (R:Int->Int->Int->Int->List UInt8->List UInt8->LA->LA->Option (Int×Int)) (a:LA):StT (Nat×Int×Int×Int×Int×Int×List UInt8×List UInt8×LA×LA) (Bool×(Int×Int×Nat×Int×Int×Int×Int×List UInt8×List UInt8×LA×LA)×(Nat×Int×Int×Int×Int×List UInt8×List UInt8×LA×LA)):=fun (c,i,d,e,f,g,h,j,k,b)=>xfV R a c i d e f g h j k b none inL inR
def xce (R:Int->Int->Int->Int->List UInt8->List UInt8->LA->LA->Option (Int×Int)) (a:LA):(Nat×Int×Int×Int×Int×Int×List UInt8×List UInt8×LA×LA)->LA×List Box:=fun (c,i,d,e,f,g,h,j,k,b)=>([AV.list 1 a,AV.own 0 0 0 0,AV.osl 1 0 0 c,AV.int .i64 i],[⟨0,7,172,[AV.agg [AV.int .i64 d,AV.int .i64 e,AV.int .i64 f,AV.int .i64 g,AV.str h,AV.str j,AV.list 7 k]],false,true⟩,⟨0,1,3,b,false,true⟩])
def xdn (R:Int->Int->Int->Int->List UInt8->List UInt8->LA->LA->Option (Int×Int)) (a:LA):(Bool×(Int×Int×Nat×Int×Int×Int×Int×List UInt8×List UInt8×LA×LA)×(Nat×Int×Int×Int×Int×List UInt8×List UInt8×LA×LA))->LR:=fun p=>(.node p.1 (.leaf .ret [AV.list 1 a,AV.own 0 0 0 0,AV.int .i64 p.2.1.1,AV.int .i64 p.2.1.2.1,AV.osl 1 0 0 p.2.1.2.2.1] [⟨0,7,172,[AV.agg [AV.int .i64 p.2.1.2.2.2.1,AV.int .i64 p.2.1.2.2.2.2.1,AV.int .i64 p.2.1.2.2.2.2.2.1,AV.int .i64 p.2.1.2.2.2.2.2.2.1,AV.str p.2.1.2.2.2.2.2.2.2.1,AV.str p.2.1.2.2.2.2.2.2.2.2.1,AV.list 7 p.2.1.2.2.2.2.2.2.2.2.2.1]],false,true⟩,⟨0,1,3,p.2.1.2.2.2.2.2.2.2.2.2.2,false,true⟩]) (.leaf (.exit 0) [AV.list 1 a,AV.own 0 0 0 0,.top,.top,AV.osl 1 0 0 p.2.2.1] [⟨0,7,172,[AV.agg [AV.int .i64 p.2.2.2.1,AV.int .i64 p.2.2.2.2.1,AV.int .i64 p.2.2.2.2.2.1,AV.int .i64 p.2.2.2.2.2.2.1,AV.str p.2.2.2.2.2.2.2.1,AV.str p.2.2.2.2.2.2.2.2.1,AV.list 7 p.2.2.2.2.2.2.2.2.2.1]],false,true⟩,⟨0,1,3,p.2.2.2.2.2.2.2.2.2.2,false,true⟩]))
abbrev xrS (R:Int->Int->Int->Int->List UInt8->List UInt8->LA->LA->Option (Int×Int)) (a:LA) (H:List Box):=XR P0 (xfH R) [1,2,8,9] [1,2,4,5,8] [(8,1,3)] (xLT Tryz.f146 0) a H
theorem xw5 (R:Int->Int->Int->Int->List UInt8->List UInt8->LA->LA->Option (Int×Int)) (a:LA) (s:Nat×Int×Int×Int×Int×Int×List UInt8×List UInt8×LA×LA):Enc (encR (xce R a) (xdn R a)) (xbe R a s) (xrS R (xce R a s).1 (xce R a s).2):=by
 obtain ⟨c,i,d,e,f,g,j,k,l,b⟩:=s;have h:xrS R (xce R a (c,i,d,e,f,g,j,k,l,b)).1 (xce R a (c,i,d,e,f,g,j,k,l,b)).2=xfV R a c i d e f g j k l b none (fun s=>some (encR (xce R a) (xdn R a) (.inl s))) (fun p=>some (encR (xce R a) (xdn R a) (.inr p))):=by kernel_rfl
 rw [h];unfold xbe xfV;repeat' (first|refine Enc.br ?_ ?_|exact Enc.none|exact Enc.some rfl)
def xlk (R:Int->Int->Int->Int->List UInt8->List UInt8->LA->LA->Option (Int×Int)):Lp:=lpOf [1,2,8,9] [1,2,4,5,8] [(8,1,3)] (xMw (xMP 1 xMB) (xMw (xMK 0 0 0 0) (xMw (xMJ 1 0 0) (xMw (pInt .i64) xMz)))) (xMw (xMM 0 7 172 false true (xMw (xML (xMw (pInt .i64) (xMw (pInt .i64) (xMw (pInt .i64) (xMw (pInt .i64) (xMw pStr (xMw pStr (xMw (xMP 7 xMB) xMz)))))))) xMz)) (xMw (xMM 0 1 3 false true xMB) xMz)) fun (a,(_,(c,(i,_)))) (((d,(e,(f,(g,(h,(j,(k,_))))))),_),(b,_))=>((Iter (xbe R a) (c,i,d,e,f,g,h,j,k,b)).isSome,xdn R a ((Iter (xbe R a) (c,i,d,e,f,g,h,j,k,b)).getD (false,(0,0,0,0,0,0,0,[],[],[],[]),(0,0,0,0,0,[],[],[],[]))))
theorem xvs (R:Int->Int->Int->Int->List UInt8->List UInt8->LA->LA->Option (Int×Int)) (c:xlj R):LoopOk P0 (xMv.at (xfH R).pin) (xfH R).nt (xLT Tryz.f146 0) (xlk R):=xB9 fun n o r q=>by
 obtain ⟨a,⟨_,⟨d,⟨i,_⟩⟩⟩⟩:=n;obtain ⟨⟨⟨e,⟨f,⟨g,⟨h,⟨j,⟨k,⟨l,_⟩⟩⟩⟩⟩⟩⟩,_⟩,⟨b,_⟩⟩:=o;obtain ⟨m,rfl⟩:=Prod.mk.inj q;exact xq8 xLY (xLZ P0 _) rfl (xvZ R c) (xs9 R c) (xce R a) (xdn R a) (fun p=>by simp only [xdn,LR.eval];first|(simp;done)|(repeat' split<;>simp)) (xw5 R a) (s:=(d,i,e,f,g,h,j,k,l,b)) (xbH m)
def xeg (R:Int->Int->Int->Int->List UInt8->List UInt8->LA->LA->Option (Int×Int)):Env:=(xyl.with 146 (xeh R)).fn 75 0 (lsOf []) (xMa [(10,xlk R)])
theorem xvx (R:Int->Int->Int->Int->List UInt8->List UInt8->LA->LA->Option (Int×Int)) (a:xdQ R):xLP P0 (xMv.at 0) (xeg R):=(xuZ.with a).fn
theorem xug (R:Int->Int->Int->Int->List UInt8->List UInt8->LA->LA->Option (Int×Int)) (c:xdQ R):LoOk P0 (xMv.at (xeg R).pin) (xeg R) (Tryz.f146.body.getD .skip):=xgY (ls:=[xLT Tryz.f146 0]) (by kernel_rfl) (fun l b lp a=>by
 simp only [zC,List.not_mem_nil,or_false] at b;rcases b with rfl
 . rw [show (xeg R).lp (xL2 (xLT Tryz.f146 0))=some (xlk R) by kernel_rfl] at a
   simp only [z6] at a;subst a;exact xvs R c)
def xnK (R:Int->Int->Int->Int->List UInt8->List UInt8->LA->LA->Option (Int×Int)) (b i c d:Int) (e f:List UInt8) (a g:LA):Option
 (Bool ×
  (Int×Int×Nat×Int×Int×Int×Int×List UInt8×List UInt8×LA×LA) ×
   Nat×Int×Int×Int×Int×List UInt8×List UInt8×LA×LA):=Iter (xbe R g) (0,0,b,i,c,d,e,f,a,[])
def xnJ (R:Int->Int->Int->Int->List UInt8->List UInt8->LA->LA->Option (Int×Int)) (b i c d:Int) (e f:List UInt8) (a g:LA):Bool ×
 (Int×Int×Nat×Int×Int×Int×Int×List UInt8×List UInt8×LA×LA) ×
  Nat×Int×Int×Int×Int×List UInt8×List UInt8×LA×LA:=(xnK R b i c d e f a g).getD (false,(0,0,0,0,0,0,0,[],[],[],[]),0,0,0,0,0,[],[],[],[])
def xnI (R:Int->Int->Int->Int->List UInt8->List UInt8->LA->LA->Option (Int×Int)) (b i c d:Int) (e f:List UInt8) (a g:LA):(Int×Int×Nat×Int×Int×Int×Int×List UInt8×List UInt8×LA×LA) ×
 Nat×Int×Int×Int×Int×List UInt8×List UInt8×LA×LA:=(xnJ R b i c d e f a g).snd
def xnG (R:Int->Int->Int->Int->List UInt8->List UInt8->LA->LA->Option (Int×Int)) (b i c d:Int) (e f:List UInt8) (a g:LA):Nat×Int×Int×Int×Int×List UInt8×List UInt8×LA×LA:=(xnI R b i c d e f a g).snd
def xnH (R:Int->Int->Int->Int->List UInt8->List UInt8->LA->LA->Option (Int×Int)) (b i c d:Int) (e f:List UInt8) (a g:LA):Int×Int×Nat×Int×Int×Int×Int×List UInt8×List UInt8×LA×LA:=(xnI R b i c d e f a g).fst
def xoZ (R:Int->Int->Int->Int->List UInt8->List UInt8->LA->LA->Option (Int×Int)) (b i c d:Int) (e f:List UInt8) (a g:LA):Int×Int×Int×Int×List UInt8×List UInt8×LA×LA:=(xnG R b i c d e f a g).snd
def xnF (R:Int->Int->Int->Int->List UInt8->List UInt8->LA->LA->Option (Int×Int)) (b i c d:Int) (e f:List UInt8) (a g:LA):Nat:=(xnG R b i c d e f a g).fst
def xoY (R:Int->Int->Int->Int->List UInt8->List UInt8->LA->LA->Option (Int×Int)) (b i c d:Int) (e f:List UInt8) (a g:LA):Int×Int×Int×List UInt8×List UInt8×LA×LA:=(xoZ R b i c d e f a g).snd
def xoX (R:Int->Int->Int->Int->List UInt8->List UInt8->LA->LA->Option (Int×Int)) (b i c d:Int) (e f:List UInt8) (a g:LA):Int×Int×List UInt8×List UInt8×LA×LA:=(xoY R b i c d e f a g).snd
def xoW (R:Int->Int->Int->Int->List UInt8->List UInt8->LA->LA->Option (Int×Int)) (b i c d:Int) (e f:List UInt8) (a g:LA):Int×List UInt8×List UInt8×LA×LA:=(xoX R b i c d e f a g).snd
def xoV (R:Int->Int->Int->Int->List UInt8->List UInt8->LA->LA->Option (Int×Int)) (b i c d:Int) (e f:List UInt8) (a g:LA):List UInt8×List UInt8×LA×LA:=(xoW R b i c d e f a g).snd
def xoU (R:Int->Int->Int->Int->List UInt8->List UInt8->LA->LA->Option (Int×Int)) (b i c d:Int) (e f:List UInt8) (a g:LA):List UInt8×LA×LA:=(xoV R b i c d e f a g).snd
def xoT (R:Int->Int->Int->Int->List UInt8->List UInt8->LA->LA->Option (Int×Int)) (b i c d:Int) (e f:List UInt8) (a g:LA):LA×LA:=(xoU R b i c d e f a g).snd
def xoS (R:Int->Int->Int->Int->List UInt8->List UInt8->LA->LA->Option (Int×Int)) (b i c d:Int) (e f:List UInt8) (a g:LA):LA:=(xoT R b i c d e f a g).snd
def xoR (R:Int->Int->Int->Int->List UInt8->List UInt8->LA->LA->Option (Int×Int)) (c i d e:Int) (f g:List UInt8) (a b:LA):Option (Int×Bool):=xhQ (xoZ R c i d e f g a b).fst (xoY R c i d e f g a b).fst (xoX R c i d e f g a b).fst (xoW R c i d e f g a b).fst (xoV R c i d e f g a b).fst (xoU R c i d e f g a b).fst (xoT R c i d e f g a b).fst (List.take (xnF R c i d e f g a b) (List.drop 0 (xoS R c i d e f g a b))) b
def xoQ (R:Int->Int->Int->Int->List UInt8->List UInt8->LA->LA->Option (Int×Int)) (b i c d:Int) (e f:List UInt8) (a g:LA):Int×Bool:=(xoR R b i c d e f a g).getD (0,false)
def xjH {T:Type} (R:Int->Int->Int->Int->List UInt8->List UInt8->LA->LA->Option (Int×Int)) (b i c d:Int) (e f:List UInt8) (a g:LA) (δ:T) (κ:Int×Int->T):T:=br ((xnK R b i c d e f a g).isSome) (br ((xnJ R b i c d e f a g).fst) (κ ((xnH R b i c d e f a g).fst,(xnH R b i c d e f a g).snd.fst)) (br (decide (0+xnF R b i c d e f a g<=(xoS R b i c d e f a g).length)&&true) (br ((xoR R b i c d e f a g).isSome) (br (!(xoQ R b i c d e f a g).snd) (κ (0,7)) (κ ((xoQ R b i c d e f a g).fst,0))) δ) δ)) δ
def xlX {T:Type} (R:Int->Int->Int->Int->List UInt8->List UInt8->LA->LA->Option (Int×Int)) (b i c d:Int) (e f:List UInt8) (a g:LA) (δ:T) (κ:Int×Int->T):T:=br (decide ((xjc b).fst<0)) (κ (0,7)) (br ((xnE b i c d e f a).isSome) (br (!(xnE b i c d e f a).getD false) (κ (0,8)) (br (b==2) (br (decide (i<0)) (κ (0,13)) (br (decide (i>=g.length)) (κ (0,13)) (xjH R b i c d e f a g δ κ))) (xjH R b i c d e f a g δ κ))) δ)
def xfw (R:Int->Int->Int->Int->List UInt8->List UInt8->LA->LA->Option (Int×Int)) (b i c d:Int) (e f:List UInt8) (a g:LA):=xlX R b i c d e f a g none some
theorem xA8 (R:Int->Int->Int->Int->List UInt8->List UInt8->LA->LA->Option (Int×Int)) (b i c d:Int) (e f:List UInt8) (a g:LA):Enc (fun (p:Int×Int)=>((AV.tuple [AV.int .i64 p.1,AV.int .i64 p.2]):AV)) (xfw R b i c d e f a g) (XF P0 (xeg R) Tryz.f146 (Tryz.f146.body.getD .skip) [AV.agg [AV.int .i64 b,AV.int .i64 i,AV.int .i64 c,AV.int .i64 d,AV.str e,AV.str f,AV.list 7 a],AV.list 1 g]):=by
 have h:XF P0 (xeg R) Tryz.f146 (Tryz.f146.body.getD .skip) [AV.agg [AV.int .i64 b,AV.int .i64 i,AV.int .i64 c,AV.int .i64 d,AV.str e,AV.str f,AV.list 7 a],AV.list 1 g]=xlX R b i c d e f a g none (fun (p:Int×Int)=>some ((AV.tuple [AV.int .i64 p.1,AV.int .i64 p.2]):AV)):=by kernel_rfl
 rw [h];unfold xfw xlX xjH;repeat' (first|refine Enc.br ?_ ?_|exact Enc.none|exact Enc.some rfl)
def xA7 (R:Int->Int->Int->Int->List UInt8->List UInt8->LA->LA->Option (Int×Int)):LA->Option (Bool×AV):=ocOf (xMy (xMO (xMy (sEq (pInt .i64)) (xMy (sEq (pInt .i64)) (xMy (sEq (pInt .i64)) (xMy (sEq (pInt .i64)) (xMy (sEq pStr) (xMy (sEq pStr) (xMy (xMN 7 xMB) xMA)))))))) (xMy (xMN 1 xMB) xMA)) fun ((b,(i,(c,(d,(e,(f,(a,_))))))),(g,_))=>((xfw R b i c d e f a g).isSome,(AV.tuple [AV.int .i64 ((xfw R b i c d e f a g).getD (0,0)).1,AV.int .i64 ((xfw R b i c d e f a g).getD (0,0)).2]))
theorem xA6 (R:Int->Int->Int->Int->List UInt8->List UInt8->LA->LA->Option (Int×Int)) (a:xdQ R):OcOk P0 xMv 146 (xA7 R):=xjb fun e h f=>by
 obtain ⟨⟨j,⟨i,⟨k,⟨l,⟨m,⟨n,⟨g,_⟩⟩⟩⟩⟩⟩⟩,⟨o,_⟩⟩:=e;obtain ⟨b,c⟩:=Prod.mk.inj f;refine xfN (p:=(xeg R).pin) (xi8 xLY (xLZ P0 _) rfl (xvx R a) Tryz.func146 rfl (by kernel_rfl) (xug R a) ((xA8 R _ _ _ _ _ _ _ _ _ (xbH (d:=(0,0)) b)).trans ?_))
 exact congrArg some c
def xc6:Nat->Int->Int->Int->Int->List UInt8->List UInt8->LA->LA->Option (Int×Int)
 | 0=>fun _ _ _ _ _ _ _ _=>none
 | fu_+1=>fun b i c d e f a g=>xfw (xc6 fu_) b i c d e f a g
theorem xrR:∀ n,xdQ (xc6 n)
 | 0=>xjb fun _ _ h=>absurd (Prod.mk.inj h).1 Bool.false_ne_true
 | fu_+1=>fun a r h=>xA6 (xc6 fu_) (xrR fu_) a r h
def xgg:Int->Int->Int->Int->List UInt8->List UInt8->LA->LA->Option (Int×Int):=fun b i c d e f a g=>limN fun n=>xc6 n b i c d e f a g
theorem xw4:xdQ xgg:=xuV 146 xc6 xrR
def xFS:Env:=xyl.with 146 (xeh xgg)
theorem xFU:xLP P0 xMv xFS:=xuZ.with xw4
def xFT:EO:=EO.mk xFS xFU
def xqg {T:Type} (b h c d:Int) (e f:List UInt8) (a g:LA) (δ:T) (κ:Int×Int->T):T:=br ((xi0 b h c d e f a).isSome) (br (decide ((xi0 b h c d e f a).getD 0>24)) (κ (0,26)) (br ((xgg b h c d e f a g).isSome) (κ (((xgg b h c d e f a g).getD (0,0)).fst,((xgg b h c d e f a g).getD (0,0)).snd)) δ)) δ
def xs7 (c h d e:Int) (f g:List UInt8) (a b:LA):=xqg c h d e f g a b none some
def xIu:EO:=xFT.f Tryz.func120 14 0 [] [] lk0 (u2 (xMO (u7 uI uI uI uI (sEq pStr) (sEq pStr) (uL 7))) (uL 1)) (fun ((c,i,d,e,g,h,a,_),b,_) _=>xqg c i d e g h a b) (fun _ p=>AV.tuple [AV.int .i64 p.1,AV.int .i64 p.2]) (0,0)
def xDj:LA:=(([AV.str [(97:UInt8),(100:UInt8),(100:UInt8)],AV.str [(97:UInt8),(102:UInt8),(116:UInt8),(101:UInt8),(114:UInt8)],AV.str [(97:UInt8),(108:UInt8),(108:UInt8)],AV.str [(97:UInt8),(108:UInt8),(116:UInt8),(101:UInt8),(114:UInt8)],AV.str [(97:UInt8),(110:UInt8),(100:UInt8)],AV.str [(97:UInt8),(115:UInt8)],AV.str [(98:UInt8),(101:UInt8),(102:UInt8),(111:UInt8),(114:UInt8),(101:UInt8)],AV.str [(98:UInt8),(101:UInt8),(103:UInt8),(105:UInt8),(110:UInt8)],AV.str [(98:UInt8),(101:UInt8),(116:UInt8),(119:UInt8),(101:UInt8),(101:UInt8),(110:UInt8)],AV.str [(98:UInt8),(111:UInt8),(111:UInt8),(108:UInt8)],AV.str [(98:UInt8),(121:UInt8)],AV.str [(99:UInt8),(104:UInt8),(101:UInt8),(99:UInt8),(107:UInt8)],AV.str [(99:UInt8),(111:UInt8),(97:UInt8),(108:UInt8),(101:UInt8),(115:UInt8),(99:UInt8),(101:UInt8)],AV.str [(99:UInt8),(111:UInt8),(109:UInt8),(109:UInt8),(105:UInt8),(116:UInt8)],AV.str [(99:UInt8),(111:UInt8),(110:UInt8),(116:UInt8),(97:UInt8),(105:UInt8),(110:UInt8),(115:UInt8)],AV.str [(99:UInt8),(111:UInt8),(117:UInt8),(110:UInt8),(116:UInt8)],AV.str [(99:UInt8),(114:UInt8),(101:UInt8),(97:UInt8),(116:UInt8),(101:UInt8)],AV.str [(100:UInt8),(101:UInt8),(102:UInt8),(97:UInt8),(117:UInt8),(108:UInt8),(116:UInt8)],AV.str [(100:UInt8),(101:UInt8),(108:UInt8),(101:UInt8),(116:UInt8),(101:UInt8)],AV.str [(100:UInt8),(101:UInt8),(115:UInt8),(99:UInt8)],AV.str [(100:UInt8),(105:UInt8),(115:UInt8),(116:UInt8),(105:UInt8),(110:UInt8),(99:UInt8),(116:UInt8)],AV.str [(100:UInt8),(114:UInt8),(111:UInt8),(112:UInt8)],AV.str [(100:UInt8),(117:UInt8),(114:UInt8),(105:UInt8),(110:UInt8),(103:UInt8)],AV.str [(101:UInt8),(113:UInt8),(117:UInt8),(97:UInt8),(108:UInt8),(115:UInt8)],AV.str [(101:UInt8),(120:UInt8),(99:UInt8),(101:UInt8),(112:UInt8),(116:UInt8)],AV.str [(102:UInt8),(97:UInt8),(108:UInt8),(115:UInt8),(101:UInt8)],AV.str [(102:UInt8),(105:UInt8),(110:UInt8),(105:UInt8),(115:UInt8),(104:UInt8),(101:UInt8),(100:UInt8),(98:UInt8),(121:UInt8)],AV.str [(102:UInt8),(105:UInt8),(110:UInt8),(105:UInt8),(115:UInt8),(104:UInt8),(101:UInt8),(115:UInt8)],AV.str [(102:UInt8),(111:UInt8),(114:UInt8),(101:UInt8),(105:UInt8),(103:UInt8),(110:UInt8)],AV.str [(102:UInt8),(111:UInt8),(114:UInt8),(101:UInt8),(118:UInt8),(101:UInt8),(114:UInt8)],AV.str [(102:UInt8),(114:UInt8),(111:UInt8),(109:UInt8)],AV.str [(103:UInt8),(114:UInt8),(111:UInt8),(117:UInt8),(112:UInt8)],AV.str [(104:UInt8),(111:UInt8),(108:UInt8),(100:UInt8)],AV.str [(105:UInt8),(102:UInt8)],AV.str [(105:UInt8),(110:UInt8),(115:UInt8),(101:UInt8),(114:UInt8),(116:UInt8)],AV.str [(105:UInt8),(110:UInt8),(116:UInt8)],AV.str [(105:UInt8),(110:UInt8),(116:UInt8),(101:UInt8),(114:UInt8),(115:UInt8),(101:UInt8),(99:UInt8),(116:UInt8)],AV.str [(105:UInt8),(110:UInt8),(116:UInt8),(111:UInt8)],AV.str [(105:UInt8),(115:UInt8)],AV.str [(106:UInt8),(111:UInt8),(105:UInt8),(110:UInt8)],AV.str [(107:UInt8),(101:UInt8),(121:UInt8)],AV.str [(108:UInt8),(101:UInt8),(102:UInt8),(116:UInt8)],AV.str [(108:UInt8),(101:UInt8),(110:UInt8),(103:UInt8),(116:UInt8),(104:UInt8)],AV.str [(108:UInt8),(105:UInt8),(109:UInt8),(105:UInt8),(116:UInt8)],AV.str [(109:UInt8),(97:UInt8),(120:UInt8)],AV.str [(109:UInt8),(101:UInt8),(101:UInt8),(116:UInt8),(115:UInt8)],AV.str [(109:UInt8),(101:UInt8),(116:UInt8),(98:UInt8),(121:UInt8)],AV.str [(109:UInt8),(105:UInt8),(110:UInt8)],AV.str [(110:UInt8),(111:UInt8),(110:UInt8),(115:UInt8),(101:UInt8),(113:UInt8),(117:UInt8),(101:UInt8),(110:UInt8),(99:UInt8),(101:UInt8),(100:UInt8)],AV.str [(110:UInt8),(111:UInt8),(116:UInt8)],AV.str [(110:UInt8),(111:UInt8),(119:UInt8)],AV.str [(110:UInt8),(117:UInt8),(108:UInt8),(108:UInt8)],AV.str [(111:UInt8),(102:UInt8)],AV.str [(111:UInt8),(110:UInt8)],AV.str [(111:UInt8),(114:UInt8)],AV.str [(111:UInt8),(114:UInt8),(100:UInt8),(101:UInt8),(114:UInt8)],AV.str [(111:UInt8),(118:UInt8),(101:UInt8),(114:UInt8),(108:UInt8),(97:UInt8),(112:UInt8),(112:UInt8),(101:UInt8),(100:UInt8),(98:UInt8),(121:UInt8)],AV.str [(111:UInt8),(118:UInt8),(101:UInt8),(114:UInt8),(108:UInt8),(97:UInt8),(112:UInt8),(115:UInt8)],AV.str [(112:UInt8),(114:UInt8),(105:UInt8),(109:UInt8),(97:UInt8),(114:UInt8),(121:UInt8)],AV.str [(112:UInt8),(114:UInt8),(117:UInt8),(110:UInt8),(101:UInt8)],AV.str [(114:UInt8),(101:UInt8),(102:UInt8),(101:UInt8),(114:UInt8),(101:UInt8),(110:UInt8),(99:UInt8),(101:UInt8),(115:UInt8)],AV.str [(114:UInt8),(101:UInt8),(108:UInt8),(101:UInt8),(97:UInt8),(115:UInt8),(101:UInt8)],AV.str [(114:UInt8),(101:UInt8),(110:UInt8),(97:UInt8),(109:UInt8),(101:UInt8)],AV.str [(114:UInt8),(101:UInt8),(116:UInt8),(97:UInt8),(105:UInt8),(110:UInt8)],AV.str [(114:UInt8),(111:UInt8),(108:UInt8),(108:UInt8),(98:UInt8),(97:UInt8),(99:UInt8),(107:UInt8)],AV.str [(115:UInt8),(101:UInt8),(108:UInt8),(101:UInt8),(99:UInt8),(116:UInt8)],AV.str [(115:UInt8),(101:UInt8),(113:UInt8),(117:UInt8),(101:UInt8),(110:UInt8),(99:UInt8),(101:UInt8),(100:UInt8)],AV.str [(115:UInt8),(101:UInt8),(116:UInt8)],AV.str [(115:UInt8),(116:UInt8),(97:UInt8),(114:UInt8),(116:UInt8),(101:UInt8),(100:UInt8),(98:UInt8),(121:UInt8)],AV.str [(115:UInt8),(116:UInt8),(97:UInt8),(114:UInt8),(116:UInt8),(115:UInt8)],AV.str [(115:UInt8),(117:UInt8),(109:UInt8)],AV.str [(115:UInt8),(121:UInt8),(115:UInt8),(116:UInt8),(101:UInt8),(109:UInt8)],AV.str [(115:UInt8),(121:UInt8),(115:UInt8),(116:UInt8),(101:UInt8),(109:UInt8),(102:UInt8),(114:UInt8),(111:UInt8),(109:UInt8)],AV.str [(115:UInt8),(121:UInt8),(115:UInt8),(116:UInt8),(101:UInt8),(109:UInt8),(116:UInt8),(111:UInt8)],AV.str [(116:UInt8),(97:UInt8),(98:UInt8),(108:UInt8),(101:UInt8)],AV.str [(116:UInt8),(101:UInt8),(120:UInt8),(116:UInt8)],AV.str [(116:UInt8),(111:UInt8)],AV.str [(116:UInt8),(114:UInt8),(117:UInt8),(101:UInt8)],AV.str [(116:UInt8),(120:UInt8)],AV.str [(117:UInt8),(110:UInt8),(100:UInt8),(101:UInt8),(114:UInt8)],AV.str [(117:UInt8),(110:UInt8),(105:UInt8),(111:UInt8),(110:UInt8)],AV.str [(117:UInt8),(112:UInt8),(100:UInt8),(97:UInt8),(116:UInt8),(101:UInt8)],AV.str [(118:UInt8),(97:UInt8),(108:UInt8),(105:UInt8),(100:UInt8)],AV.str [(118:UInt8),(97:UInt8),(108:UInt8),(105:UInt8),(100:UInt8),(102:UInt8),(114:UInt8),(111:UInt8),(109:UInt8)],AV.str [(118:UInt8),(97:UInt8),(108:UInt8),(105:UInt8),(100:UInt8),(116:UInt8),(111:UInt8)],AV.str [(118:UInt8),(97:UInt8),(108:UInt8),(117:UInt8),(101:UInt8),(115:UInt8)],AV.str [(119:UInt8),(104:UInt8),(101:UInt8),(114:UInt8),(101:UInt8)]]))
def xBf {T:Type} (δ:T) (κ:LA->T):T:=κ ([AV.str [(97:UInt8),(100:UInt8),(100:UInt8)],AV.str [(97:UInt8),(102:UInt8),(116:UInt8),(101:UInt8),(114:UInt8)],AV.str [(97:UInt8),(108:UInt8),(108:UInt8)],AV.str [(97:UInt8),(108:UInt8),(116:UInt8),(101:UInt8),(114:UInt8)],AV.str [(97:UInt8),(110:UInt8),(100:UInt8)],AV.str [(97:UInt8),(115:UInt8)],AV.str [(98:UInt8),(101:UInt8),(102:UInt8),(111:UInt8),(114:UInt8),(101:UInt8)],AV.str [(98:UInt8),(101:UInt8),(103:UInt8),(105:UInt8),(110:UInt8)],AV.str [(98:UInt8),(101:UInt8),(116:UInt8),(119:UInt8),(101:UInt8),(101:UInt8),(110:UInt8)],AV.str [(98:UInt8),(111:UInt8),(111:UInt8),(108:UInt8)],AV.str [(98:UInt8),(121:UInt8)],AV.str [(99:UInt8),(104:UInt8),(101:UInt8),(99:UInt8),(107:UInt8)],AV.str [(99:UInt8),(111:UInt8),(97:UInt8),(108:UInt8),(101:UInt8),(115:UInt8),(99:UInt8),(101:UInt8)],AV.str [(99:UInt8),(111:UInt8),(109:UInt8),(109:UInt8),(105:UInt8),(116:UInt8)],AV.str [(99:UInt8),(111:UInt8),(110:UInt8),(116:UInt8),(97:UInt8),(105:UInt8),(110:UInt8),(115:UInt8)],AV.str [(99:UInt8),(111:UInt8),(117:UInt8),(110:UInt8),(116:UInt8)],AV.str [(99:UInt8),(114:UInt8),(101:UInt8),(97:UInt8),(116:UInt8),(101:UInt8)],AV.str [(100:UInt8),(101:UInt8),(102:UInt8),(97:UInt8),(117:UInt8),(108:UInt8),(116:UInt8)],AV.str [(100:UInt8),(101:UInt8),(108:UInt8),(101:UInt8),(116:UInt8),(101:UInt8)],AV.str [(100:UInt8),(101:UInt8),(115:UInt8),(99:UInt8)],AV.str [(100:UInt8),(105:UInt8),(115:UInt8),(116:UInt8),(105:UInt8),(110:UInt8),(99:UInt8),(116:UInt8)],AV.str [(100:UInt8),(114:UInt8),(111:UInt8),(112:UInt8)],AV.str [(100:UInt8),(117:UInt8),(114:UInt8),(105:UInt8),(110:UInt8),(103:UInt8)],AV.str [(101:UInt8),(113:UInt8),(117:UInt8),(97:UInt8),(108:UInt8),(115:UInt8)],AV.str [(101:UInt8),(120:UInt8),(99:UInt8),(101:UInt8),(112:UInt8),(116:UInt8)],AV.str [(102:UInt8),(97:UInt8),(108:UInt8),(115:UInt8),(101:UInt8)],AV.str [(102:UInt8),(105:UInt8),(110:UInt8),(105:UInt8),(115:UInt8),(104:UInt8),(101:UInt8),(100:UInt8),(98:UInt8),(121:UInt8)],AV.str [(102:UInt8),(105:UInt8),(110:UInt8),(105:UInt8),(115:UInt8),(104:UInt8),(101:UInt8),(115:UInt8)],AV.str [(102:UInt8),(111:UInt8),(114:UInt8),(101:UInt8),(105:UInt8),(103:UInt8),(110:UInt8)],AV.str [(102:UInt8),(111:UInt8),(114:UInt8),(101:UInt8),(118:UInt8),(101:UInt8),(114:UInt8)],AV.str [(102:UInt8),(114:UInt8),(111:UInt8),(109:UInt8)],AV.str [(103:UInt8),(114:UInt8),(111:UInt8),(117:UInt8),(112:UInt8)],AV.str [(104:UInt8),(111:UInt8),(108:UInt8),(100:UInt8)],AV.str [(105:UInt8),(102:UInt8)],AV.str [(105:UInt8),(110:UInt8),(115:UInt8),(101:UInt8),(114:UInt8),(116:UInt8)],AV.str [(105:UInt8),(110:UInt8),(116:UInt8)],AV.str [(105:UInt8),(110:UInt8),(116:UInt8),(101:UInt8),(114:UInt8),(115:UInt8),(101:UInt8),(99:UInt8),(116:UInt8)],AV.str [(105:UInt8),(110:UInt8),(116:UInt8),(111:UInt8)],AV.str [(105:UInt8),(115:UInt8)],AV.str [(106:UInt8),(111:UInt8),(105:UInt8),(110:UInt8)],AV.str [(107:UInt8),(101:UInt8),(121:UInt8)],AV.str [(108:UInt8),(101:UInt8),(102:UInt8),(116:UInt8)],AV.str [(108:UInt8),(101:UInt8),(110:UInt8),(103:UInt8),(116:UInt8),(104:UInt8)],AV.str [(108:UInt8),(105:UInt8),(109:UInt8),(105:UInt8),(116:UInt8)],AV.str [(109:UInt8),(97:UInt8),(120:UInt8)],AV.str [(109:UInt8),(101:UInt8),(101:UInt8),(116:UInt8),(115:UInt8)],AV.str [(109:UInt8),(101:UInt8),(116:UInt8),(98:UInt8),(121:UInt8)],AV.str [(109:UInt8),(105:UInt8),(110:UInt8)],AV.str [(110:UInt8),(111:UInt8),(110:UInt8),(115:UInt8),(101:UInt8),(113:UInt8),(117:UInt8),(101:UInt8),(110:UInt8),(99:UInt8),(101:UInt8),(100:UInt8)],AV.str [(110:UInt8),(111:UInt8),(116:UInt8)],AV.str [(110:UInt8),(111:UInt8),(119:UInt8)],AV.str [(110:UInt8),(117:UInt8),(108:UInt8),(108:UInt8)],AV.str [(111:UInt8),(102:UInt8)],AV.str [(111:UInt8),(110:UInt8)],AV.str [(111:UInt8),(114:UInt8)],AV.str [(111:UInt8),(114:UInt8),(100:UInt8),(101:UInt8),(114:UInt8)],AV.str [(111:UInt8),(118:UInt8),(101:UInt8),(114:UInt8),(108:UInt8),(97:UInt8),(112:UInt8),(112:UInt8),(101:UInt8),(100:UInt8),(98:UInt8),(121:UInt8)],AV.str [(111:UInt8),(118:UInt8),(101:UInt8),(114:UInt8),(108:UInt8),(97:UInt8),(112:UInt8),(115:UInt8)],AV.str [(112:UInt8),(114:UInt8),(105:UInt8),(109:UInt8),(97:UInt8),(114:UInt8),(121:UInt8)],AV.str [(112:UInt8),(114:UInt8),(117:UInt8),(110:UInt8),(101:UInt8)],AV.str [(114:UInt8),(101:UInt8),(102:UInt8),(101:UInt8),(114:UInt8),(101:UInt8),(110:UInt8),(99:UInt8),(101:UInt8),(115:UInt8)],AV.str [(114:UInt8),(101:UInt8),(108:UInt8),(101:UInt8),(97:UInt8),(115:UInt8),(101:UInt8)],AV.str [(114:UInt8),(101:UInt8),(110:UInt8),(97:UInt8),(109:UInt8),(101:UInt8)],AV.str [(114:UInt8),(101:UInt8),(116:UInt8),(97:UInt8),(105:UInt8),(110:UInt8)],AV.str [(114:UInt8),(111:UInt8),(108:UInt8),(108:UInt8),(98:UInt8),(97:UInt8),(99:UInt8),(107:UInt8)],AV.str [(115:UInt8),(101:UInt8),(108:UInt8),(101:UInt8),(99:UInt8),(116:UInt8)],AV.str [(115:UInt8),(101:UInt8),(113:UInt8),(117:UInt8),(101:UInt8),(110:UInt8),(99:UInt8),(101:UInt8),(100:UInt8)],AV.str [(115:UInt8),(101:UInt8),(116:UInt8)],AV.str [(115:UInt8),(116:UInt8),(97:UInt8),(114:UInt8),(116:UInt8),(101:UInt8),(100:UInt8),(98:UInt8),(121:UInt8)],AV.str [(115:UInt8),(116:UInt8),(97:UInt8),(114:UInt8),(116:UInt8),(115:UInt8)],AV.str [(115:UInt8),(117:UInt8),(109:UInt8)],AV.str [(115:UInt8),(121:UInt8),(115:UInt8),(116:UInt8),(101:UInt8),(109:UInt8)],AV.str [(115:UInt8),(121:UInt8),(115:UInt8),(116:UInt8),(101:UInt8),(109:UInt8),(102:UInt8),(114:UInt8),(111:UInt8),(109:UInt8)],AV.str [(115:UInt8),(121:UInt8),(115:UInt8),(116:UInt8),(101:UInt8),(109:UInt8),(116:UInt8),(111:UInt8)],AV.str [(116:UInt8),(97:UInt8),(98:UInt8),(108:UInt8),(101:UInt8)],AV.str [(116:UInt8),(101:UInt8),(120:UInt8),(116:UInt8)],AV.str [(116:UInt8),(111:UInt8)],AV.str [(116:UInt8),(114:UInt8),(117:UInt8),(101:UInt8)],AV.str [(116:UInt8),(120:UInt8)],AV.str [(117:UInt8),(110:UInt8),(100:UInt8),(101:UInt8),(114:UInt8)],AV.str [(117:UInt8),(110:UInt8),(105:UInt8),(111:UInt8),(110:UInt8)],AV.str [(117:UInt8),(112:UInt8),(100:UInt8),(97:UInt8),(116:UInt8),(101:UInt8)],AV.str [(118:UInt8),(97:UInt8),(108:UInt8),(105:UInt8),(100:UInt8)],AV.str [(118:UInt8),(97:UInt8),(108:UInt8),(105:UInt8),(100:UInt8),(102:UInt8),(114:UInt8),(111:UInt8),(109:UInt8)],AV.str [(118:UInt8),(97:UInt8),(108:UInt8),(105:UInt8),(100:UInt8),(116:UInt8),(111:UInt8)],AV.str [(118:UInt8),(97:UInt8),(108:UInt8),(117:UInt8),(101:UInt8),(115:UInt8)],AV.str [(119:UInt8),(104:UInt8),(101:UInt8),(114:UInt8),(101:UInt8)]])
def xFV:EO:=xIu.fT Tryz.func116 2 0 [] [] lk0 (fun _=>xBf none) xMA (fun _=>xDj) (fun _ p=>(AV.list 1 p))
def xlZ {T:Type} (l:LA) (a:List UInt8) (i:Int) (δ:T) (κl:(Int)->T) (κr:(Bool×(Bool)×(Unit))->T):T:=br (decide (i<l.length)) (br (ixI l i) (br (decide (i.toNat<l.length)&&xLN Sh.str (gC l i 0)) (br ((gC l i 0).toStr==a) (κr (true,(true),())) (κl (i64.wrap (i+1)))) δ) δ) (κr (false,false,()))
def xdc (l:LA) (a:List UInt8):StT (Int) (Bool×(Bool)×(Unit)):=fun (i)=>xlZ l a i none inL inR
def xtL:=xFV.l 18 0 [] [] Tryz.f115 0 lk0 [0,1,5] [4] [] (q3 (qL 1) pStr qI) xMz (fun (l,a,i,_) _=>(xdc l a,(i),fun p=>(.node p.1 (.leaf .ret [AV.bool p.2.1] []) (.leaf (.exit 0) [.top] [])))) (false,false,()) fun (l,a,_,_) _ (i)=>(((l,a,i,()),()),xlZ l a i none)
def xui {T:Type} (l:LA) (a:List UInt8) (δ:T) (κ:Bool->T):T:=br ((Iter (xdc l a) 0).isSome) (br (((Iter (xdc l a) 0).getD (false,false,())).fst) (κ (((Iter (xdc l a) 0).getD (false,false,())).snd.fst)) (κ (false))) δ
def xw8 (l:LA) (a:List UInt8):=xui l a none some
def xFW:EO:=xFV.f Tryz.func115 18 0 [] [(2,xtL.lp)] (lk1 xtL.ok) (u2 (uL 1) (sEq pStr)) (fun (l,a,_) _=>xui l a) (fun _ p=>AV.bool p) false
def xhh {T:Type} (a:List UInt8) (i:Int) (κl:(Int)->T) (κr:(Bool×(Bool)×(Unit))->T):T:=br (!(↑(a.getD i.toNat (0:UInt8)).toNat:Int)==95) (κr (true,(false),())) (κl (i64.wrap (i+1)))
def xhg {T:Type} (a:List UInt8) (i:Int) (κl:(Int)->T) (κr:(Bool×(Bool)×(Unit))->T):T:=br (decide ((↑(a.getD i.toNat (0:UInt8)).toNat:Int)>=48)) (br (decide ((↑(a.getD i.toNat (0:UInt8)).toNat:Int)<=57)) (κl (i64.wrap (i+1))) (xhh a i κl κr)) (xhh a i κl κr)
def xjJ {T:Type} (a:List UInt8) (i:Int) (δ:T) (κl:(Int)->T) (κr:(Bool×(Bool)×(Unit))->T):T:=br (decide (i<a.length)) (br (decide (0<=i)&&decide (i<a.length)) (br (decide ((↑(a.getD i.toNat (0:UInt8)).toNat:Int)>=97)) (br (decide ((↑(a.getD i.toNat (0:UInt8)).toNat:Int)<=122)) (κl (i64.wrap (i+1))) (xhg a i κl κr)) (xhg a i κl κr)) δ) (κr (false,false,()))
def xcg (a:List UInt8):StT (Int) (Bool×(Bool)×(Unit)):=fun (i)=>xjJ a i none inL inR
def xrX:=xFW.l 54 0 [] [] Tryz.f86 0 lk0 [0,3] [0,2] [] (q2 pStr qI) xMz (fun (a,i,_) _=>(xcg a,(i),fun p=>(.node p.1 (.leaf .ret [AV.str a,AV.bool p.2.1] []) (.leaf (.exit 0) [AV.str a,.top] [])))) (false,false,()) fun (a,_,_) _ (i)=>(((a,i,()),()),xjJ a i none)
def xqo (a:List UInt8):=xw8 [AV.str [(97:UInt8),(100:UInt8),(100:UInt8)],AV.str [(97:UInt8),(102:UInt8),(116:UInt8),(101:UInt8),(114:UInt8)],AV.str [(97:UInt8),(108:UInt8),(108:UInt8)],AV.str [(97:UInt8),(108:UInt8),(116:UInt8),(101:UInt8),(114:UInt8)],AV.str [(97:UInt8),(110:UInt8),(100:UInt8)],AV.str [(97:UInt8),(115:UInt8)],AV.str [(98:UInt8),(101:UInt8),(102:UInt8),(111:UInt8),(114:UInt8),(101:UInt8)],AV.str [(98:UInt8),(101:UInt8),(103:UInt8),(105:UInt8),(110:UInt8)],AV.str [(98:UInt8),(101:UInt8),(116:UInt8),(119:UInt8),(101:UInt8),(101:UInt8),(110:UInt8)],AV.str [(98:UInt8),(111:UInt8),(111:UInt8),(108:UInt8)],AV.str [(98:UInt8),(121:UInt8)],AV.str [(99:UInt8),(104:UInt8),(101:UInt8),(99:UInt8),(107:UInt8)],AV.str [(99:UInt8),(111:UInt8),(97:UInt8),(108:UInt8),(101:UInt8),(115:UInt8),(99:UInt8),(101:UInt8)],AV.str [(99:UInt8),(111:UInt8),(109:UInt8),(109:UInt8),(105:UInt8),(116:UInt8)],AV.str [(99:UInt8),(111:UInt8),(110:UInt8),(116:UInt8),(97:UInt8),(105:UInt8),(110:UInt8),(115:UInt8)],AV.str [(99:UInt8),(111:UInt8),(117:UInt8),(110:UInt8),(116:UInt8)],AV.str [(99:UInt8),(114:UInt8),(101:UInt8),(97:UInt8),(116:UInt8),(101:UInt8)],AV.str [(100:UInt8),(101:UInt8),(102:UInt8),(97:UInt8),(117:UInt8),(108:UInt8),(116:UInt8)],AV.str [(100:UInt8),(101:UInt8),(108:UInt8),(101:UInt8),(116:UInt8),(101:UInt8)],AV.str [(100:UInt8),(101:UInt8),(115:UInt8),(99:UInt8)],AV.str [(100:UInt8),(105:UInt8),(115:UInt8),(116:UInt8),(105:UInt8),(110:UInt8),(99:UInt8),(116:UInt8)],AV.str [(100:UInt8),(114:UInt8),(111:UInt8),(112:UInt8)],AV.str [(100:UInt8),(117:UInt8),(114:UInt8),(105:UInt8),(110:UInt8),(103:UInt8)],AV.str [(101:UInt8),(113:UInt8),(117:UInt8),(97:UInt8),(108:UInt8),(115:UInt8)],AV.str [(101:UInt8),(120:UInt8),(99:UInt8),(101:UInt8),(112:UInt8),(116:UInt8)],AV.str [(102:UInt8),(97:UInt8),(108:UInt8),(115:UInt8),(101:UInt8)],AV.str [(102:UInt8),(105:UInt8),(110:UInt8),(105:UInt8),(115:UInt8),(104:UInt8),(101:UInt8),(100:UInt8),(98:UInt8),(121:UInt8)],AV.str [(102:UInt8),(105:UInt8),(110:UInt8),(105:UInt8),(115:UInt8),(104:UInt8),(101:UInt8),(115:UInt8)],AV.str [(102:UInt8),(111:UInt8),(114:UInt8),(101:UInt8),(105:UInt8),(103:UInt8),(110:UInt8)],AV.str [(102:UInt8),(111:UInt8),(114:UInt8),(101:UInt8),(118:UInt8),(101:UInt8),(114:UInt8)],AV.str [(102:UInt8),(114:UInt8),(111:UInt8),(109:UInt8)],AV.str [(103:UInt8),(114:UInt8),(111:UInt8),(117:UInt8),(112:UInt8)],AV.str [(104:UInt8),(111:UInt8),(108:UInt8),(100:UInt8)],AV.str [(105:UInt8),(102:UInt8)],AV.str [(105:UInt8),(110:UInt8),(115:UInt8),(101:UInt8),(114:UInt8),(116:UInt8)],AV.str [(105:UInt8),(110:UInt8),(116:UInt8)],AV.str [(105:UInt8),(110:UInt8),(116:UInt8),(101:UInt8),(114:UInt8),(115:UInt8),(101:UInt8),(99:UInt8),(116:UInt8)],AV.str [(105:UInt8),(110:UInt8),(116:UInt8),(111:UInt8)],AV.str [(105:UInt8),(115:UInt8)],AV.str [(106:UInt8),(111:UInt8),(105:UInt8),(110:UInt8)],AV.str [(107:UInt8),(101:UInt8),(121:UInt8)],AV.str [(108:UInt8),(101:UInt8),(102:UInt8),(116:UInt8)],AV.str [(108:UInt8),(101:UInt8),(110:UInt8),(103:UInt8),(116:UInt8),(104:UInt8)],AV.str [(108:UInt8),(105:UInt8),(109:UInt8),(105:UInt8),(116:UInt8)],AV.str [(109:UInt8),(97:UInt8),(120:UInt8)],AV.str [(109:UInt8),(101:UInt8),(101:UInt8),(116:UInt8),(115:UInt8)],AV.str [(109:UInt8),(101:UInt8),(116:UInt8),(98:UInt8),(121:UInt8)],AV.str [(109:UInt8),(105:UInt8),(110:UInt8)],AV.str [(110:UInt8),(111:UInt8),(110:UInt8),(115:UInt8),(101:UInt8),(113:UInt8),(117:UInt8),(101:UInt8),(110:UInt8),(99:UInt8),(101:UInt8),(100:UInt8)],AV.str [(110:UInt8),(111:UInt8),(116:UInt8)],AV.str [(110:UInt8),(111:UInt8),(119:UInt8)],AV.str [(110:UInt8),(117:UInt8),(108:UInt8),(108:UInt8)],AV.str [(111:UInt8),(102:UInt8)],AV.str [(111:UInt8),(110:UInt8)],AV.str [(111:UInt8),(114:UInt8)],AV.str [(111:UInt8),(114:UInt8),(100:UInt8),(101:UInt8),(114:UInt8)],AV.str [(111:UInt8),(118:UInt8),(101:UInt8),(114:UInt8),(108:UInt8),(97:UInt8),(112:UInt8),(112:UInt8),(101:UInt8),(100:UInt8),(98:UInt8),(121:UInt8)],AV.str [(111:UInt8),(118:UInt8),(101:UInt8),(114:UInt8),(108:UInt8),(97:UInt8),(112:UInt8),(115:UInt8)],AV.str [(112:UInt8),(114:UInt8),(105:UInt8),(109:UInt8),(97:UInt8),(114:UInt8),(121:UInt8)],AV.str [(112:UInt8),(114:UInt8),(117:UInt8),(110:UInt8),(101:UInt8)],AV.str [(114:UInt8),(101:UInt8),(102:UInt8),(101:UInt8),(114:UInt8),(101:UInt8),(110:UInt8),(99:UInt8),(101:UInt8),(115:UInt8)],AV.str [(114:UInt8),(101:UInt8),(108:UInt8),(101:UInt8),(97:UInt8),(115:UInt8),(101:UInt8)],AV.str [(114:UInt8),(101:UInt8),(110:UInt8),(97:UInt8),(109:UInt8),(101:UInt8)],AV.str [(114:UInt8),(101:UInt8),(116:UInt8),(97:UInt8),(105:UInt8),(110:UInt8)],AV.str [(114:UInt8),(111:UInt8),(108:UInt8),(108:UInt8),(98:UInt8),(97:UInt8),(99:UInt8),(107:UInt8)],AV.str [(115:UInt8),(101:UInt8),(108:UInt8),(101:UInt8),(99:UInt8),(116:UInt8)],AV.str [(115:UInt8),(101:UInt8),(113:UInt8),(117:UInt8),(101:UInt8),(110:UInt8),(99:UInt8),(101:UInt8),(100:UInt8)],AV.str [(115:UInt8),(101:UInt8),(116:UInt8)],AV.str [(115:UInt8),(116:UInt8),(97:UInt8),(114:UInt8),(116:UInt8),(101:UInt8),(100:UInt8),(98:UInt8),(121:UInt8)],AV.str [(115:UInt8),(116:UInt8),(97:UInt8),(114:UInt8),(116:UInt8),(115:UInt8)],AV.str [(115:UInt8),(117:UInt8),(109:UInt8)],AV.str [(115:UInt8),(121:UInt8),(115:UInt8),(116:UInt8),(101:UInt8),(109:UInt8)],AV.str [(115:UInt8),(121:UInt8),(115:UInt8),(116:UInt8),(101:UInt8),(109:UInt8),(102:UInt8),(114:UInt8),(111:UInt8),(109:UInt8)],AV.str [(115:UInt8),(121:UInt8),(115:UInt8),(116:UInt8),(101:UInt8),(109:UInt8),(116:UInt8),(111:UInt8)],AV.str [(116:UInt8),(97:UInt8),(98:UInt8),(108:UInt8),(101:UInt8)],AV.str [(116:UInt8),(101:UInt8),(120:UInt8),(116:UInt8)],AV.str [(116:UInt8),(111:UInt8)],AV.str [(116:UInt8),(114:UInt8),(117:UInt8),(101:UInt8)],AV.str [(116:UInt8),(120:UInt8)],AV.str [(117:UInt8),(110:UInt8),(100:UInt8),(101:UInt8),(114:UInt8)],AV.str [(117:UInt8),(110:UInt8),(105:UInt8),(111:UInt8),(110:UInt8)],AV.str [(117:UInt8),(112:UInt8),(100:UInt8),(97:UInt8),(116:UInt8),(101:UInt8)],AV.str [(118:UInt8),(97:UInt8),(108:UInt8),(105:UInt8),(100:UInt8)],AV.str [(118:UInt8),(97:UInt8),(108:UInt8),(105:UInt8),(100:UInt8),(102:UInt8),(114:UInt8),(111:UInt8),(109:UInt8)],AV.str [(118:UInt8),(97:UInt8),(108:UInt8),(105:UInt8),(100:UInt8),(116:UInt8),(111:UInt8)],AV.str [(118:UInt8),(97:UInt8),(108:UInt8),(117:UInt8),(101:UInt8),(115:UInt8)],AV.str [(119:UInt8),(104:UInt8),(101:UInt8),(114:UInt8),(101:UInt8)]] a
def xo5 {T:Type} (a:List UInt8) (δ:T) (κ:Bool->T):T:=br ((Iter (xcg a) 0).isSome) (br (((Iter (xcg a) 0).getD (false,false,())).fst) (κ (((Iter (xcg a) 0).getD (false,false,())).snd.fst)) (br ((xqo a).isSome) (κ (!(xqo a).getD false)) δ)) δ
def xrY {T:Type} (a:List UInt8) (δ:T) (κ:Bool->T):T:=br (a==[]) (κ (false)) (br (decide ((↑a.length:Int)>24)) (κ (false)) (br (decide (0<(↑a.length:Int))) (br (decide ((↑(a.getD 0 (0:UInt8)).toNat:Int)>=48)) (br (decide (0<(↑a.length:Int))) (br (decide ((↑(a.getD 0 (0:UInt8)).toNat:Int)<=57)) (κ (false)) (xo5 a δ κ)) δ) (xo5 a δ κ)) δ))
def xgA (a:List UInt8):=xrY a none some
def xBr:EO:=xFW.f Tryz.func86 54 0 [] [(4,xrX.lp)] (lk1 xrX.ok) (u1 (sEq pStr)) (fun (a,_) _=>xrY a) (fun _ p=>AV.bool p) false
def xiC {T:Type} (b:Nat) (i:Int) (d:List UInt8) (c e f g a:LA) (δ:T) (κl:(Nat×Int×List UInt8×LA×LA×LA×LA×LA)->T) (κr:(Nat×LA)->T):T:=br (decide (i<c.length)) (br (ixI c i) (br (ixS c i (Sh.int .i64) 1) (br (rmB b a 1 8) (κl (b+1,i64.wrap (i+1),d,c,e,f,g,a++[AV.int .i64 (gC c i 1).toInt])) δ) δ) δ) (κr (b,a))
def xcx:StT (Nat×Int×List UInt8×LA×LA×LA×LA×LA) (Nat×LA):=fun (b,i,c,d,e,f,g,a)=>xiC b i c d e f g a none inL inR
def xqZ:=xBr.l 23 0 [] [] Tryz.f53 0 lk0 [1,3,4] [3] [(3,1,3)] (q3 (xMK 0 0 0 0) (xMJ 1 0 0) qI) (q2 (qB 0 5 27 (q1 (xML (q5 pStr (qL 3) (qL 1) (qL 2) (qL 7))))) (qB 0 1 3 xMB)) (fun (_,b,i,_) (((c,d,e,f,g,_),_),a,_)=>(xcx,(b,i,c,d,e,f,g,a),fun p=>(.leaf (.exit 0) [AV.osl 0 0 0 p.1] [bF 0 1 3 p.2]))) (0,[]) fun _ _ (b,i,c,d,e,f,g,a)=>((((),b,i,()),(((c,d,e,f,g,()),()),a,())),xiC b i c d e f g a none)
def xo4 (e:List UInt8) (b a c d:LA):=Iter xcx (0,0,e,b,a,c,d,[])
def xo3 (e:List UInt8) (b a c d:LA):=(xo4 e b a c d).getD (0,[])
def xo1 (e:List UInt8) (b a c d:LA):=(xo3 e b a c d).snd
def xo2 (e:List UInt8) (b a c d:LA):=(xo3 e b a c d).fst
def xqn {T:Type} (e:List UInt8) (b a c d:LA) (δ:T) (κ:LA->T):T:=br ((xo4 e b a c d).isSome) (br (decide (0+xo2 e b a c d<=(xo1 e b a c d).length)&&true) (κ (List.take (xo2 e b a c d) (List.drop 0 (xo1 e b a c d)))) δ) δ
def xes (e:List UInt8) (b a c d:LA):=xqn e b a c d none some
def xBe:LA->Option (Bool×AV):=fnO (u1 (xMO (u5 (sEq pStr) (uL 3) (uL 1) (uL 2) (uL 7)))) (fun ((e,b,a,c,d,_),_) _=>xqn e b a c d) (fun _ p=>AV.list 1 p) []
theorem xuJ:OcOk P0 xMv 53 xBe:=fnC xBr.ok Tryz.func53 23 0 [] [(3,xqZ.lp)] (lk1 xqZ.ok)
def xFX:EO:=xBr.w xuJ
def xjI {T:Type} (b:List UInt8) (i:Int) (c:List UInt8) (a d e f:LA) (δ:T) (κl:(Int×List UInt8×LA×LA×LA×LA)->T) (κr:(Bool×(Int)×(Unit))->T):T:=br (decide (i<a.length)) (br (ixI a i) (br (decide (i.toNat<a.length)&&xLN Sh.str (gC a i 0)) (br ((gC a i 0).toStr==b) (κr (true,(i),())) (κl (i64.wrap (i+1),c,a,d,e,f))) δ) δ) (κr (false,0,()))
def xdp (a:List UInt8):StT (Int×List UInt8×LA×LA×LA×LA) (Bool×(Int)×(Unit)):=fun (i,b,c,d,e,f)=>xjI a i b c d e f none inL inR
def xrV:=xFX.l 22 0 [] [] Tryz.f117 0 lk0 [1,2,5] [4] [] (q3 pStr (xMK 0 0 0 0) qI) (q1 (qB 0 5 27 (q1 (xML (q5 pStr (qL 3) (qL 1) (qL 2) (qL 7)))))) (fun (a,_,i,_) (((b,c,d,e,f,_),_),_)=>(xdp a,(i,b,c,d,e,f),fun p=>(.node p.1 (.leaf .ret [AV.int .i64 p.2.1] []) (.leaf (.exit 0) [.top] [])))) (false,0,()) fun (a,_,_,_) _ (i,b,c,d,e,f)=>(((a,(),i,()),(((b,c,d,e,f,()),()),())),xjI a i b c d e f none)
def xqm (e:List UInt8) (b a c d:LA) (f:List UInt8):=Iter (xdp f) (0,e,b,a,c,d)
def xql (e:List UInt8) (b a c d:LA) (f:List UInt8):=(xqm e b a c d f).getD (false,0,())
def xrW {T:Type} (e:List UInt8) (b a c d:LA) (f:List UInt8) (δ:T) (κ:Int->T):T:=br ((xqm e b a c d f).isSome) (br ((xql e b a c d f).fst) (κ ((xql e b a c d f).snd.fst)) (κ ((-1)))) δ
def xrc (e:List UInt8) (b a c d:LA) (f:List UInt8):=xrW e b a c d f none some
def xJV:EO:=xFX.f Tryz.func117 22 0 [] [(2,xrV.lp)] (lk1 xrV.ok) (u2 (xMO (u5 (sEq pStr) (uL 3) (uL 1) (uL 2) (uL 7))) (sEq pStr)) (fun ((e,b,a,c,d,_),g,_) _=>xrW e b a c d g) (fun _ p=>AV.int .i64 p) 0
def xkj (e:List UInt8) (a b c d:LA) (i:Int):Bool:=(br (decide (i>=0)) ((decide (i<a.length))) ((false)))
def xzJ {T:Type} (e:List UInt8) (a b c d:LA) (i:Int) (δ:T) (κ:Bool->T):T:=br (decide (i>=0)) (κ (decide (i<a.length))) (κ (false))
def xFY:EO:=xJV.fT Tryz.func118 14 0 [] [] lk0 (fun ((e,b,a,c,d,_),i,_)=>xzJ e b a c d i none) (u2 (xMO (u5 (sEq pStr) (uL 3) (uL 1) (uL 2) (uL 7))) uI) (fun ((e,b,a,c,d,_),i,_)=>xkj e b a c d i) (fun _ p=>(AV.bool p))
def xgB {T:Type} (i:Int) (b:List UInt8) (a c d e:LA) (δ:T) (κl:(Int×List UInt8×LA×LA×LA×LA)->T) (κr:(Bool×(Int)×(Unit))->T):T:=br (decide (i<a.length)) (br (ixI a i) (br (ixT a i 3 [Sh.str,Sh.int .i64,Sh.bool] 0) (br ((xgA (gC a i 0).toStr).isSome) (br (!(xgA (gC a i 0).toStr).getD false) (κr (true,(1),())) (br (decide ((gC a i 1).toInt<1)) (κr (true,(7),())) (br (decide ((gC a i 1).toInt>3)) (κr (true,(7),())) (br ((xrc b a c d e (gC a i 0).toStr).isSome) (br (decide ((xrc b a c d e (gC a i 0).toStr).getD 0<i)) (κr (true,(10),())) (κl (i64.wrap (i+1),b,a,c,d,e))) δ)))) δ) δ) δ) (κr (false,0,()))
def xbx:StT (Int×List UInt8×LA×LA×LA×LA) (Bool×(Int)×(Unit)):=fun (i,a,b,c,d,e)=>xgB i a b c d e none inL inR
def xov:=xFY.l 45 0 [] [] Tryz.f87 0 lk0 [1,3] [2] [] (q2 (xMK 0 0 0 0) qI) (q1 (qB 0 5 27 (q1 (xML (q5 pStr (qL 3) (qL 1) (qL 2) (qL 7)))))) (fun (_,i,_) (((a,b,c,d,e,_),_),_)=>(xbx,(i,a,b,c,d,e),fun p=>(.node p.1 (.leaf .ret [AV.int .i64 p.2.1] []) (.leaf (.exit 0) [.top] [])))) (false,0,()) fun _ _ (i,a,b,c,d,e)=>((((),i,()),(((a,b,c,d,e,()),()),())),xgB i a b c d e none)
def xmo (e:List UInt8) (b a c d:LA):=Iter xbx (0,e,b,a,c,d)
def xmn (e:List UInt8) (b a c d:LA):=(xmo e b a c d).getD (false,0,())
def xnL {T:Type} (e:List UInt8) (a b c d:LA) (δ:T) (κ:Int->T):T:=br (decide ((↑a.length:Int)<1)) (κ (13)) (br (decide ((↑a.length:Int)>12)) (κ (13)) (br ((xmo e a b c d).isSome) (br ((xmn e a b c d).fst) (κ ((xmn e a b c d).snd.fst)) (κ (0))) δ))
def xgh (e:List UInt8) (b a c d:LA):=xnL e b a c d none some
def xFZ:EO:=xFY.f Tryz.func87 45 0 [] [(4,xov.lp)] (lk1 xov.ok) (u1 (xMO (u5 (sEq pStr) (uL 3) (uL 1) (uL 2) (uL 7)))) (fun ((e,b,a,c,d,_),_) _=>xnL e b a c d) (fun _ p=>AV.int .i64 p) 0
def xeQ (i:Int) (a:LA):=ixI a i
def xeR (i:Int) (a:LA):=decide (i.toNat<a.length)&&xLN (Sh.int .i64) (gC a i 0)
def xbp (i:Int) (a:LA):=(gC a i 0).toInt
def xek {T:Type} (i:Int) (c:List UInt8) (b a d e:LA) (δ:T) (κl:(Int×List UInt8×LA×LA×LA×LA)->T) (κr:(Bool×(Int)×(Unit))->T):T:=br (xeQ i a) (br (xeR i a) (br (decide (0<=xbp i a)&&decide (xbp i a<b.length)) (br (decide ((xbp i a).toNat<b.length)&&xLN Sh.bool ((b.getD (xbp i a).toNat .top).cells.getD 2 .top)) (br (((b.getD (xbp i a).toNat .top).cells.getD 2 .top).toBool) (κr (true,(12),())) (κl (i64.wrap (i+1),c,b,a,d,e))) δ) δ) δ) δ
def xfJ {T:Type} (i:Int) (b:List UInt8) (c a d e:LA) (δ:T) (κl:(Int×List UInt8×LA×LA×LA×LA)->T) (κr:(Bool×(Int)×(Unit))->T):T:=br (decide (i<a.length)) (br (xeQ i a) (br (xeR i a) (br (!xkj b c a d e (xbp i a)) (κr (true,(25),())) (br (decide (i>0)) (br (xeQ i a) (br (xeR i a) (br (decide (0<=i64.wrap (i - 1))&&decide (i64.wrap (i - 1)<(↑a.length:Int))) (br (decide ((i64.wrap (i - 1)).toNat<a.length)&&xLN (Sh.int .i64) ((a.getD (i64.wrap (i - 1)).toNat .top).cells.getD 0 .top)) (br (decide (xbp i a<=((a.getD (i64.wrap (i - 1)).toNat .top).cells.getD 0 .top).toInt)) (κr (true,(25),())) (xek i b c a d e δ κl κr)) δ) δ) δ) δ) (xek i b c a d e δ κl κr))) δ) δ) (κr (false,0,()))
def xbM:StT (Int×List UInt8×LA×LA×LA×LA) (Bool×(Int)×(Unit)):=fun (i,a,b,c,d,e)=>xfJ i a b c d e none inL inR
def xsC:=xFZ.l 51 0 [] [] Tryz.f88 0 lk0 [1,3] [2] [] (q2 (xMK 0 0 0 0) qI) (q1 (qB 0 5 27 (q1 (xML (q5 pStr (qL 3) (qL 1) (qL 2) (qL 7)))))) (fun (_,i,_) (((a,b,c,d,e,_),_),_)=>(xbM,(i,a,b,c,d,e),fun p=>(.node p.1 (.leaf .ret [AV.int .i64 p.2.1] []) (.leaf (.exit 0) [.top] [])))) (false,0,()) fun _ _ (i,a,b,c,d,e)=>((((),i,()),(((a,b,c,d,e,()),()),())),xfJ i a b c d e none)
def xrx (e:List UInt8) (b a c d:LA):=Iter xbM (0,e,b,a,c,d)
def xrZ (e:List UInt8) (b a c d:LA):=(xrx e b a c d).getD (false,0,())
def xtb {T:Type} (e:List UInt8) (b a c d:LA) (δ:T) (κ:Int->T):T:=br ((↑a.length:Int)==0) (κ (25)) (br ((xrx e b a c d).isSome) (br ((xrZ e b a c d).fst) (κ ((xrZ e b a c d).snd.fst)) (κ (0))) δ)
def xpS (e:List UInt8) (b a c d:LA):=xtb e b a c d none some
def xBs:EO:=xFZ.f Tryz.func88 51 0 [] [(4,xsC.lp)] (lk1 xsC.ok) (u1 (xMO (u5 (sEq pStr) (uL 3) (uL 1) (uL 2) (uL 7)))) (fun ((e,b,a,c,d,_),_) _=>xtb e b a c d) (fun _ p=>AV.int .i64 p) 0
def xgC {T:Type} (i k:Int) (b:List UInt8) (c d e f a:LA) (g:List UInt8) (δ:T) (κl:(Int×List UInt8×LA×LA×LA×LA×LA×List UInt8)->T) (κr:(Bool×(Int×List UInt8×LA×LA×LA×LA×LA×List UInt8)×(List UInt8×LA×LA×LA×LA×LA×List UInt8))->T):T:=br (decide (k<i)) (br (ixI a k) (br (ixS a k (Sh.int .i64) 0) (br (ixI a i) (br (ixS a i (Sh.int .i64) 0) (br ((gC a k 0).toInt==(gC a i 0).toInt) (κr (true,(25,b,c,d,e,f,a,g),([],[],[],[],[],[],[]))) (κl (i64.wrap (k+1),b,c,d,e,f,a,g))) δ) δ) δ) δ) (κr (false,(0,[],[],[],[],[],[],[]),(b,c,d,e,f,a,g)))
def xb0 (i:Int):StT (Int×List UInt8×LA×LA×LA×LA×LA×List UInt8) (Bool×(Int×List UInt8×LA×LA×LA×LA×LA×List UInt8)×(List UInt8×LA×LA×LA×LA×LA×List UInt8)):=fun (k,a,b,c,d,e,f,g)=>xgC i k a b c d e f g none inL inR
def xf3:=xBs.l 46 0 [] [] Tryz.f119 1 lk0 [2,3,5,6] [2,3,4,5] [] (q4 (xMK 0 0 0 0) (xMK 1 0 0 0) qI qI) (q2 (qB 0 5 27 (q1 (xML (q5 pStr (qL 3) (qL 1) (qL 2) (qL 7))))) (qB 0 2 34 (q1 (xML (q2 (qL 1) pStr))))) (fun (_,_,i,k,_) (((a,b,c,d,e,_),_),((f,g,_),_),_)=>(xb0 i,(k,a,b,c,d,e,f,g),fun p=>(.node p.1 (.leaf .ret [AV.own 0 0 0 0,AV.own 1 0 0 0,AV.int .i64 p.2.1.1,AV.int .i64 i] [bF 0 5 27 [AV.agg [AV.str p.2.1.2.1,AV.list 3 p.2.1.2.2.1,AV.list 1 p.2.1.2.2.2.1,AV.list 2 p.2.1.2.2.2.2.1,AV.list 7 p.2.1.2.2.2.2.2.1]],bF 0 2 34 [AV.agg [AV.list 1 p.2.1.2.2.2.2.2.2.1,AV.str p.2.1.2.2.2.2.2.2.2]]]) (.leaf (.exit 2) [AV.own 0 0 0 0,AV.own 1 0 0 0,.top,AV.int .i64 i] [bF 0 5 27 [AV.agg [AV.str p.2.2.1,AV.list 3 p.2.2.2.1,AV.list 1 p.2.2.2.2.1,AV.list 2 p.2.2.2.2.2.1,AV.list 7 p.2.2.2.2.2.2.1]],bF 0 2 34 [AV.agg [AV.list 1 p.2.2.2.2.2.2.2.1,AV.str p.2.2.2.2.2.2.2.2]]])))) (false,(0,[],[],[],[],[],[],[]),([],[],[],[],[],[],[])) fun (_,_,i,_,_) _ (k,a,b,c,d,e,f,g)=>((((),(),i,k,()),(((a,b,c,d,e,()),()),((f,g,()),()),())),xgC i k a b c d e f g none)
def xjA (i:Int) (a:List UInt8) (b c d e f:LA) (g:List UInt8):=Iter (xb0 i) (0,a,b,c,d,e,f,g)
def xjz (i:Int) (a:List UInt8) (b c d e f:LA) (g:List UInt8):=(xjA i a b c d e f g).getD (false,(0,[],[],[],[],[],[],[]),[],[],[],[],[],[],[])
def xjy (i:Int) (a:List UInt8) (b c d e f:LA) (g:List UInt8):=(xjz i a b c d e f g).snd
def xjw (i:Int) (a:List UInt8) (b c d e f:LA) (g:List UInt8):=(xjy i a b c d e f g).snd
def xjv (i:Int) (a:List UInt8) (b c d e f:LA) (g:List UInt8):=(xjw i a b c d e f g).snd
def xju (i:Int) (a:List UInt8) (b c d e f:LA) (g:List UInt8):=(xjv i a b c d e f g).snd
def xjt (i:Int) (a:List UInt8) (b c d e f:LA) (g:List UInt8):=(xju i a b c d e f g).snd
def xjs (i:Int) (a:List UInt8) (b c d e f:LA) (g:List UInt8):=(xjt i a b c d e f g).snd
def xjr (i:Int) (a:List UInt8) (b c d e f:LA) (g:List UInt8):=(xjs i a b c d e f g).snd
def xeC {T:Type} (i:Int) (b:List UInt8) (c d e f a:LA) (g:List UInt8) (δ:T) (κl:(Int×List UInt8×LA×LA×LA×LA×LA×List UInt8)->T) (κr:(Bool×(Int)×(Unit))->T):T:=br (decide (i<a.length)) (br (ixI a i) (br (ixS a i (Sh.int .i64) 0) (br (!xkj b c d e f (gC a i 0).toInt) (κr (true,(25),())) (br ((xjA i b c d e f a g).isSome) (br ((xjz i b c d e f a g).fst) (κr (true,((xjy i b c d e f a g).fst.fst),())) (κl (i64.wrap (i+1),(xjw i b c d e f a g).fst,(xjv i b c d e f a g).fst,(xju i b c d e f a g).fst,(xjt i b c d e f a g).fst,(xjs i b c d e f a g).fst,(xjr i b c d e f a g).fst,(xjr i b c d e f a g).snd))) δ)) δ) δ) (κr (false,0,()))
def xbl:StT (Int×List UInt8×LA×LA×LA×LA×LA×List UInt8) (Bool×(Int)×(Unit)):=fun (i,a,b,c,d,e,f,g)=>xeC i a b c d e f g none inL inR
def xow:=xBs.l 46 0 [] [(11,xf3.lp)] Tryz.f119 0 (lk1 xf3.ok) [2,3,5] [4] [] (q3 (xMK 0 0 0 0) (xMK 1 0 0 0) qI) (q2 (qB 0 5 27 (q1 (xML (q5 pStr (qL 3) (qL 1) (qL 2) (qL 7))))) (qB 0 2 34 (q1 (xML (q2 (qL 1) pStr))))) (fun (_,_,i,_) (((a,b,c,d,e,_),_),((f,g,_),_),_)=>(xbl,(i,a,b,c,d,e,f,g),fun p=>(.node p.1 (.leaf .ret [AV.int .i64 p.2.1] []) (.leaf (.exit 0) [.top] [])))) (false,0,()) fun _ _ (i,a,b,c,d,e,f,g)=>((((),(),i,()),(((a,b,c,d,e,()),()),((f,g,()),()),())),xeC i a b c d e f g none)
def xmq (e:List UInt8) (b a c d f:LA) (g:List UInt8):=Iter xbl (0,e,b,a,c,d,f,g)
def xmp (e:List UInt8) (b a c d f:LA) (g:List UInt8):=(xmq e b a c d f g).getD (false,0,())
def xnM {T:Type} (g:List UInt8) (c a d e f:LA) (b:List UInt8) (δ:T) (κ:Int->T):T:=br ((xgA b).isSome) (br (!(xgA b).getD false) (κ (1)) (br ((↑f.length:Int)==0) (κ (25)) (br ((xmq g c a d e f b).isSome) (br ((xmp g c a d e f b).fst) (κ ((xmp g c a d e f b).snd.fst)) (κ (0))) δ))) δ
def xi1 (e:List UInt8) (b a c d f:LA) (g:List UInt8):=xnM e b a c d f g none some
def xBt:EO:=xBs.f Tryz.func119 46 0 [] [(11,xf3.lp),(6,xow.lp)] (lks (lkC xow.ok (lkC xf3.ok lkN))) (u2 (xMO (u5 (sEq pStr) (uL 3) (uL 1) (uL 2) (uL 7))) (xMO (u2 (uL 1) (sEq pStr)))) (fun ((e,b,a,c,d,_),(g,h,_),_) _=>xnM e b a c d g h) (fun _ p=>AV.int .i64 p) 0
def xet {T:Type} (i:Int) (b:List UInt8) (c d a e:LA) (δ:T) (κl:(Int×List UInt8×LA×LA×LA×LA)->T) (κr:(Bool×(Int×List UInt8×LA×LA×LA×LA)×(List UInt8×LA×LA×LA×LA))->T):T:=br (decide (i<a.length)) (br (ixI a i) (br (ixT a i 2 [Sh.list 1,Sh.str] 0) (br ((xi1 b c d a e (gC a i 0).toList (gC a i 1).toStr).isSome) (br ((xi1 b c d a e (gC a i 0).toList (gC a i 1).toStr).getD 0 != 0) (κr (true,((xi1 b c d a e (gC a i 0).toList (gC a i 1).toStr).getD 0,b,c,d,a,e),([],[],[],[],[]))) (κl (i64.wrap (i+1),b,c,d,a,e))) δ) δ) δ) (κr (false,(0,[],[],[],[],[]),(b,c,d,a,e)))
def xba:StT (Int×List UInt8×LA×LA×LA×LA) (Bool×(Int×List UInt8×LA×LA×LA×LA)×(List UInt8×LA×LA×LA×LA)):=fun (i,a,b,c,d,e)=>xet i a b c d e none inL inR
def xf8:=xBt.l 60 0 [] [] Tryz.f89 0 lk0 [1,3] [1,2] [] (q2 (xMK 0 0 0 0) qI) (q1 (qB 0 5 27 (q1 (xML (q5 pStr (qL 3) (qL 1) (qL 2) (qL 7)))))) (fun (_,i,_) (((a,b,c,d,e,_),_),_)=>(xba,(i,a,b,c,d,e),fun p=>(.node p.1 (.leaf .ret [AV.own 0 0 0 0,AV.int .i64 p.2.1.1] [bF 0 5 27 [AV.agg [AV.str p.2.1.2.1,AV.list 3 p.2.1.2.2.1,AV.list 1 p.2.1.2.2.2.1,AV.list 2 p.2.1.2.2.2.2.1,AV.list 7 p.2.1.2.2.2.2.2]]]) (.leaf (.exit 0) [AV.own 0 0 0 0,.top] [bF 0 5 27 [AV.agg [AV.str p.2.2.1,AV.list 3 p.2.2.2.1,AV.list 1 p.2.2.2.2.1,AV.list 2 p.2.2.2.2.2.1,AV.list 7 p.2.2.2.2.2.2]]])))) (false,(0,[],[],[],[],[]),([],[],[],[],[])) fun _ _ (i,a,b,c,d,e)=>((((),i,()),(((a,b,c,d,e,()),()),())),xet i a b c d e none)
def xgc (i:Int) (b:List UInt8) (c d e a:LA):=xs7 (gC a i 0).toInt (gC a i 1).toInt (gC a i 2).toInt (gC a i 3).toInt (gC a i 4).toStr (gC a i 5).toStr (gC a i 6).toList ((xes b c d e a).getD [])
def xgb (i:Int) (a:List UInt8) (b c d e:LA):=(xgc i a b c d e).getD (0,0)
def xf9 (i:Int) (a:List UInt8) (b c d e:LA):=(xgb i a b c d e).fst
def xga (i:Int) (a:List UInt8) (b c d e:LA):=(xgb i a b c d e).snd
def xeu {T:Type} (i:Int) (b:List UInt8) (c d e a:LA) (δ:T) (κl:(Int×List UInt8×LA×LA×LA×LA)->T) (κr:(Bool×(Int)×(Unit))->T):T:=br (decide (i<a.length)) (br (ixI a i) (br (ixT a i 7 [Sh.int .i64,Sh.int .i64,Sh.int .i64,Sh.int .i64,Sh.str,Sh.str,Sh.list 7] 0) (br ((xes b c d e a).isSome) (br ((xgc i b c d e a).isSome) (br (xga i b c d e a != 0) (κr (true,(xga i b c d e a),())) (br (xf9 i b c d e a != 3) (br (xf9 i b c d e a != 0) (κr (true,(7),())) (κl (i64.wrap (i+1),b,c,d,e,a))) (κl (i64.wrap (i+1),b,c,d,e,a)))) δ) δ) δ) δ) (κr (false,0,()))
def xbb:StT (Int×List UInt8×LA×LA×LA×LA) (Bool×(Int)×(Unit)):=fun (i,a,b,c,d,e)=>xeu i a b c d e none inL inR
def xk2:=xBt.l 60 0 [] [(4,xf8.lp)] Tryz.f89 1 lk0 [1,5] [2] [] (q2 (xMK 0 0 0 0) qI) (q1 (qB 0 5 27 (q1 (xML (q5 pStr (qL 3) (qL 1) (qL 2) (qL 7)))))) (fun (_,i,_) (((a,b,c,d,e,_),_),_)=>(xbb,(i,a,b,c,d,e),fun p=>(.node p.1 (.leaf .ret [AV.int .i64 p.2.1] []) (.leaf (.exit 2) [.top] [])))) (false,0,()) fun _ _ (i,a,b,c,d,e)=>((((),i,()),(((a,b,c,d,e,()),()),())),xeu i a b c d e none)
def xiM (e:List UInt8) (b a c d:LA):=Iter xba (0,e,b,a,c,d)
def xiL (e:List UInt8) (b a c d:LA):=(xiM e b a c d).getD (false,(0,[],[],[],[],[]),[],[],[],[],[])
def xiK (e:List UInt8) (b a c d:LA):=(xiL e b a c d).snd
def xiJ (e:List UInt8) (b a c d:LA):=(xiK e b a c d).snd
def xiI (e:List UInt8) (b a c d:LA):=(xiJ e b a c d).snd
def xiH (e:List UInt8) (b a c d:LA):=(xiI e b a c d).snd
def xiG (e:List UInt8) (b a c d:LA):=(xiH e b a c d).snd
def xiF (e:List UInt8) (b a c d:LA):=(xiG e b a c d).snd
def xiE (e:List UInt8) (b a c d:LA):=Iter xbb (0,(xiJ e b a c d).fst,(xiI e b a c d).fst,(xiH e b a c d).fst,(xiG e b a c d).fst,xiF e b a c d)
def xiD (e:List UInt8) (b a c d:LA):=(xiE e b a c d).getD (false,0,())
def xjq {T:Type} (e:List UInt8) (c a b d:LA) (δ:T) (κ:Int->T):T:=br (decide ((↑b.length:Int)>4)) (κ (5)) (br ((xiM e c a b d).isSome) (br ((xiL e c a b d).fst) (κ ((xiK e c a b d).fst.fst)) (br (decide ((↑(xiF e c a b d).length:Int)>4)) (κ (5)) (br ((xiE e c a b d).isSome) (br ((xiD e c a b d).fst) (κ ((xiD e c a b d).snd.fst)) (κ (0))) δ))) δ)
def xdS (e:List UInt8) (b a c d:LA):=xjq e b a c d none some
def xIv:EO:=xBt.f Tryz.func89 60 0 [] [(4,xf8.lp),(12,xk2.lp)] (lks (lkC xf8.ok (lkC xk2.ok lkN))) (u1 (xMO (u5 (sEq pStr) (uL 3) (uL 1) (uL 2) (uL 7)))) (fun ((e,b,a,c,d,_),_) _=>xjq e b a c d) (fun _ p=>AV.int .i64 p) 0
def xqk {T:Type} (e:List UInt8) (b a c d:LA) (δ:T) (κ:Int->T):T:=br ((xgA e).isSome) (br (!(xgA e).getD false) (κ (1)) (br ((xgh e b a c d).isSome) (br ((xgh e b a c d).getD 0==0) (br ((xpS e b a c d).isSome) (br ((xpS e b a c d).getD 0==0) (br ((xdS e b a c d).isSome) (κ ((xdS e b a c d).getD 0)) δ) (κ ((xpS e b a c d).getD 0))) δ) (br ((xgh e b a c d).getD 0==0) (br ((xdS e b a c d).isSome) (κ ((xdS e b a c d).getD 0)) δ) (κ ((xgh e b a c d).getD 0)))) δ)) δ
def xfy (e:List UInt8) (b a c d:LA):=xqk e b a c d none some
def xBd:LA->Option (Bool×AV):=fnO (u1 (xMO (u5 (sEq pStr) (uL 3) (uL 1) (uL 2) (uL 7)))) (fun ((e,b,a,c,d,_),_) _=>xqk e b a c d) (fun _ p=>AV.int .i64 p) 0
theorem xBc:OcOk P0 xMv 51 xBd:=fnC xIv.ok Tryz.func51 19 0 [] [] lk0
def xJX:EO:=xJP.w xuH
def xJY:EO:=xJX.w xBc
def xF0:EO:=xJY.w xuJ
def xiy (a l:LA) (i:Int):=(xit a (gC l i 0).toInt).getD (0,0,[])
def xiw (a l:LA) (i:Int):=(xiy a l i).snd
def xny {T:Type} (c l:LA) (b:Nat) (i:Int) (a:LA) (δ:T) (κl:(Nat×Int×LA)->T) (κr:(Nat×LA)->T):T:=br (decide (i<l.length)) (br (ixI l i) (br (ixS l i (Sh.int .i64) 0) (br ((xit c (gC l i 0).toInt).isSome) (br (rmB b a 1 32) (κl (b+1,i64.wrap (i+1),a++[AV.agg [AV.int .i64 (xiy c l i).fst,AV.int .i64 (xiw c l i).fst,AV.str (xiw c l i).snd]])) δ) δ) δ) δ) (κr (b,a))
def xeB (c l:LA):StT (Nat×Int×LA) (Nat×LA):=fun (b,i,a)=>xny c l b i a none inL inR
def xqf (a l:LA):=(Iter (xeB a l) (0,0,[])).getD (0,[])
def xqd (a l:LA):=(xqf a l).fst
def xqe (a l:LA):=(xqf a l).snd
def xvr {T:Type} (a l:LA) (δ:T) (κ:LA->T):T:=br ((Iter (xeB a l) (0,0,[])).isSome) (br (decide (0+xqd a l<=(xqe a l).length)&&true) (κ (List.take (xqd a l) (List.drop 0 (xqe a l)))) δ) δ
def xiv (a l:LA):=xvr a l none some
def xkh {T:Type} (a l:LA) (i:Int) (δ:T) (κl:(Int)->T) (κr:(Bool×(Bool)×(Unit))->T):T:=br (decide (i<l.length)) (br (ixI l i) (br (ixS l i (Sh.int .i64) 0) (br ((xit a (gC l i 0).toInt).isSome) (br (((xit a (gC l i 0).toInt).getD (0,0,[])).fst==0) (κr (true,(true),())) (κl (i64.wrap (i+1)))) δ) δ) δ) (κr (false,false,()))
def xbk (a l:LA):StT (Int) (Bool×(Bool)×(Unit)):=fun (i)=>xkh a l i none inL inR
def xsA {T:Type} (a l:LA) (δ:T) (κ:Bool->T):T:=br ((Iter (xbk a l) 0).isSome) (br (((Iter (xbk a l) 0).getD (false,false,())).fst) (κ (((Iter (xbk a l) 0).getD (false,false,())).snd.fst)) (κ (false))) δ
def xlW (a l:LA):=xsA a l none some
def xiu (a:LA) (i:Int):=ixI a i
def xml (a:LA) (i:Int):=xlE (gC a i 0).toInt (gC a i 1).toInt (gC a i 2).toStr
def xjF {T:Type} (a b:LA) (i:Int) (δ:T) (κl:(Int)->T) (κr:(Bool×(Bool)×(Unit))->T):T:=br (decide (i<a.length)) (br (xiu a i) (br (ixT a i 3 [Sh.int .i64,Sh.int .i64,Sh.str] 0) (br ((xml a i).isSome) (br (!(xml a i).getD false) (κr (true,(false),())) (br (xiu a i) (br (ixS a i (Sh.int .i64) 0) (br ((gC a i 0).toInt != 0) (br (xiu a i) (br (ixS a i (Sh.int .i64) 0) (br (ixI b i) (br (ixS b i (Sh.int .i64) 0) (br ((gC a i 0).toInt != (gC b i 0).toInt) (κr (true,(false),())) (κl (i64.wrap (i+1)))) δ) δ) δ) δ) (κl (i64.wrap (i+1)))) δ) δ)) δ) δ) δ) (κr (false,false,()))
def xb9 (b a:LA):StT (Int) (Bool×(Bool)×(Unit)):=fun (i)=>xjF b a i none inL inR
def xrK:=xF0.l 43 0 [] [] Tryz.f90 0 lk0 [0,1,5] [4] [] (q3 (qL 3) (qL 1) qI) xMz (fun (b,a,i,_) _=>(xb9 b a,(i),fun p=>(.node p.1 (.leaf .ret [AV.bool p.2.1] []) (.leaf (.exit 0) [.top] [])))) (false,false,()) fun (b,a,_,_) _ (i)=>(((b,a,i,()),()),xjF b a i none)
def xrL {T:Type} (b a:LA) (δ:T) (κ:Bool->T):T:=br ((↑b.length:Int) != (↑a.length:Int)) (κ (false)) (br ((Iter (xb9 b a) 0).isSome) (br (((Iter (xb9 b a) 0).getD (false,false,())).fst) (κ (((Iter (xb9 b a) 0).getD (false,false,())).snd.fst)) (κ (true))) δ)
def xrb (b a:LA):=xrL b a none some
def xJQ:EO:=xF0.f Tryz.func90 43 0 [] [(4,xrK.lp)] (lk1 xrK.ok) (u2 (uL 3) (uL 1)) (fun (b,a,_) _=>xrL b a) (fun _ p=>AV.bool p) false
def xy0 (k:Int):Bool:=(br (k==1) ((true)) (br (k==2) ((true)) ((k==3))))
def xCy {T:Type} (k:Int) (δ:T) (κ:Bool->T):T:=br (k==1) (κ (true)) (br (k==2) (κ (true)) (κ (k==3)))
def xFN:EO:=xJQ.fT Tryz.func122 13 0 [] [] lk0 (fun (k,_)=>xCy k none) (u1 uI) (fun (k,_)=>xy0 k) (fun _ p=>(AV.bool p))
def xiN {T:Type} (l:LA) (i:Int) (δ:T) (κl:(Int)->T) (κr:(Bool×(Bool)×(Unit))->T):T:=br (decide (i<l.length)) (br (ixI l i) (br (ixS l i (Sh.int .i64) 0) (br (!xy0 (gC l i 0).toInt) (κr (true,(false),())) (κl (i64.wrap (i+1)))) δ) δ) (κr (false,false,()))
def xbR (l:LA):StT (Int) (Bool×(Bool)×(Unit)):=fun (i)=>xiN l i none inL inR
def xqx:=xFN.l 16 0 [] [] Tryz.f91 0 lk0 [0,3] [2] [] (q2 (qL 1) qI) xMz (fun (l,i,_) _=>(xbR l,(i),fun p=>(.node p.1 (.leaf .ret [AV.bool p.2.1] []) (.leaf (.exit 0) [.top] [])))) (false,false,()) fun (l,_,_) _ (i)=>(((l,i,()),()),xiN l i none)
def xqp {T:Type} (l:LA) (δ:T) (κ:Bool->T):T:=br ((Iter (xbR l) 0).isSome) (br (((Iter (xbR l) 0).getD (false,false,())).fst) (κ (((Iter (xbR l) 0).getD (false,false,())).snd.fst)) (κ (true))) δ
def xtc (l:LA):=xqp l none some
def xFO:EO:=xFN.f Tryz.func91 16 0 [] [(2,xqx.lp)] (lk1 xqx.ok) (u1 (uL 1)) (fun (l,_) _=>xqp l) (fun _ p=>AV.bool p) false
def xiO {T:Type} (i:Int) (b a:LA) (δ:T) (κl:(Int×LA×LA)->T) (κr:(Bool×(Bool×LA×LA)×(LA×LA))->T):T:=br (decide (i<a.length)) (br (ixI a i) (br (ixT a i 3 [Sh.int .i64,Sh.int .i64] 1) (br (!xer (gC a i 1).toInt (gC a i 2).toInt) (κr (true,(false,b,a),([],[]))) (br (ixI a i) (br (ixS a i (Sh.list 3) 0) (br ((xrb (gC a i 0).toList b).isSome) (br (!(xrb (gC a i 0).toList b).getD false) (κr (true,(false,b,a),([],[]))) (κl (i64.wrap (i+1),b,a))) δ) δ) δ)) δ) δ) (κr (false,(false,[],[]),(b,a)))
def xbS:StT (Int×LA×LA) (Bool×(Bool×LA×LA)×(LA×LA)):=fun (i,a,b)=>xiO i a b none inL inR
def xq0:=xFO.l 46 0 [] [] Tryz.f52 0 lk0 [1,3] [1,2] [] (q2 (xMK 0 0 0 0) qI) (q1 (qB 0 2 93 (q1 (xML (q2 (qL 1) (qL 3)))))) (fun (_,i,_) (((a,b,_),_),_)=>(xbS,(i,a,b),fun p=>(.node p.1 (.leaf .ret [AV.own 0 0 0 0,AV.bool p.2.1.1] [bF 0 2 93 [AV.agg [AV.list 1 p.2.1.2.1,AV.list 3 p.2.1.2.2]]]) (.leaf (.exit 0) [AV.own 0 0 0 0,.top] [bF 0 2 93 [AV.agg [AV.list 1 p.2.2.1,AV.list 3 p.2.2.2]]])))) (false,(false,[],[]),([],[])) fun _ _ (i,a,b)=>((((),i,()),(((a,b,()),()),())),xiO i a b none)
def xpb (a b:LA):=(Iter xbS (0,a,b)).getD (false,(false,[],[]),[],[])
def xpa (a b:LA):=(xpb a b).snd
def xo9 (a b:LA):=(xpa a b).snd.fst
def xo7 (a b:LA):=(↑(xo9 a b).length:Int)
def xo8 (a b:LA):=xtc (xo9 a b)
def xqu {T:Type} (a b:LA) (δ:T) (κ:Bool->T):T:=br ((Iter xbS (0,a,b)).isSome) (br ((xpb a b).fst) (κ ((xpa a b).fst.fst)) (br (decide (xo7 a b>0)) (br (decide (xo7 a b<=48)) (br ((xo8 a b).isSome) (κ ((xo8 a b).getD false)) δ) (κ (false))) (κ (false)))) δ
def xpC (a b:LA):=xqu a b none some
def xJR:EO:=xFO.f Tryz.func52 46 0 [] [(2,xq0.lp)] (lk1 xq0.ok) (u1 (xMO (u2 (uL 1) (uL 3)))) (fun ((a,b,_),_) _=>xqu a b) (fun _ p=>AV.bool p) false
def xeA (l:LA) (i:Int):=ixI l i
def xk5 {T:Type} (l a:LA) (i:Int) (δ:T) (κl:(LA×Int)->T) (κr:(LA)->T):T:=br (decide (i<l.length)) (br (xeA l i) (br (ixT l i 2 [Sh.int .i64,Sh.int .i64] 0) (br (xer (gC l i 0).toInt (gC l i 1).toInt) (br (xeA l i) (br (ixS l i (Sh.int .i64) 0) (br ((xbF a (gC l i 0).toInt).isSome) (br (xeA l i) (br (ixS l i (Sh.int .i64) 1) (br ((xbF ((xbF a (gC l i 0).toInt).getD []) (gC l i 1).toInt).isSome) (κl ((xbF ((xbF a (gC l i 0).toInt).getD []) (gC l i 1).toInt).getD [],i64.wrap (i+1))) δ) δ) δ) δ) δ) δ) (κl (a,i64.wrap (i+1)))) δ) δ) (κr (a))
def xdG (l:LA):StT (LA×Int) (LA):=fun (a,i)=>xk5 l a i none inL inR
def xtJ {T:Type} (l:LA) (δ:T) (κ:LA->T):T:=br ((Iter (xdG l) ([],0)).isSome) (κ ((Iter (xdG l) ([],0)).getD [])) δ
def xrG (l:LA):=xtJ l none some
def xjp {T:Type} (l:LA) (t i:Int) (δ:T) (κl:(Int)->T) (κr:(Bool×(Bool)×(Unit))->T):T:=br (decide (i<l.length)) (br (ixI l i) (br (ixT l i 2 [Sh.int .i64,Sh.int .i64] 0) (br (xfD (gC l i 0).toInt (gC l i 1).toInt t) (κr (true,(true),())) (κl (i64.wrap (i+1)))) δ) δ) (κr (false,false,()))
def xa9 (l:LA) (t:Int):StT (Int) (Bool×(Bool)×(Unit)):=fun (i)=>xjp l t i none inL inR
def xrE {T:Type} (l:LA) (t:Int) (δ:T) (κ:Bool->T):T:=br ((Iter (xa9 l t) 0).isSome) (br (((Iter (xa9 l t) 0).getD (false,false,())).fst) (κ (((Iter (xa9 l t) 0).getD (false,false,())).snd.fst)) (κ (false))) δ
def xfE (l:LA) (t:Int):=xrE l t none some
def xb8 (c:Int) (a b:Bool):Bool:=(br (c==1) (br (a) ((b)) ((false))) (br (c==2) (br (a) ((true)) ((b))) (br (c==3) (br (a) ((!b)) ((false))) (br (!a) ((!b)) ((false))))))
def xdH (a:LA) (i:Int):=decide (0<=i64.wrap (i - 1))&&decide (i64.wrap (i - 1)<(↑a.length:Int))
def xdI (a:LA) (i:Int):=decide ((i64.wrap (i - 1)).toNat<a.length)&&xLN (Sh.int .i64) ((a.getD (i64.wrap (i - 1)).toNat .top).cells.getD 0 .top)
def xa1 (a:LA) (i:Int):=((a.getD (i64.wrap (i - 1)).toNat .top).cells.getD 0 .top).toInt
def xfn (c:LA) (b:Nat) (i:Int) (a:LA):=(xgy b (xa1 c i) (gC c i 0).toInt a).getD (false,(0,[],[]),0,[])
def xfl (c:LA) (b:Nat) (i:Int) (a:LA):=(xfn c b i a).fst
def xfm (c:LA) (b:Nat) (i:Int) (a:LA):=(xfn c b i a).snd
def xfj (c:LA) (b:Nat) (i:Int) (a:LA):=(xfm c b i a).fst
def xfk (c:LA) (b:Nat) (i:Int) (a:LA):=(xfm c b i a).snd
def xf1 {T:Type} (f:Int) (a b e:LA) (d:Nat) (i:Int) (c:LA) (δ:T) (κl:(Nat×Int×LA)->T) (κr:(Nat×LA)->T):T:=br (decide (i<e.length)) (br (xdH e i) (br (xdI e i) (br ((xfE a (xa1 e i)).isSome) (br (xdH e i) (br (xdI e i) (br ((xfE b (xa1 e i)).isSome) (br (xb8 f ((xfE a (xa1 e i)).getD false) ((xfE b (xa1 e i)).getD false)) (br (xdH e i) (br (xdI e i) (br (ixI e i) (br (ixS e i (Sh.int .i64) 0) (br ((xgy d (xa1 e i) (gC e i 0).toInt c).isSome) (κl (br (xfl e d i c) (xfj e d i c).fst (xfk e d i c).fst,i64.wrap (i+1),br (xfl e d i c) (xfj e d i c).snd.snd (xfk e d i c).snd)) δ) δ) δ) δ) δ) (κl (d,i64.wrap (i+1),c))) δ) δ) δ) δ) δ) δ) (κr (d,c))
def xbJ (e:Int) (a b f:LA):StT (Nat×Int×LA) (Nat×LA):=fun (d,i,c)=>xf1 e a b f d i c none inL inR
def xe6 (a b:LA):Nat:=1+a.length+b.length
def xlb (a b:LA):LA:=[AV.agg [AV.int .i64 0,AV.int .i64 1099511627776]]++a++b
def xla (a b:LA):=xrG (List.take (xe6 a b) (List.drop 0 (xlb a b)))
def xk9 (c:Int) (a b:LA):=Iter (xbJ c a b ((xla a b).getD [])) (0,1,[])
def xk8 (c:Int) (a b:LA):=(xk9 c a b).getD (0,[])
def xk6 (c:Int) (a b:LA):=(xk8 c a b).snd
def xk7 (c:Int) (a b:LA):=(xk8 c a b).fst
def xrI {T:Type} (c:Int) (a b:LA) (δ:T) (κ:LA->T):T:=br (decide ((1+a.length)*16<=140737488355328)&&decide (1+a.length<=4611686018427387904)) (br (1+a.length==([AV.agg [AV.int .i64 0,AV.int .i64 1099511627776]]++a).length&&(decide (xe6 a b*16<=140737488355328)&&decide (xe6 a b<=4611686018427387904))) (br (decide (0+xe6 a b<=(xlb a b).length)&&true) (br ((xla a b).isSome) (br ((xk9 c a b).isSome) (br (decide (0+xk7 c a b<=(xk6 c a b).length)&&true) (κ (List.take (xk7 c a b) (List.drop 0 (xk6 c a b)))) δ) δ) δ) δ) δ) δ
def xfF (c:Int) (a b:LA):=xrI c a b none some
def xyX {T:Type} (l:LA) (δ:T) (κ:LA->T):T:=br ((xfF 2 l []).isSome) (κ ((xfF 2 l []).getD [])) δ
def xuf (l:LA):=xyX l none some
def xrH {T:Type} (a b:LA) (δ:T) (κ:LA->T):T:=br ((xfF 3 a b).isSome) (κ ((xfF 3 a b).getD [])) δ
def xhB (a b:LA):=xrH a b none some
def xn3 {T:Type} (e:List UInt8) (b a c d l:LA) (δ:T) (κ:Bool->T):T:=br ((xfy e b a c d).isSome) (br ((xfy e b a c d).getD 0==0) (br ((xes e b a c d).isSome) (br ((xpC ((xes e b a c d).getD []) l).isSome) (κ ((xpC ((xes e b a c d).getD []) l).getD false)) δ) δ) (κ (false))) δ
def xgi (e:List UInt8) (b a c d l:LA):=xn3 e b a c d l none some
def xFx:EO:=xJR.f Tryz.func28 15 0 [] [] lk0 (u2 (xMO (u5 (sEq pStr) (uL 3) (uL 1) (uL 2) (uL 7))) (uL 3)) (fun ((e,b,a,c,d,_),l,_) _=>xn3 e b a c d l) (fun _ p=>AV.bool p) false
def xwr {T:Type} (f:List UInt8) (c a d e b:LA) (δ:T) (κ:LA->T):T:=br ((xiv b a).isSome) (κ ((xiv b a).getD [])) δ
def xpT (e:List UInt8) (b a c d f:LA):=xwr e b a c d f none some
def xkn {T:Type} (l h:LA) (b:Nat) (i:Int) (c:List UInt8) (d e f g a:LA) (δ:T) (κl:(Nat×Int×List UInt8×LA×LA×LA×LA×LA)->T) (κr:(Nat×LA)->T):T:=br (decide (i<l.length)) (br (ixI l i) (br (ixS l i (Sh.list 3) 0) (br ((xpT c d e f g (gC l i 0).toList).isSome) (br ((xaQ ((xpT c d e f g (gC l i 0).toList).getD []) h).isSome) (br ((xaQ ((xpT c d e f g (gC l i 0).toList).getD []) h).getD 0==0) (br (ixI l i) (br (ixT l i 3 [Sh.int .i64,Sh.int .i64] 1) (br (rmB b a 1 16) (κl (b+1,i64.wrap (i+1),c,d,e,f,g,a++[AV.agg [AV.int .i64 (gC l i 1).toInt,AV.int .i64 (gC l i 2).toInt]])) δ) δ) δ) (κl (b,i64.wrap (i+1),c,d,e,f,g,a))) δ) δ) δ) δ) (κr (b,a))
def xdt (l c:LA):StT (Nat×Int×List UInt8×LA×LA×LA×LA×LA) (Nat×LA):=fun (b,i,d,e,f,g,h,a)=>xkn l c b i d e f g h a none inL inR
def xmz (e:List UInt8) (b a c d l f:LA):=Iter (xdt l f) (0,0,e,b,a,c,d,[])
def xmy (e:List UInt8) (b a c d l f:LA):=(xmz e b a c d l f).getD (0,[])
def xmv (e:List UInt8) (b a c d l f:LA):=(xmy e b a c d l f).fst
def xmw (e:List UInt8) (b a c d l f:LA):=(xmy e b a c d l f).snd
def xsE {T:Type} (e:List UInt8) (b a c d l f:LA) (δ:T) (κ:LA->T):T:=br ((xmz e b a c d l f).isSome) (br (decide (0+xmv e b a c d l f<=(xmw e b a c d l f).length)&&true) (κ (List.take (xmv e b a c d l f) (List.drop 0 (xmw e b a c d l f)))) δ) δ
def xi2 (e:List UInt8) (b a c d l f:LA):=xsE e b a c d l f none some
def xr4 {T:Type} (e:List UInt8) (b a c d l f:LA) (δ:T) (κ:LA->T):T:=br ((xi2 e b a c d l f).isSome) (br ((xuf ((xi2 e b a c d l f).getD [])).isSome) (κ ((xuf ((xi2 e b a c d l f).getD [])).getD [])) δ) δ
def xfK (e:List UInt8) (b a c d l f:LA):=xr4 e b a c d l f none some
def xjO {T:Type} (i:Int) (a:LA) (c:List UInt8) (b:LA) (d:List UInt8) (δ:T) (κl:(Int×LA×List UInt8×LA×List UInt8)->T) (κr:(Bool×(Bool)×(Unit))->T):T:=br (decide (i<a.length)) (br (ixI a i) (br (ixS a i (Sh.int .i64) 0) (br (ixI b i) (br (ixS b i (Sh.int .i64) 0) (br ((gC a i 0).toInt != (gC b i 0).toInt) (κr (true,(false),())) (κl (i64.wrap (i+1),a,c,b,d))) δ) δ) δ) δ) (κr (false,false,()))
def xdw:StT (Int×LA×List UInt8×LA×List UInt8) (Bool×(Bool)×(Unit)):=fun (i,a,b,c,d)=>xjO i a b c d none inL inR
def xr7:=xFx.l 38 0 [] [] Tryz.f54 0 lk0 [2,3,5] [4] [] (q3 (xMK 0 0 0 0) (xMK 1 0 0 0) qI) (q2 (qB 0 2 34 (q1 (xML (q2 (qL 1) pStr)))) (qB 0 2 34 (q1 (xML (q2 (qL 1) pStr))))) (fun (_,_,i,_) (((a,b,_),_),((c,d,_),_),_)=>(xdw,(i,a,b,c,d),fun p=>(.node p.1 (.leaf .ret [AV.bool p.2.1] []) (.leaf (.exit 0) [.top] [])))) (false,false,()) fun _ _ (i,a,b,c,d)=>((((),(),i,()),(((a,b,()),()),((c,d,()),()),())),xjO i a b c d none)
def xqI (a:LA) (b:List UInt8) (c:LA) (d:List UInt8):=Iter xdw (0,a,b,c,d)
def xqH (a:LA) (b:List UInt8) (c:LA) (d:List UInt8):=(xqI a b c d).getD (false,false,())
def xr8 {T:Type} (a:LA) (b:List UInt8) (c:LA) (d:List UInt8) (δ:T) (κ:Bool->T):T:=br (!b==d) (κ (false)) (br ((↑a.length:Int) != (↑c.length:Int)) (κ (false)) (br ((xqI a b c d).isSome) (br ((xqH a b c d).fst) (κ ((xqH a b c d).snd.fst)) (κ (true))) δ))
def xrf (a:LA) (b:List UInt8) (c:LA) (d:List UInt8):=xr8 a b c d none some
def xBu:EO:=xFx.f Tryz.func54 38 0 [] [(4,xr7.lp)] (lk1 xr7.ok) (u2 (xMO (u2 (uL 1) (sEq pStr))) (xMO (u2 (uL 1) (sEq pStr)))) (fun ((a,b,_),(c,d,_),_) _=>xr8 a b c d) (fun _ p=>AV.bool p) false
def xjM {T:Type} (j:Bool) (i:Int) (k:List UInt8) (l m a n g:LA) (h b:List UInt8) (c d e f:LA) (δ:T) (κl:(Bool×Int×List UInt8×LA×LA×LA×LA×LA×List UInt8×List UInt8×LA×LA×LA×LA)->T) (κr:(Bool×List UInt8×LA×LA×LA×LA×LA×List UInt8×List UInt8×LA×LA×LA×LA)->T):T:=br (decide (i<a.length)) (br (j) (κl (true,i64.wrap (i+1),k,l,m,a,n,g,h,b,c,d,e,f)) (br (ixI a i) (br (ixT a i 2 [Sh.list 1,Sh.str] 0) (br ((xrf (gC a i 0).toList (gC a i 1).toStr g h).isSome) (κl ((xrf (gC a i 0).toList (gC a i 1).toStr g h).getD false,i64.wrap (i+1),k,l,m,a,n,g,h,b,c,d,e,f)) δ) δ) δ)) (κr (j,k,l,m,a,n,g,h,b,c,d,e,f))
def xdu:StT (Bool×Int×List UInt8×LA×LA×LA×LA×LA×List UInt8×List UInt8×LA×LA×LA×LA) (Bool×List UInt8×LA×LA×LA×LA×LA×List UInt8×List UInt8×LA×LA×LA×LA):=fun (f,i,g,h,j,k,l,m,n,a,b,c,d,e)=>xjM f i g h j k l m n a b c d e none inL inR
def xmA:=xBu.l 76 0 [] [] Tryz.f29 0 lk0 [3,4,5,7,8] [3,4,5,7] [] (q5 (xMK 0 0 0 0) (xMK 1 0 0 0) (xMK 2 0 0 0) pBool qI) (q3 (qB 0 5 27 (q1 (xML (q5 pStr (qL 3) (qL 1) (qL 2) (qL 7))))) (qB 0 2 34 (q1 (xML (q2 (qL 1) pStr)))) (qB 0 5 27 (q1 (xML (q5 pStr (qL 3) (qL 1) (qL 2) (qL 7)))))) (fun (_,_,_,f,i,_) (((g,h,j,k,m,_),_),((n,o,_),_),((a,b,c,d,e,_),_),_)=>(xdu,(f,i,g,h,j,k,m,n,o,a,b,c,d,e),fun p=>(.leaf (.exit 0) [AV.own 0 0 0 0,AV.own 1 0 0 0,AV.own 2 0 0 0,AV.bool p.1] [bF 0 5 27 [AV.agg [AV.str p.2.1,AV.list 3 p.2.2.1,AV.list 1 p.2.2.2.1,AV.list 2 p.2.2.2.2.1,AV.list 7 p.2.2.2.2.2.1]],bF 0 2 34 [AV.agg [AV.list 1 p.2.2.2.2.2.2.1,AV.str p.2.2.2.2.2.2.2.1]],bF 0 5 27 [AV.agg [AV.str p.2.2.2.2.2.2.2.2.1,AV.list 3 p.2.2.2.2.2.2.2.2.2.1,AV.list 1 p.2.2.2.2.2.2.2.2.2.2.1,AV.list 2 p.2.2.2.2.2.2.2.2.2.2.2.1,AV.list 7 p.2.2.2.2.2.2.2.2.2.2.2.2]]]))) (false,[],[],[],[],[],[],[],[],[],[],[],[]) fun _ _ (f,i,g,h,j,k,m,n,o,a,b,c,d,e)=>((((),(),(),f,i,()),(((g,h,j,k,m,()),()),((n,o,()),()),((a,b,c,d,e,()),()),())),xjM f i g h j k m n o a b c d e none)
def xjN {T:Type} (a b:LA) (i:Int) (d:LA) (j e:List UInt8) (f c g h:LA) (δ:T) (κl:(Int×LA×List UInt8×List UInt8×LA×LA×LA×LA)->T) (κr:(Bool×(Bool)×(Unit))->T):T:=br (decide (i<d.length)) (br (ixI d i) (br (ixS d i (Sh.int .i64) 0) (br (decide (0<=(gC d i 0).toInt)&&decide ((gC d i 0).toInt<a.length)) (br (decide ((gC d i 0).toInt.toNat<a.length)&&xLN (Sh.int .i64) ((a.getD (gC d i 0).toInt.toNat .top).cells.getD 0 .top)) (br (ixI c i) (br (ixS c i (Sh.int .i64) 0) (br (decide (0<=(gC c i 0).toInt)&&decide ((gC c i 0).toInt<b.length)) (br (decide ((gC c i 0).toInt.toNat<b.length)&&xLN (Sh.int .i64) ((b.getD (gC c i 0).toInt.toNat .top).cells.getD 0 .top)) (br (((a.getD (gC d i 0).toInt.toNat .top).cells.getD 0 .top).toInt != ((b.getD (gC c i 0).toInt.toNat .top).cells.getD 0 .top).toInt) (κr (true,(false),())) (κl (i64.wrap (i+1),d,j,e,f,c,g,h))) δ) δ) δ) δ) δ) δ) δ) δ) (κr (false,false,()))
def xdv (a b:LA):StT (Int×LA×List UInt8×List UInt8×LA×LA×LA×LA) (Bool×(Bool)×(Unit)):=fun (i,h,j,c,d,e,f,g)=>xjN a b i h j c d e f g none inL inR
def xr5:=xBu.l 76 0 [] [(5,xmA.lp)] Tryz.f29 1 lk0 [4,5,9,10,11] [6] [] (q5 (xMK 0 0 0 0) (xMK 1 0 0 0) (qL 1) (qL 1) qI) (q2 (qB 0 2 34 (q1 (xML (q2 (qL 1) pStr)))) (qB 0 5 27 (q1 (xML (q5 pStr (qL 3) (qL 1) (qL 2) (qL 7)))))) (fun (_,_,a,b,i,_) (((h,j,_),_),((c,d,e,f,g,_),_),_)=>(xdv a b,(i,h,j,c,d,e,f,g),fun p=>(.node p.1 (.leaf .ret [AV.bool p.2.1] []) (.leaf (.exit 2) [.top] [])))) (false,false,()) fun (_,_,a,b,_,_) _ (i,h,j,c,d,e,f,g)=>((((),(),a,b,i,()),(((h,j,()),()),((c,d,e,f,g,()),()),())),xjN a b i h j c d e f g none)
def xpn (j:List UInt8) (g f h i k:LA) (l e:List UInt8) (b a c d:LA):=Iter xdu (false,0,j,g,f,h,i,k,l,e,b,a,c,d)
def xpm (j:List UInt8) (g f h i k:LA) (l e:List UInt8) (b a c d:LA):=(xpn j g f h i k l e b a c d).getD (false,[],[],[],[],[],[],[],[],[],[],[],[])
def xpl (j:List UInt8) (g f h i k:LA) (l e:List UInt8) (b a c d:LA):=(xpm j g f h i k l e b a c d).snd
def xpk (j:List UInt8) (g f h i k:LA) (l e:List UInt8) (b a c d:LA):=(xpl j g f h i k l e b a c d).snd
def xpj (j:List UInt8) (g f h i k:LA) (l e:List UInt8) (b a c d:LA):=(xpk j g f h i k l e b a c d).snd
def xpi (j:List UInt8) (g f h i k:LA) (l e:List UInt8) (b a c d:LA):=(xpj j g f h i k l e b a c d).snd
def xph (j:List UInt8) (g f h i k:LA) (l e:List UInt8) (b a c d:LA):=(xpi j g f h i k l e b a c d).snd
def xqz (j:List UInt8) (g f h i k:LA) (l e:List UInt8) (b a c d:LA):=xes (xpl j g f h i k l e b a c d).fst (xpk j g f h i k l e b a c d).fst (xpj j g f h i k l e b a c d).fst (xpi j g f h i k l e b a c d).fst (xph j g f h i k l e b a c d).fst
def xpg (j:List UInt8) (g f h i k:LA) (l e:List UInt8) (b a c d:LA):=(xph j g f h i k l e b a c d).snd
def xpf (j:List UInt8) (g f h i k:LA) (l e:List UInt8) (b a c d:LA):=(xpg j g f h i k l e b a c d).snd
def xpe (j:List UInt8) (g f h i k:LA) (l e:List UInt8) (b a c d:LA):=(xpf j g f h i k l e b a c d).snd
def xpc (j:List UInt8) (g f h i k:LA) (l e:List UInt8) (b a c d:LA):=(xpe j g f h i k l e b a c d).fst
def xpd (j:List UInt8) (g f h i k:LA) (l e:List UInt8) (b a c d:LA):=(xpe j g f h i k l e b a c d).snd
def xqE (j:List UInt8) (g f h i k:LA) (l e:List UInt8) (b a c d:LA):=(xpd j g f h i k l e b a c d).snd
def xqF (j:List UInt8) (g f h i k:LA) (l e:List UInt8) (b a c d:LA):=(xpd j g f h i k l e b a c d).fst
def xqC (j:List UInt8) (g f h i k:LA) (l e:List UInt8) (b a c d:LA):=(xqE j g f h i k l e b a c d).snd
def xqD (j:List UInt8) (g f h i k:LA) (l e:List UInt8) (b a c d:LA):=(xqE j g f h i k l e b a c d).fst
def xqA (j:List UInt8) (g f h i k:LA) (l e:List UInt8) (b a c d:LA):=(xqC j g f h i k l e b a c d).fst
def xqB (j:List UInt8) (g f h i k:LA) (l e:List UInt8) (b a c d:LA):=(xqC j g f h i k l e b a c d).snd
def xqy (j:List UInt8) (g f h i k:LA) (l e:List UInt8) (b a c d:LA):=xes (xpc j g f h i k l e b a c d) (xqF j g f h i k l e b a c d) (xqD j g f h i k l e b a c d) (xqA j g f h i k l e b a c d) (xqB j g f h i k l e b a c d)
def xqw (j:List UInt8) (g f h i k:LA) (l e:List UInt8) (b a c d:LA):=Iter (xdv ((xqz j g f h i k l e b a c d).getD []) ((xqy j g f h i k l e b a c d).getD [])) (0,(xpg j g f h i k l e b a c d).fst,(xpf j g f h i k l e b a c d).fst,xpc j g f h i k l e b a c d,xqF j g f h i k l e b a c d,xqD j g f h i k l e b a c d,xqA j g f h i k l e b a c d,xqB j g f h i k l e b a c d)
def xqv (j:List UInt8) (g f h i k:LA) (l e:List UInt8) (b a c d:LA):=(xqw j g f h i k l e b a c d).getD (false,false,())
def xr6 {T:Type} (j:List UInt8) (g f h i k:LA) (l e:List UInt8) (b a c d:LA) (δ:T) (κ:Bool->T):T:=br ((xfy j g f h i).isSome) (br ((xfy j g f h i).getD 0 != 0) (κ (false)) (br ((xfy e b a c d).isSome) (br ((xfy e b a c d).getD 0 != 0) (κ (false)) (br ((↑k.length:Int) != (↑a.length:Int)) (κ (false)) (br ((xpn j g f h i k l e b a c d).isSome) (br (!(xpm j g f h i k l e b a c d).fst) (κ (false)) (br ((xqz j g f h i k l e b a c d).isSome) (br ((xqy j g f h i k l e b a c d).isSome) (br ((xqw j g f h i k l e b a c d).isSome) (br ((xqv j g f h i k l e b a c d).fst) (κ ((xqv j g f h i k l e b a c d).snd.fst)) (κ (true))) δ) δ) δ)) δ))) δ)) δ
def xre (j:List UInt8) (g f h i k:LA) (l e:List UInt8) (b a c d:LA):=xr6 j g f h i k l e b a c d none some
def xJW:EO:=xBu.f Tryz.func29 76 0 [] [(5,xmA.lp),(12,xr5.lp)] (lks (lkC xmA.ok (lkC xr5.ok lkN))) (u3 (xMO (u5 (sEq pStr) (uL 3) (uL 1) (uL 2) (uL 7))) (xMO (u2 (uL 1) (sEq pStr))) (xMO (u5 (sEq pStr) (uL 3) (uL 1) (uL 2) (uL 7)))) (fun ((k,h,g,i,j,_),(l,m,_),(e,b,a,c,d,_),_) _=>xr6 k h g i j l m e b a c d) (fun _ p=>AV.bool p) false
def xtR {T:Type} (a:LA) (c:List UInt8) (b:LA) (δ:T) (κ:Bool->T):T:=br ((xlW b a).isSome) (κ (!(xlW b a).getD false)) δ
def xn4 (a:LA) (b:List UInt8) (c:LA):=xtR a b c none some
def xc0 (l:LA) (i:Int):=ixI l i
def xf6 (l g:LA) (i:Int) (f:LA) (a:List UInt8) (b c d e:LA):=xhB [AV.agg [AV.int .i64 (gC l i 1).toInt,AV.int .i64 (gC l i 2).toInt]] ((xfK a b c d e g ((xiv (gC l i 0).toList f).getD [])).getD [])
def xd3 (l:LA) (i:Int):=decide (i.toNat<l.length)&&xLN (Sh.list 3) (gC l i 0)
def xf5 (l g:LA) (i:Int) (f:LA) (a:List UInt8) (b c d e:LA):=xhR (gC l i 0).toList ((xf6 l g i f a b c d e).getD [])
def xf4 (l g:LA) (i:Int) (f:LA) (a:List UInt8) (b c d e:LA):=(xf5 l g i f a b c d e).getD []
def xd2 (l h:LA) (f:Nat) (i:Int) (g:LA) (a:List UInt8) (b c d e:LA):=f+(xf4 l h i g a b c d e).length
def xgD {T:Type} (l j:LA) (g:Nat) (i:Int) (f:LA) (k a:List UInt8) (b c d e h:LA) (δ:T) (κl:(Nat×Int×LA×List UInt8×List UInt8×LA×LA×LA×LA×LA)->T) (κr:(Nat×LA)->T):T:=br (decide (i<l.length)) (br (xc0 l i) (br (xd3 l i) (br ((xn4 f k (gC l i 0).toList).isSome) (br (!(xn4 f k (gC l i 0).toList).getD false) (κl (g,i64.wrap (i+1),f,k,a,b,c,d,e,h)) (br (xc0 l i) (br (xd3 l i) (br ((xiv (gC l i 0).toList f).isSome) (br ((xfK a b c d e j ((xiv (gC l i 0).toList f).getD [])).isSome) (br (xc0 l i) (br (xd3 l i) (br (xc0 l i) (br (ixT l i 3 [Sh.int .i64,Sh.int .i64] 1) (br ((xf6 l j i f a b c d e).isSome) (br ((xf5 l j i f a b c d e).isSome) (br (g==h.length&&(decide (xd2 l j g i f a b c d e*40<=140737488355328)&&decide (xd2 l j g i f a b c d e<=4611686018427387904))) (κl (xd2 l j g i f a b c d e,i64.wrap (i+1),f,k,a,b,c,d,e,h++xf4 l j i f a b c d e)) δ) δ) δ) δ) δ) δ) δ) δ) δ) δ) δ)) δ) δ) δ) (κr (g,h))
def xb1 (l k:LA):StT (Nat×Int×LA×List UInt8×List UInt8×LA×LA×LA×LA×LA) (Nat×LA):=fun (g,i,h,j,a,b,c,d,e,f)=>xgD l k g i h j a b c d e f none inL inR
def xmF (f:LA) (g:List UInt8) (l:LA) (e:List UInt8) (b a c d h:LA):=Iter (xb1 l h) (0,0,f,g,e,b,a,c,d,[])
def xmE (f:LA) (g:List UInt8) (l:LA) (e:List UInt8) (b a c d h:LA):=(xmF f g l e b a c d h).getD (0,[])
def xmC (f:LA) (g:List UInt8) (l:LA) (e:List UInt8) (b a c d h:LA):=(xmE f g l e b a c d h).snd
def xmD (f:LA) (g:List UInt8) (l:LA) (e:List UInt8) (b a c d h:LA):=(xmE f g l e b a c d h).fst
def xmB (f:LA) (g:List UInt8) (l:LA) (e:List UInt8) (b a c d h:LA):=xvu (List.take (xmD f g l e b a c d h) (List.drop 0 (xmC f g l e b a c d h)))
def xsF {T:Type} (f:LA) (g:List UInt8) (l:LA) (e:List UInt8) (b a c d h:LA) (δ:T) (κ:LA->T):T:=br ((xmF f g l e b a c d h).isSome) (br (decide (0+xmD f g l e b a c d h<=(xmC f g l e b a c d h).length)&&true) (br ((xmB f g l e b a c d h).isSome) (κ ((xmB f g l e b a c d h).getD [])) δ) δ) δ
def xqG (f:LA) (g:List UInt8) (l:LA) (e:List UInt8) (b a c d h:LA):=xsF f g l e b a c d h none some
def xJD:EO:=xFK.w xvB
def xBn:EO:=xJD.w xuS
def xi9:Env:=xBn.E.fn 24 1 (lsOf [8000000]) (xMa [])
theorem xzF:xLP P0 (xMv.at 1) xi9:=xBn.ok.fn
theorem xwU:LoOk P0 (xMv.at xi9.pin) xi9 (Tryz.f33.body.getD .skip):=xmf (by kernel_rfl)
def xgZ (r a:LA) (b:List UInt8):=(xfC ((xdP a b r).getD ([],false)).fst).getD []
def xja (r a:LA) (c:List UInt8) (b:LA):=((b.getD (putIx b (xgZ r a c)) .top).cells.getD 1 .top).toList.length
def xs0 (r a:LA) (c:List UInt8) (b:LA):=xMt 2 ((b.getD (putIx b (xgZ r a c)) .top).cells.getD 1 .top)
def xsx (r:LA) (f t:Int) (a:LA) (c:List UInt8) (b:LA):=xdx [AV.agg [AV.int .i64 f,AV.int .i64 t]] (List.take (xja r a c b) (List.drop 0 ((b.getD (putIx b (xgZ r a c)) .top).cells.getD 1 .top).toList))
def xnm {T:Type} (r:LA) (f t:Int) (a:LA) (b:List UInt8) (c:LA) (δ:T) (κ:Bool×(LA)×(LA×LA)->T):T:=br ((xdP a b r).isSome) (br (!((xdP a b r).getD ([],false)).snd) (κ (true,(c),([],[]))) (br ((xfC ((xdP a b r).getD ([],false)).fst).isSome) (br (decide ((xgZ r a b).length<=4611686018427387904)) (br (xMi c (xgZ r a b)) (br (xs0 r a b c) (br (decide (putIx c (xgZ r a b)<c.length)&&(xs0 r a b c&&2*xja r a b c==2*xja r a b c)&&decide (0+xja r a b c<=xja r a b c)&&true) (br ((xsx r f t a b c).isSome) (κ (false,[],((xsx r f t a b c).getD [],c))) δ) δ) δ) (br ((xdx [AV.agg [AV.int .i64 f,AV.int .i64 t]] []).isSome) (κ (false,[],((xdx [AV.agg [AV.int .i64 f,AV.int .i64 t]] []).getD [],c))) δ)) δ) δ)) δ
def missing1 (r:LA) (f t:Int) (a:LA) (b:List UInt8) (c:LA):=xnm r f t a b c none some
theorem xE6 (r:LA) (f t:Int) (a:LA) (b:List UInt8) (xs:LA):Enc (fun (p:Bool×(LA)×(LA×LA))=>((br p.1 ((AV.nils,([⟨0,2,1208926125859592950775808,p.2.1,true,true⟩]:List Box))) ((AV.list 2 p.2.2.1,([⟨0,2,1208926125859592950775808,p.2.2.2,true,true⟩]:List Box)))):(AV×List Box))) (missing1 r f t a b xs) (XFM P0 xi9 Tryz.f33 (Tryz.f33.body.getD .skip) [AV.agg [AV.list 3 r,AV.int .i64 f,AV.int .i64 t],AV.eptr 2 [AV.agg [AV.list 1 a,AV.str b]] 0 0,AV.func (1099511627776:FuncId) [AV.own (0:Id) 0 0 0]] [{ ver:=0,sz:=2,ty:=(1208926125859592950775808:TypeId),xs:=xs,frz:=true,pm:=true }]):=by
 have h:XFM P0 xi9 Tryz.f33 (Tryz.f33.body.getD .skip) [AV.agg [AV.list 3 r,AV.int .i64 f,AV.int .i64 t],AV.eptr 2 [AV.agg [AV.list 1 a,AV.str b]] 0 0,AV.func (1099511627776:FuncId) [AV.own (0:Id) 0 0 0]] [{ ver:=0,sz:=2,ty:=(1208926125859592950775808:TypeId),xs:=xs,frz:=true,pm:=true }]=xnm r f t a b xs none (fun (p:Bool×(LA)×(LA×LA))=>some ((br p.1 ((AV.nils,([⟨0,2,1208926125859592950775808,p.2.1,true,true⟩]:List Box))) ((AV.list 2 p.2.2.1,([⟨0,2,1208926125859592950775808,p.2.2.2,true,true⟩]:List Box)))):(AV×List Box))):=by kernel_rfl
 rw [h];unfold missing1 xnm;repeat' (first|refine Enc.br ?_ ?_|exact Enc.none|exact Enc.some rfl)
def xfh (r:LA) (f t:Int) (a:LA) (b:List UInt8) (c:LA):Option (LA×LA):=(missing1 r f t a b c).map fun p=>br p.1 ([],p.2.1) p.2.2
def xE5:LA->List Box->Option (Bool×AV×List Box):=omOf (xMy (xMO (xMy (xMN 3 xMB) (xMy (sEq (pInt .i64)) (xMy (sEq (pInt .i64)) xMA)))) (xMy (sEq (xMQ 2 0 0 (xMw (xML (xMw (xMP 1 xMB) (xMw pStr xMz))) xMz))) (xMy (sEq (xMb (1099511627776:FuncId) (xMw (xMK 0 0 0 0) xMz))) xMA))) (xMw (xMM 0 2 (1208926125859592950775808:TypeId) true true xMB) xMz) fun ((r,(f,(t,_))),(((a,(b,_)),_),((_,_),_))) (c,_)=>((xfh r f t a b c).isSome,(AV.list 2 ((xfh r f t a b c).getD ([],[])).1,([⟨0,2,1208926125859592950775808,((xfh r f t a b c).getD ([],[])).2,true,true⟩]:List Box)))
theorem xE4:OmOk P0 xMv 33 (xE5):=xtF fun h i l k j=>by
 obtain ⟨⟨r,⟨f,⟨t,_⟩⟩⟩,⟨⟨⟨c,⟨e,_⟩⟩,_⟩,⟨⟨_,_⟩,_⟩⟩⟩:=h;obtain ⟨g,_⟩:=i;obtain ⟨d,a⟩:=Prod.mk.inj j;unfold xfh at d a;cases hf:missing1 r f t c e g with
 | none=>rw [hf] at d;simp at d
 | some p =>
  rw [hf] at a;have hx:=xE6 r f t c e g p hf;have hg:GoodM P0 xMv 33 _ _ _ _:=xid (p:=xi9.pin) (xka xLY (xLZ P0 _) rfl xzF rfl Tryz.func33 rfl (by kernel_rfl) xwU hx)
  obtain ⟨b,m,n,o⟩:=p;cases b with
  | true =>
   obtain ⟨rfl,rfl⟩:=Prod.mk.inj a;exact GoodM.subR hg (xyg 2)
  | false =>
   obtain ⟨rfl,rfl⟩:=Prod.mk.inj a;exact hg
def xyk:EO:=xBn.wM xE4
def xae (a:List UInt8) (b c d e f:LA) (g:Int):=(xfC ((xn6 a b c d e (gC f g 0).toList).getD [])).getD []
def xbY (a:List UInt8) (b c d e f:LA) (g:Int):=decide ((xae a b c d e f g).length<=4611686018427387904)
def xat (a:List UInt8) (b c d e g:LA) (h:Int) (f:LA):=((f.getD (putIx f (xae a b c d e g h)) .top).cells.getD 1 .top).toList.length
def xdg (a:List UInt8) (b c d e g:LA) (h:Int) (f:LA):=((f.getD (putIx f (xae a b c d e g h)) .top).cells.getD 1 .top).toList++[AV.agg [AV.int .i64 (gC g h 1).toInt,AV.int .i64 (gC g h 2).toInt]]
def xbZ (a:List UInt8) (b c d e g:LA) (h:Int) (f:LA):=f.set (putIx f (xae a b c d e g h)) (AV.agg (List.take 1 (f.getD (putIx f (xae a b c d e g h)) .top).cells++[AV.int .i64 (↑(xat a b c d e g h f):Int)]++List.drop 2 (f.getD (putIx f (xae a b c d e g h)) .top).cells))
def xbj (a:List UInt8) (b c d e g:LA) (h:Int) (f:LA):=xat a b c d e g h f+1
def xdF {T:Type} (l j:LA) (k a:List UInt8) (b c d e h:LA) (i g:Int) (f:LA) (δ:T) (κl:(Int×LA)->T) (κr:(LA)->T):T:=br (decide (g<i)) (br (ixI h g) (br (ixT h g 3 [Sh.list 3,Sh.int .i64,Sh.int .i64] 0) (br ((xn6 a b c d e (gC h g 0).toList).isSome) (br ((xfC ((xn6 a b c d e (gC h g 0).toList).getD [])).isSome) (br (xbY a b c d e h g) (br (xMi f (xae a b c d e h g)) (br (xMt 2 ((f.getD (putIx f (xae a b c d e h g)) .top).cells.getD 1 .top)) (br (decide (putIx f (xae a b c d e h g)<f.length)&&(xMt 2 ((f.getD (putIx f (xae a b c d e h g)) .top).cells.getD 1 .top)&&((f.getD (putIx f (xae a b c d e h g)) .top).cells.length==2&&(2*xat a b c d e h g f==2*xat a b c d e h g f&&(xat a b c d e h g f==xat a b c d e h g f&&(xat a b c d e h g f==xat a b c d e h g f&&(decide (xbj a b c d e h g f*16<=140737488355328)&&decide (xbj a b c d e h g f<=4611686018427387904)))))))) (br (xbj a b c d e h g f==(xdg a b c d e h g f).length&&(decide ((xbZ a b c d e h g f).length<4611686018427387904)&&(xbY a b c d e h g&&deadR (xbZ a b c d e h g f) (xae a b c d e h g) (xbj a b c d e h g f)))) (κl (i64.wrap (g+1),xL4 (xbZ a b c d e h g f) (xae a b c d e h g) (AV.list 2 (xdg a b c d e h g f)))) δ) δ) δ) (br (decide (f.length<4611686018427387904)&&(xbY a b c d e h g&&deadR f (xae a b c d e h g) 1)) (κl (i64.wrap (g+1),xL4 f (xae a b c d e h g) (AV.list 2 [AV.agg [AV.int .i64 (gC h g 1).toInt,AV.int .i64 (gC h g 2).toInt]]))) δ)) δ) δ) δ) δ) δ) (κr (f))
def xaX (l g:LA) (h a:List UInt8) (b c d e i:LA) (j:Int):StT (Int×LA) (LA):=fun (k,f)=>xdF l g h a b c d e i j k f none inL inR
def xeM:=xyk.l 67 0 [1000034,1000027,8000000] [] Tryz.f11 0 lk0 [1,4,6,9,20,21,22] [1,4,9] [(9,0,1073741824)] (q7 (qL 3) (xMQ 2 0 0 (q1 (xML (q2 (qL 1) pStr)))) (xMQ 5 0 0 (q1 (xML (q5 pStr (qL 3) (qL 1) (qL 2) (qL 7))))) (xMb 1099511627776 (q1 (xMK 0 0 0 0))) (qL 3) qI qI) (q1 (qB 0 2 1208926125859592950775808 xMB)) (fun (l,((g,h,_),_),((a,b,c,d,e,_),_),(_,_),i,j,k,_) (f,_)=>(xaX l g h a b c d e i j,(k,f),fun p=>(.leaf (.exit 0) [AV.list 3 l,AV.eptr 2 [AV.agg [AV.list 1 g,AV.str h]] 0 0,AV.func 1099511627776 [AV.own 0 0 0 0]] [bF 0 2 1208926125859592950775808 p]))) [] fun (l,((g,h,_),_),((a,b,c,d,e,_),_),(_,_),i,j,_,_) _ (k,f)=>(((l,((g,h,()),()),((a,b,c,d,e,()),()),((),()),i,j,k,()),(f,())),xdF l g h a b c d e i j k f none)
def xfe {T:Type} (f:LA) (g:List UInt8) (l:LA) (m n:Int) (d:LA) (i:Int) (c:Nat) (b:Int) (e a h:LA) (j k:Int) (δ:T) (κl:(Nat×Int×LA×LA×LA×Int×Int)->T) (κr:(Nat×LA×LA)->T):T:=br (decide (b<i)) (br (ixI d b) (br (ixT d b 2 [Sh.int .i64,Sh.int .i64] 0) (br (rmB c a 1 40) (κl (c+1,i64.wrap (b+1),e,a++[AV.agg [AV.list 3 h,AV.int .i64 (gC d b 0).toInt,AV.int .i64 (gC d b 1).toInt]],h,j,k)) δ) δ) δ) (κr (c,e,a))
def xbA (a:LA) (b:List UInt8) (f:LA) (g h:Int) (i:LA) (j:Int):StT (Nat×Int×LA×LA×LA×Int×Int) (Nat×LA×LA):=fun (d,k,e,c,l,m,n)=>xfe a b f g h i j d k e c l m n none inL inR
def xeN:=xyk.l 67 0 [1000034,1000027,8000000] [(3,xeM.lp)] Tryz.f11 2 lk0 [13,14,16,42,43,44,50,51,52] [13,14,42,43,44] [(14,3,54),(13,1,1073741824)] (q9 (xMb 33 (q2 (xMQ 2 0 0 (q1 (xML (q2 (qL 1) pStr)))) (xMb 1099511627776 (q1 (xMK 0 0 0 0))))) (xMJ 1 0 0) (xMK 2 0 0 0) (qL 3) qI qI (qL 2) qI qI) (q3 (xMM 0 2 1208926125859592950775808 true true xMB) (qB 0 3 54 xMB) (qB 0 3 54 (q1 (xML (q3 (qL 3) qI qI))))) (fun ((((a,b,_),_),(_,_),_),d,_,f,g,h,i,j,k,_) (e,c,((m,n,o,_),_),_)=>(xbA a b f g h i j,(d,k,e,c,m,n,o),fun p=>(.leaf (.exit 4) [AV.func 33 [AV.eptr 2 [AV.agg [AV.list 1 a,AV.str b]] 0 0,AV.func 1099511627776 [AV.own 0 0 0 0]],AV.osl 1 0 0 p.1,AV.list 3 f,AV.int .i64 g,AV.int .i64 h] [⟨0,2,1208926125859592950775808,p.2.1,true,true⟩,bF 0 3 54 p.2.2]))) (0,[],[]) fun ((((a,b,_),_),(_,_),_),_,_,f,g,h,i,j,_,_) _ (d,k,e,c,m,n,o)=>((((((a,b,()),()),((),()),()),d,(),f,g,h,i,j,k,()),(e,c,((m,n,o,()),()),())),xfe a b f g h i j d k e c m n o none)
def xhs (a:LA) (b:List UInt8) (c:LA) (d:Int) (e:LA):=xfh (gC c d 0).toList (gC c d 1).toInt (gC c d 2).toInt a b e
def xhr (a:LA) (b:List UInt8) (d:LA) (e:Int) (c:LA):=(xhs a b d e c).getD ([],[])
def xhq (a:LA) (b:List UInt8) (d:LA) (e:Int) (c:LA):=(xhr a b d e c).fst
def xhp (a:LA) (b:List UInt8) (c:LA) (h:Int) (g:Nat) (d:Int) (e f:LA):=Iter (xbA a b c h d (xhq a b c d e) (↑(xhq a b c d e).length:Int)) (g,0,(xhr a b c d e).snd,f,(gC c d 0).toList,(gC c d 1).toInt,(gC c d 2).toInt)
def xho (a:LA) (b:List UInt8) (f:LA) (g:Int) (d:Nat) (h:Int) (e c:LA):=(xhp a b f g d h e c).getD (0,[],[])
def xhn (a:LA) (b:List UInt8) (f:LA) (g:Int) (d:Nat) (h:Int) (e c:LA):=(xho a b f g d h e c).snd
def xfd {T:Type} (a:LA) (b:List UInt8) (g:LA) (h:Int) (d:Nat) (e:Int) (f c:LA) (δ:T) (κl:(Nat×Int×LA×LA)->T) (κr:(Nat×LA)->T):T:=br (decide (e<h)) (br (ixI g e) (br (ixT g e 3 [Sh.list 3,Sh.int .i64,Sh.int .i64] 0) (br ((xhs a b g e f).isSome) (br ((xhp a b g h d e f c).isSome) (κl ((xho a b g h d e f c).fst,i64.wrap (e+1),(xhn a b g h d e f c).fst,(xhn a b g h d e f c).snd)) δ) δ) δ) δ) (κr (d,c))
def xbz (a:LA) (b:List UInt8) (f:LA) (g:Int):StT (Nat×Int×LA×LA) (Nat×LA):=fun (d,h,e,c)=>xfd a b f g d h e c none inL inR
def xmL:=xyk.l 67 0 [1000034,1000027,8000000] [(3,xeM.lp),(14,xeN.lp)] Tryz.f11 1 (lk1 xeN.ok) [13,14,42,43,44] [14] [(14,3,54),(13,1,1073741824)] (q5 (xMb 33 (q2 (xMQ 2 0 0 (q1 (xML (q2 (qL 1) pStr)))) (xMb 1099511627776 (q1 (xMK 0 0 0 0))))) (xMJ 1 0 0) (qL 3) qI qI) (q2 (xMM 0 2 1208926125859592950775808 true true xMB) (qB 0 3 54 xMB)) (fun ((((a,b,_),_),(_,_),_),d,f,g,h,_) (e,c,_)=>(xbz a b f g,(d,h,e,c),fun p=>(.leaf (.exit 2) [AV.osl 0 0 0 p.1] [bF 0 3 54 p.2]))) (0,[]) fun ((((a,b,_),_),(_,_),_),_,f,g,_,_) _ (d,h,e,c)=>((((((a,b,()),()),((),()),()),d,f,g,h,()),(e,c,())),xfd a b f g d h e c none)
def xj9 (f:LA) (g:List UInt8) (l:LA) (e:List UInt8) (b a c d h:LA):=Iter (xbz f g l (↑l.length:Int)) (0,0,(Iter (xaX l f g e b a c d h (↑h.length:Int)) (0,[])).getD [],[])
def xj8 (f:LA) (g:List UInt8) (l:LA) (e:List UInt8) (b a c d h:LA):=(xj9 f g l e b a c d h).getD (0,[])
def xj6 (f:LA) (g:List UInt8) (l:LA) (e:List UInt8) (b a c d h:LA):=(xj8 f g l e b a c d h).snd
def xj7 (f:LA) (g:List UInt8) (l:LA) (e:List UInt8) (b a c d h:LA):=(xj8 f g l e b a c d h).fst
def xj5 (f:LA) (g:List UInt8) (l:LA) (e:List UInt8) (b a c d h:LA):=xrp (List.take (xj7 f g l e b a c d h) (List.drop 0 (xj6 f g l e b a c d h)))
def xk3 {T:Type} (f:LA) (g:List UInt8) (l:LA) (e:List UInt8) (b a c d h:LA) (δ:T) (κ:LA->T):T:=br ((Iter (xaX l f g e b a c d h (↑h.length:Int)) (0,[])).isSome) (br ((xj9 f g l e b a c d h).isSome) (br (decide (0+xj7 f g l e b a c d h<=(xj6 f g l e b a c d h).length)&&true) (br ((xj5 f g l e b a c d h).isSome) (κ ((xj5 f g l e b a c d h).getD [])) δ) δ) δ) δ
def xcH (f:LA) (g:List UInt8) (l:LA) (e:List UInt8) (b a c d h:LA):=xk3 f g l e b a c d h none some
def xvX:LA->Option (Bool×AV):=fnO (u4 (xMO (u2 (uL 1) (sEq pStr))) (uL 3) (xMO (u5 (sEq pStr) (uL 3) (uL 1) (uL 2) (uL 7))) (uL 3)) (fun ((f,g,_),l,(e,b,a,c,d,_),h,_) _=>xk3 f g l e b a c d h) (fun _ p=>AV.list 3 p) []
theorem xvW:OcOk P0 xMv 11 xvX:=fnC xyk.ok Tryz.func11 67 0 [1000034,1000027,8000000] [(3,xeM.lp),(14,xeN.lp),(11,xmL.lp)] (lks (lkC xeM.ok (lkC xmL.ok (lkC xeN.ok lkN))))
end Go.Sim.M
end
noncomputable section
set_option maxRecDepth 100000
namespace Go.Sim
def stepX (P:Program) (E:Env) (live liveO:List Nat) (conv:List (Nat×Nat×TypeId)) (c:Code) (s:List AV×List Box):Option ((List AV×List Box)⊕{r:Exit×List AV×List Box // r.1≠.normal}) :=
 match XR P E live liveO conv c s.1 s.2 with
 | some (.normal,v,H)=>some (.inl (v,H))
 | some (.exit i,v,H)=>some (.inr ⟨(.exit i,v,H),by simp⟩)
 | some (.ret,v,H)=>some (.inr ⟨(.ret,v,H),by simp⟩)
 | _=>none
def closedLp (P:Program) (E:Env) (live liveO:List Nat) (conv:List (Nat×Nat×TypeId)) (c:Code) (n:Nat):Lp:=⟨live,liveO,conv,fun vals H =>
 match iterN (stepX P E live liveO conv c) n (vals,H) with
 | some r=>some (true,.leaf r.1.1 r.1.2.1 r.1.2.2)
 | none=>none⟩
theorem xlw {P:Program} {Inv:IV} {E:Env} (Q:P.follows .mixedOrders=true) (O:InvOk Inv) (q:Inv.pin=E.pin) (J:xLP P Inv E) {c:Code} (U:LoOk P Inv E c) {live liveO:List Nat} {conv:List (Nat×Nat×TypeId)} {n:Nat} :
  LoopOk P Inv E.nt c (closedLp P E live liveO conv c n):=fun vals H r h=>by
 simp only [closedLp] at h;split at h
 case h_2=>simp at h
 rename_i r0 hr;simp only [z6,zb,true_and] at h;subst h;exact xq8 Q O q J U (σ:=List AV×List Box) (ρ:={r:Exit×List AV×List Box // r.1≠.normal}) (step:=stepX P E live liveO conv c) (fun s=>s) (fun r=>.leaf r.1.1 r.1.2.1 r.1.2.2) (fun r=>r.2)
  (fun s r hs=>by
   unfold stepX at hs;split at hs<;>simp only [z6,reduceCtorEq] at hs;all_goals (subst hs;rename_i hx;exact hx)) (s:=(vals,H)) (r:=r0) (xoE.2 ⟨n,hr⟩)
end Go.Sim
namespace Go.Sim.M
open Go.RowKit Go.Proofs
def mmA (g:FuncId):Bool:=([55,57,128,152,175,136,164,190,100,133,154,131,153,183,138,99,166,85,33]:List Nat).contains g
noncomputable def EA0:Env:={ E0 with ls:=lsOf [42,54,141],fuel:=1000 }
theorem xBk:xLP P0 xMv EA0:=xIh
noncomputable def runA (E:Env) (fn:Func):List AV->Option (Bool×AV):=fun xs=>match XF P0 E fn (fn.body.getD .skip) xs with
 | some r=>some (true,r)
 | none=>none
theorem xCE {E:Env} {f:FuncId} {fn:Func} (O:xLP P0 (xMv.at 0) E) (J:E.pin=0) (hf:P0.funcs[f]?=some fn) (hb:fn.body.isSome=true) (q:(fn.name == "runtime.NumGoroutine")=false) (Q:LoOk P0 (xMv.at 0) E (fn.body.getD .skip)):OcOk P0 xMv f (runA E fn):=fun xs r h=>by
 unfold runA at h;split at h
 case h_2=>simp at h
 rename_i r0 hr;simp only [z6,zb,true_and] at h;subst h;exact xfN (p:=0) (xi8 xLY (xLZ P0 _) J.symm O hf hb q Q hr)
noncomputable def EAr:Env:={ Env.deep P0 mmA EA0 10 with pin:=0,nt:=60,ls:=lsOf [] }
theorem xFE:xLP P0 (xMv.at 0) EAr:=xiq xLY mmA (xLZ P0 0) xBk (fun _=>rfl) 10
noncomputable def xFD:Lp:=closedLp P0 EAr [3,4,11,12,13] [4] [(4,2,189114876045)] (xLT Tryz.f98 0) 100
noncomputable def EAr1:Env:={ EAr with lp:=xMa [(xL2 (xLT Tryz.f98 0),xFD)] }
theorem xIs:xLP P0 (xMv.at 0) EAr1:=xFE
noncomputable def xEk:List AV->Option (Bool×AV):=runA EAr1 Tryz.f98
theorem xI9:OcOk P0 xMv 98 xEk:=xCE xIs rfl Tryz.func98 rfl (by kernel_rfl) (xgY (ls:=[xLT Tryz.f98 0]) (by kernel_rfl) (fun l hl lp hs=>by
 simp only [zC,List.not_mem_nil,or_false] at hl;subst hl;rw [show EAr1.lp (xL2 (xLT Tryz.f98 0))=some xFD by kernel_rfl] at hs
 cases hs;exact xlw (E:=EAr) xLY (xLZ P0 _) rfl xFE (xez fun _=>rfl)))
noncomputable def EAlv (p:Nat):Env:={ Env.deep P0 mmA EA0 6 with pin:=p,nt:=71,ls:=lsOf [] }
theorem xDE (p:Nat):xLP P0 (xMv.at p) (EAlv p):=xkg (xiq xLY mmA (xLZ P0 0) xBk (fun _=>rfl) 6)
noncomputable def xDD (p:Nat):Lp:=closedLp P0 (EAlv p) [0,1,2,3,4] [] [(3,0,0)] (xLT Tryz.f99 0) 100
noncomputable def EAlv1 (p:Nat):Env:={ EAlv p with lp:=xMa [(xL2 (xLT Tryz.f99 0),xDD p)] }
theorem xHl (p:Nat):xLP P0 (xMv.at p) (EAlv1 p):=xDE p
noncomputable def xB5:List AV->List Box->Option (Bool×AV×List Box):=fun xs H=>match XFM P0 (EAlv1 H.length) Tryz.f99 (Tryz.f99.body.getD .skip) xs H with
 | some (r,H')=>some (true,r,H')
 | none=>none
theorem xKc:OmOk P0 xMv 99 xB5:=fun xs H r H' h=>by
 unfold xB5 at h;split at h
 case h_2=>simp at h
 rename_i r0 H0 hr;simp only [z6,zb,true_and] at h;obtain ⟨rfl,rfl⟩:=h;refine xid (p:=H.length) (xka xLY (xLZ P0 _) rfl (xHl H.length) rfl Tryz.func99 rfl (by kernel_rfl) (xgY (ls:=[xLT Tryz.f99 0,xLT Tryz.f99 1]) (by kernel_rfl) (fun l hl lp hs=>?_)) hr)
 simp only [zC,List.not_mem_nil,or_false] at hl;rcases hl with rfl|rfl
 . rw [show (EAlv1 H.length).lp (xL2 (xLT Tryz.f99 0))=some (xDD H.length) by kernel_rfl] at hs
   cases hs;exact xlw (E:=EAlv H.length) xLY (xLZ P0 _) rfl (xDE H.length) (xez fun _=>rfl)
 . rw [show (EAlv1 H.length).lp (xL2 (xLT Tryz.f99 1))=none by kernel_rfl] at hs
   simp at hs
noncomputable def EAs:Env:=(EA0.with 98 xEk).withM 99 xB5
theorem xFF:xLP P0 xMv EAs:=(xBk.with xI9).withM xKc
noncomputable def EAd:Env:={ Env.deep P0 mmA EAs 14 with pin:=0 }
theorem xBl:xLP P0 (xMv.at 0) EAd:=xkg (xiq xLY mmA (xLZ P0 0) xFF (fun _=>rfl) 14)
noncomputable def EAh:Env:={ EAd with ls:=lsOf [1000042] }
noncomputable def xGs:List AV->Option (Bool×AV):=runA EAh Tryz.f60
theorem xJ7:OcOk P0 xMv 60 xGs:=xCE (E:=EAh) xBl rfl Tryz.func60 rfl (by kernel_rfl) (xez fun _=>rfl)
noncomputable def EAs2:Env:=EAs.with 60 xGs
theorem xzo:xLP P0 xMv EAs2:=xFF.with xJ7
noncomputable def EAm (p:Nat):Env:={ Env.deep P0 mmA EAs2 14 with pin:=p,nt:=24,ls:=lsOf [8000000] }
theorem xJt (p:Nat):xLP P0 (xMv.at p) (EAm p):=xkg (xiq xLY mmA (xLZ P0 0) xzo (fun _=>rfl) 14)
noncomputable def xCd:List AV->List Box->Option (Bool×AV×List Box):=fun xs H=>match XFM P0 (EAm H.length) Tryz.f33 (Tryz.f33.body.getD .skip) xs H with
 | some (r,H')=>some (true,(match r with|.nils=>.list 2 []|x=>x),H')
 | none=>none
theorem xKd:OmOk P0 xMv 33 xCd:=fun xs H r H' h=>by
 unfold xCd at h;split at h
 case h_2=>simp at h
 rename_i r0 H0 hr;simp only [z6,zb,true_and] at h;obtain ⟨rfl,rfl⟩:=h;have hg:GoodM P0 xMv 33 xs H r0 H0:=xid (p:=H.length) (xka xLY (xLZ P0 _) rfl (xJt H.length) rfl Tryz.func33 rfl (by kernel_rfl) (xez fun _=>rfl) hr)
 refine GoodM.subR hg ?_;cases r0<;>first|exact Sub.refl _|exact xyg 2
noncomputable def EAn:Env:={ Env.deep P0 mmA (EAs2.withM 33 xCd) 14 with pin:=0,nt:=67,ls:=lsOf [1000034,1000027,8000000] }
theorem xyj:xLP P0 (xMv.at 0) EAn:=xkg (xiq xLY mmA (xLZ P0 0) (xzo.withM xKd) (fun _=>rfl) 14)
noncomputable def xyi:Lp:=closedLp P0 EAn [1,4,6,9,20,21,22] [1,4,9] [(9,0,1073741824)] (xLT Tryz.f11 0) 20
noncomputable def xuX:Lp:=closedLp P0 EAn [13,14,16,42,43,44,50,51,52] [13,14,42,43,44] [(14,3,54),(13,1,1073741824)] (xLT Tryz.f11 2) 20
noncomputable def EAn1:Env:={ EAn with lp:=xMa [(3,xyi),(14,xuX)] }
noncomputable def xBm:Lp:=closedLp P0 EAn1 [13,14,42,43,44] [14] [(14,3,54),(13,1,1073741824)] (xLT Tryz.f11 1) 20
noncomputable def EAn2:Env:={ EAn with lp:=xMa [(3,xyi),(14,xuX),(11,xBm)] }
theorem xJu:LoopOk P0 (xMv.at 0) EAn.nt (xLT Tryz.f11 0) xyi:=xlw (E:=EAn) xLY (xLZ P0 _) rfl xyj (xez fun _=>rfl)
theorem xFC:LoopOk P0 (xMv.at 0) EAn.nt (xLT Tryz.f11 2) xuX:=xlw (E:=EAn) xLY (xLZ P0 _) rfl xyj (xez fun _=>rfl)
theorem xJv:LoopOk P0 (xMv.at 0) EAn.nt (xLT Tryz.f11 1) xBm:=xlw (E:=EAn1) xLY (xLZ P0 _) rfl xyj (xgY (ls:=[xLT Tryz.f11 2]) (by kernel_rfl) (fun l hl lp hs=>by
 simp only [zC,List.not_mem_nil,or_false] at hl;subst hl;rw [show EAn1.lp (xL2 (xLT Tryz.f11 2))=some xuX by kernel_rfl] at hs
 cases hs;exact xFC))
noncomputable def xEa (xs:List AV):Option AV:=XF P0 EAn2 Tryz.f11 (Tryz.f11.body.getD .skip) xs
noncomputable def xD9:List AV->Option (Bool×AV):=ocOf (xMy (xMO (xMy (xMN (1:Nat) xMB) (xMy (sEq pStr) xMA))) (xMy (xMN (3:Nat) xMB) (xMy (xMO (xMy (sEq pStr) (xMy (xMN (3:Nat) xMB) (xMy (xMN (1:Nat) xMB) (xMy (xMN (2:Nat) xMB) (xMy (xMN (7:Nat) xMB) xMA)))))) (xMy (xMN (3:Nat) xMB) xMA)))) fun ((f_fc,(f_ft,_)),(l,((parent_tn,(parent_tcs,(parent_tkey,(parent_tfs,(parent_tck,_))))),(pl,_))))=>((xEa [AV.agg [AV.list 1 f_fc,AV.str f_ft],AV.list 3 l,AV.agg [AV.str parent_tn,AV.list 3 parent_tcs,AV.list 1 parent_tkey,AV.list 2 parent_tfs,AV.list 7 parent_tck],AV.list 3 pl]).isSome,(xEa [AV.agg [AV.list 1 f_fc,AV.str f_ft],AV.list 3 l,AV.agg [AV.str parent_tn,AV.list 3 parent_tcs,AV.list 1 parent_tkey,AV.list 2 parent_tfs,AV.list 7 parent_tck],AV.list 3 pl]).getD .top)
theorem xIT:OcOk P0 xMv 11 xD9:=xjb fun vv rr hh=>by
 obtain ⟨⟨f_fc,⟨f_ft,_⟩⟩,⟨l,⟨⟨parent_tn,⟨parent_tcs,⟨parent_tkey,⟨parent_tfs,⟨parent_tck,_⟩⟩⟩⟩⟩,⟨pl,_⟩⟩⟩⟩:=vv;obtain ⟨q,J⟩:=Prod.mk.inj hh;have hx:=xbH (d:=AV.top) q;refine xfN (p:=0) (xi8 (E:=EAn2) xLY (xLZ P0 _) rfl xyj Tryz.func11 rfl (by kernel_rfl) ?_ (hx.trans (congrArg some J)))
 exact (xgY (ls:=[xLT Tryz.f11 0,xLT Tryz.f11 1,xLT Tryz.f11 2]) (by kernel_rfl) (fun l hl lp hs=>by
 simp only [zC,List.not_mem_nil,or_false] at hl;rcases hl with rfl|rfl|rfl
 . rw [show EAn2.lp (xL2 (xLT Tryz.f11 0))=some xyi by kernel_rfl] at hs
   cases hs;exact xJu
 . rw [show EAn2.lp (xL2 (xLT Tryz.f11 1))=some xBm by kernel_rfl] at hs
   cases hs;exact xJv
 . rw [show EAn2.lp (xL2 (xLT Tryz.f11 2))=some xuX by kernel_rfl] at hs
   cases hs;exact xFC))
noncomputable def EAc:Env:={ EAd with ls:=lsOf [] }
noncomputable def xDZ:List AV->Option (Bool×AV):=runA EAc Tryz.f30
theorem xIK:OcOk P0 xMv 30 xDZ:=xCE (E:=EAc) xBl rfl Tryz.func30 rfl (by kernel_rfl) (xez fun _=>rfl)
end Go.Sim.M
end
noncomputable section
set_option maxRecDepth 100000
namespace Go.Sim.M
open Go.RowKit Go.Proofs
mutual
def eqV:AV->AV->Bool
 | .int k a,.int k' b=>decide (k=k')&&decide (a=b)
 | .bool a,.bool b=>a==b
 | .str a,.str b=>decide (a=b)
 | .list n a,.list m b=>Nat.beq n m&&eqVs a b
 | .agg a,.agg b=>eqVs a b
 | .nils,.nils=>true
 | _,_=>false
def eqVs:List AV->List AV->Bool
 | [],[]=>true
 | a::l,b::m=>eqV a b&&eqVs l m
 | _,_=>false
end
mutual
theorem xJ5:∀ (a b:AV),eqV a b=true->a=b:=fun a b h=>by
 cases a<;>cases b<;>first|(simp [eqV] at h;done)|skip
 case nils.nils=>rfl
 all_goals simp only [eqV,zf,zl,beq_iff_eq] at h
 all_goals first|(rw [h.1,h.2];done)|(rw [h];done)|(rw [zg h.1,xvP _ _ h.2];done)|(rw [xvP _ _ h])
theorem xvP:∀ (a b:List AV),eqVs a b=true->a=b
 | [],[],_=>rfl
 | a::l,b::m,h=>by simp only [eqVs,zf] at h;rw [xJ5 a b h.1,xvP l m h.2]
 | [],_::_,h=>by simp [eqVs] at h
 | _::_,[],h=>by simp [eqVs] at h
end
def ptO (args:List AV) (r:AV):List AV->Option (Bool×AV):=fun xs=>match eqVs xs args with
 | true=>some (true,r)
 | false=>none
theorem xE9 {P:Program} {Inv:IV} {f:FuncId} {args:List AV} {r:AV} (h:Good P Inv f args r):OcOk P Inv f (ptO args r):=fun xs r0 h0=>by
 unfold ptO at h0;split at h0
 case h_2=>simp at h0
 rename_i he;simp only [z6,zb,true_and] at h0;subst h0;rw [xvP _ _ he];exact h
def vI (n:Int):AV:=.agg [.int .i64 1,.int .i64 n,.str []]
def vN:AV:=.agg [.int .i64 0,.int .i64 0,.str []]
def fA (f t:Int) (r:List AV):AV:=.agg [.list 3 r,.int .i64 f,.int .i64 t]
def frA:AV:=.agg [.list 1 [.int .i64 1],.str [112]]
def colA (n:UInt8) (b:Bool):AV:=.agg [.str [n],.int .i64 1,.bool b]
def paA:AV:=.agg [.str [112],.list 3 [colA 97 false],.list 1 [.int .i64 0],.nils,.nils]
def liA:AV:=.list 3 [fA 0 9 [vI 1,vI 7],fA 0 9 [vI 2,vN]]
def plA:AV:=.list 3 [fA 0 4 [vI 7],fA 6 1099511627776 [vI 7]]
def reA:AV:=.list 3 [fA 4 6 [vI 1,vI 7]]
def deA:AV:=.list 3 [fA 0 9 [vI 1,vI 7]]
def cuA:AV:=.list 3 [fA 3 5 [vI 1,vI 7]]
theorem xIV:xD9 [frA,liA,paA,plA]=some (true,reA):=by kernel_rfl
theorem xIU:OcOk P0 xMv 11 (ptO [frA,liA,paA,plA] reA):=xE9 (xIT _ _ xIV)
theorem xAd {f:FuncId} {fn:Func} {args:List AV} {r:AV} (hf:P0.funcs[f]?=some fn) (hb:fn.body.isSome=true) (q:(fn.name == "runtime.NumGoroutine")=false) (h:XF P0 EAd fn (fn.body.getD .skip) args=some r):Good P0 xMv f args r :=
 xfN (p:=0) (xi8 xLY (xLZ P0 _) rfl xBl hf hb q (xez fun _=>rfl) h)
theorem xKm:XF P0 EAd Tryz.f41 (Tryz.f41.body.getD .skip) [reA]=some reA:=by kernel_rfl
theorem xKl:OcOk P0 xMv 41 (ptO [reA] reA):=xE9 (xAd Tryz.func41 rfl (by kernel_rfl) xKm)
theorem xI8:XF P0 EAd Tryz.f44 (Tryz.f44.body.getD .skip) [deA,.agg [.int .i64 3,.int .i64 5]]=some cuA:=by kernel_rfl
theorem xI7:OcOk P0 xMv 44 (ptO [deA,.agg [.int .i64 3,.int .i64 5]] cuA):=xE9 (xAd Tryz.func44 rfl (by kernel_rfl) xI8)
noncomputable def EAv:Env:=(((EAs2.with 11 (ptO [frA,liA,paA,plA] reA)).with 41 (ptO [reA] reA)).with 44 (ptO [deA,.agg [.int .i64 3,.int .i64 5]] cuA)).with 30 xDZ
theorem xJw:xLP P0 xMv EAv:=(((xzo.with xIU).with xKl).with xI7).with xIK
noncomputable def EAe:Env:={ Env.deep P0 mmA EAv 14 with pin:=0,ls:=lsOf [42,54,141,34,9000027,7000027,5000035,6000001,6000003] }
theorem xJs:xLP P0 (xMv.at 0) EAe:=xkg (xiq xLY mmA (xLZ P0 0) xJw (fun _=>rfl) 14)
end Go.Sim.M
end
noncomputable section
set_option maxRecDepth 100000
namespace Go.Sim.M
open Go.RowKit Go.Proofs
theorem xIB:XF P0 EAe Tryz.f9 (Tryz.f9.body.getD .skip) []=some (.bool true):=by kernel_rfl
def xDK:List AV->Option (Bool×AV)
 | []=>some (true,.bool true)
 | _=>none
theorem xIA:OcOk P0 xMv 9 xDK:=fun xs r h=>by
 unfold xDK at h;split at h
 . simp only [z6,zb,true_and] at h;subst h;exact xfN (p:=0) (xi8 xLY (xLZ P0 _) rfl xJs Tryz.func9 rfl (by kernel_rfl) (xez fun _=>rfl) xIB)
 . simp at h
end Go.Sim.M
end
noncomputable section
set_option maxRecDepth 100000
namespace Go.Sim.M
open Go.IntKind (i64 u64 u8)
open Go.RowKit Go.Proofs
def xJF:EO:=xJW.w xvW
def xJG:EO:=xJF.w xIA
def xrw {T:Type} (j:List UInt8) (c d a g:LA) (k:List UInt8) (e f h i:LA) (b:Int) (l m:LA) (δ:T) (κ:Bool->T):T:=br (decide ((↑c.length:Int)>12)) (κ (false)) (br (decide ((↑e.length:Int)>12)) (κ (false)) (br (decide (b<0)) (κ (false)) (br (decide (b>=a.length)) (κ (false)) (br ((xmP l 14).isSome) (br (!(xmP l 14).getD false) (κ (false)) (br ((xmP m 14).isSome) (br (!(xmP m 14).getD false) (κ (false)) (br ((xgi j c d a g l).isSome) (br ((xgi j c d a g l).getD false) (br ((xgi k e f h i m).isSome) (br ((xgi k e f h i m).getD false) (br (ixI a b) (br (ixT a b 2 [Sh.list 1,Sh.str] 0) (br ((xre j c d a g (gC a b 0).toList (gC a b 1).toStr k e f h i).isSome) (κ ((xre j c d a g (gC a b 0).toList (gC a b 1).toStr k e f h i).getD false)) δ) δ) δ) (κ (false))) δ) (κ (false))) δ)) δ)) δ))))
def xq7 (i:List UInt8) (c a d e:LA) (j:List UInt8) (f b g h:LA) (k:Int) (l m:LA):=xrw i c a d e j f b g h k l m none some
def xJE:EO:=xJG.f Tryz.func8 67 0 [1000030] [] lk0 (u1 (xMO (xMy (sEq pStr) (xMy (uL 3) (xMy (uL 1) (xMy (uL 2) (xMy (uL 7) (xMy (sEq pStr) (u7 (uL 3) (uL 1) (uL 2) (uL 7) uI (uL 3) (uL 3)))))))))) (fun ((j,c,a,d,e,k,g,b,h,i,l,m,n,_),_) _=>xrw j c a d e k g b h i l m n) (fun _ p=>AV.bool p) false
def xhw (a:LA) (g:List UInt8) (d b e f:LA) (c:Int) (h i:LA) (n:Int):=xcH (gC a c 0).toList (gC a c 1).toStr h g d b e f (List.take (n.toNat - 0) (List.drop 0 i))
def xhy (a:LA) (g:List UInt8) (d b e f:LA) (c:Int) (h i:LA) (n:Int):=xcH (gC a c 0).toList (gC a c 1).toStr (List.take (n.toNat - 0) (List.drop 0 h)) g d b e f i
def xhA (a:LA) (g:List UInt8) (d b e f:LA) (c:Int) (h i:LA) (t:Int):=xmr ((xcH (gC a c 0).toList (gC a c 1).toStr h g d b e f i).getD []) t
def xhu (b:LA) (f:List UInt8) (c a d e:LA) (g:Int) (h i:LA) (n t:Int):=xmr ((xhw b f c a d e g h i n).getD []) t
def xhv (b:LA) (f:List UInt8) (c a d e:LA) (g:Int) (h i:LA) (n t:Int):=xmr ((xhy b f c a d e g h i n).getD []) t
def xhz (b:LA) (f:List UInt8) (c a d e:LA) (g:Int) (h i:LA) (t:Int):=(↑((xhA b f c a d e g h i t).getD []).length:Int)
def xeq {T:Type} (c:LA) (g:List UInt8) (d a e f:LA) (h:Int) (i b:LA) (n t:Int) (δ:T) (κ:Bool->T):T:=br (decide (n<0)) (κ (true)) (br (decide (n>=b.length)) (κ (true)) (br (decide (0<=n)&&decide (n<=b.length)&&true) (br ((xhw c g d a e f h i b n).isSome) (br ((xhu c g d a e f h i b n t).isSome) (br (decide ((↑((xhu c g d a e f h i b n t).getD []).length:Int)>=xhz c g d a e f h i b t)) (κ (true)) (κ (false))) δ) δ) δ))
def xim {T:Type} (m:List UInt8) (k j a l:LA) (h:List UInt8) (c b d e:LA) (f:Int) (g i:LA) (n t:Int) (δ:T) (κ:Bool->T):T:=br ((xq7 m k j a l h c b d e f g i).isSome) (br (!(xq7 m k j a l h c b d e f g i).getD false) (κ (true)) (br (ixI a f) (br (ixT a f 2 [Sh.list 1,Sh.str] 0) (br ((xcH (gC a f 0).toList (gC a f 1).toStr g h c b d e i).isSome) (br ((xhA a h c b d e f g i t).isSome) (br (decide (n>=0)) (br (decide (n<g.length)) (br (decide (0<=n)&&decide (n<=g.length)&&true) (br ((xhy a h c b d e f g i n).isSome) (br ((xhv a h c b d e f g i n t).isSome) (br (decide ((↑((xhv a h c b d e f g i n t).getD []).length:Int)>xhz a h c b d e f g i t)) (κ (false)) (xeq a h c b d e f g i n t δ κ)) δ) δ) δ) (xeq a h c b d e f g i n t δ κ)) (xeq a h c b d e f g i n t δ κ)) δ) δ) δ) δ)) δ
def xkc (i:List UInt8) (c a d e:LA) (j:List UInt8) (f b g h:LA) (k:Int) (l m:LA) (n t:Int):=xim i c a d e j f b g h k l m n t none some
def xt6:LA->Option (Bool×AV):=fnO (u3 (xMO (xMy (sEq pStr) (xMy (uL 3) (xMy (uL 1) (xMy (uL 2) (xMy (uL 7) (xMy (sEq pStr) (u7 (uL 3) (uL 1) (uL 2) (uL 7) uI (uL 3) (uL 3))))))))) uI uI) (fun ((i,c,a,d,e,j,f,b,g,h,k,l,m,_),n,t,_) _=>xim i c a d e j f b g h k l m n t) (fun _ p=>AV.bool p) false
theorem xt5:OcOk P0 xMv 7 xt6:=fnC xJE.ok Tryz.func7 86 0 [1000030,5000020,6000007] [] lk0
end Go.Sim.M
end
