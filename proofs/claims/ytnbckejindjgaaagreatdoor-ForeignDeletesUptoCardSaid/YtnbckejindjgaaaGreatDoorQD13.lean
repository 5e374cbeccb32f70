/- Part 13 of the proof of the law. -/
import Derived.Test.YtnbckejindjgaaaGreatDoorQD12
import Derived.StillTailTactics
set_option linter.unusedVariables false
set_option linter.unusedSimpArgs false
noncomputable section
set_option maxRecDepth 100000
namespace Go.Sim.M
def cmpI (x y:Int):Int:=if x<y then -1 else if y<x then 1 else 0
def orI (x y:Int):Int:=if x=0 then y else x
end Go.Sim.M
namespace Go.Proofs
open Go.RowKit Go.Sim Go.Sim.M Go.Sort Go.Lib
theorem Tryz.cmp_walk (x y:Int) (w:World):Calls Tryz.prog 103 #[.int .i64 x,.int .i64 y] w fun e w'=>e=.returned (.int .i64 (cmpI x y))/\w'=w:=by
 unfold cmpI
 go_enter Tryz.func103,Tryz.ntmps103
 go_wp2
 all_goals (go_ret;exact ⟨rfl,rfl⟩)
theorem Tryz.or_walk (x y:Int) (b off c:Nat) (w:World) (h0:w.cell? ⟨b,off,none⟩=some (.int .i64 x)) (h1:w.cell? ⟨b,off+1,none⟩=some (.int .i64 y)):Calls Tryz.prog 102 #[.slice (some ⟨b,off,none⟩) 2 c] w fun e w'=>e=.returned (.int .i64 (orI x y))/\w'=w:=by
 unfold orI;by_cases hx:x=0
 . subst hx;rw [if_pos rfl];by_cases hy:y=0
   . subst hy
     go_enter Tryz.func102,Tryz.ntmps102
     go_wp2
     refine wp_loop_rounds 3 ?_;rw [rounds_succ]
     go_wp2
     rw [rounds_succ]
     go_wp2
     rw [rounds_succ]
     go_wp2
     go_ret
     exact ⟨rfl,rfl⟩
   . have hy':(y != 0)=true:=by simpa using hy
     go_enter Tryz.func102,Tryz.ntmps102
     go_wp2
     refine wp_loop_rounds 3 ?_;rw [rounds_succ]
     go_wp2
     rw [rounds_succ]
     go_wp2
     go_ret
     exact ⟨rfl,rfl⟩
 . have hx':(x != 0)=true:=by simpa using hx
   rw [if_neg hx]
   go_enter Tryz.func102,Tryz.ntmps102
   go_wp2
   refine wp_loop_rounds 3 ?_;rw [rounds_succ]
   go_wp2
   go_ret
   exact ⟨rfl,rfl⟩
theorem fill2I (u1 u2:Int):Instr.fill (fun i=>some (i*1,1)) ((Array.range (2*1)).map (fun x=>(Value.int .i64 0).cells[x % (Value.int .i64 0).cells.size]!)) [(0,.int .i64 u1),(1,.int .i64 u2)]=some #[.int .i64 u1,.int .i64 u2]:=by
 simp [Instr.fill,Array.range,Value.cells];apply Array.ext
 . simp
 . intro i h1 h2;rcases i with _|_|i
   . simp
   . simp
   . simp at h2;omega
set_option maxHeartbeats 2000000 in
theorem Tryz.levels2_walk (a b c d:Int) (w:World):Calls Tryz.prog 101 #[.agg #[.int .i64 a,.int .i64 b],.agg #[.int .i64 c,.int .i64 d]] w fun e w'=>e=.returned (.int .i64 (orI (cmpI a c) (cmpI b d)))/\∃ q J,w'=Sort.grow (w.drewN q) J:=by
 go_enter Tryz.func101,Tryz.ntmps101
 go_wp2_with (go_at_call 103;skip)
 have g0:(w.alloc (.cells #[.int .i64 a,.int .i64 b] 44)).heap[w.heap.size]?=some (.cells #[.int .i64 a,.int .i64 b] 44 (0,0)):=heap_alloc_new w _;have g1:((w.alloc (.cells #[.int .i64 a,.int .i64 b] 44)).alloc (.cells #[.int .i64 c,.int .i64 d] 44)).heap[w.heap.size+1]?=some (.cells #[.int .i64 c,.int .i64 d] 44 (0,0)):=by
  have:=heap_alloc_new (w.alloc (.cells #[.int .i64 a,.int .i64 b] 44)) (.cells #[.int .i64 c,.int .i64 d] 44);have e:(w.alloc (.cells #[.int .i64 a,.int .i64 b] 44)).heap.size=w.heap.size+1:=by simp
  rwa [e] at this
 have f0:((w.alloc (.cells #[.int .i64 a,.int .i64 b] 44)).alloc (.cells #[.int .i64 c,.int .i64 d] 44)).cell? ⟨w.heap.size,0,none⟩=some (.int .i64 a):=by
  rw [World.cell?_alloc_past _ _ _ (by simp)];simp only [World.cell?,g0];rfl
 have f1:((w.alloc (.cells #[.int .i64 a,.int .i64 b] 44)).alloc (.cells #[.int .i64 c,.int .i64 d] 44)).cell? ⟨w.heap.size,1,none⟩=some (.int .i64 b):=by
  rw [World.cell?_alloc_past _ _ _ (by simp)];simp only [World.cell?,g0];rfl
 have f2:((w.alloc (.cells #[.int .i64 a,.int .i64 b] 44)).alloc (.cells #[.int .i64 c,.int .i64 d] 44)).cell? ⟨w.heap.size+1,0,none⟩=some (.int .i64 c):=by
  simp only [World.cell?,g1];rfl
 have f3:((w.alloc (.cells #[.int .i64 a,.int .i64 b] 44)).alloc (.cells #[.int .i64 c,.int .i64 d] 44)).cell? ⟨w.heap.size+1,1,none⟩=some (.int .i64 d):=by
  simp only [World.cell?,g1];rfl
 have f4:∃ q J,((w.alloc (.cells #[.int .i64 a,.int .i64 b] 44)).alloc (.cells #[.int .i64 c,.int .i64 d] 44))=Sort.grow (w.drewN q) J:=⟨0,_,by rw [alloc_eq_grow,alloc_eq_grow,grow_grow];rfl⟩
 generalize ((w.alloc (.cells #[.int .i64 a,.int .i64 b] 44)).alloc (.cells #[.int .i64 c,.int .i64 d] 44))=W2 at f0 f1 f2 f3 f4 |-;refine wp_region_still_tail 10 (by kernel_rfl) (by kernel_rfl) ?_
 simp only [List.take_succ_cons,List.take_zero,List.drop_succ_cons,List.drop_zero];change wpStill _ _ (World.drew W2) _ _ _;have f0':W2.drew.cell? ⟨w.heap.size,0,none⟩=some (.int .i64 a):=f0;have f1':W2.drew.cell? ⟨w.heap.size,1,none⟩=some (.int .i64 b):=f1;have f2':W2.drew.cell? ⟨w.heap.size+1,0,none⟩=some (.int .i64 c):=f2;have f3':W2.drew.cell? ⟨w.heap.size+1,1,none⟩=some (.int .i64 d):=f3;have f4':∃ q J,W2.drew=Sort.grow (w.drewN q) J:=by obtain ⟨q,J,e⟩:=f4;exact ⟨q+1,J,by rw [e];rfl⟩
 iterate 4 still_step
 still_call (Tryz.cmp_walk _ _ _)
 iterate 4 still_step
 still_call (Tryz.cmp_walk _ _ _)
 refine wpStill_nil ?_;change wpList _ _ _ _ _ (World.drew W2);generalize World.drew W2=W at f0' f1' f2' f3' f4' |-;generalize O:cmpI a c=u1;generalize Q:cmpI b d=u2;obtain ⟨ie,q1,q2,q3⟩:∃ ie,Tryz.prog.info? 3=some ie/\ie.zero=some (.int .i64 0)/\ie.size=1:=⟨(Tryz.prog.info? 3).get (by kernel_rfl),(Option.some_get _).symm,by kernel_rfl,by kernel_rfl⟩
 refine wpList_buildSlice rfl 23 3 2 _ rfl #[.int .i64 u1,.int .i64 u2] ie (.int .i64 0) (by kernel_rfl) q1 q2 (by rw [q3];decide) (by rw [q3];decide) (by rw [q3];refine Eq.trans (congrArg _ ?_) (fill2I u1 u2);simp [Act.eval]) ?_
 simp only [Act.put]
 go_wp2_with fail
 have g2:(W.alloc (.cells #[.int .i64 u1,.int .i64 u2] 3)).heap[W.heap.size]?=some (.cells #[.int .i64 u1,.int .i64 u2] 3 (0,0)):=heap_alloc_new W _;refine (Tryz.or_walk u1 u2 W.heap.size 0 2 (W.alloc (.cells #[.int .i64 u1,.int .i64 u2] 3)) (by simp only [World.cell?,g2];rfl) (by simp only [World.cell?,g2];rfl)).mono ?_
 rintro e w' ⟨rfl,rfl⟩
 go_wp2
 go_ret
 obtain ⟨q,J,hq⟩:=f4';exact ⟨by rw [O,Q];rfl,q,_,by rw [hq,alloc_eq_grow,grow_grow]⟩
end Go.Proofs
namespace Go.Sim.M
abbrev TyE:Type:=Fin 1099511627777×Int×Int
def intsE (x:TyE):List Int:=[(x.1.val:Int),x.2.1,x.2.2]
def cmpE (x y:TyE):Int:=(x.1.val:Int) - (y.1.val:Int)
end Go.Sim.M
namespace Go.Proofs
open Go.RowKit Go.Sim Go.Sim.M Go.Sort
set_option maxHeartbeats 1000000 in
theorem Tryz.walkE (a b c a' b' c' r:Int) (hr:IntKind.i64.wrap (a - a')=r) (W:World):Calls Tryz.prog 129 #[.agg #[.int .i64 a,.int .i64 b,.int .i64 c],.agg #[.int .i64 a',.int .i64 b',.int .i64 c']] W fun e w'=>e=.returned (.int .i64 r)/\∃ q os',w'=Sort.grow (W.drewN q) os':=by
 go_enter Tryz.func129,Tryz.ntmps129
 go_wp2
 go_ret
 subst hr;exact ⟨rfl,0,_,by rw [alloc_eq_grow,alloc_eq_grow,grow_grow];rfl⟩
end Go.Proofs
namespace Go.Sim.M
open Go.RowKit Go.Proofs Go.Sort
def isE:AV->Bool
 | .agg [.int .i64 a,.int .i64 _,.int .i64 _]=>decide (0<=a)&&decide (a<=1099511627776)
 | _=>false
def decE:AV->TyE
 | .agg [.int _ a,.int _ b,.int _ c]=>(Fin.ofNat 1099511627777 a.toNat,b,c)
 | _=>default
noncomputable def srtE (xs:List AV):List AV:=(pdqL cmpE (xs.map decE)).map (encI intsE)
theorem xIf {x:AV} (h:isE x=true):encI intsE (decE x)=x:=by
 unfold isE at h;split at h
 . rename_i a b c;simp only [Bool.and_eq_true,decide_eq_true_eq] at h;have:a.toNat % 1099511627777=a.toNat:=Nat.mod_eq_of_lt (by omega)
   simp only [decE,encI,intsE,List.map_cons,List.map_nil,Fin.ofNat,this,Int.toNat_of_nonneg h.1]
 . simp at h
theorem xGx {xs:List AV} (h:xs.all isE=true):(xs.map decE).map (encI intsE)=xs:=by
 rw [List.map_map]
 conv=>rhs;rw [<-List.map_id xs]
 refine List.map_congr_left fun x hx=>?_
 exact xIf (List.all_eq_true.1 h x hx)
theorem ltE (x y:TyE):ltOf cmpE x y=decide (x.1.val<y.1.val):=by
 unfold ltOf cmpE;by_cases h:x.1.val<y.1.val
 . rw [decide_eq_true h,decide_eq_true (by omega)]
 . rw [decide_eq_false h,decide_eq_false (by omega)]
theorem swoE:SWO (ltOf cmpE) where
 irrefl x:=by rw [ltE];simp
 trans x y z h1 h2:=by rw [ltE] at *;simp at *;omega
 ntrans x y z h1 h2:=by rw [ltE] at *;simp at *;omega
noncomputable def xAn:List AV->List Box->Option (Bool×AV×List Box)
 | [.osl (.b 0) ver 0 n,.func g []],[⟨ver',3,ty,xs,false,true⟩]=>match Nat.beq g 129&&Nat.beq ty 137 with
  | true=>some (Nat.beq ver ver'&&(Nat.beq n xs.length&&(decide (n<4611686018427387904)&&xs.all isE)),.tuple [],[⟨ver',3,137,srtE xs,false,true⟩])
  | false=>none
 | _,_=>none
theorem xJ8:OmOk Tryz.prog xNs 128 xAn:=fun Q H r H' h=>by
 unfold xAn at h;split at h
 . rename_i ver n g O ty xs;split at h
   case h_2=>simp at h
   rename_i hg;simp only [Bool.and_eq_true] at hg;obtain rfl:=Nat.eq_of_beq_eq_true hg.1;obtain rfl:=Nat.eq_of_beq_eq_true hg.2;simp only [Option.some.injEq,Prod.mk.injEq,Bool.and_eq_true,decide_eq_true_eq] at h;obtain ⟨⟨h1,h2,h3,h4⟩,rfl,rfl⟩:=h;obtain rfl:=Nat.eq_of_beq_eq_true h1;obtain rfl:=Nat.eq_of_beq_eq_true h2;have q:∃ ti,xML Tryz.prog 137=some ti/\ti.sz=3/\ti.agg=true:=by
    have h:(match xML Tryz.prog 137 with|some ti=>(ti.sz==3)&&ti.agg|none=>false)=true:=by kernel_rfl
    split at h
    . rename_i ti q;simp only [Bool.and_eq_true,beq_iff_eq] at h;exact ⟨ti,q,h.1,h.2⟩
    . simp at h
   obtain ⟨ti,q,hz,ha⟩:=q;have J:=xrp (P:=Tryz.prog) (Inv:=xNs) Tryz.srl128 3 (by decide) (fun w=>by rw [<-ha];exact xlA q w) (fun w=>by rw [<-hz];exact xcO q w)
    intsE (fun _=>rfl) cmpE swoE 129 rfl (xd9 Tryz.func128 rfl (by kernel_rfl)) (xnv (xd9 Tryz.func129 rfl (by kernel_rfl)))
    (fun x y W=>Tryz.walkE _ _ _ _ _ _ (cmpE x y) (by
     have:=x.1.isLt;have:=y.1.isLt;unfold cmpE;exact xby (by omega) (by omega)) W)
    ver 137 rfl (xs.map decE) (by simpa using h3)
   rw [List.length_map,xGx h4] at J;exact J
 . simp at h
end Go.Sim.M
namespace Go.Sim.M
abbrev TyS:Type:=Fin 1099511627777×Int
def intsS (x:TyS):List Int:=[(x.1.val:Int),x.2]
def cmpS (x y:TyS):Int:=(x.1.val:Int) - (y.1.val:Int)
end Go.Sim.M
namespace Go.Proofs
open Go.RowKit Go.Sim Go.Sim.M Go.Sort
set_option maxHeartbeats 1000000 in
theorem Tryz.walkS (a b a' b' r:Int) (hr:IntKind.i64.wrap (a - a')=r) (W:World):Calls Tryz.prog 137 #[.agg #[.int .i64 a,.int .i64 b],.agg #[.int .i64 a',.int .i64 b']] W fun e w'=>e=.returned (.int .i64 r)/\∃ q os',w'=Sort.grow (W.drewN q) os':=by
 go_enter Tryz.func137,Tryz.ntmps137
 go_wp2
 go_ret
 subst hr;exact ⟨rfl,0,_,by rw [alloc_eq_grow,alloc_eq_grow,grow_grow];rfl⟩
end Go.Proofs
namespace Go.Sim.M
open Go.RowKit Go.Proofs Go.Sort
def isS:AV->Bool
 | .agg [.int .i64 a,.int .i64 _]=>decide (0<=a)&&decide (a<=1099511627776)
 | _=>false
def decS:AV->TyS
 | .agg [.int _ a,.int _ b]=>(Fin.ofNat 1099511627777 a.toNat,b)
 | _=>default
noncomputable def srtS (xs:List AV):List AV:=(pdqL cmpS (xs.map decS)).map (encI intsS)
theorem xIh {x:AV} (h:isS x=true):encI intsS (decS x)=x:=by
 unfold isS at h;split at h
 . rename_i a b;simp only [Bool.and_eq_true,decide_eq_true_eq] at h;have:a.toNat % 1099511627777=a.toNat:=Nat.mod_eq_of_lt (by omega)
   simp only [decS,encI,intsS,List.map_cons,List.map_nil,Fin.ofNat,this,Int.toNat_of_nonneg h.1]
 . simp at h
theorem xG1 {xs:List AV} (h:xs.all isS=true):(xs.map decS).map (encI intsS)=xs:=by
 rw [List.map_map]
 conv=>rhs;rw [<-List.map_id xs]
 refine List.map_congr_left fun x hx=>?_
 exact xIh (List.all_eq_true.1 h x hx)
theorem ltS (x y:TyS):ltOf cmpS x y=decide (x.1.val<y.1.val):=by
 unfold ltOf cmpS;by_cases h:x.1.val<y.1.val
 . rw [decide_eq_true h,decide_eq_true (by omega)]
 . rw [decide_eq_false h,decide_eq_false (by omega)]
theorem swoS:SWO (ltOf cmpS) where
 irrefl x:=by rw [ltS];simp
 trans x y z h1 h2:=by rw [ltS] at *;simp at *;omega
 ntrans x y z h1 h2:=by rw [ltS] at *;simp at *;omega
noncomputable def xAp:List AV->List Box->Option (Bool×AV×List Box)
 | [.osl (.b 0) ver 0 n,.func g []],[⟨ver',2,ty,xs,false,true⟩]=>match Nat.beq g 137&&Nat.beq ty 148 with
  | true=>some (Nat.beq ver ver'&&(Nat.beq n xs.length&&(decide (n<4611686018427387904)&&xs.all isS)),.tuple [],[⟨ver',2,148,srtS xs,false,true⟩])
  | false=>none
 | _,_=>none
theorem xKa:OmOk Tryz.prog xNs 136 xAp:=fun Q H r H' h=>by
 unfold xAp at h;split at h
 . rename_i ver n g O ty xs;split at h
   case h_2=>simp at h
   rename_i hg;simp only [Bool.and_eq_true] at hg;obtain rfl:=Nat.eq_of_beq_eq_true hg.1;obtain rfl:=Nat.eq_of_beq_eq_true hg.2;simp only [Option.some.injEq,Prod.mk.injEq,Bool.and_eq_true,decide_eq_true_eq] at h;obtain ⟨⟨h1,h2,h3,h4⟩,rfl,rfl⟩:=h;obtain rfl:=Nat.eq_of_beq_eq_true h1;obtain rfl:=Nat.eq_of_beq_eq_true h2;have q:∃ ti,xML Tryz.prog 148=some ti/\ti.sz=2/\ti.agg=true:=by
    have h:(match xML Tryz.prog 148 with|some ti=>(ti.sz==2)&&ti.agg|none=>false)=true:=by kernel_rfl
    split at h
    . rename_i ti q;simp only [Bool.and_eq_true,beq_iff_eq] at h;exact ⟨ti,q,h.1,h.2⟩
    . simp at h
   obtain ⟨ti,q,hz,ha⟩:=q;have J:=xrp (P:=Tryz.prog) (Inv:=xNs) Tryz.srl136 2 (by decide) (fun w=>by rw [<-ha];exact xlA q w) (fun w=>by rw [<-hz];exact xcO q w)
    intsS (fun _=>rfl) cmpS swoS 137 rfl (xd9 Tryz.func136 rfl (by kernel_rfl)) (xnv (xd9 Tryz.func137 rfl (by kernel_rfl)))
    (fun x y W=>Tryz.walkS _ _ _ _ (cmpS x y) (by
     have:=x.1.isLt;have:=y.1.isLt;unfold cmpS;exact xby (by omega) (by omega)) W)
    ver 148 rfl (xs.map decS) (by simpa using h3)
   rw [List.length_map,xG1 h4] at J;exact J
 . simp at h
end Go.Sim.M
namespace Go.Sim.M
abbrev TyP:Type:=Int×Int
def intsP (x:TyP):List Int:=[x.1,x.2]
def cmpP (x y:TyP):Int:=orI (cmpI x.1 y.1) (cmpI x.2 y.2)
end Go.Sim.M
namespace Go.Sim.M
open Go.RowKit Go.Proofs Go.Sort
def isP:AV->Bool
 | .agg [.int .i64 _,.int .i64 _]=>true
 | _=>false
def decP:AV->TyP
 | .agg [.int _ a,.int _ b]=>(a,b)
 | _=>default
noncomputable def srtP (xs:List AV):List AV:=(pdqL cmpP (xs.map decP)).map (encI intsP)
theorem xIg {x:AV} (h:isP x=true):encI intsP (decP x)=x:=by
 unfold isP at h;split at h
 . rfl
 . simp at h
theorem xG0 {xs:List AV} (h:xs.all isP=true):(xs.map decP).map (encI intsP)=xs:=by
 rw [List.map_map]
 conv=>rhs;rw [<-List.map_id xs]
 refine List.map_congr_left fun x hx=>?_
 exact xIg (List.all_eq_true.1 h x hx)
theorem ltP (x y:TyP):ltOf cmpP x y=decide (x.1<y.1\/x.1=y.1/\x.2<y.2):=by
 unfold ltOf cmpP orI cmpI;by_cases h:x.1<y.1\/x.1=y.1/\x.2<y.2
 . rw [decide_eq_true h];simp only [decide_eq_true_eq];rcases h with h|⟨h,h'⟩
   . simp [h]
   . simp [h,h']
 . rw [decide_eq_false h];simp only [decide_eq_false_iff_not];have h1:¬ x.1<y.1:=fun e=>h (.inl e)
   by_cases h2:y.1<x.1
   . simp [h1,h2]
   . have h3:x.1=y.1:=by omega
     have h4:¬ x.2<y.2:=fun e=>h (.inr ⟨h3,e⟩)
     by_cases h5:y.2<x.2
     . simp [h1,h2,h4,h5]
     . simp [h1,h2,h4,h5]
theorem swoP:SWO (ltOf cmpP) where
 irrefl x:=by rw [ltP];simp
 trans x y z h1 h2:=by rw [ltP] at *;simp only [decide_eq_true_eq] at *;omega
 ntrans x y z h1 h2:=by rw [ltP] at *;simp only [decide_eq_true_eq,decide_eq_false_iff_not] at *;omega
noncomputable def xAo:List AV->List Box->Option (Bool×AV×List Box)
 | [.osl (.b 0) ver 0 n,.func g []],[⟨ver',2,ty,xs,false,true⟩]=>match Nat.beq g 101&&Nat.beq ty 44 with
  | true=>some (Nat.beq ver ver'&&(Nat.beq n xs.length&&(decide (n<4611686018427387904)&&xs.all isP)),.tuple [],[⟨ver',2,44,srtP xs,false,true⟩])
  | false=>none
 | _,_=>none
theorem xJ9:OmOk Tryz.prog xNs 100 xAo:=fun Q H r H' h=>by
 unfold xAo at h;split at h
 . rename_i ver n g O ty xs;split at h
   case h_2=>simp at h
   rename_i hg;simp only [Bool.and_eq_true] at hg;obtain rfl:=Nat.eq_of_beq_eq_true hg.1;obtain rfl:=Nat.eq_of_beq_eq_true hg.2;simp only [Option.some.injEq,Prod.mk.injEq,Bool.and_eq_true,decide_eq_true_eq] at h;obtain ⟨⟨h1,h2,h3,h4⟩,rfl,rfl⟩:=h;obtain rfl:=Nat.eq_of_beq_eq_true h1;obtain rfl:=Nat.eq_of_beq_eq_true h2;have q:∃ ti,xML Tryz.prog 44=some ti/\ti.sz=2/\ti.agg=true:=by
    have h:(match xML Tryz.prog 44 with|some ti=>(ti.sz==2)&&ti.agg|none=>false)=true:=by kernel_rfl
    split at h
    . rename_i ti q;simp only [Bool.and_eq_true,beq_iff_eq] at h;exact ⟨ti,q,h.1,h.2⟩
    . simp at h
   obtain ⟨ti,q,hz,ha⟩:=q;have J:=xrp (P:=Tryz.prog) (Inv:=xNs) Tryz.srl100 2 (by decide) (fun w=>by rw [<-ha];exact xlA q w) (fun w=>by rw [<-hz];exact xcO q w)
    intsP (fun _=>rfl) cmpP swoP 101 rfl (xd9 Tryz.func100 rfl (by kernel_rfl)) (xnv (xd9 Tryz.func101 rfl (by kernel_rfl)))
    (fun x y W=>Tryz.levels2_walk _ _ _ _ W)
    ver 44 rfl (xs.map decP) (by simpa using h3)
   rw [List.length_map,xG0 h4] at J;exact J
 . simp at h
end Go.Sim.M
end
noncomputable section
namespace Go.Sim.M
open Go.RowKit Go.Proofs
noncomputable def E1:Env:=((xI8.E.withM 136 xAp).withM 100 xAo).withM 128 xAn
theorem xI5:xMM Tryz.prog xNs E1:=((xI8.ok.withM xKa).withM xJ9).withM xJ8
noncomputable def xLq:EO:=EO.mk E1 xI5
end Go.Sim.M
end
noncomputable section
set_option maxRecDepth 100000
namespace Go.Sim.M
open Go.IntKind (i64 u64 u8)
open Go.RowKit Go.Proofs
def xiF:Env:=E1.fn 29 1 (lsOf []) (xM7 [])
theorem xzK:xMM P0 (xNs.at 1) xiF:=xI5.fn
theorem xwm:LoOk P0 (xNs.at xiF.pin) xiF (Tryz.f138.body.getD .skip):=xmP (by kernel_rfl)
def xrr {T:Type} (k:Nat) (a n:Int) (b:LA) (δ:T) (κ:Bool×(Nat×LA)×(Nat×LA)->T):T:=br (rmB k b 1 16) (κ (false,(0,[]),(k+1,b++[AV.agg [AV.int .i64 a,AV.int .i64 n]]))) δ
def xua {T:Type} (k:Nat) (b n:Int) (a:LA) (δ:T) (κ:Bool×(Nat×LA)×(Nat×LA)->T):T:=br (decide ((↑k:Int)>0)) (br (decide (0<=i64.wrap ((↑k:Int) - 1))&&decide (i64.wrap ((↑k:Int) - 1)<(↑k:Int))) (br (decide (0+(i64.wrap ((↑k:Int) - 1)).toNat<a.length)&&xMK (Sh.int .i64) ((a.getD (0+(i64.wrap ((↑k:Int) - 1)).toNat) .top).cells.getD 1 .top)) (br (((a.getD (0+(i64.wrap ((↑k:Int) - 1)).toNat) .top).cells.getD 1 .top).toInt==n) (κ (true,(k,a),(0,[]))) (xrr k b n a δ κ)) δ) δ) (xrr k b n a δ κ)
def xcR (k:Nat) (a n:Int) (b:LA):=xua k a n b none some
theorem xEe (k:Nat) (a n:Int) (xs:LA):Enc (fun (p:Bool×(Nat×LA)×(Nat×LA))=>((br p.1 ((AV.osl 0 0 0 p.2.1.1,([⟨0,2,148,p.2.1.2,false,true⟩]:List Box))) ((AV.osl 0 1 0 p.2.2.1,([⟨1,2,148,p.2.2.2,false,true⟩]:List Box)))):(AV×List Box))) (xcR k a n xs) (XFM P0 xiF Tryz.f138 (Tryz.f138.body.getD .skip) [AV.osl (0:Id) 0 0 k,AV.int .i64 a,AV.int .i64 n] [{ ver:=0,sz:=2,ty:=(148:TypeId),xs:=xs,frz:=false,pm:=true }]):=by
 have h:XFM P0 xiF Tryz.f138 (Tryz.f138.body.getD .skip) [AV.osl (0:Id) 0 0 k,AV.int .i64 a,AV.int .i64 n] [{ ver:=0,sz:=2,ty:=(148:TypeId),xs:=xs,frz:=false,pm:=true }]=xua k a n xs none (fun (p:Bool×(Nat×LA)×(Nat×LA))=>some ((br p.1 ((AV.osl 0 0 0 p.2.1.1,([⟨0,2,148,p.2.1.2,false,true⟩]:List Box))) ((AV.osl 0 1 0 p.2.2.1,([⟨1,2,148,p.2.2.2,false,true⟩]:List Box)))):(AV×List Box))):=by kernel_rfl
 rw [h];unfold xcR xua xrr;repeat' (first|refine Enc.br ?_ ?_|exact Enc.none|exact Enc.some rfl)
def xEd:LA->List Box->Option (Bool×AV×List Box):=omOf (xNu (sEq (xNG 0 0 0)) (xNu (sEq (pInt .i64)) (xNu (sEq (pInt .i64)) xNw))) (xNt (xNJ 0 2 (148:TypeId) false true xNy) xNv) fun (k,(a,(n,_))) (b,_)=>((xcR k a n b).isSome,(AV.osl 0 1 0 (br ((xcR k a n b).getD (false,(0,[]),(0,[]))).1 ((xcR k a n b).getD (false,(0,[]),(0,[]))).2.1.1 ((xcR k a n b).getD (false,(0,[]),(0,[]))).2.2.1),([⟨1,2,148,(br ((xcR k a n b).getD (false,(0,[]),(0,[]))).1 ((xcR k a n b).getD (false,(0,[]),(0,[]))).2.1.2 ((xcR k a n b).getD (false,(0,[]),(0,[]))).2.2.2),false,true⟩]:List Box)))
theorem xEc:OmOk P0 xNs 138 (xEd):=xr2 fun e f j i g=>by
 obtain ⟨k,⟨b,⟨n,_⟩⟩⟩:=e;obtain ⟨h,_⟩:=f;obtain ⟨c,a⟩:=Prod.mk.inj g;have hx:=xEe _ _ _ _ _ (xbU (d:=(false,(0,[]),(0,[]))) c);revert hx a;generalize ((xcR k b n h).getD (false,(0,[]),(0,[])))=p;intro a hx;obtain ⟨rfl,rfl⟩:=Prod.mk.inj a;obtain ⟨t,⟨l,m⟩,o,q⟩:=p;have hg:GoodM P0 xNs 138 _ _ _ _:=xgN (p:=xiF.pin) (xiH xMV (xMW P0 _) rfl xzK rfl Tryz.func138 rfl (by kernel_rfl) xwm hx)
 cases t
 . exact hg
 . exact GoodM.bump1 rfl (by decide) hg
def xvF:EO:=xLq.wM xEc
def xmF {T:Type} (d:LA) (e:Int) (b:Nat) (c:Int) (a:LA) (δ:T) (κl:(Nat×Int×LA)->T) (κr:(Nat×LA)->T):T:=br (decide (c<e)) (br (ixI d c) (br (ixT d c 3 [Sh.int .i64,Sh.int .i64,Sh.int .i64] 0) (br (xcl (gC d c 0).toInt (gC d c 1).toInt) (br (rmB b a 2 16) (κl (b+2,i64.wrap (c+1),a++[AV.agg [AV.int .i64 (gC d c 0).toInt,AV.int .i64 (gC d c 2).toInt],AV.agg [AV.int .i64 (gC d c 1).toInt,AV.int .i64 (i64.wrap (0 - (gC d c 2).toInt))]])) δ) (κl (b,i64.wrap (c+1),a))) δ) δ) (κr (b,a))
def xeD (c:LA) (d:Int):StT (Nat×Int×LA) (Nat×LA):=fun (b,e,a)=>xmF c d b e a none inL inR
def xis:=xvF.l 106 0 [] [] Tryz.f104 0 lk0 [3,10,11,12] [3] [(3,2,148)] (q4 (xNG 0 0 0) (qL 3) qI qI) (q1 (qB 0 2 148 xNy)) (fun (b,c,d,e,_) (a,_)=>(xeD c d,(b,e,a),fun p=>(.leaf (.exit 0) [AV.osl 0 0 0 p.1] [bF 0 2 148 p.2]))) (0,[]) fun (_,c,d,_,_) _ (b,e,a)=>(((b,c,d,e,()),(a,())),xmF c d b e a none)
def xuy (i:Int) (a:LA):=decide (0+i.toNat<a.length)
def xvt {T:Type} (b e:Nat) (d i:Int) (a c:LA) (δ:T) (κl:(Int×Int×LA×LA)->T) (κr:(Int×Int×LA×LA)->T):T:=br (decide (i<(↑b:Int))) (br (decide (0<=i)&&decide (i<(↑b:Int))) (br (xuy i a&&xMK (Sh.int .i64) ((a.getD (0+i.toNat) .top).cells.getD 0 .top)) (br (((a.getD (0+i.toNat) .top).cells.getD 0 .top).toInt==0) (br (decide (0<=i)&&decide (i<(↑b:Int))) (br (xuy i a&&xMK (Sh.int .i64) ((a.getD (0+i.toNat) .top).cells.getD 1 .top)) (κl (i64.wrap (d+((a.getD (0+i.toNat) .top).cells.getD 1 .top).toInt),i64.wrap (i+1),a,c)) δ) δ) (κr (d,i,a,c))) δ) δ) (κr (d,i,a,c))
def xjp (b d:Nat):StT (Int×Int×LA×LA) (Int×Int×LA×LA):=fun (e,i,a,c)=>xvt b d e i a c none inL inR
def xlC:=xvF.l 106 0 [] [(3,xis.lp)] Tryz.f104 1 lk0 [3,6,7,8] [3,6,7,8] [(3,2,148),(6,2,148)] (q4 (xNG 0 0 0) (xNG 1 0 0) qI qI) (q2 (qB 0 2 148 xNy) (qB 0 2 148 xNy)) (fun (a,c,e,i,_) (b,d,_)=>(xjp a c,(e,i,b,d),fun p=>(.leaf (.exit 2) [AV.osl 0 0 0 a,AV.osl 1 0 0 c,AV.int .i64 p.1,AV.int .i64 p.2.1] [bF 0 2 148 p.2.2.1,bF 0 2 148 p.2.2.2]))) (0,0,[],[]) fun (a,c,_,_,_) _ (e,i,b,d)=>(((a,c,e,i,()),(b,d,())),xvt a c e i b d none)
def xiE (i:Int) (a:LA):=decide (0+i.toNat<a.length)
def xjH {T:Type} (b f:Nat) (e d i:Int) (a c:LA) (δ:T) (κl:(Int×Int×LA×LA)->T) (κr:(Int×Int×LA×LA)->T):T:=br (decide (i<(↑b:Int))) (br (decide (0<=i)&&decide (i<(↑b:Int))) (br (xiE i a&&xMK (Sh.int .i64) ((a.getD (0+i.toNat) .top).cells.getD 0 .top)) (br (((a.getD (0+i.toNat) .top).cells.getD 0 .top).toInt==e) (br (decide (0<=i)&&decide (i<(↑b:Int))) (br (xiE i a&&xMK (Sh.int .i64) ((a.getD (0+i.toNat) .top).cells.getD 1 .top)) (κl (i64.wrap (d+((a.getD (0+i.toNat) .top).cells.getD 1 .top).toInt),i64.wrap (i+1),a,c)) δ) δ) (κr (d,i,a,c))) δ) δ) (κr (d,i,a,c))
def xdq (b d:Nat) (e:Int):StT (Int×Int×LA×LA) (Int×Int×LA×LA):=fun (f,i,a,c)=>xjH b d e f i a c none inL inR
def xlD:=xvF.l 106 0 [] [(3,xis.lp),(11,xlC.lp)] Tryz.f104 3 lk0 [3,6,7,8,9] [3,6,7,8,9] [(3,2,148),(6,2,148)] (q5 (xNG 0 0 0) (xNG 1 0 0) qI qI qI) (q2 (qB 0 2 148 xNy) (qB 0 2 148 xNy)) (fun (a,c,f,i,e,_) (b,d,_)=>(xdq a c e,(f,i,b,d),fun p=>(.leaf (.exit 6) [AV.osl 0 0 0 a,AV.osl 1 0 0 c,AV.int .i64 p.1,AV.int .i64 p.2.1,AV.int .i64 e] [bF 0 2 148 p.2.2.1,bF 0 2 148 p.2.2.2]))) (0,0,[],[]) fun (a,c,_,_,e,_) _ (f,i,b,d)=>(((a,c,f,i,e,()),(b,d,())),xjH a c e f i b d none)
def xhd (i:Int) (a:LA):=decide (0+i.toNat<a.length)&&xMK (Sh.int .i64) ((a.getD (0+i.toNat) .top).cells.getD 0 .top)
def xff (i:Int) (a:LA):=((a.getD (0+i.toNat) .top).cells.getD 0 .top).toInt
def xhe (b d:Nat) (e i:Int) (a c:LA):=Iter (xdq b d (xff i a)) (e,i,a,c)
def xiD (b d:Nat) (e i:Int) (a c:LA):=(xhe b d e i a c).getD (0,0,[],[])
def xiB (b d:Nat) (e i:Int) (a c:LA):=(xiD b d e i a c).snd
def xiC (b d:Nat) (e i:Int) (a c:LA):=(xiD b d e i a c).fst
def xiA (b d:Nat) (e i:Int) (a c:LA):=(xiB b d e i a c).snd
def xiz (b c:Nat) (e i:Int) (a d:LA):=xcR c (xff i a) (xiC b c e i a d) (xiA b c e i a d).snd
def xiy (b d:Nat) (e i:Int) (a c:LA):=(xiz b d e i a c).getD (false,(0,[]),0,[])
def xiv (b d:Nat) (e i:Int) (a c:LA):=(xiy b d e i a c).fst
def xiw (b d:Nat) (e i:Int) (a c:LA):=(xiy b d e i a c).snd
def xit (b d:Nat) (e i:Int) (a c:LA):=(xiw b d e i a c).snd
def xiu (b d:Nat) (e i:Int) (a c:LA):=(xiw b d e i a c).fst
def xjG {T:Type} (b d:Nat) (e i:Int) (a c:LA) (δ:T) (κl:(Nat×Int×Int×LA×LA)->T) (κr:(Nat×LA)->T):T:=br (decide (i<(↑b:Int))) (br (decide (0<=i)&&decide (i<(↑b:Int))) (br (xhd i a) (br (decide (xff i a<1099511627776)) (br (decide (0<=i)&&decide (i<(↑b:Int))) (br (xhd i a) (br ((xhe b d e i a c).isSome) (br ((xiz b d e i a c).isSome) (κl (br (xiv b d e i a c) (xiu b d e i a c).fst (xit b d e i a c).fst,xiC b d e i a c,(xiB b d e i a c).fst,(xiA b d e i a c).fst,br (xiv b d e i a c) (xiu b d e i a c).snd (xit b d e i a c).snd)) δ) δ) δ) δ) (κr (d,c))) δ) δ) (κr (d,c))
def xeE (b:Nat):StT (Nat×Int×Int×LA×LA) (Nat×LA):=fun (d,e,i,a,c)=>xjG b d e i a c none inL inR
def xuz:=xvF.l 106 0 [] [(3,xis.lp),(11,xlC.lp),(17,xlD.lp)] Tryz.f104 2 (lk1 xlD.ok) [3,6,7,8] [6] [(3,2,148),(6,2,148)] (q4 (xNG 0 0 0) (xNG 1 0 0) qI qI) (q2 (qB 0 2 148 xNy) (qB 0 2 148 xNy)) (fun (b,d,e,i,_) (a,c,_)=>(xeE b,(d,e,i,a,c),fun p=>(.leaf (.exit 4) [AV.osl 0 0 0 p.1] [bF 0 2 148 p.2]))) (0,[]) fun (b,_,_,_,_) _ (d,e,i,a,c)=>(((b,d,e,i,()),(a,c,())),xjG b d e i a c none)
def xsY (l:LA):=(Iter (xeD l (↑l.length:Int)) (0,0,[])).getD (0,[])
def xlg (l:LA):=(xsY l).fst
def xoZ (l:LA):=(xsY l).snd
def xsX (l:LA):=Iter (xjp (xlg l) 0) (0,0,srtS (xoZ l),[])
def xsW (l:LA):=(xsX l).getD (0,0,[],[])
def xsU (l:LA):=(xsW l).fst
def xsV (l:LA):=(xsW l).snd
def xsT (l:LA):=(xsV l).snd
def xt9 (l:LA):=xcR 0 0 (xsU l) (xsT l).snd
def xt8 (l:LA):=(xt9 l).getD (false,(0,[]),0,[])
def xt6 (l:LA):=(xt8 l).fst
def xt7 (l:LA):=(xt8 l).snd
def xt4 (l:LA):=(xt7 l).fst
def xt5 (l:LA):=(xt7 l).snd
def xt3 (l:LA):=Iter (xeE (xlg l)) (br (xt6 l) (xt4 l).fst (xt5 l).fst,xsU l,(xsV l).fst,(xsT l).fst,br (xt6 l) (xt4 l).snd (xt5 l).snd)
def xt2 (l:LA):=(xt3 l).getD (0,[])
def xt0 (l:LA):=(xt2 l).snd
def xt1 (l:LA):=(xt2 l).fst
def xvb {T:Type} (l:LA) (δ:T) (κ:LA->T):T:=br ((Iter (xeD l (↑l.length:Int)) (0,0,[])).isSome) (br ((xlg l).beq (xoZ l).length&&(decide (xlg l<4611686018427387904)&&(xoZ l).all isS)) (br ((xsX l).isSome) (br ((xt9 l).isSome) (br ((xt3 l).isSome) (br (decide (0+xt1 l<=(xt0 l).length)&&true) (κ (List.take (xt1 l) (List.drop 0 (xt0 l)))) δ) δ) δ) δ) δ) δ
def xva (l:LA):=xvb l none some
def xGl:EO:=xvF.f Tryz.func104 106 0 [] [(3,xis.lp),(11,xlC.lp),(17,xlD.lp),(15,xuz.lp)] (lks (lkC xis.ok (lkC xlC.ok (lkC xuz.ok (lkC xlD.ok lkN))))) (u1 (uL 3)) (fun (l,_) _=>xvb l) (fun _ p=>AV.list 2 p) []
def xe0 {T:Type} (d:LA) (e:Int) (c:Nat) (b:Int) (a:LA) (δ:T) (κl:(Nat×Int×LA)->T) (κr:(Nat×LA)->T):T:=br (decide (b<e)) (br (ixI d b) (br (ixT d b 2 [Sh.int .i64,Sh.int .i64] 0) (br (rmB c a 1 24) (κl (c+1,i64.wrap (b+1),a++[AV.agg [AV.int .i64 (gC d b 0).toInt,AV.int .i64 (gC d b 1).toInt,AV.int .i64 1]])) δ) δ) δ) (κr (c,a))
def xbs (c:LA) (d:Int):StT (Nat×Int×LA) (Nat×LA):=fun (b,e,a)=>xe0 c d b e a none inL inR
def xma:=xGl.l 20 0 [] [] Tryz.f66 0 lk0 [3,6,7,8] [3] [(3,3,155)] (q4 (xNG 0 0 0) (qL 2) qI qI) (q1 (qB 0 3 155 xNy)) (fun (b,c,d,e,_) (a,_)=>(xbs c d,(b,e,a),fun p=>(.leaf (.exit 0) [AV.osl 0 0 0 p.1] [bF 0 3 155 p.2]))) (0,[]) fun (_,c,d,_,_) _ (b,e,a)=>(((b,c,d,e,()),(a,())),xe0 c d b e a none)
def xjY (l:LA):=(Iter (xbs l (↑l.length:Int)) (0,0,[])).getD (0,[])
def xjW (l:LA):=(xjY l).fst
def xjX (l:LA):=(xjY l).snd
def xjV (l:LA):=xva (List.take (xjW l) (List.drop 0 (xjX l)))
def xkv {T:Type} (l:LA) (δ:T) (κ:LA->T):T:=br ((Iter (xbs l (↑l.length:Int)) (0,0,[])).isSome) (br (decide (0+xjW l<=(xjX l).length)&&true) (br ((xjV l).isSome) (κ ((xjV l).getD [])) δ) δ) δ
def xel (l:LA):=xkv l none some
def xub:EO:=xGl.f Tryz.func66 20 0 [] [(3,xma.lp)] (lk1 xma.ok) (u1 (uL 2)) (fun (l,_) _=>xkv l) (fun _ p=>AV.list 2 p) []
def xka {T:Type} (o n:Int) (e f:Nat) (k p m j:Int) (h l i g a:Nat) (b:LA) (d:Nat) (c:LA) (δ:T) (κl:(Int×Int×Nat×Nat×Nat×Nat×Nat×LA×Nat×LA)->T) (κr:(Int×Nat×Nat×Nat×Nat×LA×Nat×LA×Nat)->T):T:=br (decide (m<p)) (br (a==e) (br (a==e) (br (a==e&&(decide (f<b.length)&&xMK (Sh.int .i64) ((b.getD f .top).cells.getD 0 .top))) (br (d==g&&(rmB i c 1 16)) (κl (i64.wrap (m+1),j,h,l,i+1,g+1,a,List.take h b,g+1,c++[AV.agg [AV.int .i64 ((b.getD f .top).cells.getD 0 .top).toInt,AV.int .i64 o]])) δ) δ) δ) δ) (κr (j,l,h,g,i,b,a,c,d))
def xck (m n:Int) (e f:Nat) (k o:Int):StT (Int×Int×Nat×Nat×Nat×Nat×Nat×LA×Nat×LA) (Int×Nat×Nat×Nat×Nat×LA×Nat×LA×Nat):=fun (p,g,h,i,j,l,a,b,c,d)=>xka m n e f k o p g h i j l a b c d none inL inR
def xiZ:=xub.l 71 5 [] [] Tryz.f99 1 lk0 [0,1,2,3,4,7,8,37,38] [0,1,2,3,4,7,8] [(3,0,0)] (q9 qI qI (xNH 0 0 0 0) (xNH 1 0 0 0) (xNH 2 0 0 0) (pOwnV 3 0) qI qI qI) (q5 (qB 0 1 3 (q1 qI)) (xNJ 0 1 142 false false (q1 (pOslV 3 0))) (xNJ 0 1 47 false false (q1 (pOslV 4 0))) (pBoxV 2 144 false true xNy) (pBoxV 2 44 false true xNy)) (fun (o,n,_,_,_,(e,f),k,q,r,_) ((g,_),((h,i),_),((j,m),_),(a,b),(c,d),_)=>(xck o n e f k q,(r,g,i,h,m,j,a,b,c,d),fun p=>(.leaf (.exit 2) [AV.int .i64 o,AV.int .i64 n,AV.own 0 0 0 0,AV.own 1 0 0 0,AV.own 2 0 0 0,AV.own 3 e f 0,AV.int .i64 k] [bF 0 1 3 [AV.int .i64 p.1],⟨0,1,142,[AV.osl 3 p.2.1 0 p.2.2.1],false,false⟩,⟨0,1,47,[AV.osl 4 p.2.2.2.1 0 p.2.2.2.2.1],false,false⟩,bF p.2.2.2.2.2.2.1 2 144 p.2.2.2.2.2.1,bF p.2.2.2.2.2.2.2.2 2 44 p.2.2.2.2.2.2.2.1]))) (0,0,0,0,0,[],0,[],0) fun (o,n,_,_,_,(e,f),k,q,_,_) _ (r,g,i,h,m,j,a,b,c,d)=>(((o,n,(),(),(),(e,f),k,q,r,()),((g,()),((h,i),()),((j,m),()),(a,b),(c,d),())),xka o n e f k q r g i h m j a b c d none)
def xay (a:Nat):Nat:=0+(i64.wrap ((↑a:Int) - 1)).toNat
def xcK (n b:Int) (c d:Nat) (a:LA):Int:=if i64.wrap (b - n)<((a.getD (xay c) .top).cells.getD 1 .top).toInt then i64.wrap (b - n) else ((a.getD (xay c) .top).cells.getD 1 .top).toInt
def xhD (j n d:Int) (c g h i a:Nat) (b:LA) (e:Nat) (f:LA):=Iter (xck j n g (xay c) (xcK n d c a b) (xcK n d c a b)) (0,d,c,g,h,i,a,List.take c b,e,f)
def xfm (j n e:Int) (f g h i a:Nat) (b:LA) (c:Nat) (d:LA):=(xhD j n e f g h i a b c d).getD (0,0,0,0,0,[],0,[],0)
def xhC (j n e:Int) (f g h i a:Nat) (b:LA) (c:Nat) (d:LA):=(xfm j n e f g h i a b c d).snd
def xer (j n e:Int) (f g h i a:Nat) (b:LA) (c:Nat) (d:LA):=(xhC j n e f g h i a b c d).fst
def xhB (j n e:Int) (f g h i a:Nat) (b:LA) (c:Nat) (d:LA):=(xhC j n e f g h i a b c d).snd
def xeq (j n e:Int) (f g h i a:Nat) (b:LA) (c:Nat) (d:LA):=(xhB j n e f g h i a b c d).fst
def xfl (j n e:Int) (f g h i a:Nat) (b:LA) (c:Nat) (d:LA):=(xhB j n e f g h i a b c d).snd
def xep (j n e:Int) (f g h i a:Nat) (b:LA) (c:Nat) (d:LA):=i64.wrap ((↑(xeq j n e f g h i a b c d):Int) - 1)
def xfk (j n e:Int) (f g h i a:Nat) (b:LA) (c:Nat) (d:LA):=(xfl j n e f g h i a b c d).snd
def xhA (j n e:Int) (f g h i a:Nat) (b:LA) (c:Nat) (d:LA):=(xfk j n e f g h i a b c d).snd
def xf3 (j n e:Int) (f g h i a:Nat) (b:LA) (c:Nat) (d:LA):=(xhA j n e f g h i a b c d).fst
def xiY (j n e:Int) (f g h i a:Nat) (b:LA) (c:Nat) (d:LA):=(xhA j n e f g h i a b c d).snd
def xcj (j n f:Int) (g e h i a:Nat) (b:LA) (c:Nat) (d:LA):=(xiY j n f g e h i a b c d).fst==e
def xiX (j n f:Int) (e g h i a:Nat) (b:LA) (c:Nat) (d:LA):=decide (xay e<(xf3 j n f e g h i a b c d).length)
def xeo (j n f:Int) (e g h i a:Nat) (b:LA) (c:Nat) (d:LA):=((xf3 j n f e g h i a b c d).getD (xay e) .top).cells
def xes (j n e:Int) (f g h i a:Nat) (b:LA) (c:Nat) (d:LA):=(xiY j n e f g h i a b c d).snd
def xdl (j n f:Int) (e g h i a:Nat) (b:LA) (c:Nat) (d:LA):=(xf3 j n f e g h i a b c d).set (xay e) (AV.agg (List.take 1 (xeo j n f e g h i a b c d)++[AV.int .i64 (i64.wrap (((xeo j n f e g h i a b c d).getD 1 .top).toInt - xcK n f e a b))]++List.drop 2 (xeo j n f e g h i a b c d)))
def xe4 {T:Type} (j n g:Int) (f e h i a:Nat) (b:LA) (c:Nat) (d:LA) (δ:T) (κl:(Int×Nat×Nat×Nat×Nat×Nat×LA×Nat×LA)->T) (κr:(Int×Nat×Nat×Nat×Nat×LA×Nat×LA×Nat)->T):T:=br (decide (g>n)) (br (a==e) (br (a==e&&(decide (0<=i64.wrap ((↑f:Int) - 1))&&decide (i64.wrap ((↑f:Int) - 1)<(↑f:Int)))) (br (a==e) (br (a==e) (br (a==e&&(decide (xay f<b.length)&&xMK (Sh.int .i64) ((b.getD (xay f) .top).cells.getD 1 .top))) (br ((xhD j n g f e h i a b c d).isSome) (br (xcj j n g f e h i a b c d) (br (xcj j n g f e h i a b c d) (br (xcj j n g f e h i a b c d&&(xiX j n g f e h i a b c d&&xMK (Sh.int .i64) ((xeo j n g f e h i a b c d).getD 1 .top))) (br (xcj j n g f e h i a b c d) (br (xcj j n g f e h i a b c d) (br (xcj j n g f e h i a b c d&&xiX j n g f e h i a b c d) (br (e==e) (br (e==e) (br (e==e&&(decide (xay f<(xdl j n g f e h i a b c d).length)&&xMK (Sh.int .i64) (((xdl j n g f e h i a b c d).getD (xay f) .top).cells.getD 1 .top))) (br ((((xdl j n g f e h i a b c d).getD (xay f) .top).cells.getD 1 .top).toInt==0) (br (e==xer j n g f e h i a b c d) (br (e==xer j n g f e h i a b c d&&(decide (0<=xep j n g f e h i a b c d)&&decide (xep j n g f e h i a b c d<=(↑(xeq j n g f e h i a b c d):Int))&&true)) (κl (i64.wrap ((xfm j n g f e h i a b c d).fst - xcK n g f a b),(xep j n g f e h i a b c d).toNat - 0,xer j n g f e h i a b c d,(xfk j n g f e h i a b c d).fst,(xfl j n g f e h i a b c d).fst,e,List.take ((xep j n g f e h i a b c d).toNat - 0) (xdl j n g f e h i a b c d),(xes j n g f e h i a b c d).snd,(xes j n g f e h i a b c d).fst)) δ) δ) (κl (i64.wrap ((xfm j n g f e h i a b c d).fst - xcK n g f a b),xeq j n g f e h i a b c d,xer j n g f e h i a b c d,(xfk j n g f e h i a b c d).fst,(xfl j n g f e h i a b c d).fst,e,List.take (xeq j n g f e h i a b c d) (xdl j n g f e h i a b c d),(xes j n g f e h i a b c d).snd,(xes j n g f e h i a b c d).fst))) δ) δ) δ) δ) δ) δ) δ) δ) δ) δ) δ) δ) δ) δ) δ) (κr (g,e,f,i,h,b,a,d,c))
def xbD (j n:Int):StT (Int×Nat×Nat×Nat×Nat×Nat×LA×Nat×LA) (Int×Nat×Nat×Nat×Nat×LA×Nat×LA×Nat):=fun (e,f,g,h,i,a,b,c,d)=>xe4 j n e f g h i a b c d none inL inR
def xsf:=xub.l 71 5 [] [(7,xiZ.lp)] Tryz.f99 0 (lk1 xiZ.ok) [0,1,2,3,4] [] [(3,0,0)] (q5 qI qI (xNH 0 0 0 0) (xNH 1 0 0 0) (xNH 2 0 0 0)) (q5 (qB 0 1 3 (q1 qI)) (xNJ 0 1 142 false false (q1 (pOslV 3 0))) (xNJ 0 1 47 false false (q1 (pOslV 4 0))) (pBoxV 2 144 false true xNy) (pBoxV 2 44 false true xNy)) (fun (j,n,_,_,_,_) ((e,_),((f,g),_),((h,i),_),(a,b),(c,d),_)=>(xbD j n,(e,g,f,i,h,a,b,c,d),fun p=>(.leaf (.exit 0) [] [bF 0 1 3 [AV.int .i64 p.1],⟨0,1,142,[AV.osl 3 p.2.1 0 p.2.2.1],false,false⟩,⟨0,1,47,[AV.osl 4 p.2.2.2.1 0 p.2.2.2.2.1],false,false⟩,bF p.2.2.2.2.2.2.1 2 144 p.2.2.2.2.2.1,bF p.2.2.2.2.2.2.2.2 2 44 p.2.2.2.2.2.2.2.1]))) (0,0,0,0,0,[],0,[],0) fun (j,n,_,_,_,_) _ (e,g,f,i,h,a,b,c,d)=>(((j,n,(),(),(),()),((e,()),((f,g),()),((h,i),()),(a,b),(c,d),())),xe4 j n e g f i h a b c d none)
def xgB:Env:=xub.E.fn 71 5 (lsOf []) (xM7 [(7,xiZ.lp),(3,xsf.lp)])
theorem xyv:xMM P0 (xNs.at 5) xgB:=xub.ok.fn
theorem xvW:LoOk P0 (xNs.at xgB.pin) xgB (Tryz.f99.body.getD .skip):=xho (ls:=[xMQ Tryz.f99 0,xMQ Tryz.f99 1]) (by kernel_rfl) (lkC xsf.ok (lkC xiZ.ok lkN))
def xlu (a n h:Int) (b c:Nat) (d e:LA):=Iter (xbD a n) (n,b+1,1,c,0,1,List.take (b+1) (d++[AV.agg [AV.int .i64 a,AV.int .i64 (i64.wrap (n - h))]]),0,e)
def xlv (a n h:Int) (b c:Nat) (d e:LA):=Iter (xbD a n) (h,b,0,c,0,0,List.take b d,0,e)
def xlp (a n h:Int) (b c:Nat) (d e:LA):=(xlu a n h b c d e).getD (0,0,0,0,0,[],0,[],0)
def xlt (a n h:Int) (b c:Nat) (d e:LA):=(xlv a n h b c d e).getD (0,0,0,0,0,[],0,[],0)
def xmr (a n h:Int) (b c:Nat) (d e:LA):=(xlp a n h b c d e).snd
def xls (a n h:Int) (b c:Nat) (d e:LA):=(xlt a n h b c d e).snd
def xmo (a n h:Int) (b c:Nat) (d e:LA):=(xmr a n h b c d e).snd
def xlr (a n h:Int) (b c:Nat) (d e:LA):=(xls a n h b c d e).snd
def xmn (a n h:Int) (b c:Nat) (d e:LA):=(xmo a n h b c d e).snd
def xlq (a n h:Int) (b c:Nat) (d e:LA):=(xlr a n h b c d e).snd
def xmm (a n h:Int) (b c:Nat) (d e:LA):=(xmn a n h b c d e).snd
def xlo (a n h:Int) (b c:Nat) (d e:LA):=(xlq a n h b c d e).snd
def xml (a n h:Int) (b c:Nat) (d e:LA):=(xmm a n h b c d e).snd
def xms (a n h:Int) (b c:Nat) (d e:LA):=(xlo a n h b c d e).snd
def xmk (a n h:Int) (b c:Nat) (d e:LA):=(xml a n h b c d e).snd
def xmq (a n h:Int) (b c:Nat) (d e:LA):=(xms a n h b c d e).snd
def xmj (a n h:Int) (b c:Nat) (d e:LA):=(xmk a n h b c d e).snd
def xmp (a n h:Int) (b c:Nat) (d e:LA):=(xmq a n h b c d e).snd
def xkQ {T:Type} (a n h:Int) (b d:Nat) (c e:LA) (δ:T) (κ:Int×Nat×Nat×Nat×Nat×LA×Nat×LA×Nat->T):T:=br (decide (n>h)) (br (rmB b c 1 16) (br ((xlu a n h b d c e).isSome) (κ ((xlp a n h b d c e).fst,(xmr a n h b d c e).fst,(xmo a n h b d c e).fst,(xmn a n h b d c e).fst,(xmm a n h b d c e).fst,(xml a n h b d c e).fst,(xmk a n h b d c e).fst,(xmj a n h b d c e).fst,(xmj a n h b d c e).snd)) δ) δ) (br ((xlv a n h b d c e).isSome) (κ ((xlt a n h b d c e).fst,(xls a n h b d c e).fst,(xlr a n h b d c e).fst,(xlq a n h b d c e).fst,(xlo a n h b d c e).fst,(xms a n h b d c e).fst,(xmq a n h b d c e).fst,(xmp a n h b d c e).fst,(xmp a n h b d c e).snd)) δ)
def xln (a n h:Int) (b c:Nat) (d e:LA):=xkQ a n h b c d e none some
theorem xCM (a n h:Int) (b c:Nat) (d e:LA):Enc (fun (p:Int×Nat×Nat×Nat×Nat×LA×Nat×LA×Nat)=>(((AV.tuple [],([⟨0,1,3,[AV.int .i64 p.1],false,true⟩,⟨0,1,142,[AV.osl 3 p.2.1 0 p.2.2.1],false,false⟩,⟨0,1,47,[AV.osl 4 p.2.2.2.1 0 p.2.2.2.2.1],false,false⟩,⟨p.2.2.2.2.2.2.1,2,144,p.2.2.2.2.2.1,false,true⟩,⟨p.2.2.2.2.2.2.2.2,2,44,p.2.2.2.2.2.2.2.1,false,true⟩]:List Box))):(AV×List Box))) (xln a n h b c d e) (XFM P0 xgB Tryz.f99 (Tryz.f99.body.getD .skip) [AV.int .i64 a,AV.int .i64 n,AV.own (0:Id) 0 0 0,AV.own (1:Id) 0 0 0,AV.own (2:Id) 0 0 0] [{ ver:=0,sz:=1,ty:=(3:TypeId),xs:=[AV.int .i64 h],frz:=false,pm:=true },{ ver:=0,sz:=1,ty:=(142:TypeId),xs:=[AV.osl (3:Id) 0 0 b],frz:=false,pm:=false },{ ver:=0,sz:=1,ty:=(47:TypeId),xs:=[AV.osl (4:Id) 0 0 c],frz:=false,pm:=false },{ ver:=0,sz:=2,ty:=(144:TypeId),xs:=d,frz:=false,pm:=true },{ ver:=0,sz:=2,ty:=(44:TypeId),xs:=e,frz:=false,pm:=true }]):=by
 have h:XFM P0 xgB Tryz.f99 (Tryz.f99.body.getD .skip) [AV.int .i64 a,AV.int .i64 n,AV.own (0:Id) 0 0 0,AV.own (1:Id) 0 0 0,AV.own (2:Id) 0 0 0] [{ ver:=0,sz:=1,ty:=(3:TypeId),xs:=[AV.int .i64 h],frz:=false,pm:=true },{ ver:=0,sz:=1,ty:=(142:TypeId),xs:=[AV.osl (3:Id) 0 0 b],frz:=false,pm:=false },{ ver:=0,sz:=1,ty:=(47:TypeId),xs:=[AV.osl (4:Id) 0 0 c],frz:=false,pm:=false },{ ver:=0,sz:=2,ty:=(144:TypeId),xs:=d,frz:=false,pm:=true },{ ver:=0,sz:=2,ty:=(44:TypeId),xs:=e,frz:=false,pm:=true }]=xkQ a n h b c d e none (fun (p:Int×Nat×Nat×Nat×Nat×LA×Nat×LA×Nat)=>some (((AV.tuple [],([⟨0,1,3,[AV.int .i64 p.1],false,true⟩,⟨0,1,142,[AV.osl 3 p.2.1 0 p.2.2.1],false,false⟩,⟨0,1,47,[AV.osl 4 p.2.2.2.1 0 p.2.2.2.2.1],false,false⟩,⟨p.2.2.2.2.2.2.1,2,144,p.2.2.2.2.2.1,false,true⟩,⟨p.2.2.2.2.2.2.2.2,2,44,p.2.2.2.2.2.2.2.1,false,true⟩]:List Box))):(AV×List Box))):=by kernel_rfl
 rw [h];unfold xln xkQ;repeat' (first|refine Enc.br ?_ ?_|exact Enc.none|exact Enc.some rfl)
end Go.Sim.M
end
noncomputable section
set_option maxRecDepth 100000
namespace Go.Sim
open Go.RowKit
theorem GoodM.aged {P:Program} {Inv:IV} {f:FuncId} {args:List AV} {H E:List Box} {p q v k t s y:Nat} {xs:List AV}
  (h:GoodM P Inv f args H (.tuple []) E) (hz:∀ bx,H[q]?=some bx->bx.ver=0)
  (ep:E[p]?=some ⟨0,1,t,[.osl (.b q) v 0 k],false,false⟩) (eq:E[q]?=some ⟨v,s,y,xs,false,true⟩) (pt:isC t=false) (py:isC y=false)
  (ho:∀ n bx,E[n]?=some bx->isC bx.ty=false/\(n=p\/n=q\/bx.pm=true\/∃ n' v' k',n'≠q/\bx.xs=[.osl (.b n') v' 0 k'])) :
  GoodM P Inv f args H (.tuple []) ((E.set p ⟨0,1,t,[.osl (.b q) 1 0 k],false,false⟩).set q ⟨1,s,y,xs,false,true⟩):=by
 have pq:p≠q:=fun e=>by
  subst e;rw [ep] at eq;simp at eq
 refine ⟨h.1,fun w0 w A M vs hI hB hR ab=>(h.2 w0 w A M vs hI hB hR ab).mono ?_⟩
 rintro e w' ⟨u,A',M',rfl,h1,h2,h3,h4,h5⟩;let M'':Id->Option MB:=fun id=>if id=.b q then (M' id).map fun m=>⟨m.b,1,m.sz,m.cap,m.ty⟩ else M' id
 have eo:∀ id,id≠.b q->M'' id=M' id:=fun id g1=>if_neg g1
 have e4:∀ m,M' (.b q)=some m->M'' (.b q)=some ⟨m.b,1,m.sz,m.cap,m.ty⟩:=fun m hm=>(if_pos rfl).trans (by rw [hm];rfl)
 have O:∀ id m1,M'' id=some m1->∃ m0,M' id=some m0/\m1.b=m0.b/\m1.cap=m0.cap:=fun id m1 J=>by
  by_cases g3:id=.b q
  . subst g3;cases hm:M' (.b q) with
    | none=>simp [M'',hm] at J
    | some m=>rw [e4 m hm] at J;simp only [z6] at J;subst J;exact ⟨m,rfl,rfl,rfl⟩
  . exact ⟨m1,eo id g3▸J,rfl,rfl⟩
 have Q:∀ n bx m,E[n]?=some bx->M' (.b n)=some m->BoxAt w' A' M' w0.heap.size (.b n) m bx:=fun n bx m hn hm=>by
  obtain ⟨bx',g1,g2⟩:=h4.box _ m hm;rw [xaT,hn] at g1;cases g1;exact g2
 have hv:∀ m,M' (.b q)=some m->v=m.ver:=fun m hm=>(Q q _ m eq hm).ver
 have hx:∀ c n' v' k',n'≠q->Rel w' A' M' c (.osl (.b n') v' 0 k')->Rel w' A' M'' c (.osl (.b n') v' 0 k'):=fun c n' v' k' hn hr=>by
  obtain ⟨m0,g1,g2,g3,g4⟩:=Rel.osl_inv hr;exact .osl c _ v' 0 k' m0 ((eo _ fun e=>hn (by cases e;rfl)).trans g1) g2 g3 g4
 have hy:∀ c,Rel w' A' M' c (.osl (.b q) v 0 k)->Rel w' A' M'' c (.osl (.b q) 1 0 k):=fun c hr=>by
  obtain ⟨m0,g1,g2,g3,g4⟩:=Rel.osl_inv hr;exact .osl c _ 1 0 k _ (e4 m0 g1) (zd _) g3 fun _=>g4 (hv m0 g1)
 have hb:∀ id (bx bx':Box) (m m':MB),isC bx.ty=false->bx'=⟨m'.ver,bx.sz,bx.ty,bx'.xs,bx.frz,bx.pm⟩->m'=⟨m.b,m'.ver,m.sz,m.cap,m.ty⟩->bx'.xs.length=bx.xs.length->(∀ x,x∈bx'.xs->x.okElem m.sz=true) ->
   (∀ c i j,Rel w' A' (MP M' bx.pm) c ((bx.xs.getD i .top).cells.getD j .top)->Rel w' A' (MP M'' bx.pm) c ((bx'.xs.getD i .top).cells.getD j .top))->BoxAt w' A' M' w0.heap.size id m bx->BoxAt w' A' M'' w0.heap.size id m' bx':=fun id bx bx' m m' U Y ac hl W hc g=>by
  rw [Y,ac];have V:xMO m.ty=false:=g.nomap (xas U);refine ⟨rfl,g.sz,g.ty,g.capm,hl▸g.fits,W,g.low,g.lt,fun h0=>?_,g.guard⟩
  obtain ⟨c,c1,c2,c3⟩:=g.cells h0;refine ⟨c,.of V (c1.plain V),c2,fun i j hi hj=>?_⟩
  have:=c3 i j (hl▸hi) hj;rw [xal U,xaF U] at this;rw [xal U,xaF (bx:=⟨m'.ver,bx.sz,bx.ty,bx'.xs,bx.frz,bx.pm⟩) U];exact hc _ i j this
 have ht:∀ a v1 v2 d,(∀ c,Rel w' A' M' c (.osl a v1 0 d)->Rel w' A' M'' c (.osl a v2 0 d))->∀ c i j,Rel w' A' M' c ((([.osl a v1 0 d]:List AV).getD i .top).cells.getD j .top)->Rel w' A' M'' c ((([.osl a v2 0 d]:List AV).getD i .top).cells.getD j .top):=fun a v1 v2 d hh c i j hr=>by
  match i,j with
  | 0,0=>exact hh c hr
  | 0,j+1=>exact .top _
  | i+1,0=>exact .top _
  | i+1,j+1=>exact .top _
 have hg:∀ n bx,E[n]?=some bx->∃ bx',((E.set p ⟨0,1,t,[.osl (.b q) 1 0 k],false,false⟩).set q ⟨1,s,y,xs,false,true⟩)[n]?=some bx'/\isC bx'.ty=false/\(∀ m m1,M' (.b n)=some m->M'' (.b n)=some m1->BoxAt w' A' M'' w0.heap.size (.b n) m1 bx'):=fun n bx hn=>by
  have hn':=xbO hn;obtain ⟨hC,hc⟩:=ho n bx hn;by_cases g1:n=q
  . subst g1;rw [hn] at eq;cases eq;refine ⟨_,zL (by simpa using hn'),py,fun m m1 e1 e2=>?_⟩
    rw [e4 m e1] at e2;cases e2;have g:=Q n _ m hn e1;exact hb _ ⟨v,s,y,xs,false,true⟩ ⟨1,s,y,xs,false,true⟩ m _ py rfl rfl rfl g.ok (fun c i j hr=>hr) g
  . have ge:∀ m m1,M' (.b n)=some m->M'' (.b n)=some m1->m1=m:=fun m m1 e1 e2=>by
     rw [eo _ fun e=>g1 (by cases e;rfl),e1] at e2;cases e2;rfl
    by_cases g2:n=p
    . subst g2;rw [hn] at ep;cases ep;refine ⟨_,(zX (Ne.symm g1)).trans (zL hn'),pt,fun m m1 e1 e2=>?_⟩
      cases ge m m1 e1 e2;have g:=Q n _ m hn e1;have hv:0=m.ver:=g.ver;have hz:m.sz=1:=g.sz.symm;exact hb _ ⟨0,1,t,[.osl (.b q) v 0 k],false,false⟩ ⟨0,1,t,[.osl (.b q) 1 0 k],false,false⟩ m m pt (by rw [<-hv]) rfl rfl (fun x hx=>by simp only [zv] at hx;subst hx;rw [hz];rfl) (ht _ _ _ _ hy) g
    . refine ⟨bx,(zX (Ne.symm g1)).trans ((zX (Ne.symm g2)).trans hn),hC,fun m m1 e1 e2=>?_⟩
      cases ge m m1 e1 e2;have g:=Q n _ m hn e1;refine hb _ bx bx m m hC (by rw [<-g.ver]) rfl rfl g.ok ?_ g
      rcases hc with hc|hc|hc|⟨n',v',k',hc,hd⟩
      . exact absurd hc g2
      . exact absurd hc g1
      . rw [hc];exact fun c i j hr=>hr
      . cases ad:bx.pm with
        | true=>exact fun c i j hr=>hr
        | false=>rw [hd];exact ht _ _ _ _ fun c=>hx c n' v' k' hc
 have hR':HR w' A' M'' w0.heap.size ((E.set p ⟨0,1,t,[.osl (.b q) 1 0 k],false,false⟩).set q ⟨1,s,y,xs,false,true⟩):=by
  refine ⟨fun id m1 J=>?_,fun id id' m1 m2 k1 k2 c1 c2 he=>?_,h4.lt⟩
  . obtain ⟨m0,g1,_⟩:=O id m1 J;obtain ⟨bx,q1,q2⟩:=h4.box _ m0 g1;cases id with
    | r n i j =>
     rw [eo _ (fun e=>by cases e),g1] at J
     cases J;obtain ⟨c0,r1,_⟩:=xnV q1;obtain ⟨bx',r2,r3,_⟩:=hg n c0 r1;rw [xch r1 (ho n c0 r1).1] at q1;cases q1;exact ⟨_,xch r2 r3,hb _ tombB tombB m1 m1 rfl (by rw [<-q2.ver]) rfl rfl q2.ok (fun c i j hr=>hr) q2⟩
    | b n =>
     obtain ⟨bx',r2,_,r3⟩:=hg n bx q1;exact ⟨bx',r2,r3 _ _ g1 J⟩
  . obtain ⟨n1,a1,a2,a3⟩:=O id m1 k1;obtain ⟨n2,b1,b2,b3⟩:=O id' m2 k2;exact h4.inj id id' n1 n2 a1 b1 (a3▸c1) (b3▸c2) (by rw [<-a2,<-b2,he])
 refine ⟨u,A',M'',rfl,h1,h2,⟨h3.size,h3.keep,h3.less,h3.more,fun id m Z hm=>?_,fun id m1 J h0=>?_⟩,hR',?_⟩
 . obtain ⟨m',g1,g2⟩:=h3.ids id m Z hm;by_cases q4:id=.b q
   . subst q4;obtain ⟨bx,r1,r2⟩:=hR.box _ m hm;exact ⟨_,e4 m' g1,.inr (by rw [<-r2.ver,hz bx r1];exact Nat.zero_lt_one)⟩
   . exact ⟨m',(eo id q4).trans g1,g2⟩
 . obtain ⟨m0,g1,g2,g3⟩:=O id m1 J;rw [g2];exact h3.src id m0 g1 (g3▸h0)
 . obtain ⟨aa,rfl,q1,_⟩:=h5.tuple_inv;exact .tuple aa [] q1 (by simp)
namespace M
open Go.Proofs
noncomputable def set2 (q n h:Int) (ns no:Nat) (sx ox:List AV):Option (Int×Nat×Nat×List AV×List AV):=(xln q n h ns no sx ox).bind fun p =>
 br (Nat.beq p.2.1 p.2.2.2.2.2.2.1&&Nat.beq p.2.2.2.1 p.2.2.2.2.2.2.2.2) (some (p.1,p.2.2.1,p.2.2.2.2.1,p.2.2.2.2.2.1,p.2.2.2.2.2.2.2.1)) none
noncomputable def xHR:List AV->List Box->Option (Bool×AV×List Box):=omOf (xNu (sEq (pInt IntKind.i64)) (xNu (sEq (pInt IntKind.i64)) (xNu (sEq (xNH 0 0 0 0)) (xNu (sEq (xNH 1 0 0 0)) (xNu (sEq (xNH 2 0 0 0)) xNw)))))
 (xNt (xNJ 0 1 3 false true (xNt (pInt IntKind.i64) xNv)) (xNt (xNJ 0 1 142 false false (xNt (xNG 3 0 0) xNv)) (xNt (xNJ 0 1 47 false false (xNt (xNG 4 0 0) xNv)) (xNt (xNJ 0 2 144 false true xNy) (xNt (xNJ 0 2 44 false true xNy) xNv)))))
 fun (q,(n,(_,(_,(_,_))))) ((h,_),((ns,_),((no,_),(sx,(ox,_)))))=>((set2 q n h ns no sx ox).isSome,(.tuple [],[⟨0,1,3,[.int .i64 ((set2 q n h ns no sx ox).getD (0,0,0,[],[])).1],false,true⟩,⟨0,1,142,[.osl (.b 3) 1 0 ((set2 q n h ns no sx ox).getD (0,0,0,[],[])).2.1],false,false⟩,⟨0,1,47,[.osl (.b 4) 1 0 ((set2 q n h ns no sx ox).getD (0,0,0,[],[])).2.2.1],false,false⟩,⟨1,2,144,((set2 q n h ns no sx ox).getD (0,0,0,[],[])).2.2.2.1,false,true⟩,⟨1,2,44,((set2 q n h ns no sx ox).getD (0,0,0,[],[])).2.2.2.2,false,true⟩]))
theorem xLg:OmOk P0 xNs 99 xHR:=xr2 fun vv bb rr Y hh=>by
 obtain ⟨J,⟨n,⟨_,⟨_,⟨_,_⟩⟩⟩⟩⟩:=vv;obtain ⟨⟨h,_⟩,⟨⟨ns,_⟩,⟨⟨no,_⟩,⟨sx,⟨ox,_⟩⟩⟩⟩⟩:=bb;obtain ⟨O,V⟩:=Prod.mk.inj hh;cases hs:xln J n h ns no sx ox with
 | none=>rw [show set2 J n h ns no sx ox=none by unfold set2;rw [hs];rfl] at O;simp at O
 | some p =>
  have U:set2 J n h ns no sx ox=br (Nat.beq p.2.1 p.2.2.2.2.2.2.1&&Nat.beq p.2.2.2.1 p.2.2.2.2.2.2.2.2) (some (p.1,p.2.2.1,p.2.2.2.2.1,p.2.2.2.2.2.1,p.2.2.2.2.2.2.2.1)) none:=by unfold set2;rw [hs];rfl
  cases ht:Nat.beq p.2.1 p.2.2.2.2.2.2.1&&Nat.beq p.2.2.2.1 p.2.2.2.2.2.2.2.2 with
  | false=>rw [U,ht] at O;simp [br] at O
  | true =>
   rw [ht] at U;have W:set2 J n h ns no sx ox=some (p.1,p.2.2.1,p.2.2.2.2.1,p.2.2.2.2.2.1,p.2.2.2.2.2.2.2.1):=U;rw [W] at V;simp only [zh] at V;simp only [zf] at ht;have e1:=zg ht.1;have e2:=zg ht.2;have hx:=xCM J n h ns no sx ox p hs;have hg:GoodM P0 xNs 99 _ _ _ _:=xgN (p:=xgB.pin) (xiH xMV (xMW P0 _) rfl xyv rfl Tryz.func99 rfl (by kernel_rfl) xvW hx)
   rw [<-e1,<-e2] at hg;have Q:=GoodM.aged (p:=1) (q:=3) hg (fun bx hb=>by cases hb;rfl) rfl rfl rfl rfl (fun n bx hn=>by
    match n with
    | 0=>cases hn;exact ⟨rfl,.inr (.inr (.inl rfl))⟩
    | 1=>cases hn;exact ⟨rfl,.inl rfl⟩
    | 2=>cases hn;exact ⟨rfl,.inr (.inr (.inr ⟨_,_,_,by decide,rfl⟩))⟩
    | 3=>cases hn;exact ⟨rfl,.inr (.inl rfl)⟩
    | 4=>cases hn;exact ⟨rfl,.inr (.inr (.inl rfl))⟩
    | n+5=>simp at hn)
   have Q:=GoodM.aged (p:=2) (q:=4) Q (fun bx hb=>by cases hb;rfl) rfl rfl rfl rfl (fun n bx hn=>by
    match n with
    | 0=>cases hn;exact ⟨rfl,.inr (.inr (.inl rfl))⟩
    | 1=>cases hn;exact ⟨rfl,.inr (.inr (.inr ⟨_,_,_,by decide,rfl⟩))⟩
    | 2=>cases hn;exact ⟨rfl,.inl rfl⟩
    | 3=>cases hn;exact ⟨rfl,.inr (.inr (.inl rfl))⟩
    | 4=>cases hn;exact ⟨rfl,.inr (.inl rfl)⟩
    | n+5=>simp at hn)
   obtain ⟨rfl,rfl⟩:=Prod.mk.inj V;exact Q
noncomputable def ESet:Env:=xub.E.withM 99 xHR
theorem xJj:xMM P0 xNs ESet:=xub.ok.withM xLg
noncomputable def xEn:EO:=EO.mk ESet xJj
end M
end Go.Sim
end
noncomputable section
set_option maxRecDepth 100000
namespace Go.Sim.M
open Go.IntKind (i64 u64 u8)
open Go.RowKit Go.Proofs
def xlf (a:LA) (h b:Int) (f c:Nat) (g:Int) (d e:LA):Int:=if 0>(gC a b 1).toInt then 0 else (gC a b 1).toInt
def xle (f:LA) (h g:Int) (d a:Nat) (e:Int) (b c:LA):=set2 (gC f g 0).toInt (if 1048576<xlf f h g d a e b c then 1048576 else xlf f h g d a e b c) e a d c b
def xld (f:LA) (g h:Int) (d a:Nat) (e:Int) (b c:LA):=(xle f g h d a e b c).getD (0,0,0,[],[])
def xlc (f:LA) (g h:Int) (d a:Nat) (e:Int) (b c:LA):=(xld f g h d a e b c).snd
def xla (f:LA) (g h:Int) (d a:Nat) (e:Int) (b c:LA):=(xlc f g h d a e b c).fst
def xlb (f:LA) (g h:Int) (d a:Nat) (e:Int) (b c:LA):=(xlc f g h d a e b c).snd
def xk9 (f:LA) (g h:Int) (d a:Nat) (e:Int) (b c:LA):=(xlb f g h d a e b c).snd
def xhN {T:Type} (g:LA) (h e:Int) (d a:Nat) (f:Int) (b c:LA) (δ:T) (κl:(Int×Nat×Nat×Int×LA×LA)->T) (κr:(Nat×Int×Nat×LA×LA)->T):T:=br (decide (e<h)) (br (ixI g e) (br (ixT g e 2 [Sh.int .i64,Sh.int .i64] 0) (br ((xle g h e d a f b c).isSome) (κl (i64.wrap (e+1),(xlb g h e d a f b c).fst,xla g h e d a f b c,(xld g h e d a f b c).fst,(xk9 g h e d a f b c).snd,List.take (xla g h e d a f b c) (xk9 g h e d a f b c).fst)) δ) δ) δ) (κr (d,f,a,b,c))
def xcI (f:LA) (g:Int):StT (Int×Nat×Nat×Int×LA×LA) (Nat×Int×Nat×LA×LA):=fun (h,d,a,e,b,c)=>xhN f g h d a e b c none inL inR
def xqL:=xEn.l 30 0 [] [] Tryz.f65 0 lk0 [3,4,6,10,11,12] [3,6] [(3,2,44),(4,2,144),(4,0,0)] (q6 (xNH 0 0 0 0) (xNH 1 0 0 0) (xM8 99 (q3 (xNH 2 0 0 0) (xNH 1 0 0 0) (xNH 0 0 0 0))) (qL 2) qI qI) (q5 (xNJ 0 1 47 false false (q1 (xNG 3 0 0))) (xNJ 0 1 142 false false (q1 (xNG 4 0 0))) (qB 0 1 3 (q1 qI)) (qB 0 2 44 xNy) (qB 0 2 144 xNy)) (fun (_,_,(_,_,_,_),f,g,h,_) ((d,_),(a,_),(e,_),b,c,_)=>(xcI f g,(h,d,a,e,b,c),fun p=>(.leaf (.exit 0) [AV.own 0 0 0 0,AV.func 99 [AV.own 1 0 0 0,AV.own 2 0 0 0,AV.own 0 0 0 0]] [⟨0,1,47,[AV.osl 3 0 0 p.1],false,false⟩,bF 0 1 3 [AV.int .i64 p.2.1],⟨0,1,142,[AV.osl 4 0 0 p.2.2.1],false,false⟩,bF 0 2 44 p.2.2.2.1,bF 0 2 144 p.2.2.2.2]))) (0,0,0,[],[]) fun (_,_,(_,_,_,_),f,g,_,_) _ (h,d,a,e,b,c)=>((((),(),((),(),(),()),f,g,h,()),((d,()),(a,()),(e,()),b,c,())),xhN f g h d a e b c none)
def xoY (l:LA):=Iter (xcI l (↑l.length:Int)) (0,0,0,0,[],[])
def xoX (l:LA):=(xoY l).getD (0,0,0,[],[])
def xoW (l:LA):=(xoX l).snd
def xoV (l:LA):=(xoW l).snd
def xoU (l:LA):=(xoV l).snd
def xoT (l:LA):=set2 1099511627776 0 (xoW l).fst (xoV l).fst (xoX l).fst (xoU l).snd (xoU l).fst
def xoS (l:LA):=((xoT l).getD (0,0,0,[],[])).snd.snd
def xhb (l:LA):=(xoS l).fst
def xhc (l:LA):=(xoS l).snd.snd
def xp7 {T:Type} (l:LA) (δ:T) (κ:LA->T):T:=br ((xoY l).isSome) (br ((xoT l).isSome) (br ((xhb l).beq (xhc l).length&&(decide (xhb l<4611686018427387904)&&(xhc l).all isP)) (br (decide (0+xhb l<=(srtP (xhc l)).length)&&true) (κ (List.take (xhb l) (List.drop 0 (srtP (xhc l))))) δ) δ) δ) δ
def xoR (l:LA):=xp7 l none some
def xKC:EO:=xEn.f Tryz.func65 30 0 [] [(6,xqL.lp)] (lk1 xqL.ok) (u1 (uL 2)) (fun (l,_) _=>xp7 l) (fun _ p=>AV.list 2 p) []
def xnz {T:Type} (a:LA) (δ:T) (κ:LA->T):T:=br ((↑a.length:Int)==1) (κ (a)) (br ((xel a).isSome) (br ((xoR ((xel a).getD [])).isSome) (κ ((xoR ((xel a).getD [])).getD [])) δ) δ)
def xfg (a:LA):=xnz a none some
def xB0:EO:=xKC.f Tryz.func64 10 0 [] [] lk0 (u1 (uL 2)) (fun (a,_) _=>xnz a) (fun _ p=>AV.list 2 p) []
def xko {T:Type} (b e:LA) (f:Int) (c:Nat) (a:Int) (d:LA) (δ:T) (κl:(Nat×Int×LA)->T) (κr:(Nat×LA)->T):T:=br (decide (a<f)) (br (decide (0<=a)&&decide (a<e.length)) (br (decide (a.toNat<e.length)&&((e.getD a.toNat .top).cells.length==2&&xMR [Sh.int .i64,Sh.int .i64] (e.getD a.toNat .top).cells 0)) (br (xcl ((e.getD a.toNat .top).cells.getD 0 .top).toInt ((e.getD a.toNat .top).cells.getD 1 .top).toInt) (br (c==d.length&&(decide ((c+2)*24<=140737488355328)&&decide (c+2<=4611686018427387904))) (κl (c+2,i64.wrap (a+1),d++[AV.agg [AV.int .i64 ((e.getD a.toNat .top).cells.getD 0 .top).toInt,AV.int .i64 1,AV.int .i64 0],AV.agg [AV.int .i64 ((e.getD a.toNat .top).cells.getD 1 .top).toInt,AV.int .i64 (-1),AV.int .i64 0]])) δ) (κl (c,i64.wrap (a+1),d))) δ) δ) (κr (c,d))
def xbF (b d:LA) (e:Int):StT (Nat×Int×LA) (Nat×LA):=fun (c,f,a)=>xko b d e c f a none inL inR
def xng:=xB0.l 49 0 [] [] Tryz.f97 0 lk0 [1,5,10,11,12] [1,5] [(5,3,137)] (q5 (qL 2) (xNG 0 0 0) (qL 2) qI qI) (q1 (qB 0 3 137 xNy)) (fun (b,c,d,e,f,_) (a,_)=>(xbF b d e,(c,f,a),fun p=>(.leaf (.exit 0) [AV.list 2 b,AV.osl 0 0 0 p.1] [bF 0 3 137 p.2]))) (0,[]) fun (b,_,d,e,_,_) _ (c,f,a)=>(((b,c,d,e,f,()),(a,())),xko b d e c f a none)
def xkp {T:Type} (d:LA) (e:Int) (b:Nat) (a:Int) (c:LA) (δ:T) (κl:(Nat×Int×LA)->T) (κr:(Nat×LA)->T):T:=br (decide (a<e)) (br (decide (0<=a)&&decide (a<d.length)) (br (decide (a.toNat<d.length)&&((d.getD a.toNat .top).cells.length==2&&xMR [Sh.int .i64,Sh.int .i64] (d.getD a.toNat .top).cells 0)) (br (xcl ((d.getD a.toNat .top).cells.getD 0 .top).toInt ((d.getD a.toNat .top).cells.getD 1 .top).toInt) (br (b==c.length&&(decide ((b+2)*24<=140737488355328)&&decide (b+2<=4611686018427387904))) (κl (b+2,i64.wrap (a+1),c++[AV.agg [AV.int .i64 ((d.getD a.toNat .top).cells.getD 0 .top).toInt,AV.int .i64 0,AV.int .i64 1],AV.agg [AV.int .i64 ((d.getD a.toNat .top).cells.getD 1 .top).toInt,AV.int .i64 0,AV.int .i64 (-1)]])) δ) (κl (b,i64.wrap (a+1),c))) δ) δ) (κr (b,c))
def xdL (c:LA) (d:Int):StT (Nat×Int×LA) (Nat×LA):=fun (b,e,a)=>xkp c d b e a none inL inR
def xsQ:=xB0.l 49 0 [] [(3,xng.lp)] Tryz.f97 1 lk0 [5,28,29,30] [5] [(5,3,137)] (q4 (xNG 0 0 0) (qL 2) qI qI) (q1 (qB 0 3 137 xNy)) (fun (b,c,d,e,_) (a,_)=>(xdL c d,(b,e,a),fun p=>(.leaf (.exit 2) [AV.osl 0 0 0 p.1] [bF 0 3 137 p.2]))) (0,[]) fun (_,c,d,_,_) _ (b,e,a)=>(((b,c,d,e,()),(a,())),xkp c d b e a none)
def xmE (a b:LA):=(Iter (xbF b a (↑a.length:Int)) (0,0,[])).getD (0,[])
def xmD (a b:LA):=Iter (xdL b (↑b.length:Int)) ((xmE a b).fst,0,(xmE a b).snd)
def xmC (a b:LA):=(xmD a b).getD (0,[])
def xgI (a b:LA):=(xmC a b).fst
def xgJ (a b:LA):=(xmC a b).snd
def xsR {T:Type} (a b:LA) (δ:T) (κ:LA->T):T:=br ((Iter (xbF b a (↑a.length:Int)) (0,0,[])).isSome) (br ((xmD a b).isSome) (br ((xgI a b).beq (xgJ a b).length&&(decide (xgI a b<4611686018427387904)&&(xgJ a b).all isE)) (br (decide (0+xgI a b<=(srtE (xgJ a b)).length)&&true) (κ (List.take (xgI a b) (List.drop 0 (srtE (xgJ a b))))) δ) δ) δ) δ
def xg5 (a b:LA):=xsR a b none some
def xKD:EO:=xB0.f Tryz.func97 49 0 [] [(3,xng.lp),(9,xsQ.lp)] (lks (lkC xng.ok (lkC xsQ.ok lkN))) (u2 (uL 2) (uL 2)) (fun (a,b,_) _=>xsR a b) (fun _ p=>AV.list 3 p) []
def xHT (a b:Bool):Bool:=((a))
def xfe (a b:Bool):Bool:=(br (a) ((!b)) ((false)))
def xwI {T:Type} (a b:Bool) (δ:T) (κ:Bool->T):T:=br (a) (κ (!b)) (κ (false))
def xB1:EO:=xKD.fT Tryz.func62 10 0 [] [] lk0 (fun (a,b,_)=>xwI a b none) (u2 (sEq pBool) (sEq pBool)) (fun (a,b,_)=>xfe a b) (fun _ p=>(AV.bool p))
def xk7 (l:LA) (i:Int):=decide (0<=i)&&decide (i<l.length)
def xwK {T:Type} (l:LA) (e:Nat) (d b c i:Int) (a:LA) (δ:T) (κl:(Int×Int×Int×LA)->T) (κr:(Int×Int×Int×LA)->T):T:=br (decide (i<l.length)) (br (xk7 l i) (br (decide (i.toNat<l.length)&&xMK (Sh.int .i64) ((l.getD i.toNat .top).cells.getD 0 .top)) (br (((l.getD i.toNat .top).cells.getD 0 .top).toInt==d) (br (xk7 l i) (br (decide (i.toNat<l.length)&&xMK (Sh.int .i64) ((l.getD i.toNat .top).cells.getD 1 .top)) (br (xk7 l i) (br (decide (i.toNat<l.length)&&xMK (Sh.int .i64) ((l.getD i.toNat .top).cells.getD 2 .top)) (κl (i64.wrap (b+((l.getD i.toNat .top).cells.getD 1 .top).toInt),i64.wrap (c+((l.getD i.toNat .top).cells.getD 2 .top).toInt),i64.wrap (i+1),a)) δ) δ) δ) δ) (κr (b,c,i,a))) δ) δ) (κr (b,c,i,a))
def xoP (l:LA) (b:Nat) (c:Int):StT (Int×Int×Int×LA) (Int×Int×Int×LA):=fun (d,e,i,a)=>xwK l b c d e i a none inL inR
def xg7 (a:Nat):=decide (0<=i64.wrap ((↑a:Int) - 1))&&decide (i64.wrap ((↑a:Int) - 1)<(↑a:Int))
def xpc (l:LA) (b:Nat) (d e i c:Int) (a:LA):=(Iter (xoP l b c) (d,e,i,a)).getD (0,0,0,[])
def xaz (a:Nat):Nat:=0+(i64.wrap ((↑a:Int) - 1)).toNat
def xqF (l:LA) (b:Nat) (d e i c:Int) (a:LA):=(xpc l b d e i c a).snd
def xbg (l:LA) (b:Nat) (d e i c:Int) (a:LA):=(xpc l b d e i c a).fst
def xqE (l:LA) (b:Nat) (d e i c:Int) (a:LA):=(xqF l b d e i c a).snd
def xbf (l:LA) (b:Nat) (d e i c:Int) (a:LA):=(xqF l b d e i c a).fst
def xaf (l:LA) (b:Nat) (d e i c:Int) (a:LA):=(xqE l b d e i c a).snd
def xqC (l:LA) (b:Nat) (d e i c:Int) (a:LA):=xHT (decide (xbg l b d e i c a>0)) (decide (xbf l b d e i c a>0))
def xah (l:LA) (b:Nat) (d e i c:Int) (a:LA):=(xqE l b d e i c a).fst
def xg6 (l:LA) (a:Nat) (d e i c:Int) (b:LA):=decide (xaz a<(xaf l a d e i c b).length)
def xqD (l:LA) (b:Nat) (d e i c:Int) (a:LA):=decide (xah l b d e i c a<l.length)
def xwJ {T:Type} (l:LA) (a:Nat) (d e i c:Int) (b:LA) (δ:T) (κl:(Nat×Int×Int×Int×Int×LA)->T) (κr:(Nat×LA)->T):T:=br (decide (c<1099511627776)) (br ((Iter (xoP l a c) (d,e,i,b)).isSome) (br (xqD l a d e i c b) (br (decide (0<=xah l a d e i c b)&&xqD l a d e i c b) (br (decide ((xah l a d e i c b).toNat<l.length)&&xMK (Sh.int .i64) ((l.getD (xah l a d e i c b).toNat .top).cells.getD 0 .top)) (br (xqC l a d e i c b) (br (decide ((↑a:Int)>0)) (br (xg7 a) (br (xg6 l a d e i c b&&xMK (Sh.int .i64) (((xaf l a d e i c b).getD (xaz a) .top).cells.getD 1 .top)) (br ((((xaf l a d e i c b).getD (xaz a) .top).cells.getD 1 .top).toInt==c) (br (xg7 a) (br (xg6 l a d e i c b) (κl (a,xbg l a d e i c b,xbf l a d e i c b,xah l a d e i c b,((l.getD (xah l a d e i c b).toNat .top).cells.getD 0 .top).toInt,(xaf l a d e i c b).set (xaz a) (AV.agg (List.take 1 ((xaf l a d e i c b).getD (xaz a) .top).cells++[AV.int .i64 ((l.getD (xah l a d e i c b).toNat .top).cells.getD 0 .top).toInt]++List.drop 2 ((xaf l a d e i c b).getD (xaz a) .top).cells)))) δ) δ) (br (a==(xaf l a d e i c b).length&&(decide ((a+1)*16<=140737488355328)&&decide (a+1<=4611686018427387904))) (κl (a+1,xbg l a d e i c b,xbf l a d e i c b,xah l a d e i c b,((l.getD (xah l a d e i c b).toNat .top).cells.getD 0 .top).toInt,xaf l a d e i c b++[AV.agg [AV.int .i64 c,AV.int .i64 ((l.getD (xah l a d e i c b).toNat .top).cells.getD 0 .top).toInt]])) δ)) δ) δ) (br (a==(xaf l a d e i c b).length&&(decide ((a+1)*16<=140737488355328)&&decide (a+1<=4611686018427387904))) (κl (a+1,xbg l a d e i c b,xbf l a d e i c b,xah l a d e i c b,((l.getD (xah l a d e i c b).toNat .top).cells.getD 0 .top).toInt,xaf l a d e i c b++[AV.agg [AV.int .i64 c,AV.int .i64 ((l.getD (xah l a d e i c b).toNat .top).cells.getD 0 .top).toInt]])) δ)) (κl (a,xbg l a d e i c b,xbf l a d e i c b,xah l a d e i c b,((l.getD (xah l a d e i c b).toNat .top).cells.getD 0 .top).toInt,xaf l a d e i c b))) δ) δ) (br (xqC l a d e i c b) (br (decide ((↑a:Int)>0)) (br (xg7 a) (br (xg6 l a d e i c b&&xMK (Sh.int .i64) (((xaf l a d e i c b).getD (xaz a) .top).cells.getD 1 .top)) (br ((((xaf l a d e i c b).getD (xaz a) .top).cells.getD 1 .top).toInt==c) (br (xg7 a) (br (xg6 l a d e i c b) (κl (a,xbg l a d e i c b,xbf l a d e i c b,xah l a d e i c b,1099511627776,(xaf l a d e i c b).set (xaz a) (AV.agg (List.take 1 ((xaf l a d e i c b).getD (xaz a) .top).cells++[AV.int .i64 1099511627776]++List.drop 2 ((xaf l a d e i c b).getD (xaz a) .top).cells)))) δ) δ) (br (a==(xaf l a d e i c b).length&&(decide ((a+1)*16<=140737488355328)&&decide (a+1<=4611686018427387904))) (κl (a+1,xbg l a d e i c b,xbf l a d e i c b,xah l a d e i c b,1099511627776,xaf l a d e i c b++[AV.agg [AV.int .i64 c,AV.int .i64 1099511627776]])) δ)) δ) δ) (br (a==(xaf l a d e i c b).length&&(decide ((a+1)*16<=140737488355328)&&decide (a+1<=4611686018427387904))) (κl (a+1,xbg l a d e i c b,xbf l a d e i c b,xah l a d e i c b,1099511627776,xaf l a d e i c b++[AV.agg [AV.int .i64 c,AV.int .i64 1099511627776]])) δ)) (κl (a,xbg l a d e i c b,xbf l a d e i c b,xah l a d e i c b,1099511627776,xaf l a d e i c b)))) δ) (κr (a,b))
def xu9 (l:LA):StT (Nat×Int×Int×Int×Int×LA) (Nat×LA):=fun (b,d,e,i,c,a)=>xwJ l b d e i c a none inL inR
def xtp (a b:LA):=Iter (xu9 ((xg5 a b).getD [])) (0,0,0,0,0,[])
def xto (a b:LA):=(xtp a b).getD (0,[])
def xtm (a b:LA):=(xto a b).fst
def xtn (a b:LA):=(xto a b).snd
def xAq {T:Type} (a b:LA) (δ:T) (κ:LA->T):T:=br ((xg5 a b).isSome) (br ((xtp a b).isSome) (br (decide (0+xtm a b<=(xtn a b).length)&&true) (κ (List.take (xtm a b) (List.drop 0 (xtn a b)))) δ) δ) δ
def xwk (a b:LA):=xAq a b none some
def xHU {T:Type} (l:LA) (δ:T) (κ:LA->T):T:=br ((xwk l []).isSome) (κ ((xwk l []).getD [])) δ
def xwz (l:LA):=xHU l none some
def xk8 (l:LA) (i:Int):=decide (0<=i)&&decide (i<l.length)
def xrM {T:Type} (l:LA) (e:Nat) (d b c i:Int) (a:LA) (δ:T) (κl:(Int×Int×Int×LA)->T) (κr:(Int×Int×Int×LA)->T):T:=br (decide (i<l.length)) (br (xk8 l i) (br (decide (i.toNat<l.length)&&xMK (Sh.int .i64) ((l.getD i.toNat .top).cells.getD 0 .top)) (br (((l.getD i.toNat .top).cells.getD 0 .top).toInt==d) (br (xk8 l i) (br (decide (i.toNat<l.length)&&xMK (Sh.int .i64) ((l.getD i.toNat .top).cells.getD 1 .top)) (br (xk8 l i) (br (decide (i.toNat<l.length)&&xMK (Sh.int .i64) ((l.getD i.toNat .top).cells.getD 2 .top)) (κl (i64.wrap (b+((l.getD i.toNat .top).cells.getD 1 .top).toInt),i64.wrap (c+((l.getD i.toNat .top).cells.getD 2 .top).toInt),i64.wrap (i+1),a)) δ) δ) δ) δ) (κr (b,c,i,a))) δ) δ) (κr (b,c,i,a))
def xjo (l:LA) (b:Nat) (c:Int):StT (Int×Int×Int×LA) (Int×Int×Int×LA):=fun (d,e,i,a)=>xrM l b c d e i a none inL inR
def xha:=xB1.l 92 0 [] [] Tryz.f61 1 lk0 [2,7,8,9,10,11,12] [2,7,8,9,10,11,12] [(8,2,44)] (q7 (xM8 62 xNv) (qL 3) (xNG 0 0 0) qI qI qI qI) (q1 (qB 0 2 44 xNy)) (fun (_,l,a,d,e,i,c,_) (b,_)=>(xjo l a c,(d,e,i,b),fun p=>(.leaf (.exit 2) [AV.func 62 [],AV.list 3 l,AV.osl 0 0 0 a,AV.int .i64 p.1,AV.int .i64 p.2.1,AV.int .i64 p.2.2.1,AV.int .i64 c] [bF 0 2 44 p.2.2.2]))) (0,0,0,[]) fun (_,l,a,_,_,_,c,_) _ (d,e,i,b)=>((((),l,a,d,e,i,c,()),(b,())),xrM l a c d e i b none)
def xg9 (a:Nat):=decide (0<=i64.wrap ((↑a:Int) - 1))&&decide (i64.wrap ((↑a:Int) - 1)<(↑a:Int))
def xpd (l:LA) (b:Nat) (d e i c:Int) (a:LA):=(Iter (xjo l b c) (d,e,i,a)).getD (0,0,0,[])
def xaA (a:Nat):Nat:=0+(i64.wrap ((↑a:Int) - 1)).toNat
def xbi (l:LA) (b:Nat) (d e i c:Int) (a:LA):=(xpd l b d e i c a).fst
def xqK (l:LA) (b:Nat) (d e i c:Int) (a:LA):=(xpd l b d e i c a).snd
def xbh (l:LA) (b:Nat) (d e i c:Int) (a:LA):=(xqK l b d e i c a).fst
def xqJ (l:LA) (b:Nat) (d e i c:Int) (a:LA):=(xqK l b d e i c a).snd
def xag (l:LA) (b:Nat) (d e i c:Int) (a:LA):=(xqJ l b d e i c a).snd
def xqH (l:LA) (b:Nat) (d e i c:Int) (a:LA):=xfe (decide (xbi l b d e i c a>0)) (decide (xbh l b d e i c a>0))
def xai (l:LA) (b:Nat) (d e i c:Int) (a:LA):=(xqJ l b d e i c a).fst
def xg8 (l:LA) (a:Nat) (d e i c:Int) (b:LA):=decide (xaA a<(xag l a d e i c b).length)
def xqI (l:LA) (b:Nat) (d e i c:Int) (a:LA):=decide (xai l b d e i c a<l.length)
def xrL {T:Type} (l:LA) (a:Nat) (d e i c:Int) (b:LA) (δ:T) (κl:(Nat×Int×Int×Int×Int×LA)->T) (κr:(Nat×LA)->T):T:=br (decide (c<1099511627776)) (br ((Iter (xjo l a c) (d,e,i,b)).isSome) (br (xqI l a d e i c b) (br (decide (0<=xai l a d e i c b)&&xqI l a d e i c b) (br (decide ((xai l a d e i c b).toNat<l.length)&&xMK (Sh.int .i64) ((l.getD (xai l a d e i c b).toNat .top).cells.getD 0 .top)) (br (xqH l a d e i c b) (br (decide ((↑a:Int)>0)) (br (xg9 a) (br (xg8 l a d e i c b&&xMK (Sh.int .i64) (((xag l a d e i c b).getD (xaA a) .top).cells.getD 1 .top)) (br ((((xag l a d e i c b).getD (xaA a) .top).cells.getD 1 .top).toInt==c) (br (xg9 a) (br (xg8 l a d e i c b) (κl (a,xbi l a d e i c b,xbh l a d e i c b,xai l a d e i c b,((l.getD (xai l a d e i c b).toNat .top).cells.getD 0 .top).toInt,(xag l a d e i c b).set (xaA a) (AV.agg (List.take 1 ((xag l a d e i c b).getD (xaA a) .top).cells++[AV.int .i64 ((l.getD (xai l a d e i c b).toNat .top).cells.getD 0 .top).toInt]++List.drop 2 ((xag l a d e i c b).getD (xaA a) .top).cells)))) δ) δ) (br (a==(xag l a d e i c b).length&&(decide ((a+1)*16<=140737488355328)&&decide (a+1<=4611686018427387904))) (κl (a+1,xbi l a d e i c b,xbh l a d e i c b,xai l a d e i c b,((l.getD (xai l a d e i c b).toNat .top).cells.getD 0 .top).toInt,xag l a d e i c b++[AV.agg [AV.int .i64 c,AV.int .i64 ((l.getD (xai l a d e i c b).toNat .top).cells.getD 0 .top).toInt]])) δ)) δ) δ) (br (a==(xag l a d e i c b).length&&(decide ((a+1)*16<=140737488355328)&&decide (a+1<=4611686018427387904))) (κl (a+1,xbi l a d e i c b,xbh l a d e i c b,xai l a d e i c b,((l.getD (xai l a d e i c b).toNat .top).cells.getD 0 .top).toInt,xag l a d e i c b++[AV.agg [AV.int .i64 c,AV.int .i64 ((l.getD (xai l a d e i c b).toNat .top).cells.getD 0 .top).toInt]])) δ)) (κl (a,xbi l a d e i c b,xbh l a d e i c b,xai l a d e i c b,((l.getD (xai l a d e i c b).toNat .top).cells.getD 0 .top).toInt,xag l a d e i c b))) δ) δ) (br (xqH l a d e i c b) (br (decide ((↑a:Int)>0)) (br (xg9 a) (br (xg8 l a d e i c b&&xMK (Sh.int .i64) (((xag l a d e i c b).getD (xaA a) .top).cells.getD 1 .top)) (br ((((xag l a d e i c b).getD (xaA a) .top).cells.getD 1 .top).toInt==c) (br (xg9 a) (br (xg8 l a d e i c b) (κl (a,xbi l a d e i c b,xbh l a d e i c b,xai l a d e i c b,1099511627776,(xag l a d e i c b).set (xaA a) (AV.agg (List.take 1 ((xag l a d e i c b).getD (xaA a) .top).cells++[AV.int .i64 1099511627776]++List.drop 2 ((xag l a d e i c b).getD (xaA a) .top).cells)))) δ) δ) (br (a==(xag l a d e i c b).length&&(decide ((a+1)*16<=140737488355328)&&decide (a+1<=4611686018427387904))) (κl (a+1,xbi l a d e i c b,xbh l a d e i c b,xai l a d e i c b,1099511627776,xag l a d e i c b++[AV.agg [AV.int .i64 c,AV.int .i64 1099511627776]])) δ)) δ) δ) (br (a==(xag l a d e i c b).length&&(decide ((a+1)*16<=140737488355328)&&decide (a+1<=4611686018427387904))) (κl (a+1,xbi l a d e i c b,xbh l a d e i c b,xai l a d e i c b,1099511627776,xag l a d e i c b++[AV.agg [AV.int .i64 c,AV.int .i64 1099511627776]])) δ)) (κl (a,xbi l a d e i c b,xbh l a d e i c b,xai l a d e i c b,1099511627776,xag l a d e i c b)))) δ) (κr (a,b))
def xoQ (l:LA):StT (Nat×Int×Int×Int×Int×LA) (Nat×LA):=fun (b,d,e,i,c,a)=>xrL l b d e i c a none inL inR
def xqG:=xB1.l 92 0 [] [(6,xha.lp)] Tryz.f61 0 (lk1 xha.ok) [2,7,8,9,10,11,12] [8] [(8,2,44)] (q7 (xM8 62 xNv) (qL 3) (xNG 0 0 0) qI qI qI qI) (q1 (qB 0 2 44 xNy)) (fun (_,l,b,d,e,i,c,_) (a,_)=>(xoQ l,(b,d,e,i,c,a),fun p=>(.leaf (.exit 0) [AV.osl 0 0 0 p.1] [bF 0 2 44 p.2]))) (0,[]) fun (_,l,_,_,_,_,_,_) _ (b,d,e,i,c,a)=>((((),l,b,d,e,i,c,()),(a,())),xrL l b d e i c a none)
def xtt (a b:LA):=Iter (xoQ ((xg5 a b).getD [])) (0,0,0,0,0,[])
def xts (a b:LA):=(xtt a b).getD (0,[])
def xtq (a b:LA):=(xts a b).fst
def xtr (a b:LA):=(xts a b).snd
def xuw {T:Type} (a b:LA) (δ:T) (κ:LA->T):T:=br ((xg5 a b).isSome) (br ((xtt a b).isSome) (br (decide (0+xtq a b<=(xtr a b).length)&&true) (κ (List.take (xtq a b) (List.drop 0 (xtr a b)))) δ) δ) δ
def xsS (a b:LA):=xuw a b none some
def xKE:EO:=xB1.f Tryz.func61 92 0 [] [(6,xha.lp),(5,xqG.lp)] (lks (lkC xqG.ok (lkC xha.ok lkN))) (u3 (uL 2) (uL 2) (sEq (xM8 (62:FuncId) xNv))) (fun (a,b,_,_) _=>xuw a b) (fun _ p=>AV.list 2 p) []
def xoO {T:Type} (a b:LA) (δ:T) (κ:LA->T):T:=br ((xsS a b).isSome) (κ ((xsS a b).getD [])) δ
def xee (a b:LA):=xoO a b none some
def xB2:EO:=xKE.f Tryz.func35 8 0 [] [] lk0 (u2 (uL 2) (uL 2)) (fun (a,b,_) _=>xoO a b) (fun _ p=>AV.list 2 p) []
def xex {T:Type} (h:LA) (i j:Int) (e:LA) (f:Int) (d:Nat) (c:Int) (a b g:LA) (δ:T) (κl:(Nat×Int×LA×LA×LA)->T) (κr:(Nat×LA)->T):T:=br (decide (c<f)) (br (ixI e c) (br (ixT e c 2 [Sh.int .i64,Sh.int .i64] 0) (br (decide (b.length*32<=140737488355328)&&decide (b.length<=4611686018427387904)) (br (decide (0+b.length<=b.length)&&true&&true&&true&&true) (br (rmB d a 1 40) (κl (d+1,i64.wrap (c+1),a++[AV.agg [AV.list 3 (List.take b.length (List.drop 0 b)),AV.int .i64 (gC e c 0).toInt,AV.int .i64 (gC e c 1).toInt]],b,g)) δ) δ) δ) δ) δ) (κr (d,a))
def xbr (c:LA) (d e:Int) (f:LA) (g:Int):StT (Nat×Int×LA×LA×LA) (Nat×LA):=fun (b,h,a,i,j)=>xex c d e f g b h a i j none inL inR
def xeH:=xB2.l 38 0 [54] [] Tryz.f63 1 lk0 [1,5,7,11,12,13,20,21,22] [1,5,11,12,13] [(5,3,54)] (q9 (xM8 64 xNv) (xNG 0 0 0) (xNH 1 0 0 0) (qL 2) qI qI (qL 2) qI qI) (q2 (qB 0 3 54 xNy) (qB 0 2 141 (q1 (xNI (q2 (qL 3) (qL 2)))))) (fun (_,b,_,c,d,e,f,g,h,_) (a,((i,j,_),_),_)=>(xbr c d e f g,(b,h,a,i,j),fun p=>(.leaf (.exit 2) [AV.func 64 [],AV.osl 0 0 0 p.1,AV.list 2 c,AV.int .i64 d,AV.int .i64 e] [bF 0 3 54 p.2]))) (0,[]) fun (_,_,_,c,d,e,f,g,_,_) _ (b,h,a,i,j)=>((((),b,(),c,d,e,f,g,h,()),(a,((i,j,()),()),())),xex c d e f g b h a i j none)
def xhi (a:LA) (e:Int) (d:Nat) (b:Int) (c:LA):=Iter (xbr a e b ((xfg (gC a b 1).toList).getD []) (↑((xfg (gC a b 1).toList).getD []).length:Int)) (d,0,c,(gC a b 0).toList,(gC a b 1).toList)
def xhh (c:LA) (d:Int) (b:Nat) (e:Int) (a:LA):=(xhi c d b e a).getD (0,[])
def xeZ {T:Type} (d:LA) (e:Int) (c:Nat) (b:Int) (a:LA) (δ:T) (κl:(Nat×Int×LA)->T) (κr:(Nat×LA)->T):T:=br (decide (b<e)) (br (ixI d b) (br (ixT d b 2 [Sh.list 3,Sh.list 2] 0) (br ((xfg (gC d b 1).toList).isSome) (br ((xhi d e c b a).isSome) (κl ((xhh d e c b a).fst,i64.wrap (b+1),(xhh d e c b a).snd)) δ) δ) δ) δ) (κr (c,a))
def xce (c:LA) (d:Int):StT (Nat×Int×LA) (Nat×LA):=fun (b,e,a)=>xeZ c d b e a none inL inR
def xl9:=xB2.l 38 0 [54] [(6,xeH.lp)] Tryz.f63 0 (lk1 xeH.ok) [1,5,11,12,13] [5] [(5,3,54)] (q5 (xM8 64 xNv) (xNG 0 0 0) (qL 2) qI qI) (q1 (qB 0 3 54 xNy)) (fun (_,b,c,d,e,_) (a,_)=>(xce c d,(b,e,a),fun p=>(.leaf (.exit 0) [AV.osl 0 0 0 p.1] [bF 0 3 54 p.2]))) (0,[]) fun (_,_,c,d,_,_) _ (b,e,a)=>((((),b,c,d,e,()),(a,())),xeZ c d b e a none)
def xjU (l:LA):=Iter (xce ((xju l).getD []) (↑((xju l).getD []).length:Int)) (0,0,[])
def xjT (l:LA):=(xjU l).getD (0,[])
def xjR (l:LA):=(xjT l).fst
def xjS (l:LA):=(xjT l).snd
def xkt {T:Type} (l:LA) (δ:T) (κ:LA->T):T:=br ((xju l).isSome) (br ((xjU l).isSome) (br (decide (0+xjR l<=(xjS l).length)&&true) (κ (List.take (xjR l) (List.drop 0 (xjS l)))) δ) δ) δ
def xmI (l:LA):=xkt l none some
def xKF:EO:=xB2.f Tryz.func63 38 0 [54] [(6,xeH.lp),(3,xl9.lp)] (lks (lkC xl9.ok (lkC xeH.ok lkN))) (u2 (uL 3) (sEq (xM8 (64:FuncId) xNv))) (fun (l,_,_) _=>xkt l) (fun _ p=>AV.list 3 p) []
def xpe {T:Type} (l:LA) (δ:T) (κ:LA->T):T:=br ((xmI l).isSome) (κ ((xmI l).getD [])) δ
def xny (l:LA):=xpe l none some
def xGm:EO:=xKF.f Tryz.func36 5 0 [] [] lk0 (u1 (uL 3)) (fun (l,_) _=>xpe l) (fun _ p=>AV.list 3 p) []
def xug {T:Type} (h:LA) (i j:Int) (e:LA) (f:Int) (d:Nat) (c:Int) (a b g:LA) (δ:T) (κl:(Nat×Int×LA×LA×LA)->T) (κr:(Nat×LA)->T):T:=br (decide (c<f)) (br (ixI e c) (br (ixT e c 2 [Sh.int .i64,Sh.int .i64] 0) (br (decide (b.length*32<=140737488355328)&&decide (b.length<=4611686018427387904)) (br (decide (0+b.length<=b.length)&&true&&true&&true&&true) (br (rmB d a 1 40) (κl (d+1,i64.wrap (c+1),a++[AV.agg [AV.list 3 (List.take b.length (List.drop 0 b)),AV.int .i64 (gC e c 0).toInt,AV.int .i64 (gC e c 1).toInt]],b,g)) δ) δ) δ) δ) δ) (κr (d,a))
def xku (c:LA) (d e:Int) (f:LA) (g:Int):StT (Nat×Int×LA×LA×LA) (Nat×LA):=fun (b,h,a,i,j)=>xug c d e f g b h a i j none inL inR
def xhk (a:LA) (e:Int) (d:Nat) (b:Int) (c:LA):=Iter (xku a e b ((xwz (gC a b 1).toList).getD []) (↑((xwz (gC a b 1).toList).getD []).length:Int)) (d,0,c,(gC a b 0).toList,(gC a b 1).toList)
def xhj (c:LA) (d:Int) (b:Nat) (e:Int) (a:LA):=(xhk c d b e a).getD (0,[])
def xhO {T:Type} (d:LA) (e:Int) (c:Nat) (b:Int) (a:LA) (δ:T) (κl:(Nat×Int×LA)->T) (κr:(Nat×LA)->T):T:=br (decide (b<e)) (br (ixI d b) (br (ixT d b 2 [Sh.list 3,Sh.list 2] 0) (br ((xwz (gC d b 1).toList).isSome) (br ((xhk d e c b a).isSome) (κl ((xhj d e c b a).fst,i64.wrap (b+1),(xhj d e c b a).snd)) δ) δ) δ) δ) (κr (c,a))
def xf1 (c:LA) (d:Int):StT (Nat×Int×LA) (Nat×LA):=fun (b,e,a)=>xhO c d b e a none inL inR
def xgZ (b a:Bool):Int:=(br (b) (((-1))) (br (a) ((1)) ((0))))
def xDg {T:Type} (b a:Bool) (δ:T) (κ:Int->T):T:=br (b) (κ ((-1))) (br (a) (κ (1)) (κ (0)))
def xKG:EO:=xGm.fT Tryz.func81 7 0 [] [] lk0 (fun (b,a,_)=>xDg b a none) (u2 (sEq pBool) (sEq pBool)) (fun (b,a,_)=>xgZ b a) (fun _ p=>(AV.int .i64 p))
def xgD (a b:Int) (c:List UInt8) (d e:Int) (f:List UInt8):Int:=(br (a != d) ((xgZ (decide (a<d)) (decide (a>d)))) (br (b != e) ((xgZ (decide (b<e)) (decide (b>e)))) ((xgZ (Op.bytesLess c f) !(Op.bytesLess c f || c==f)))))
def xzz {T:Type} (a b:Int) (c:List UInt8) (d e:Int) (f:List UInt8) (δ:T) (κ:Int->T):T:=br (a != d) (κ (xgZ (decide (a<d)) (decide (a>d)))) (br (b != e) (κ (xgZ (decide (b<e)) (decide (b>e)))) (κ (xgZ (Op.bytesLess c f) !(Op.bytesLess c f || c==f))))
def xGn:EO:=xKG.fT Tryz.func49 48 0 [] [] lk0 (fun ((a,b,c,_),(d,e,f,_),_)=>xzz a b c d e f none) (u2 (xNL (u3 uI uI (sEq pStr))) (xNL (u3 uI uI (sEq pStr)))) (fun ((a,b,c,_),(d,e,f,_),_)=>xgD a b c d e f) (fun _ p=>(AV.int .i64 p))
def xc5 (a b:LA) (i:Int):=xgD (gC a i 0).toInt (gC a i 1).toInt (gC a i 2).toStr (gC b i 0).toInt (gC b i 1).toInt (gC b i 2).toStr
def xdw {T:Type} (a b:LA) (i:Int) (δ:T) (κl:(Int)->T) (κr:(Bool×(Int)×(Unit))->T):T:=br (decide (i<a.length)) (br (decide (i<b.length)) (br (ixI a i) (br (ixT a i 3 [Sh.int .i64,Sh.int .i64,Sh.str] 0) (br (ixI b i) (br (ixT b i 3 [Sh.int .i64,Sh.int .i64,Sh.str] 0) (br (xc5 a b i != 0) (κr (true,(xc5 a b i),())) (κl (i64.wrap (i+1)))) δ) δ) δ) δ) (κr (false,0,()))) (κr (false,0,()))
def xaL (a b:LA):StT (Int) (Bool×(Int)×(Unit)):=fun (i)=>xdw a b i none inL inR
def xo9:=xGn.l 41 0 [] [] Tryz.f24 0 lk0 [0,1,5] [0,1,4] [] (q3 (qL 3) (qL 3) qI) xNv (fun (a,b,i,_) _=>(xaL a b,(i),fun p=>(.node p.1 (.leaf .ret [AV.list 3 a,AV.list 3 b,AV.int .i64 p.2.1] []) (.leaf (.exit 0) [AV.list 3 a,AV.list 3 b,.top] [])))) (false,0,()) fun (a,b,_,_) _ (i)=>(((a,b,i,()),()),xdw a b i none)
def xob {T:Type} (a b:LA) (δ:T) (κ:Int->T):T:=br ((Iter (xaL a b) 0).isSome) (br (((Iter (xaL a b) 0).getD (false,0,())).fst) (κ (((Iter (xaL a b) 0).getD (false,0,())).snd.fst)) (br (decide ((↑a.length:Int)<(↑b.length:Int))) (κ ((-1))) (br (decide ((↑a.length:Int)>(↑b.length:Int))) (κ (1)) (κ (0))))) δ
def xaB (a b:LA):=xob a b none some
def xKH:EO:=xGn.f Tryz.func24 41 0 [] [(2,xo9.lp)] (lk1 xo9.ok) (u2 (uL 3) (uL 3)) (fun (a,b,_) _=>xob a b) (fun _ p=>AV.int .i64 p) 0
def xvo {T:Type} (a b:LA) (δ:T) (κ:Bool->T):T:=br ((xaB a b).isSome) (κ ((xaB a b).getD 0==0)) δ
def xtP (a b:LA):=xvo a b none some
def xdE (a b:LA) (i k:Int):=decide ((xaB (gC b k 0).toList (gC a i 0).toList).getD 0<0)
def xdF (b:LA) (k:Int):=decide (k.toNat<b.length)&&((b.getD k.toNat .top).cells.length==3&&xMR [Sh.list 3,Sh.int .i64,Sh.int .i64] (b.getD k.toNat .top).cells 0)
def xdG (a:LA) (i:Int):=decide (i.toNat<a.length)&&((a.getD i.toNat .top).cells.length==3&&xMR [Sh.list 3,Sh.int .i64,Sh.int .i64] (a.getD i.toNat .top).cells 0)
def xcu (b:LA) (k:Int):=ixI b k
def xcv (a:LA) (i:Int):=ixI a i
def xb5 {T:Type} (b:LA) (c:Nat) (i k:Int) (a:LA) (δ:T) (κl:(Nat×Int×Int×LA)->T):T:=br (xcu b k) (br (xdF b k) (br (rmB c a 1 40) (κl (c+1,i,i64.wrap (k+1),a++[AV.agg [AV.list 3 (gC b k 0).toList,AV.int .i64 (gC b k 1).toInt,AV.int .i64 (gC b k 2).toInt]])) δ) δ) δ
def xb6 {T:Type} (a:LA) (c:Nat) (i k:Int) (b:LA) (δ:T) (κl:(Nat×Int×Int×LA)->T):T:=br (xcv a i) (br (xdG a i) (br (rmB c b 1 40) (κl (c+1,i64.wrap (i+1),k,b++[AV.agg [AV.list 3 (gC a i 0).toList,AV.int .i64 (gC a i 1).toInt,AV.int .i64 (gC a i 2).toInt]])) δ) δ) δ
def xb4 {T:Type} (a b:LA) (d:Nat) (i k:Int) (c:LA) (δ:T) (κl:(Nat×Int×Int×LA)->T):T:=br (i==(↑a.length:Int)) (xb5 b d i k c δ κl) (br (decide (k<b.length)) (br (xcu b k) (br (ixS b k (Sh.list 3) 0) (br (xcv a i) (br (ixS a i (Sh.list 3) 0) (br ((xaB (gC b k 0).toList (gC a i 0).toList).isSome) (br (xdE a b i k) (xb5 b d i k c δ κl) (xb6 a d i k c δ κl)) δ) δ) δ) δ) δ) (xb6 a d i k c δ κl))
def xd8 {T:Type} (a b:LA) (d:Nat) (i k:Int) (c:LA) (δ:T) (κl:(Nat×Int×Int×LA)->T) (κr:(Nat×LA)->T):T:=br (decide (i<a.length)) (xb4 a b d i k c δ κl) (br (decide (k<b.length)) (xb4 a b d i k c δ κl) (κr (d,c)))
def xbd (a b:LA):StT (Nat×Int×Int×LA) (Nat×LA):=fun (d,i,k,c)=>xd8 a b d i k c none inL inR
def xoJ (a b:LA):=Iter (xbd a b) (0,0,0,[])
def xoI (a b:LA):=(xoJ a b).getD (0,[])
def xoG (a b:LA):=(xoI a b).snd
def xoH (a b:LA):=(xoI a b).fst
def xut {T:Type} (a b:LA) (δ:T) (κ:LA->T):T:=br ((xoJ a b).isSome) (br (decide (0+xoH a b<=(xoG a b).length)&&true) (κ (List.take (xoH a b) (List.drop 0 (xoG a b)))) δ) δ
def xsI (a b:LA):=xut a b none some
def xm3 (l:LA):=decide (0<=i64.wrap ((↑l.length:Int).tdiv 2))&&decide (i64.wrap ((↑l.length:Int).tdiv 2)<=(↑l.length:Int))
def xm4 (R:LA->Option (LA)) (l:LA):Option (LA):=R (List.take (l.length - (i64.wrap ((↑l.length:Int).tdiv 2)).toNat) (List.drop (i64.wrap ((↑l.length:Int).tdiv 2)).toNat l))
def xm2 (R:LA->Option (LA)) (l:LA):Option (LA):=xsI ((R (List.take ((i64.wrap ((↑l.length:Int).tdiv 2)).toNat - 0) (List.drop 0 l))).getD []) ((xm4 R l).getD [])
def xkk {T:Type} (R:LA->Option (LA)) (l:LA) (δ:T) (κ:LA->T):T:=br (decide ((↑l.length:Int)<2)) (κ (l)) (br (xm3 l&&true) (br ((R (List.take ((i64.wrap ((↑l.length:Int).tdiv 2)).toNat - 0) (List.drop 0 l))).isSome) (br (xm3 l) (br ((xm4 R l).isSome) (br ((xm2 R l).isSome) (κ ((xm2 R l).getD [])) δ) δ) δ) δ) δ)
def xfj (R:LA->Option (LA)) (l:LA):=xkk R l none some
def xcQ:Nat->LA->Option (LA)
 | 0=>fun _=>none
 | fu_+1=>fun l=>xfj (xcQ fu_) l
def xeI (a b:Int):Bool:=(br (decide (a>=0)) (br (decide (a<b)) ((decide (b<=1099511627776))) ((false))) ((false)))
def xBG {T:Type} (a b:Int) (δ:T) (κ:Bool->T):T:=br (decide (a>=0)) (br (decide (a<b)) (κ (decide (b<=1099511627776))) (κ (false))) (κ (false))
def xKI:EO:=xKH.fT Tryz.func78 18 0 [] [] lk0 (fun ((a,b,_),_)=>xBG a b none) (u1 (xNL (u2 uI uI))) (fun ((a,b,_),_)=>xeI a b) (fun _ p=>(AV.bool p))
def xh3 (a b t:Int):Bool:=(br (xeI a b) (br (decide (a<=t)) ((decide (t<b))) ((false))) ((false)))
def xyF {T:Type} (a b t:Int) (δ:T) (κ:Bool->T):T:=br (xeI a b) (br (decide (a<=t)) (κ (decide (t<b))) (κ (false))) (κ (false))
def xKJ:EO:=xKI.fT Tryz.func47 19 0 [] [] lk0 (fun ((a,b,_),t,_)=>xyF a b t none) (u2 (xNL (u2 uI uI)) uI) (fun ((a,b,_),t,_)=>xh3 a b t) (fun _ p=>(AV.bool p))
def xqQ (a b c d:Int):Int:=(br (a==c&&(b==d&&true)) ((0)) (br (decide (a<c)) (((-1))) (br (a==c) (br (decide (b<d)) (((-1))) ((1))) ((1)))))
def xFQ:Int×Int×List UInt8:=((0,0,[]))
def xDf {T:Type} (δ:T) (κ:Int×Int×List UInt8->T):T:=κ (0,0,[])
def xJg:EO:=xKJ.fT Tryz.func105 2 0 [] [] lk0 (fun _=>xDf none) xNw (fun _=>xFQ) (fun _ p=>(AV.agg [AV.int .i64 p.1,AV.int .i64 p.2.1,AV.str p.2.2]))
def xzA {T:Type} (a:LA) (i:Int) (δ:T) (κ:Int×Int×List UInt8->T):T:=br (decide (i<0)) (κ (0,0,[])) (br (decide (i>=a.length)) (κ (0,0,[])) (br (ixI a i) (br (ixT a i 3 [Sh.int .i64,Sh.int .i64,Sh.str] 0) (κ ((gC a i 0).toInt,(gC a i 1).toInt,(gC a i 2).toStr)) δ) δ))
def xi2 (a:LA) (i:Int):=xzA a i none some
def xuc:EO:=xJg.f Tryz.func70 18 0 [] [] lk0 (u2 (uL 3) uI) (fun (a,i,_) _=>xzA a i) (fun _ p=>AV.agg [AV.int .i64 p.1,AV.int .i64 p.2.1,AV.str p.2.2]) (0,0,[])
def xkX (o:LA) (i:Int):=ixI o i
def xqw (b o:LA) (i:Int):=(xi2 b (gC o i 0).toInt).getD (0,0,[])
def xqy (a o:LA) (i:Int):=(xi2 a (gC o i 0).toInt).getD (0,0,[])
def xqu (b o:LA) (i:Int):=(xqw b o i).snd
def xqv (a o:LA) (i:Int):=(xqy a o i).snd
def xqt (a b o:LA) (i:Int):=xgD (xqy a o i).fst (xqv a o i).fst (xqv a o i).snd (xqw b o i).fst (xqu b o i).fst (xqu b o i).snd
def xrH {T:Type} (a b o:LA) (i:Int) (δ:T) (κl:(Int)->T) (κr:(Bool×(Bool)×(Unit))->T):T:=br (decide (i<o.length)) (br (xkX o i) (br (ixS o i (Sh.int .i64) 0) (br ((xi2 a (gC o i 0).toInt).isSome) (br (xkX o i) (br (ixS o i (Sh.int .i64) 0) (br ((xi2 b (gC o i 0).toInt).isSome) (br (xqt a b o i != 0) (br (xkX o i) (br (decide (i.toNat<o.length)&&xMK Sh.bool (gC o i 1)) (κr (true,(!decide (xqt a b o i<0)==(gC o i 1).toBool),())) δ) δ) (κl (i64.wrap (i+1)))) δ) δ) δ) δ) δ) δ) (κr (false,false,()))
def xdY (a b o:LA):StT (Int) (Bool×(Bool)×(Unit)):=fun (i)=>xrH a b o i none inL inR
def xuo {T:Type} (a b o:LA) (δ:T) (κ:Bool->T):T:=br ((Iter (xdY a b o) 0).isSome) (br (((Iter (xdY a b o) 0).getD (false,false,())).fst) (κ (((Iter (xdY a b o) 0).getD (false,false,())).snd.fst)) (br ((xaB a b).isSome) (κ (decide ((xaB a b).getD 0<0))) δ)) δ
def xod (a b o:LA):=xuo a b o none some
def xcn (b:LA) (k:Int):=decide (k.toNat<b.length)&&xMK (Sh.list 3) (gC b k 0)
def xco (a:LA) (i:Int):=decide (i.toNat<a.length)&&xMK (Sh.list 3) (gC a i 0)
def xcp (a:LA) (i:Int):=ixI a i
def xcq (b:LA) (k:Int):=ixI b k
def xb0 {T:Type} (b:LA) (c:Nat) (i k:Int) (a:LA) (δ:T) (κl:(Nat×Int×Int×LA)->T):T:=br (xcq b k) (br (xcn b k) (br (rmB c a 1 24) (κl (c+1,i,i64.wrap (k+1),a++[AV.list 3 (gC b k 0).toList])) δ) δ) δ
def xb1 {T:Type} (a:LA) (c:Nat) (i k:Int) (b:LA) (δ:T) (κl:(Nat×Int×Int×LA)->T):T:=br (xcp a i) (br (xco a i) (br (rmB c b 1 24) (κl (c+1,i64.wrap (i+1),k,b++[AV.list 3 (gC a i 0).toList])) δ) δ) δ
def xbx {T:Type} (a b o:LA) (d:Nat) (i k:Int) (c:LA) (δ:T) (κl:(Nat×Int×Int×LA)->T):T:=br (i==(↑a.length:Int)) (xb0 b d i k c δ κl) (br (decide (k<b.length)) (br (xcq b k) (br (xcn b k) (br (xcp a i) (br (xco a i) (br ((xod (gC b k 0).toList (gC a i 0).toList o).isSome) (br ((xod (gC b k 0).toList (gC a i 0).toList o).getD false) (xb0 b d i k c δ κl) (xb1 a d i k c δ κl)) δ) δ) δ) δ) δ) (xb1 a d i k c δ κl))
def xd4 {T:Type} (a b o:LA) (d:Nat) (i k:Int) (c:LA) (δ:T) (κl:(Nat×Int×Int×LA)->T) (κr:(Nat×LA)->T):T:=br (decide (i<a.length)) (xbx a b o d i k c δ κl) (br (decide (k<b.length)) (xbx a b o d i k c δ κl) (κr (d,c)))
def xbc (a b o:LA):StT (Nat×Int×Int×LA) (Nat×LA):=fun (d,i,k,c)=>xd4 a b o d i k c none inL inR
def xoh (a b o:LA):=Iter (xbc a b o) (0,0,0,[])
def xog (a b o:LA):=(xoh a b o).getD (0,[])
def xoe (a b o:LA):=(xog a b o).snd
def xof (a b o:LA):=(xog a b o).fst
def xup {T:Type} (a b o:LA) (δ:T) (κ:LA->T):T:=br ((xoh a b o).isSome) (br (decide (0+xof a b o<=(xoe a b o).length)&&true) (κ (List.take (xof a b o) (List.drop 0 (xoe a b o)))) δ) δ
def xsr (a b o:LA):=xup a b o none some
def xih (l:LA):=decide (0<=i64.wrap ((↑l.length:Int).tdiv 2))&&decide (i64.wrap ((↑l.length:Int).tdiv 2)<=(↑l.length:Int))
def xew (l:LA):Nat:=0+((l.getD 0 .top).cells.getD 0 .top).toList.length
def xii (R:LA->LA->Option (LA)) (l o:LA):Option (LA):=R (List.take (l.length - (i64.wrap ((↑l.length:Int).tdiv 2)).toNat) (List.drop (i64.wrap ((↑l.length:Int).tdiv 2)).toNat l)) o
def xig (R:LA->LA->Option (LA)) (l o:LA):Option (LA):=xsr ((R (List.take ((i64.wrap ((↑l.length:Int).tdiv 2)).toNat - 0) (List.drop 0 l)) o).getD []) ((xii R l o).getD []) o
def xgE {T:Type} (R:LA->LA->Option (LA)) (l o:LA) (δ:T) (κ:LA->T):T:=br ((↑l.length:Int)==0) (κ ([])) (br ((↑l.length:Int)==1) (br (decide (0<(↑l.length:Int))) (br (decide (0<l.length)&&xMK (Sh.list 3) ((l.getD 0 .top).cells.getD 0 .top)) (br (decide (xew l*32<=140737488355328)&&decide (xew l<=4611686018427387904)) (br (decide (0+xew l<=([]++((l.getD 0 .top).cells.getD 0 .top).toList).length)&&true&&true&&true) (κ ([AV.list 3 (List.take (xew l) (List.drop 0 ([]++((l.getD 0 .top).cells.getD 0 .top).toList)))])) δ) δ) δ) δ) (br (xih l&&true) (br ((R (List.take ((i64.wrap ((↑l.length:Int).tdiv 2)).toNat - 0) (List.drop 0 l)) o).isSome) (br (xih l) (br ((xii R l o).isSome) (br ((xig R l o).isSome) (κ ((xig R l o).getD [])) δ) δ) δ) δ) δ))
def xdQ (R:LA->LA->Option (LA)) (l o:LA):=xgE R l o none some
def xdh:Nat->LA->LA->Option (LA)
 | 0=>fun _ _=>none
 | fu_+1=>fun l o=>xdQ (xdh fu_) l o
def xv9 {T:Type} (l:LA) (δ:T) (κ:LA->T):T:=br ((xdh 1000 l []).isSome) (κ ((xdh 1000 l []).getD [])) δ
def xoc (l:LA):=xv9 l none some
def xfI (a:LA) (i:Int):=decide (i.toNat<a.length)&&xMK (Sh.list 3) (gC a i 0)
def xfJ (a:LA) (i:Int):=ixI a i
def xfK (a:LA) (i:Int):=xtP ((a.getD (i64.wrap (i - 1)).toNat .top).cells.getD 0 .top).toList (gC a i 0).toList
def xdy {T:Type} (c:LA) (b:Nat) (i:Int) (a:LA) (δ:T) (κl:(Nat×Int×LA)->T):T:=br (xfJ c i) (br (xfI c i) (br (rmB b a 1 24) (κl (b+1,i64.wrap (i+1),a++[AV.list 3 (gC c i 0).toList])) δ) δ) δ
def xgi {T:Type} (a:LA) (c:Nat) (i:Int) (b:LA) (δ:T) (κl:(Nat×Int×LA)->T) (κr:(Nat×LA)->T):T:=br (decide (i<a.length)) (br (i==0) (xdy a c i b δ κl) (br (decide (0<=i64.wrap (i - 1))&&decide (i64.wrap (i - 1)<(↑a.length:Int))) (br (decide ((i64.wrap (i - 1)).toNat<a.length)&&xMK (Sh.list 3) ((a.getD (i64.wrap (i - 1)).toNat .top).cells.getD 0 .top)) (br (xfJ a i) (br (xfI a i) (br ((xfK a i).isSome) (br (!(xfK a i).getD false) (xdy a c i b δ κl) (κl (c,i64.wrap (i+1),b))) δ) δ) δ) δ) δ)) (κr (c,b))
def xbW (c:LA):StT (Nat×Int×LA) (Nat×LA):=fun (b,i,a)=>xgi c b i a none inL inR
def xlW (l:LA):=(Iter (xbW ((xoc l).getD [])) (0,0,[])).getD (0,[])
def xlU (l:LA):=(xlW l).snd
def xlV (l:LA):=(xlW l).fst
def xsm {T:Type} (l:LA) (δ:T) (κ:LA->T):T:=br ((xoc l).isSome) (br ((Iter (xbW ((xoc l).getD [])) (0,0,[])).isSome) (br (decide (0+xlV l<=(xlU l).length)&&true) (κ (List.take (xlV l) (List.drop 0 (xlU l)))) δ) δ) δ
def xpt (l:LA):=xsm l none some
def xoB {T:Type} (l:LA) (b:Nat) (i:Int) (a:LA) (δ:T) (κl:(Nat×Int×LA)->T) (κr:(Nat×LA)->T):T:=br (decide (i<l.length)) (br (ixI l i) (br (ixT l i 3 [Sh.int .i64,Sh.int .i64] 1) (br (xeI (gC l i 1).toInt (gC l i 2).toInt) (br (ixI l i) (br (ixS l i (Sh.list 3) 0) (br (rmB b a 1 24) (κl (b+1,i64.wrap (i+1),a++[AV.list 3 (gC l i 0).toList])) δ) δ) δ) (κl (b,i64.wrap (i+1),a))) δ) δ) (κr (b,a))
def xeS (l:LA):StT (Nat×Int×LA) (Nat×LA):=fun (b,i,a)=>xoB l b i a none inL inR
def xq9 (l:LA):=(Iter (xeS l) (0,0,[])).getD (0,[])
def xq7 (l:LA):=(xq9 l).fst
def xq8 (l:LA):=(xq9 l).snd
def xq6 (l:LA):=xpt (List.take (xq7 l) (List.drop 0 (xq8 l)))
def xwe {T:Type} (l:LA) (δ:T) (κ:LA->T):T:=br ((Iter (xeS l) (0,0,[])).isSome) (br (decide (0+xq7 l<=(xq8 l).length)&&true) (br ((xq6 l).isSome) (κ ((xq6 l).getD [])) δ) δ) δ
def xrW (l:LA):=xwe l none some
def xgC:Env:=xuc.E.fn 51 1 (lsOf []) (xM7 [])
theorem xyG:xMM P0 (xNs.at 1) xgC:=xuc.ok.fn
theorem xv7:LoOk P0 (xNs.at xgC.pin) xgC (Tryz.f85.body.getD .skip):=xmP (by kernel_rfl)
def xdg (k:Nat) (a:LA):=(List.take ((i64.wrap ((↑k:Int) - 1)).toNat - 0) (List.drop 0 a)).length
def xmu (k:Nat) (a:LA):=decide (0+(i64.wrap ((↑k:Int) - 1)).toNat<a.length)
def xjA (k:Nat) (a:LA):=((a.getD (0+(i64.wrap ((↑k:Int) - 1)).toNat) .top).cells.getD 1 .top).toInt
def xmv (k:Nat):=decide (0<=i64.wrap ((↑k:Int) - 1))
def xjz (k:Nat):=xmv k&&decide (i64.wrap ((↑k:Int) - 1)<(↑k:Int))
def xmt (k:Nat) (a:LA):=xmu k a&&xMK (Sh.int .i64) ((a.getD (0+(i64.wrap ((↑k:Int) - 1)).toNat) .top).cells.getD 1 .top)
def xh4 {T:Type} (k:Nat) (a b:Int) (c:LA) (δ:T) (κ:Bool×(Nat×LA×LA)×(Nat×LA)->T):T:=br (rmB k c 1 16) (κ (false,(0,[],[]),(k+1,c++[AV.agg [AV.int .i64 a,AV.int .i64 b]]))) δ
def xkV {T:Type} (k:Nat) (b c:Int) (a:LA) (δ:T) (κ:Bool×(Nat×LA×LA)×(Nat×LA)->T):T:=br (decide ((↑k:Int)>0)) (br (xjz k) (br (xmt k a) (br (decide (xjA k a>=b)) (br (xmv k&&decide (i64.wrap ((↑k:Int) - 1)<=(↑k:Int))&&true) (br (decide (0+((i64.wrap ((↑k:Int) - 1)).toNat - 0)<=a.length)&&(decide (xdg k a*16<=140737488355328)&&decide (xdg k a<=4611686018427387904))) (br (xjz k) (br (xmu k a&&xMK (Sh.int .i64) ((a.getD (0+(i64.wrap ((↑k:Int) - 1)).toNat) .top).cells.getD 0 .top)) (br (xjz k) (br (xmt k a) (br (xdg k a==xdg k a&&(decide ((xdg k a+1)*16<=140737488355328)&&decide (xdg k a+1<=4611686018427387904))) (κ (true,(xdg k a+1,a,List.take ((i64.wrap ((↑k:Int) - 1)).toNat - 0) (List.drop 0 a)++[AV.agg [AV.int .i64 ((a.getD (0+(i64.wrap ((↑k:Int) - 1)).toNat) .top).cells.getD 0 .top).toInt,AV.int .i64 (if c>xjA k a then c else xjA k a)]]),(0,[]))) δ) δ) δ) δ) δ) δ) δ) (xh4 k b c a δ κ)) δ) δ) (xh4 k b c a δ κ)
def xaV (k:Nat) (a b:Int) (c:LA):=xkV k a b c none some
theorem xDe (k:Nat) (a b:Int) (xs:LA):Enc (fun (p:Bool×(Nat×LA×LA)×(Nat×LA))=>((br p.1 ((AV.osl 1 0 0 p.2.1.1,([⟨0,2,44,p.2.1.2.1,false,true⟩,⟨0,2,44,p.2.1.2.2,false,true⟩]:List Box))) ((AV.osl 0 1 0 p.2.2.1,([⟨1,2,44,p.2.2.2,false,true⟩]:List Box)))):(AV×List Box))) (xaV k a b xs) (XFM P0 xgC Tryz.f85 (Tryz.f85.body.getD .skip) [AV.osl (0:Id) 0 0 k,AV.agg [AV.int .i64 a,AV.int .i64 b]] [{ ver:=0,sz:=2,ty:=(44:TypeId),xs:=xs,frz:=false,pm:=true }]):=by
 have h:XFM P0 xgC Tryz.f85 (Tryz.f85.body.getD .skip) [AV.osl (0:Id) 0 0 k,AV.agg [AV.int .i64 a,AV.int .i64 b]] [{ ver:=0,sz:=2,ty:=(44:TypeId),xs:=xs,frz:=false,pm:=true }]=xkV k a b xs none (fun (p:Bool×(Nat×LA×LA)×(Nat×LA))=>some ((br p.1 ((AV.osl 1 0 0 p.2.1.1,([⟨0,2,44,p.2.1.2.1,false,true⟩,⟨0,2,44,p.2.1.2.2,false,true⟩]:List Box))) ((AV.osl 0 1 0 p.2.2.1,([⟨1,2,44,p.2.2.2,false,true⟩]:List Box)))):(AV×List Box))):=by kernel_rfl
 rw [h];unfold xaV xkV xh4;repeat' (first|refine Enc.br ?_ ?_|exact Enc.none|exact Enc.some rfl)
def xDd:LA->List Box->Option (Bool×AV×List Box):=omOf (xNu (sEq (xNG 0 0 0)) (xNu (xNL (xNu (sEq (pInt .i64)) (xNu (sEq (pInt .i64)) xNw))) xNw)) (xNt (xNJ 0 2 (44:TypeId) false true xNy) xNv) fun (k,((a,(b,_)),_)) (c,_)=>((xaV k a b c).isSome,(AV.osl 1 0 0 (br ((xaV k a b c).getD (false,(0,[],[]),(0,[]))).1 ((xaV k a b c).getD (false,(0,[],[]),(0,[]))).2.1.1 ((xaV k a b c).getD (false,(0,[],[]),(0,[]))).2.2.1),
 ([⟨2,2,44,[],false,true⟩,⟨0,2,44,br ((xaV k a b c).getD (false,(0,[],[]),(0,[]))).1 ((xaV k a b c).getD (false,(0,[],[]),(0,[]))).2.1.2.2 ((xaV k a b c).getD (false,(0,[],[]),(0,[]))).2.2.2,false,true⟩]:List Box)))
theorem xDc:OmOk P0 xNs 85 (xDd):=xr2 fun e f j h g=>by
 obtain ⟨k,⟨⟨c,⟨i,_⟩⟩,_⟩⟩:=e;obtain ⟨l,_⟩:=f;obtain ⟨b,a⟩:=Prod.mk.inj g;have hx:=xDe _ _ _ _ _ (xbU (d:=(false,(0,[],[]),(0,[]))) b);revert hx a;generalize ((xaV _ _ _ _).getD (false,(0,[],[]),(0,[])))=p;intro a hx;obtain ⟨rfl,rfl⟩:=Prod.mk.inj a;obtain ⟨t,⟨m,n,o⟩,q,r⟩:=p;have hg:GoodM P0 xNs 85 _ _ _ _:=xgN (p:=xgC.pin) (xiH xMV (xMW P0 _) rfl xyG rfl Tryz.func85 rfl (by kernel_rfl) xv7 hx)
 cases t
 . exact GoodM.move0 rfl (by decide) hg
 . exact GoodM.drop0 rfl (by decide) hg
def xE9:EO:=xuc.wM xDc
def xfn {T:Type} (l:LA) (n:Int) (b:Nat) (i:Int) (a:LA) (δ:T) (κl:(Nat×Int×LA)->T) (κr:(Nat×Int×LA)->T):T:=br (decide (i<l.length)) (br (ixI l i) (br (ixS l i (Sh.int .i64) 0) (br (decide ((gC l i 0).toInt<n)) (br (ixI l i) (br (ixS l i (Sh.int .i64) 0) (br (rmB b a 1 8) (κl (b+1,i64.wrap (i+1),a++[AV.int .i64 (gC l i 0).toInt])) δ) δ) δ) (κr (b,i,a))) δ) δ) (κr (b,i,a))
def xbK (l:LA) (n:Int):StT (Nat×Int×LA) (Nat×Int×LA):=fun (b,i,a)=>xfn l n b i a none inL inR
def xkU:=xE9.l 58 0 [] [] Tryz.f79 0 lk0 [0,1,5,6] [0,1,5,6] [(5,1,3)] (q4 (qL 1) qI (xNG 0 0 0) qI) (q1 (qB 0 1 3 xNy)) (fun (l,n,b,i,_) (a,_)=>(xbK l n,(b,i,a),fun p=>(.leaf (.exit 0) [AV.list 1 l,AV.int .i64 n,AV.osl 0 0 0 p.1,AV.int .i64 p.2.1] [bF 0 1 3 p.2.2]))) (0,0,[]) fun (l,n,_,_,_) _ (b,i,a)=>(((l,n,b,i,()),(a,())),xfn l n b i a none)
def xhE {T:Type} (l:LA) (b:Nat) (i:Int) (a:LA) (δ:T) (κl:(Nat×Int×LA)->T) (κr:(Nat×LA)->T):T:=br (decide (i<l.length)) (br (ixI l i) (br (ixS l i (Sh.int .i64) 0) (br (rmB b a 1 8) (κl (b+1,i64.wrap (i+1),a++[AV.int .i64 (gC l i 0).toInt])) δ) δ) δ) (κr (b,a))
def xbL (l:LA):StT (Nat×Int×LA) (Nat×LA):=fun (b,i,a)=>xhE l b i a none inL inR
def xqq:=xE9.l 58 0 [] [(3,xkU.lp)] Tryz.f79 1 lk0 [0,5,6] [5] [(5,1,3)] (q3 (qL 1) (xNG 0 0 0) qI) (q1 (qB 0 1 3 xNy)) (fun (l,b,i,_) (a,_)=>(xbL l,(b,i,a),fun p=>(.leaf (.exit 2) [AV.osl 0 0 0 p.1] [bF 0 1 3 p.2]))) (0,[]) fun (l,_,_,_) _ (b,i,a)=>(((l,b,i,()),(a,())),xhE l b i a none)
def xf5 (l:LA) (n:Int):=(Iter (xbK l n) (0,0,[])).getD (0,0,[])
def xev (l:LA) (n:Int):=(xf5 l n).fst
def xf4 (l:LA) (n:Int):=(xf5 l n).snd
def xa9 (l:LA) (n:Int):=(xf4 l n).fst
def xet (l:LA) (n:Int):=xev l n+1
def xeu (l:LA) (n:Int):=(xf4 l n).snd
def xgU (l:LA) (n:Int):=Iter (xbL l) (xet l n,xa9 l n,xeu l n++[AV.int .i64 n])
def xgY (l:LA) (n:Int):=Iter (xbL l) (xev l n,xa9 l n,xeu l n)
def xi0 (l:LA) (n:Int):=xev l n==(xeu l n).length
def xgT (l:LA) (n:Int):=(xgU l n).getD (0,[])
def xkb (l:LA) (n:Int):=(xgU l n).isSome
def xgX (l:LA) (n:Int):=(xgY l n).getD (0,[])
def xgR (l:LA) (n:Int):=(xgT l n).fst
def xgS (l:LA) (n:Int):=(xgT l n).snd
def xgV (l:LA) (n:Int):=(xgX l n).fst
def xgW (l:LA) (n:Int):=(xgX l n).snd
def xmS {T:Type} (l:LA) (n:Int) (δ:T) (κ:LA->T):T:=br (xi0 l n&&(decide (xet l n*8<=140737488355328)&&decide (xet l n<=4611686018427387904))) (br (xkb l n) (br (decide (0+xgR l n<=(xgS l n).length)&&true) (κ (List.take (xgR l n) (List.drop 0 (xgS l n)))) δ) δ) δ
def xpk {T:Type} (l:LA) (n:Int) (δ:T) (κ:LA->T):T:=br ((Iter (xbK l n) (0,0,[])).isSome) (br (xa9 l n==(↑l.length:Int)) (xmS l n δ κ) (br (decide (0<=xa9 l n)&&decide (xa9 l n<l.length)) (br (decide ((xa9 l n).toNat<l.length)&&xMK (Sh.int .i64) ((l.getD (xa9 l n).toNat .top).cells.getD 0 .top)) (br (decide (((l.getD (xa9 l n).toNat .top).cells.getD 0 .top).toInt>n)) (xmS l n δ κ) (br ((xgY l n).isSome) (br (decide (0+xgV l n<=(xgW l n).length)&&true) (κ (List.take (xgV l n) (List.drop 0 (xgW l n)))) δ) δ)) δ) δ)) δ
def xbQ (l:LA) (n:Int):=xpk l n none some
def xGo:EO:=xE9.f Tryz.func79 58 0 [] [(3,xkU.lp),(8,xqq.lp)] (lks (lkC xkU.ok (lkC xqq.ok lkN))) (u2 (uL 1) uI) (fun (l,n,_) _=>xpk l n) (fun _ p=>AV.list 1 p) []
def xjB {T:Type} (k:Nat) (a n:Int) (b:LA) (δ:T) (κ:Bool×(Nat×LA)×(Nat×LA)->T):T:=br (rmB k b 1 16) (κ (false,(0,[]),(k+1,b++[AV.agg [AV.int .i64 a,AV.int .i64 n]]))) δ
def xqi {T:Type} (k:Nat) (a n:Int) (b:LA) (δ:T) (κ:Bool×(Nat×LA)×(Nat×LA)->T):T:=br (decide ((↑k:Int)>0)) (br (decide (0<=i64.wrap ((↑k:Int) - 1))&&decide (i64.wrap ((↑k:Int) - 1)<(↑k:Int))) (br (decide (0+(i64.wrap ((↑k:Int) - 1)).toNat<b.length)&&xMK (Sh.int .i64) ((b.getD (0+(i64.wrap ((↑k:Int) - 1)).toNat) .top).cells.getD 1 .top)) (br (((b.getD (0+(i64.wrap ((↑k:Int) - 1)).toNat) .top).cells.getD 1 .top).toInt==n) (κ (true,(k,b),(0,[]))) (xjB k a n b δ κ)) δ) δ) (xjB k a n b δ κ)
def xqs (k:Nat) (a n:Int) (b:LA):=xqi k a n b none some
def xh5 (l:LA) (i:Int):=ixI l i
def xqR {T:Type} (l a:LA) (i:Int) (δ:T) (κl:(LA×Int)->T) (κr:(LA)->T):T:=br (decide (i<l.length)) (br (xh5 l i) (br (ixT l i 3 [Sh.int .i64,Sh.int .i64] 0) (br (xeI (gC l i 0).toInt (gC l i 1).toInt) (br (xh5 l i) (br (ixS l i (Sh.int .i64) 0) (br ((xbQ a (gC l i 0).toInt).isSome) (br (xh5 l i) (br (ixS l i (Sh.int .i64) 1) (br ((xbQ ((xbQ a (gC l i 0).toInt).getD []) (gC l i 1).toInt).isSome) (κl ((xbQ ((xbQ a (gC l i 0).toInt).getD []) (gC l i 1).toInt).getD [],i64.wrap (i+1))) δ) δ) δ) δ) δ) δ) (κl (a,i64.wrap (i+1)))) δ) δ) (κr (a))
def xf6 (l:LA):StT (LA×Int) (LA):=fun (a,i)=>xqR l a i none inL inR
def xqS {T:Type} (l b:LA) (c:Nat) (k n i:Int) (a:LA) (δ:T) (κl:(Int×Int×LA)->T) (κr:(Int×LA)->T):T:=br (decide (i<l.length)) (br (ixI l i) (br (ixT l i 3 [Sh.int .i64,Sh.int .i64] 0) (br (ixI b k) (br (ixS b k (Sh.int .i64) 0) (br (xh3 (gC l i 0).toInt (gC l i 1).toInt (gC b k 0).toInt) (br (ixI l i) (br (ixS l i (Sh.int .i64) 2) (κl (i64.wrap (n+(gC l i 2).toInt),i64.wrap (i+1),a)) δ) δ) (κl (n,i64.wrap (i+1),a))) δ) δ) δ) δ) (κr (n,a))
def xf8 (l c:LA) (b:Nat) (k:Int):StT (Int×Int×LA) (Int×LA):=fun (n,i,a)=>xqS l c b k n i a none inL inR
def xic (l c:LA) (b:Nat) (k:Int) (a:LA):=(Iter (xf8 l c b k) (0,0,a)).getD (0,[])
def xib (l c:LA) (a:Nat) (k:Int) (b:LA):=xqs a (gC c k 0).toInt (xic l c a k b).fst (xic l c a k b).snd
def xia (l c:LA) (b:Nat) (k:Int) (a:LA):=(xib l c b k a).getD (false,(0,[]),0,[])
def xh8 (l c:LA) (b:Nat) (k:Int) (a:LA):=(xia l c b k a).snd
def xh9 (l c:LA) (b:Nat) (k:Int) (a:LA):=(xia l c b k a).fst
def xh6 (l c:LA) (b:Nat) (k:Int) (a:LA):=(xh8 l c b k a).fst
def xh7 (l c:LA) (b:Nat) (k:Int) (a:LA):=(xh8 l c b k a).snd
def xmw {T:Type} (l c:LA) (b:Nat) (k:Int) (a:LA) (δ:T) (κl:(Nat×Int×LA)->T) (κr:(Nat×LA)->T):T:=br (decide (k<c.length)) (br (ixI c k) (br (ixS c k (Sh.int .i64) 0) (br (decide ((gC c k 0).toInt<1099511627776)) (br ((Iter (xf8 l c b k) (0,0,a)).isSome) (br (ixI c k) (br (ixS c k (Sh.int .i64) 0) (br ((xib l c b k a).isSome) (κl (br (xh9 l c b k a) (xh6 l c b k a).fst (xh7 l c b k a).fst,i64.wrap (k+1),br (xh9 l c b k a) (xh6 l c b k a).snd (xh7 l c b k a).snd)) δ) δ) δ) δ) (κr (b,a))) δ) δ) (κr (b,a))
def xf7 (l c:LA):StT (Nat×Int×LA) (Nat×LA):=fun (b,k,a)=>xmw l c b k a none inL inR
def xtO (l:LA):=Iter (xf7 l ((Iter (xf6 l) ([AV.int .i64 0],0)).getD [])) (0,0,[])
def xtN (l:LA):=(xtO l).getD (0,[])
def xtL (l:LA):=(xtN l).snd
def xtM (l:LA):=(xtN l).fst
def xzy {T:Type} (l:LA) (δ:T) (κ:LA->T):T:=br ((Iter (xf6 l) ([AV.int .i64 0],0)).isSome) (br ((xtO l).isSome) (br (decide (0+xtM l<=(xtL l).length)&&true) (κ (List.take (xtM l) (List.drop 0 (xtL l)))) δ) δ) δ
def xyH (l:LA):=xzy l none some
def xl5 {T:Type} (l c:LA) (b:Nat) (i:Int) (a:LA) (δ:T) (κl:(Nat×Int×LA)->T) (κr:(Nat×LA)->T):T:=br (decide (i<l.length)) (br (ixI l i) (br (ixS l i (Sh.list 3) 0) (br ((xaB (gC l i 0).toList c).isSome) (br ((xaB (gC l i 0).toList c).getD 0==0) (br (ixI l i) (br (ixT l i 3 [Sh.int .i64,Sh.int .i64] 1) (br (rmB b a 1 24) (κl (b+1,i64.wrap (i+1),a++[AV.agg [AV.int .i64 (gC l i 1).toInt,AV.int .i64 (gC l i 2).toInt,AV.int .i64 1]])) δ) δ) δ) (κl (b,i64.wrap (i+1),a))) δ) δ) δ) (κr (b,a))
def xdx (l b:LA):StT (Nat×Int×LA) (Nat×LA):=fun (c,i,a)=>xl5 l b c i a none inL inR
def xow (l a:LA):=(Iter (xdx l a) (0,0,[])).getD (0,[])
def xou (l a:LA):=(xow l a).snd
def xov (l a:LA):=(xow l a).fst
def xot (l a:LA):=xyH (List.take (xov l a) (List.drop 0 (xou l a)))
def xur {T:Type} (l a:LA) (δ:T) (κ:LA->T):T:=br ((Iter (xdx l a) (0,0,[])).isSome) (br (decide (0+xov l a<=(xou l a).length)&&true) (br ((xot l a).isSome) (κ ((xot l a).getD [])) δ) δ) δ
def xos (l a:LA):=xur l a none some
def xhL {T:Type} (a:LA) (c:Nat) (i k:Int) (b:LA) (δ:T) (κl:(Int×LA)->T) (κr:(Int×LA)->T):T:=br (decide (k<a.length)) (br (ixI a k) (br (ixS a k (Sh.list 3) 0) (br (ixI a i) (br (ixS a i (Sh.list 3) 0) (br ((xaB (gC a k 0).toList (gC a i 0).toList).isSome) (br ((xaB (gC a k 0).toList (gC a i 0).toList).getD 0==0) (κl (i64.wrap (k+1),b)) (κr (k,b))) δ) δ) δ) δ) δ) (κr (k,b))
def xbN (c:LA) (b:Nat) (i:Int):StT (Int×LA) (Int×LA):=fun (k,a)=>xhL c b i k a none inL inR
def xhM {T:Type} (d:LA) (i k:Int) (a:LA) (c:Nat) (n:Int) (b:LA) (δ:T) (κl:(Nat×Int×LA)->T) (κr:(Nat×LA)->T):T:=br (decide (n<a.length)) (br (ixI a n) (br (ixS a n (Sh.list 3) 0) (br (decide (0<=k)&&decide (k<=d.length)&&(decide (0<=i)&&decide (i<=(↑k.toNat:Int)))) (br (ixI a n) (br (ixS a n (Sh.list 3) 0) (br ((xos (List.take (k.toNat - i.toNat) (List.drop i.toNat d)) (gC a n 0).toList).isSome) (br (rmB c b 1 48) (κl (c+1,i64.wrap (n+1),b++[AV.agg [AV.list 3 (gC a n 0).toList,AV.list 2 ((xos (List.take (k.toNat - i.toNat) (List.drop i.toNat d)) (gC a n 0).toList).getD [])]])) δ) δ) δ) δ) δ) δ) δ) (κr (c,b))
def xd1 (d:LA) (i k:Int) (c:LA):StT (Nat×Int×LA) (Nat×LA):=fun (b,n,a)=>xhM d i k c b n a none inL inR
def xbE (c:LA) (b:Nat) (i:Int) (a:LA):=((Iter (xbN c b i) (i,a)).getD (0,[])).fst
def xk0 (c:LA) (a:Nat) (i:Int) (b:LA):=Iter (xd1 c i (xbE c a i b) ((xrW (List.take ((xbE c a i b).toNat - i.toNat) (List.drop i.toNat c))).getD [])) (a,0,((Iter (xbN c a i) (i,b)).getD (0,[])).snd)
def xkx (c:LA) (b:Nat) (i:Int) (a:LA):=(xk0 c b i a).getD (0,[])
def xl6 {T:Type} (c:LA) (b:Nat) (i:Int) (a:LA) (δ:T) (κl:(Nat×Int×LA)->T) (κr:(Nat×LA)->T):T:=br (decide (i<c.length)) (br ((Iter (xbN c b i) (i,a)).isSome) (br (decide (0<=xbE c b i a)&&decide (xbE c b i a<=c.length)&&(decide (0<=i)&&decide (i<=(↑(xbE c b i a).toNat:Int)))) (br ((xrW (List.take ((xbE c b i a).toNat - i.toNat) (List.drop i.toNat c))).isSome) (br ((xk0 c b i a).isSome) (κl ((xkx c b i a).fst,xbE c b i a,(xkx c b i a).snd)) δ) δ) δ) δ) (κr (b,a))
def xd0 (c:LA):StT (Nat×Int×LA) (Nat×LA):=fun (b,i,a)=>xl6 c b i a none inL inR
def xoF (l:LA):=Iter (xd0 ((xcQ 100 l).getD [])) (0,0,[])
def xoE (l:LA):=(xoF l).getD (0,[])
def xoC (l:LA):=(xoE l).fst
def xoD (l:LA):=(xoE l).snd
def xus {T:Type} (l:LA) (δ:T) (κ:LA->T):T:=br ((xcQ 100 l).isSome) (br ((xoF l).isSome) (br (decide (0+xoC l<=(xoD l).length)&&true) (κ (List.take (xoC l) (List.drop 0 (xoD l)))) δ) δ) δ
def xkZ (l:LA):=xus l none some
def xcV (l:LA) (n i:Int):=decide ((gC l i 1).toInt>=n)
def xbb (l:LA) (i:Int):=ixI l i
def xcz (l:LA) (b:Nat) (i:Int) (a:LA):=(xaV b (gC l i 0).toInt 1099511627776 a).getD (false,(0,[],[]),0,[])
def xcA (l:LA) (b:Nat) (i:Int) (a:LA):=xaV b (gC l i 0).toInt ((l.getD (i64.wrap (i+1)).toNat .top).cells.getD 0 .top).toInt a
def xcB (l:LA) (i:Int):=decide (i64.wrap (i+1)<(↑l.length:Int))
def xc1 (l:LA) (b:Nat) (i:Int) (a:LA):=(xcA l b i a).getD (false,(0,[],[]),0,[])
def xc2 (l:LA) (b:Nat) (i:Int) (a:LA):=(xcz l b i a).fst
def xc3 (l:LA) (b:Nat) (i:Int) (a:LA):=(xcz l b i a).snd
def xcY (l:LA) (b:Nat) (i:Int) (a:LA):=(xc1 l b i a).snd
def xcZ (l:LA) (b:Nat) (i:Int) (a:LA):=(xc1 l b i a).fst
def xcx (l:LA) (b:Nat) (i:Int) (a:LA):=(xc3 l b i a).snd
def xc0 (l:LA) (b:Nat) (i:Int) (a:LA):=(xc3 l b i a).fst
def xcW (l:LA) (b:Nat) (i:Int) (a:LA):=(xcY l b i a).snd
def xcX (l:LA) (b:Nat) (i:Int) (a:LA):=(xcY l b i a).fst
def xdv {T:Type} (l:LA) (n:Int) (b:Nat) (i:Int) (a:LA) (δ:T) (κl:(Nat×Int×LA)->T) (κr:(Nat×LA)->T):T:=br (decide (i<l.length)) (br (xcB l i) (br (decide (0<=i64.wrap (i+1))&&xcB l i) (br (decide ((i64.wrap (i+1)).toNat<l.length)&&xMK (Sh.int .i64) ((l.getD (i64.wrap (i+1)).toNat .top).cells.getD 0 .top)) (br (xbb l i) (br (ixS l i (Sh.int .i64) 1) (br (xcV l n i) (br (xbb l i) (br (ixS l i (Sh.int .i64) 0) (br ((xcA l b i a).isSome) (κl (br (xcZ l b i a) (xcX l b i a).fst (xcW l b i a).fst,i64.wrap (i+1),br (xcZ l b i a) (xcX l b i a).snd.snd (xcW l b i a).snd)) δ) δ) δ) (κl (b,i64.wrap (i+1),a))) δ) δ) δ) δ) (br (xbb l i) (br (ixS l i (Sh.int .i64) 1) (br (xcV l n i) (br (xbb l i) (br (ixS l i (Sh.int .i64) 0) (br ((xaV b (gC l i 0).toInt 1099511627776 a).isSome) (κl (br (xc2 l b i a) (xc0 l b i a).fst (xcx l b i a).fst,i64.wrap (i+1),br (xc2 l b i a) (xc0 l b i a).snd.snd (xcx l b i a).snd)) δ) δ) δ) (κl (b,i64.wrap (i+1),a))) δ) δ)) (κr (b,a))
def xaK (l:LA) (n:Int):StT (Nat×Int×LA) (Nat×LA):=fun (b,i,a)=>xdv l n b i a none inL inR
def xmX (l:LA) (n:Int):=(Iter (xaK l n) (0,0,[])).getD (0,[])
def xmV (l:LA) (n:Int):=(xmX l n).snd
def xmW (l:LA) (n:Int):=(xmX l n).fst
def xtd {T:Type} (l:LA) (n:Int) (δ:T) (κ:LA->T):T:=br ((Iter (xaK l n) (0,0,[])).isSome) (br (decide (0+xmW l n<=(xmV l n).length)&&true) (κ (List.take (xmW l n) (List.drop 0 (xmV l n)))) δ) δ
def xec (l:LA) (n:Int):=xtd l n none some
def xhG (l:LA) (i:Int):=decide (i.toNat<l.length)&&((l.getD i.toNat .top).cells.length==2&&xMR [Sh.int .i64,Sh.int .i64] (l.getD i.toNat .top).cells 0)
def xi1 {T:Type} (l:LA) (b:Nat) (i c d:Int) (a:LA) (δ:T) (κl:(Nat×Int×Int×Int×LA)->T) (κr:(Nat×Int×Int×Int×LA)->T):T:=br (decide (i<l.length)) (br (ixI l i) (br (xhG l i) (br (decide (xqQ (gC l i 0).toInt (gC l i 1).toInt c d<=0)) (br (ixI l i) (br (xhG l i) (br (rmB b a 1 16) (κl (b+1,i64.wrap (i+1),c,d,a++[AV.agg [AV.int .i64 (gC l i 0).toInt,AV.int .i64 (gC l i 1).toInt]])) δ) δ) δ) (κr (b,i,c,d,a))) δ) δ) (κr (b,i,c,d,a))
def xc4 (l:LA):StT (Nat×Int×Int×Int×LA) (Nat×Int×Int×Int×LA):=fun (b,i,c,d,a)=>xi1 l b i c d a none inL inR
def xoa (l:LA) (a b:Int):=Iter (xc4 l) (0,0,a,b,[])
def xn9 (l:LA) (a b:Int):=(xoa l a b).getD (0,0,0,0,[])
def xps (l:LA) (a b:Int):=(xn9 l a b).fst
def xn8 (l:LA) (a b:Int):=(xn9 l a b).snd
def xie (l:LA) (a b:Int):=xps l a b+1
def xif (l:LA) (a b:Int):=(xn8 l a b).fst
def xpr (l:LA) (a b:Int):=(xn8 l a b).snd
def xpo (l:LA) (a b:Int):=List.take (l.length - (xif l a b).toNat) (List.drop (xif l a b).toNat l)
def xpq (l:LA) (a b:Int):=(xpr l a b).snd
def xid (l:LA) (a b:Int):=xie l a b+(xpo l a b).length
def xpp (l:LA) (a b:Int):=(xpq l a b).snd
def xpn (l:LA) (a b:Int):=xpp l a b++[AV.agg [AV.int .i64 (xpr l a b).fst,AV.int .i64 (xpq l a b).fst]]
def xpm (l:LA) (a b:Int):=xpn l a b++xpo l a b
def xvm {T:Type} (l:LA) (a b:Int) (δ:T) (κ:LA->T):T:=br ((xoa l a b).isSome) (br (xps l a b==(xpp l a b).length&&(decide (xie l a b*16<=140737488355328)&&decide (xie l a b<=4611686018427387904))) (br (decide (0<=xif l a b)&&decide (xif l a b<=l.length)) (br (xie l a b==(xpn l a b).length&&(decide (xid l a b*16<=140737488355328)&&decide (xid l a b<=4611686018427387904))) (br (decide (0+xid l a b<=(xpm l a b).length)&&true) (κ (List.take (xid l a b) (List.drop 0 (xpm l a b)))) δ) δ) δ) δ) δ
def xqh (l:LA) (a b:Int):=xvm l a b none some
def xlS {T:Type} (l:LA) (n:Int) (a b:LA) (i:Int) (δ:T) (κl:(LA×Int)->T) (κr:(LA)->T):T:=br (decide (i<a.length)) (br (ixI a i) (br (ixT a i 2 [Sh.int .i64,Sh.int .i64] 0) (br ((xqh b (gC a i 0).toInt (gC a i 1).toInt).isSome) (κl ((xqh b (gC a i 0).toInt (gC a i 1).toInt).getD [],i64.wrap (i+1))) δ) δ) δ) (κr (b))
def xcD (l:LA) (n:Int) (b:LA):StT (LA×Int) (LA):=fun (a,i)=>xlS l n b a i none inL inR
def xlR {T:Type} (l a:LA) (n:Int) (δ:T) (κl:(LA×Int)->T) (κr:(Bool×(LA×LA)×(LA))->T):T:=br (decide (n<=1048576)) (br ((xec l n).isSome) (br ((↑((xec l n).getD []).length:Int)==0) (κr (true,(a,a),[])) (br ((Iter (xcD l n ((xec l n).getD [])) (a,0)).isSome) (κl ((Iter (xcD l n ((xec l n).getD [])) (a,0)).getD [],i64.wrap (n+1))) δ)) δ) (κr (false,([],[]),(a)))
def xcC (l:LA):StT (LA×Int) (Bool×(LA×LA)×(LA)):=fun (a,n)=>xlR l a n none inL inR
def xn7 (l:LA):=(Iter (xcC l) ([],1)).getD (false,([],[]),[])
def xn6 (l:LA):=(xn7 l).snd
def xun {T:Type} (l:LA) (δ:T) (κ:LA->T):T:=br ((Iter (xcC l) ([],1)).isSome) (br ((xn7 l).fst) (κ ((xn6 l).fst.fst)) (κ ((xn6 l).snd))) δ
def xdX (l:LA):=xun l none some
def xhK {T:Type} (d c:LA) (b:Nat) (i:Int) (a:LA) (δ:T) (κl:(Nat×Int×LA)->T) (κr:(Nat×LA)->T):T:=br (decide (i<c.length)) (br (ixI c i) (br (ixT c i 2 [Sh.int .i64,Sh.int .i64] 0) (br (rmB b a 1 40) (κl (b+1,i64.wrap (i+1),a++[AV.agg [AV.list 3 d,AV.int .i64 (gC c i 0).toInt,AV.int .i64 (gC c i 1).toInt]])) δ) δ) δ) (κr (b,a))
def xbM (c d:LA):StT (Nat×Int×LA) (Nat×LA):=fun (b,i,a)=>xhK c d b i a none inL inR
def xqA:=xGo.l 23 0 [] [] Tryz.f25 0 lk0 [0,1,5,6] [5] [(5,3,54)] (q4 (qL 3) (qL 2) (xNG 0 0 0) qI) (q1 (qB 0 3 54 xNy)) (fun (c,d,b,i,_) (a,_)=>(xbM c d,(b,i,a),fun p=>(.leaf (.exit 0) [AV.osl 0 0 0 p.1] [bF 0 3 54 p.2]))) (0,[]) fun (c,d,_,_,_) _ (b,i,a)=>(((c,d,b,i,()),(a,())),xhK c d b i a none)
def xoA (a b:LA):=(Iter (xbM a b) (0,0,[])).getD (0,[])
def xoy (a b:LA):=(xoA a b).snd
def xoz (a b:LA):=(xoA a b).fst
def xpO {T:Type} (a b:LA) (δ:T) (κ:LA->T):T:=br ((Iter (xbM a b) (0,0,[])).isSome) (br (decide (0+xoz a b<=(xoy a b).length)&&true) (κ (List.take (xoz a b) (List.drop 0 (xoy a b)))) δ) δ
def xgb (a b:LA):=xpO a b none some
def xGp:EO:=xGo.f Tryz.func25 23 0 [] [(3,xqA.lp)] (lk1 xqA.ok) (u2 (uL 3) (uL 2)) (fun (a,b,_) _=>xpO a b) (fun _ p=>AV.list 3 p) []
def xkj (g:LA) (a:Nat) (i:Int):=a+((xgb (gC g i 0).toList ((xdX (gC g i 1).toList).getD [])).getD []).length
def xpN {T:Type} (g:LA) (a:Nat) (i:Int) (b:LA) (δ:T) (κl:(Nat×Int×LA)->T) (κr:(Nat×LA)->T):T:=br (decide (i<g.length)) (br (ixI g i) (br (ixS g i (Sh.list 3) 0) (br (ixI g i) (br (ixS g i (Sh.list 2) 1) (br ((xdX (gC g i 1).toList).isSome) (br ((xgb (gC g i 0).toList ((xdX (gC g i 1).toList).getD [])).isSome) (br (a==b.length&&(decide (xkj g a i*40<=140737488355328)&&decide (xkj g a i<=4611686018427387904))) (κl (xkj g a i,i64.wrap (i+1),b++(xgb (gC g i 0).toList ((xdX (gC g i 1).toList).getD [])).getD [])) δ) δ) δ) δ) δ) δ) δ) (κr (a,b))
def xfp (g:LA):StT (Nat×Int×LA) (Nat×LA):=fun (b,i,a)=>xpN g b i a none inL inR
def xsH (l:LA):=(Iter (xfp ((xkZ l).getD [])) (0,0,[])).getD (0,[])
def xsF (l:LA):=(xsH l).snd
def xsG (l:LA):=(xsH l).fst
def xw4 {T:Type} (l:LA) (δ:T) (κ:LA->T):T:=br ((xkZ l).isSome) (br ((Iter (xfp ((xkZ l).getD [])) (0,0,[])).isSome) (br (decide (0+xsG l<=(xsF l).length)&&true) (κ (List.take (xsG l) (List.drop 0 (xsF l)))) δ) δ) δ
def xwc (l:LA):=xw4 l none some
def xlz {T:Type} (l:LA) (i:Int) (δ:T) (κl:(Int)->T) (κr:(Bool×(Bool)×(Unit))->T):T:=br (decide (i<l.length)) (br (ixI l i) (br (ixS l i (Sh.list 3) 0) (br (decide ((↑(gC l i 0).toList.length:Int)>60)) (κr (true,(false),())) (κl (i64.wrap (i+1)))) δ) δ) (κr (false,false,()))
def xcM (l:LA):StT (Int) (Bool×(Bool)×(Unit)):=fun (i)=>xlz l i none inL inR
def xth:=xGp.l 23 0 [] [] Tryz.f27 0 lk0 [0,5] [4] [] (q2 (qL 3) qI) xNv (fun (l,i,_) _=>(xcM l,(i),fun p=>(.node p.1 (.leaf .ret [AV.bool p.2.1] []) (.leaf (.exit 0) [.top] [])))) (false,false,()) fun (l,_,_) _ (i)=>(((l,i,()),()),xlz l i none)
def xtW {T:Type} (l:LA) (a:Int) (δ:T) (κ:Bool->T):T:=br (decide ((↑l.length:Int)>a)) (κ (false)) (br ((Iter (xcM l) 0).isSome) (br (((Iter (xcM l) 0).getD (false,false,())).fst) (κ (((Iter (xcM l) 0).getD (false,false,())).snd.fst)) (κ (true))) δ)
def xno (l:LA) (a:Int):=xtW l a none some
def xKK:EO:=xGp.f Tryz.func27 23 0 [] [(4,xth.lp)] (lk1 xth.ok) (u2 (uL 3) uI) (fun (l,a,_) _=>xtW l a) (fun _ p=>AV.bool p) false
def xF6:Int×Int×List UInt8:=((0,0,[]))
def xDu {T:Type} (δ:T) (κ:Int×Int×List UInt8->T):T:=κ (0,0,[])
def xKo:EO:=xBV.fT Tryz.func125 2 0 [] [] lk0 (fun _=>xDu none) xNw (fun _=>xF6) (fun _ p=>(AV.agg [AV.int .i64 p.1,AV.int .i64 p.2.1,AV.str p.2.2]))
def xvf {T:Type} (a:LA) (i:Int) (δ:T) (κ:Int×Int×List UInt8->T):T:=br (decide (i<0)) (κ (0,0,[])) (br (decide (i>=a.length)) (κ (0,0,[])) (br (ixI a i) (br (ixT a i 3 [Sh.int .i64,Sh.int .i64,Sh.str] 0) (κ ((gC a i 0).toInt,(gC a i 1).toInt,(gC a i 2).toStr)) δ) δ))
def xqa (a:LA) (i:Int):=xvf a i none some
def xGe:EO:=xKo.f Tryz.func94 18 0 [] [] lk0 (u2 (uL 3) uI) (fun (a,i,_) _=>xvf a i) (fun _ p=>AV.agg [AV.int .i64 p.1,AV.int .i64 p.2.1,AV.str p.2.2]) (0,0,[])
def xjr (a b:LA) (c:Int):=(xqa a (gC b c 0).toInt).getD (0,0,[])
def xjq (a b:LA) (c:Int):=(xjr a b c).snd
def xkq {T:Type} (e c:LA) (f:Int) (d:Nat) (a:Int) (b:LA) (δ:T) (κl:(Nat×Int×LA)->T) (κr:(Nat×LA)->T):T:=br (decide (a<f)) (br (ixI c a) (br (ixS c a (Sh.int .i64) 0) (br ((xqa e (gC c a 0).toInt).isSome) (br (rmB d b 1 32) (κl (d+1,i64.wrap (a+1),b++[AV.agg [AV.int .i64 (xjr e c a).fst,AV.int .i64 (xjq e c a).fst,AV.str (xjq e c a).snd]])) δ) δ) δ) δ) (κr (d,b))
def xdM (c d:LA) (e:Int):StT (Nat×Int×LA) (Nat×LA):=fun (b,f,a)=>xkq c d e b f a none inL inR
def xsZ:=xGe.l 25 0 [] [] Tryz.f59 0 lk0 [0,5,11,12,13] [5] [(5,3,86)] (q5 (qL 3) (xNG 0 0 0) (qL 1) qI qI) (q1 (qB 0 3 86 xNy)) (fun (c,b,d,e,f,_) (a,_)=>(xdM c d e,(b,f,a),fun p=>(.leaf (.exit 0) [AV.osl 0 0 0 p.1] [bF 0 3 86 p.2]))) (0,[]) fun (c,_,d,e,_,_) _ (b,f,a)=>(((c,b,d,e,f,()),(a,())),xkq c d e b f a none)
def xrv (a l:LA):=(Iter (xdM a l (↑l.length:Int)) (0,0,[])).getD (0,[])
def xrt (a l:LA):=(xrv a l).fst
def xru (a l:LA):=(xrv a l).snd
def xsx {T:Type} (a l:LA) (δ:T) (κ:LA->T):T:=br (decide (32*(↑l.length:Int)<=281474976710656)&&decide ((↑l.length:Int)<=4611686018427387904)) (br ((Iter (xdM a l (↑l.length:Int)) (0,0,[])).isSome) (br (decide (0+xrt a l<=(xru a l).length)&&true) (κ (List.take (xrt a l) (List.drop 0 (xru a l)))) δ) δ) δ
def xlG (a l:LA):=xsx a l none some
def xKp:EO:=xGe.f Tryz.func59 25 0 [] [(3,xsZ.lp)] (lk1 xsZ.ok) (u2 (uL 3) (uL 1)) (fun (a,l,_) _=>xsx a l) (fun _ p=>AV.list 3 p) []
def xuJ {T:Type} (i:Int) (a:LA) (δ:T) (κ:Bool->T):T:=br ((xqa a i).isSome) (κ (((xqa a i).getD (0,0,[])).fst==0)) δ
def hasNull1 (i:Int) (a:LA):=xuJ i a none some
def xGf:EO:=xKp.f Tryz.func96 9 0 [] [] lk0 (u2 uI (sEq (xNN 1 0 0 (q1 (qL 3))))) (fun (i,(a,_),_) _=>xuJ i a) (fun _ p=>AV.bool p) false
def xe7 {T:Type} (b f:LA) (c a:Int) (δ:T) (κl:(Int)->T) (κr:(Bool×(Int)×(Unit))->T):T:=br (decide (a<c)) (br (ixI b a) (br (ixS b a (Sh.int .i64) 0) (br ((hasNull1 (gC b a 0).toInt f).isSome) (br ((hasNull1 (gC b a 0).toInt f).getD false) (κr (true,(a),())) (κl (i64.wrap (a+1)))) δ) δ) δ) (κr (false,0,()))
def xaI (a f:LA) (b:Int):StT (Int) (Bool×(Int)×(Unit)):=fun (c)=>xe7 a f b c none inL inR
def xmg:=xGf.l 19 0 [] [] Tryz.f126 0 lk0 [0,1,7,8] [4] [] (q4 (qL 1) (xM8 96 (q1 (xNN 1 0 0 (q1 (qL 3))))) qI qI) xNv (fun (a,((f,_),_),b,c,_) _=>(xaI a f b,(c),fun p=>(.node p.1 (.leaf .ret [AV.int .i64 p.2.1] []) (.leaf (.exit 0) [.top] [])))) (false,0,()) fun (a,((f,_),_),b,_,_) _ (c)=>(((a,((f,()),()),b,c,()),()),xe7 a f b c none)
def xk6 {T:Type} (a b:LA) (δ:T) (κ:Int->T):T:=br ((Iter (xaI a b (↑a.length:Int)) 0).isSome) (br (((Iter (xaI a b (↑a.length:Int)) 0).getD (false,0,())).fst) (κ (((Iter (xaI a b (↑a.length:Int)) 0).getD (false,0,())).snd.fst)) (κ ((-1)))) δ
def xnf (b a:LA):=xk6 b a none some
def xKq:EO:=xGf.f Tryz.func126 19 0 [] [(2,xmg.lp)] (lk1 xmg.ok) (u2 (uL 1) (sEq (xM8 (96:FuncId) (q1 (xNN 1 0 0 (q1 (qL 3))))))) (fun (b,((a,_),_),_) _=>xk6 b a) (fun _ p=>AV.int .i64 p) 0
def xim {T:Type} (b a:LA) (δ:T) (κ:Bool->T):T:=br ((xnf b a).isSome) (κ (decide ((xnf b a).getD 0>=0))) δ
def xj9 (b a:LA):=xim b a none some
def xKr:EO:=xKq.f Tryz.func95 9 0 [] [] lk0 (u2 (uL 1) (sEq (xM8 (96:FuncId) (q1 (xNN 1 0 0 (q1 (qL 3))))))) (fun (b,((a,_),_),_) _=>xim b a) (fun _ p=>AV.bool p) false
def xo1 {T:Type} (a l:LA) (δ:T) (κ:Bool->T):T:=br ((xj9 l a).isSome) (κ ((xj9 l a).getD false)) δ
def xmG (a l:LA):=xo1 a l none some
def xGg:EO:=xKr.f Tryz.func60 8 0 [1000042] [] lk0 (u2 (uL 3) (uL 1)) (fun (a,l,_) _=>xo1 a l) (fun _ p=>AV.bool p) false
def xsO {T:Type} (f:List UInt8) (c a d e b:LA) (δ:T) (κ:LA->T):T:=br ((xlG b a).isSome) (κ ((xlG b a).getD [])) δ
def xoN (e:List UInt8) (b a c d f:LA):=xsO e b a c d f none some
def xDn:LA->Option (Bool×AV):=fnO (u2 (xNL (u5 (sEq pStr) (uL 3) (uL 1) (uL 2) (uL 7))) (uL 3)) (fun ((e,b,a,c,d,_),f,_) _=>xsO e b a c d f) (fun _ p=>AV.list 3 p) []
theorem xwi:OcOk P0 xNs 32 xDn:=fnC xGg.ok Tryz.func32 9 0 [] [] lk0
def xKs:EO:=xGg.w xwi
def xjZ {T:Type} (a:LA) (c:List UInt8) (b:LA) (δ:T) (κ:LA×Bool->T):T:=br ((xlG b a).isSome) (br ((xmG b a).isSome) (κ ((xlG b a).getD [],!(xmG b a).getD false)) δ) δ
def xaZ (a:LA) (b:List UInt8) (c:LA):=xjZ a b c none some
def xvA:LA->Option (Bool×AV):=fnO (u2 (xNL (u2 (uL 1) (sEq pStr))) (uL 3)) (fun ((a,b,_),c,_) _=>xjZ a b c) (fun _ p=>AV.tuple [AV.list 3 p.1,AV.bool p.2]) ([],false)
theorem xvz:OcOk P0 xNs 34 xvA:=fnC xKs.ok Tryz.func34 15 0 [] [] lk0
def xfH {T:Type} (a:List UInt8) (i:Int) (δ:T) (κl:(Int)->T) (κr:(Bool×(Bool)×(Unit))->T):T:=br (decide (i<a.length)) (br (decide (0<=i)&&decide (i<a.length)) (br (decide ((↑(a.getD i.toNat (0:UInt8)).toNat:Int)<32)) (κr (true,(false),())) (br (decide (0<=i)&&decide (i<a.length)) (br (decide ((↑(a.getD i.toNat (0:UInt8)).toNat:Int)>126)) (κr (true,(false),())) (κl (i64.wrap (i+1)))) δ)) δ) (κr (false,false,()))
def xa4 (a:List UInt8):StT (Int) (Bool×(Bool)×(Unit)):=fun (i)=>xfH a i none inL inR
def xnn:=xuc.l 20 0 [] [] Tryz.f147 0 lk0 [0,3] [2] [] (q2 pStr qI) xNv (fun (a,i,_) _=>(xa4 a,(i),fun p=>(.node p.1 (.leaf .ret [AV.bool p.2.1] []) (.leaf (.exit 0) [.top] [])))) (false,false,()) fun (a,_,_) _ (i)=>(((a,i,()),()),xfH a i none)
def xlT {T:Type} (a:List UInt8) (δ:T) (κ:Bool->T):T:=br ((Iter (xa4 a) 0).isSome) (br (((Iter (xa4 a) 0).getD (false,false,())).fst) (κ (((Iter (xa4 a) 0).getD (false,false,())).snd.fst)) (κ (true))) δ
def xkc (a:List UInt8):=xlT a none some
def xGw:EO:=xuc.f Tryz.func147 20 0 [] [(2,xnn.lp)] (lk1 xnn.ok) (u1 (sEq pStr)) (fun (a,_) _=>xlT a) (fun _ p=>AV.bool p) false
def xqT {T:Type} (c a:Int) (b:List UInt8) (δ:T) (κ:Bool->T):T:=br (c==0) (br (a==0) (κ (b==[])) (κ (false))) (br (c==1) (br (b==[]) (br (decide (a>=(-1125899906842624))) (κ (decide (a<=1125899906842624))) (κ (false))) (κ (false))) (br (c==2) (br (a==0) (br (decide ((↑b.length:Int)<=200)) (br ((xkc b).isSome) (κ ((xkc b).getD false)) δ) (κ (false))) (κ (false))) (br (c==3) (br (b==[]) (br (a==0) (κ (true)) (κ (a==1))) (κ (false))) (κ (false)))))
def xmf (a b:Int) (c:List UInt8):=xqT a b c none some
def xBH:LA->Option (Bool×AV):=fnO (u1 (xNL (u3 uI uI (sEq pStr)))) (fun ((a,b,c,_),_) _=>xqT a b c) (fun _ p=>AV.bool p) false
theorem xvn:OcOk P0 xNs 121 xBH:=fnC xGw.ok Tryz.func121 61 0 [] [] lk0
def xKP:EO:=xGw.w xvn
def xjM (a:Int):Int×Int:=(br (a==1) ((0,0)) (br (a==2) ((0,0)) (br (a==4) ((1,1)) (br (a==18) ((1,1)) (br (a==20) ((1,1)) (br (a==21) ((1,1)) (br (a==5) ((2,1099511627776)) (br (a==6) ((2,1099511627776)) (br (a==7) ((2,2)) (br (a==8) ((2,2)) (br (a==9) ((2,2)) (br (a==10) ((2,2)) (br (a==11) ((2,2)) (br (a==12) ((2,2)) (br (a==13) ((2,2)) (br (a==14) ((2,2)) (br (a==15) ((2,2)) (br (a==16) ((2,2)) (br (a==17) ((2,2)) (br (a==19) ((2,2)) (br (a==22) ((3,3)) (br (a==23) ((1,1099511627776)) (br (a==24) ((4,4)) (((-1),0)))))))))))))))))))))))))
def xBI {T:Type} (a:Int) (δ:T) (κ:Int×Int->T):T:=br (a==1) (κ (0,0)) (br (a==2) (κ (0,0)) (br (a==4) (κ (1,1)) (br (a==18) (κ (1,1)) (br (a==20) (κ (1,1)) (br (a==21) (κ (1,1)) (br (a==5) (κ (2,1099511627776)) (br (a==6) (κ (2,1099511627776)) (br (a==7) (κ (2,2)) (br (a==8) (κ (2,2)) (br (a==9) (κ (2,2)) (br (a==10) (κ (2,2)) (br (a==11) (κ (2,2)) (br (a==12) (κ (2,2)) (br (a==13) (κ (2,2)) (br (a==14) (κ (2,2)) (br (a==15) (κ (2,2)) (br (a==16) (κ (2,2)) (br (a==17) (κ (2,2)) (br (a==19) (κ (2,2)) (br (a==22) (κ (3,3)) (br (a==23) (κ (1,1099511627776)) (br (a==24) (κ (4,4)) (κ ((-1),0))))))))))))))))))))))))
def xKQ:EO:=xKP.fT Tryz.func168 35 0 [7000000] [] lk0 (fun (a,_)=>xBI a none) (u1 uI) (fun (a,_)=>xjM a) (fun _ p=>(AV.tuple [AV.int .i64 p.1,AV.int .i64 p.2]))
def xpu {T:Type} (a f b c:Int) (d g:List UInt8) (e:LA) (δ:T) (κ:Bool->T):T:=br (decide ((xjM a).fst<0)) (κ (false)) (br (decide ((↑e.length:Int)<(xjM a).fst)) (κ (false)) (br (decide ((↑e.length:Int)>(xjM a).snd)) (κ (false)) (br (!g==[]) (κ (false)) (br (a==1) (br (f==0) (br ((xmf b c d).isSome) (κ ((xmf b c d).getD false)) δ) (κ (false))) (br (a==2) (κ (b==0&&(c==0&&(d==[]&&true)))) (br (a==24) (br (b==0&&(c==0&&(d==[]&&true))) (br (decide (f>=0)) (κ (decide (f<13))) (κ (false))) (κ (false))) (br (f==0) (κ (b==0&&(c==0&&(d==[]&&true)))) (κ (false)))))))))
def xoi (b g c d:Int) (e f:List UInt8) (a:LA):=xpu b g c d e f a none some
def xGy:EO:=xKQ.f Tryz.func169 75 0 [] [] lk0 (u1 (xNL (u7 uI uI uI uI (sEq pStr) (sEq pStr) (uL 7)))) (fun ((b,h,c,d,e,g,a,_),_) _=>xpu b h c d e g a) (fun _ p=>AV.bool p) false
def xly {T:Type} (l:LA) (a i:Int) (δ:T) (κl:(Int)->T) (κr:(Bool×(Bool)×(Unit))->T):T:=br (decide (i<l.length)) (br (ixI l i) (br (ixS l i (Sh.int .i64) 0) (br ((gC l i 0).toInt != a) (br (ixI l i) (br (ixS l i (Sh.int .i64) 0) (br ((gC l i 0).toInt != 0) (κr (true,(false),())) (κl (i64.wrap (i+1)))) δ) δ) (κl (i64.wrap (i+1)))) δ) δ) (κr (false,false,()))
def xcL (l:LA) (a:Int):StT (Int) (Bool×(Bool)×(Unit)):=fun (i)=>xly l a i none inL inR
def xtf:=xGy.l 25 0 [] [] Tryz.f199 0 lk0 [0,1,5] [4] [] (q3 (qL 1) qI qI) xNv (fun (l,a,i,_) _=>(xcL l a,(i),fun p=>(.node p.1 (.leaf .ret [AV.bool p.2.1] []) (.leaf (.exit 0) [.top] [])))) (false,false,()) fun (l,a,_,_) _ (i)=>(((l,a,i,()),()),xly l a i none)
def xtR {T:Type} (l:LA) (a:Int) (δ:T) (κ:Bool->T):T:=br ((Iter (xcL l a) 0).isSome) (br (((Iter (xcL l a) 0).getD (false,false,())).fst) (κ (((Iter (xcL l a) 0).getD (false,false,())).snd.fst)) (κ (true))) δ
def xcP (l:LA) (a:Int):=xtR l a none some
def xGz:EO:=xGy.f Tryz.func199 25 0 [] [(2,xtf.lp)] (lk1 xtf.ok) (u2 (uL 1) uI) (fun (l,a,_) _=>xtR l a) (fun _ p=>AV.bool p) false
def xi7 (l:LA) (i:Int):=ixI l i
def xi8 (l:LA) (i:Int):=decide (i.toNat<l.length)&&xMK (Sh.int .i64) (gC l i 0)
def xhH {T:Type} (l:LA) (i:Int) (δ:T) (κl:(Int×Int)->T):T:=br (xi7 l i) (br (xi8 l i) (κl ((gC l i 0).toInt,i64.wrap (i+1))) δ) δ
def xkf {T:Type} (l:LA) (k i:Int) (δ:T) (κl:(Int×Int)->T) (κr:(Bool×(Int×Bool×Int)×(Int))->T):T:=br (decide (i<l.length)) (br (xi7 l i) (br (xi8 l i) (br ((gC l i 0).toInt==0) (κl (k,i64.wrap (i+1))) (br (k != 0) (br (xi7 l i) (br (xi8 l i) (br (k != (gC l i 0).toInt) (κr (true,(0,false,k),0)) (xhH l i δ κl)) δ) δ) (xhH l i δ κl))) δ) δ) (κr (false,(0,false,0),(k)))
def xdA (l:LA):StT (Int×Int) (Bool×(Int×Bool×Int)×(Int)):=fun (k,i)=>xkf l k i none inL inR
def xss:=xGz.l 32 0 [] [] Tryz.f200 0 lk0 [0,4,5] [2,3,4] [] (q3 (qL 1) qI qI) xNv (fun (l,k,i,_) _=>(xdA l,(k,i),fun p=>(.node p.1 (.leaf .ret [AV.int .i64 p.2.1.1,AV.bool p.2.1.2.1,AV.int .i64 p.2.1.2.2] []) (.leaf (.exit 0) [.top,.top,AV.int .i64 p.2.2] [])))) (false,(0,false,0),0) fun (l,_,_,_) _ (k,i)=>(((l,k,i,()),()),xkf l k i none)
def xqx (l:LA):=(Iter (xdA l) (0,0)).getD (false,(0,false,0),0)
def xqZ (l:LA):=(xqx l).snd
def xqY (l:LA):=(xqZ l).fst
def xst {T:Type} (l:LA) (δ:T) (κ:Int×Bool->T):T:=br ((Iter (xdA l) (0,0)).isSome) (br ((xqx l).fst) (κ ((xqY l).fst,(xqY l).snd.fst)) (κ ((xqZ l).snd,true))) δ
def xdZ (l:LA):=xst l none some
def xKR:EO:=xGz.f Tryz.func200 32 0 [] [(3,xss.lp)] (lk1 xss.ok) (u1 (uL 1)) (fun (l,_) _=>xst l) (fun _ p=>AV.tuple [AV.int .i64 p.1,AV.bool p.2]) (0,false)
def xdn {T:Type} (l:LA) (δ:T) (κ:Int×Bool->T):T:=br ((xdZ l).isSome) (κ (3,((xdZ l).getD (0,false)).snd)) δ
def xdo {T:Type} (l:LA) (δ:T) (κ:Int×Bool->T):T:=br ((xcP l 1).isSome) (κ (1,(xcP l 1).getD false)) δ
def xi9 {T:Type} (l:LA) (δ:T) (κ:Int×Bool->T):T:=br ((xcP l 3).isSome) (κ (3,(xcP l 3).getD false)) δ
def xpH {T:Type} (a c d f:Int) (g h:List UInt8) (e l b:LA) (δ:T) (κ:Int×Bool->T):T:=br (a==1) (κ (d,true)) (br (a==2) (br (ixI b c) (br (ixS b c (Sh.int .i64) 0) (κ ((gC b c 0).toInt,true)) δ) δ) (br (a==4) (xi9 l δ κ) (br (a==5) (xi9 l δ κ) (br (a==6) (xi9 l δ κ) (br (a==7) (xdn l δ κ) (br (a==8) (xdn l δ κ) (br (a==9) (xdn l δ κ) (br (a==10) (xdn l δ κ) (br (a==11) (xdn l δ κ) (br (a==12) (xdn l δ κ) (br (a==13) (xdo l δ κ) (br (a==14) (xdo l δ κ) (br (a==15) (xdo l δ κ) (br (a==16) (xdo l δ κ) (br (a==17) (xdo l δ κ) (br (a==18) (xdo l δ κ) (br (a==19) (br ((xcP l 2).isSome) (κ (2,(xcP l 2).getD false)) δ) (br (a==20) (br ((xcP l 2).isSome) (κ (1,(xcP l 2).getD false)) δ) (br (a==21) (κ (3,true)) (br (a==22) (br (decide (1<=(↑l.length:Int))) (br ((xdZ (List.take (l.length - 1) (List.drop 1 l))).isSome) (br (((xdZ (List.take (l.length - 1) (List.drop 1 l))).getD (0,false)).snd) (br (decide (1<=(↑l.length:Int))&&true) (br ((xcP (List.take 1 (List.drop 0 l)) 3).isSome) (κ (((xdZ (List.take (l.length - 1) (List.drop 1 l))).getD (0,false)).fst,(xcP (List.take 1 (List.drop 0 l)) 3).getD false)) δ) δ) (κ (((xdZ (List.take (l.length - 1) (List.drop 1 l))).getD (0,false)).fst,false))) δ) δ) (br (a==23) (br ((xdZ l).isSome) (κ (((xdZ l).getD (0,false)).fst,((xdZ l).getD (0,false)).snd)) δ) (br ((xcP l 1).isSome) (κ (3,(xcP l 1).getD false)) δ))))))))))))))))))))))
def xij (c h d e:Int) (f g:List UInt8) (a l b:LA):=xpH c h d e f g a l b none some
def xud:EO:=xKR.f Tryz.func170 87 0 [7000000] [] lk0 (u3 (xNL (u7 uI uI uI uI (sEq pStr) (sEq pStr) (uL 7))) (uL 1) (uL 1)) (fun ((c,i,d,e,g,h,a,_),l,b,_) _=>xpH c i d e g h a l b) (fun _ p=>AV.tuple [AV.int .i64 p.1,AV.bool p.2]) (0,false)
def xeB (R:Int->Int->Int->Int->List UInt8->List UInt8->LA->Option (Int)):LA->Option (Bool×AV):=ocOf (xNu (xNL (xNu (sEq (pInt .i64)) (xNu (sEq (pInt .i64)) (xNu (sEq (pInt .i64)) (xNu (sEq (pInt .i64)) (xNu (sEq pStr) (xNu (sEq pStr) (xNu (xNK 7 xNy) xNw)))))))) xNw) fun ((b,(i,(c,(d,(e,(f,(a,_))))))),_)=>((R b i c d e f a).isSome,AV.int .i64 ((R b i c d e f a).getD 0))
theorem xvC (k:Go.FuncId) (R:Nat->Int->Int->Int->Int->List UInt8->List UInt8->LA->Option (Int)) (g:∀ n,OcOk P0 xNs k (xeB (R n))):OcOk P0 xNs k (xeB (fun b i c d e f a=>limN fun n=>R n b i c d e f a)):=xCX g fun v h=>by
 obtain ⟨⟨b,⟨i,⟨c,⟨d,⟨e,⟨f,⟨a,_⟩⟩⟩⟩⟩⟩⟩,_⟩:=v;obtain ⟨n,j⟩:=xAY (R:=fun n=>R n b i c d e f a) h
 exact ⟨n,congrArg (fun o=>(Option.isSome o,(AV.int .i64 (Option.getD o 0):AV))) j⟩
def xd6 (R:Int->Int->Int->Int->List UInt8->List UInt8->LA->Option (Int)):Prop:=OcOk P0 xNs 145 (xeB R)
def xfY (R:Int->Int->Int->Int->List UInt8->List UInt8->LA->Option (Int)):Env:=(xud.E.with 145 (xeB R)).fn 22 0 (lsOf []) (xM7 [])
abbrev xl1 (R:Int->Int->Int->Int->List UInt8->List UInt8->LA->Option (Int)):Prop:=xd6 R
theorem xwG (R:Int->Int->Int->Int->List UInt8->List UInt8->LA->Option (Int)) (a:xl1 R):xMM P0 (xNs.at 0) (xfY R):=(xud.ok.with a).fn
theorem xtT (R:Int->Int->Int->Int->List UInt8->List UInt8->LA->Option (Int)) (a:xl1 R):LoOk P0 (xNs.at (xfY R).pin) (xfY R) (xMQ Tryz.f145 0):=xmP (by kernel_rfl)
def xl4 (R:Int->Int->Int->Int->List UInt8->List UInt8->LA->Option Int) (i:Int) (a:LA):=R (gC a i 0).toInt (gC a i 1).toInt (gC a i 2).toInt (gC a i 3).toInt (gC a i 4).toStr (gC a i 5).toStr (gC a i 6).toList
def xl3 (R:Int->Int->Int->Int->List UInt8->List UInt8->LA->Option Int) (i:Int) (a:LA):=(xl4 R i a).getD 0
def xga {T:Type} (R:Int->Int->Int->Int->List UInt8->List UInt8->LA->Option Int) (n i b c d e:Int) (f g:List UInt8) (a:LA) (δ:T) (κl:(Int×Int×Int×Int×Int×Int×List UInt8×List UInt8×LA)->T) (κr:(Int)->T):T:=br (decide (i<a.length)) (br (ixI a i) (br (ixT a i 7 [Sh.int .i64,Sh.int .i64,Sh.int .i64,Sh.int .i64,Sh.str,Sh.str,Sh.list 7] 0) (br ((xl4 R i a).isSome) (κl (if xl3 R i a>n then xl3 R i a else n,i64.wrap (i+1),b,c,d,e,f,g,a)) δ) δ) δ) (κr (n))
def xbq (R:Int->Int->Int->Int->List UInt8->List UInt8->LA->Option Int):StT (Int×Int×Int×Int×Int×Int×List UInt8×List UInt8×LA) (Int):=fun (n,i,a,b,c,d,e,f,g)=>xga R n i a b c d e f g none inL inR
def xcs (R:Int->Int->Int->Int->List UInt8->List UInt8->LA->Option Int):(Int×Int×Int×Int×Int×Int×List UInt8×List UInt8×LA)->LA×List Box:=fun (n,i,a,b,c,d,e,f,g)=>([AV.own 0 0 0 0,AV.int .i64 n,AV.int .i64 i],[⟨0,7,172,[AV.agg [AV.int .i64 a,AV.int .i64 b,AV.int .i64 c,AV.int .i64 d,AV.str e,AV.str f,AV.list 7 g]],false,true⟩])
def xdC (R:Int->Int->Int->Int->List UInt8->List UInt8->LA->Option Int):(Int)->LR:=fun p=>(.leaf (.exit 0) [AV.int .i64 p] [])
abbrev xsy (R:Int->Int->Int->Int->List UInt8->List UInt8->LA->Option Int) (a:LA) (H:List Box):=XR P0 (xfY R) [1,3,4] [3] [] (xMQ Tryz.f145 0) a H
theorem xyL (R:Int->Int->Int->Int->List UInt8->List UInt8->LA->Option Int) (s:Int×Int×Int×Int×Int×Int×List UInt8×List UInt8×LA):Enc (encR (xcs R) (xdC R)) (xbq R s) (xsy R (xcs R s).1 (xcs R s).2):=by
 obtain ⟨n,i,a,b,c,d,e,f,g⟩:=s;have h:xsy R (xcs R (n,i,a,b,c,d,e,f,g)).1 (xcs R (n,i,a,b,c,d,e,f,g)).2=xga R n i a b c d e f g none (fun s=>some (encR (xcs R) (xdC R) (.inl s))) (fun p=>some (encR (xcs R) (xdC R) (.inr p))):=by kernel_rfl
 rw [h];unfold xbq xga;repeat' (first|refine Enc.br ?_ ?_|exact Enc.none|exact Enc.some rfl)
def xl2 (R:Int->Int->Int->Int->List UInt8->List UInt8->LA->Option Int):Lp:=lpOf [1,3,4] [3] [] (xNt (xNH 0 0 0 0) (xNt (pInt .i64) (xNt (pInt .i64) xNv))) (xNt (xNJ 0 7 172 false true (xNt (xNI (xNt (pInt .i64) (xNt (pInt .i64) (xNt (pInt .i64) (xNt (pInt .i64) (xNt pStr (xNt pStr (xNt (xNM 7 xNy) xNv)))))))) xNv)) xNv) fun (_,(n,(i,_))) (((a,(b,(c,(d,(e,(f,(g,_))))))),_),_)=>((Iter (xbq R) (n,i,a,b,c,d,e,f,g)).isSome,xdC R ((Iter (xbq R) (n,i,a,b,c,d,e,f,g)).getD 0))
theorem xwb (R:Int->Int->Int->Int->List UInt8->List UInt8->LA->Option Int) (a:xl1 R):LoopOk P0 (xNs.at (xfY R).pin) (xfY R).nt (xMQ Tryz.f145 0) (xl2 R):=xCO fun k l o m=>by
 obtain ⟨_,⟨n,⟨i,_⟩⟩⟩:=k;obtain ⟨⟨⟨b,⟨c,⟨d,⟨e,⟨f,⟨g,⟨h,_⟩⟩⟩⟩⟩⟩⟩,_⟩,_⟩:=l;obtain ⟨j,rfl⟩:=Prod.mk.inj m;exact xrR xMV (xMW P0 _) rfl (xwG R a) (xtT R a) (xcs R) (xdC R) (fun p=>by simp only [xdC,LR.eval];first|(simp;done)|(repeat' split<;>simp)) (xyL R) (s:=(n,i,b,c,d,e,f,g,h)) (xbU j)
def xeA (R:Int->Int->Int->Int->List UInt8->List UInt8->LA->Option (Int)):Env:=(xud.E.with 145 (xeB R)).fn 22 0 (lsOf []) (xM7 [(3,xl2 R)])
theorem xwH (R:Int->Int->Int->Int->List UInt8->List UInt8->LA->Option (Int)) (a:xd6 R):xMM P0 (xNs.at 0) (xeA R):=(xud.ok.with a).fn
theorem xuZ (R:Int->Int->Int->Int->List UInt8->List UInt8->LA->Option (Int)) (c:xd6 R):LoOk P0 (xNs.at (xeA R).pin) (xeA R) (Tryz.f145.body.getD .skip):=xho (ls:=[xMQ Tryz.f145 0]) (by kernel_rfl) (fun l b lp a=>by
 simp only [zC,List.not_mem_nil,or_false] at b;rcases b with rfl
 . rw [show (xeA R).lp (xMx (xMQ Tryz.f145 0))=some (xl2 R) by kernel_rfl] at a
   simp only [z6] at a;subst a;exact xwb R c)
def xpG (R:Int->Int->Int->Int->List UInt8->List UInt8->LA->Option Int) (b i c d:Int) (e f:List UInt8) (a:LA):=Iter (xbq R) (0,0,b,i,c,d,e,f,a)
def xmA {T:Type} (R:Int->Int->Int->Int->List UInt8->List UInt8->LA->Option Int) (b i c d:Int) (e f:List UInt8) (a:LA) (δ:T) (κ:Int->T):T:=br ((xpG R b i c d e f a).isSome) (κ (i64.wrap ((xpG R b i c d e f a).getD 0+1))) δ
def xhq (R:Int->Int->Int->Int->List UInt8->List UInt8->LA->Option Int) (b i c d:Int) (e f:List UInt8) (a:LA):=xmA R b i c d e f a none some
theorem xBO (R:Int->Int->Int->Int->List UInt8->List UInt8->LA->Option Int) (b i c d:Int) (e f:List UInt8) (a:LA):Enc (fun (p:Int)=>((AV.int .i64 p):AV)) (xhq R b i c d e f a) (XF P0 (xeA R) Tryz.f145 (Tryz.f145.body.getD .skip) [AV.agg [AV.int .i64 b,AV.int .i64 i,AV.int .i64 c,AV.int .i64 d,AV.str e,AV.str f,AV.list 7 a]]):=by
 have h:XF P0 (xeA R) Tryz.f145 (Tryz.f145.body.getD .skip) [AV.agg [AV.int .i64 b,AV.int .i64 i,AV.int .i64 c,AV.int .i64 d,AV.str e,AV.str f,AV.list 7 a]]=xmA R b i c d e f a none (fun (p:Int)=>some ((AV.int .i64 p):AV)):=by kernel_rfl
 rw [h];unfold xhq xmA;repeat' (first|refine Enc.br ?_ ?_|exact Enc.none|exact Enc.some rfl)
def xBN (R:Int->Int->Int->Int->List UInt8->List UInt8->LA->Option Int):LA->Option (Bool×AV):=ocOf (xNu (xNL (xNu (sEq (pInt .i64)) (xNu (sEq (pInt .i64)) (xNu (sEq (pInt .i64)) (xNu (sEq (pInt .i64)) (xNu (sEq pStr) (xNu (sEq pStr) (xNu (xNK 7 xNy) xNw)))))))) xNw) fun ((b,(i,(c,(d,(e,(f,(a,_))))))),_)=>((xhq R b i c d e f a).isSome,(AV.int .i64 ((xhq R b i c d e f a).getD 0)))
theorem xBM (R:Int->Int->Int->Int->List UInt8->List UInt8->LA->Option Int) (a:xd6 R):OcOk P0 xNs 145 (xBN R):=xnl fun e h f=>by
 obtain ⟨⟨j,⟨i,⟨k,⟨l,⟨m,⟨n,⟨g,_⟩⟩⟩⟩⟩⟩⟩,_⟩:=e;obtain ⟨b,c⟩:=Prod.mk.inj f;refine xhm (p:=(xeA R).pin) (xlk xMV (xMW P0 _) rfl (xwH R a) Tryz.func145 rfl (by kernel_rfl) (xuZ R a) ((xBO R _ _ _ _ _ _ _ _ (xbU (d:=0) b)).trans ?_))
 exact congrArg some c
def xdj:Nat->Int->Int->Int->Int->List UInt8->List UInt8->LA->Option (Int)
 | 0=>fun _ _ _ _ _ _ _=>none
 | fu_+1=>fun b i c d e f a=>xhq (xdj fu_) b i c d e f a
theorem xsw:∀ n,xd6 (xdj n)
 | 0=>xnl fun _ _ h=>absurd (Prod.mk.inj h).1 Bool.false_ne_true
 | fu_+1=>fun a r h=>xBM (xdj fu_) (xsw fu_) a r h
def xjC:Int->Int->Int->Int->List UInt8->List UInt8->LA->Option (Int):=fun b i c d e f a=>limN fun n=>xdj n b i c d e f a
theorem xyK:xd6 xjC:=xvC 145 xdj xsw
def xyX:Env:=xud.E.with 145 (xeB xjC)
theorem xvG:xMM P0 xNs xyX:=xud.ok.with xyK
def xez (R:Int->Int->Int->Int->List UInt8->List UInt8->LA->LA->Option (Int×Int)):LA->Option (Bool×AV):=ocOf (xNu (xNL (xNu (sEq (pInt .i64)) (xNu (sEq (pInt .i64)) (xNu (sEq (pInt .i64)) (xNu (sEq (pInt .i64)) (xNu (sEq pStr) (xNu (sEq pStr) (xNu (xNK 7 xNy) xNw)))))))) (xNu (xNK 1 xNy) xNw)) fun ((b,(i,(c,(d,(e,(f,(a,_))))))),(g,_))=>((R b i c d e f a g).isSome,AV.tuple [AV.int .i64 (((R b i c d e f a g).getD (0,0))).1,AV.int .i64 (((R b i c d e f a g).getD (0,0))).2])
theorem xvB (k:Go.FuncId) (R:Nat->Int->Int->Int->Int->List UInt8->List UInt8->LA->LA->Option (Int×Int)) (j:∀ n,OcOk P0 xNs k (xez (R n))):OcOk P0 xNs k (xez (fun b i c d e f a g=>limN fun n=>R n b i c d e f a g)):=xCX j fun v h=>by
 obtain ⟨⟨b,⟨i,⟨c,⟨d,⟨e,⟨f,⟨a,_⟩⟩⟩⟩⟩⟩⟩,⟨g,_⟩⟩:=v;obtain ⟨n,l⟩:=xAY (R:=fun n=>R n b i c d e f a g) h
 exact ⟨n,congrArg (fun o=>(Option.isSome o,(AV.tuple [AV.int .i64 ((Option.getD o (0,0))).1,AV.int .i64 ((Option.getD o (0,0))).2]:AV))) l⟩
def xd5 (R:Int->Int->Int->Int->List UInt8->List UInt8->LA->LA->Option (Int×Int)):Prop:=OcOk P0 xNs 146 (xez R)
def xfX (R:Int->Int->Int->Int->List UInt8->List UInt8->LA->LA->Option (Int×Int)):Env:=(xyX.with 146 (xez R)).fn 75 0 (lsOf []) (xM7 [])
abbrev xlX (R:Int->Int->Int->Int->List UInt8->List UInt8->LA->LA->Option (Int×Int)):Prop:=xd5 R
theorem xwE (R:Int->Int->Int->Int->List UInt8->List UInt8->LA->LA->Option (Int×Int)) (a:xlX R):xMM P0 (xNs.at 0) (xfX R):=(xvG.with a).fn
theorem xtS (R:Int->Int->Int->Int->List UInt8->List UInt8->LA->LA->Option (Int×Int)) (a:xlX R):LoOk P0 (xNs.at (xfX R).pin) (xfX R) (xMQ Tryz.f146 0):=xmP (by kernel_rfl)
def xl0 (R:Int->Int->Int->Int->List UInt8->List UInt8->LA->LA->Option (Int×Int)) (b:LA) (i:Int) (a:LA):Option (Int×Int):=R (gC a i 0).toInt (gC a i 1).toInt (gC a i 2).toInt (gC a i 3).toInt (gC a i 4).toStr (gC a i 5).toStr (gC a i 6).toList b
def xlx (R:Int->Int->Int->Int->List UInt8->List UInt8->LA->LA->Option (Int×Int)) (a:LA) (i:Int) (b:LA):Int×Int:=(xl0 R a i b).getD (0,0)
def xlZ (R:Int->Int->Int->Int->List UInt8->List UInt8->LA->LA->Option (Int×Int)) (a:LA) (i:Int) (b:LA):Int:=(xlx R a i b).snd
def xf9 {T:Type} (R:Int->Int->Int->Int->List UInt8->List UInt8->LA->LA->Option (Int×Int)) (b:LA) (d:Nat) (i e f g h:Int) (j k:List UInt8) (a c:LA) (δ:T) (κl:(Nat×Int×Int×Int×Int×Int×List UInt8×List UInt8×LA×LA)->T) (κr:(Bool×(Int×Int×Nat×Int×Int×Int×Int×List UInt8×List UInt8×LA×LA)×(Nat×Int×Int×Int×Int×List UInt8×List UInt8×LA×LA))->T):T:=br (decide (i<a.length)) (br (ixI a i) (br (ixT a i 7 [Sh.int .i64,Sh.int .i64,Sh.int .i64,Sh.int .i64,Sh.str,Sh.str,Sh.list 7] 0) (br ((xl0 R b i a).isSome) (br (xlZ R b i a != 0) (κr (true,(0,xlZ R b i a,d,e,f,g,h,j,k,a,c),(0,0,0,0,0,[],[],[],[]))) (br (rmB d c 1 8) (κl (d+1,i64.wrap (i+1),e,f,g,h,j,k,a,c++[AV.int .i64 (xlx R b i a).fst])) δ)) δ) δ) δ) (κr (false,(0,0,0,0,0,0,0,[],[],[],[]),(d,e,f,g,h,j,k,a,c)))
def xbp (R:Int->Int->Int->Int->List UInt8->List UInt8->LA->LA->Option (Int×Int)) (a:LA):StT (Nat×Int×Int×Int×Int×Int×List UInt8×List UInt8×LA×LA) (Bool×(Int×Int×Nat×Int×Int×Int×Int×List UInt8×List UInt8×LA×LA)×(Nat×Int×Int×Int×Int×List UInt8×List UInt8×LA×LA)):=fun (c,i,d,e,f,g,h,j,k,b)=>xf9 R a c i d e f g h j k b none inL inR
def xcr (R:Int->Int->Int->Int->List UInt8->List UInt8->LA->LA->Option (Int×Int)) (a:LA):(Nat×Int×Int×Int×Int×Int×List UInt8×List UInt8×LA×LA)->LA×List Box:=fun (c,i,d,e,f,g,h,j,k,b)=>([AV.list 1 a,AV.own 0 0 0 0,AV.osl 1 0 0 c,AV.int .i64 i],[⟨0,7,172,[AV.agg [AV.int .i64 d,AV.int .i64 e,AV.int .i64 f,AV.int .i64 g,AV.str h,AV.str j,AV.list 7 k]],false,true⟩,⟨0,1,3,b,false,true⟩])
def xdB (R:Int->Int->Int->Int->List UInt8->List UInt8->LA->LA->Option (Int×Int)) (a:LA):(Bool×(Int×Int×Nat×Int×Int×Int×Int×List UInt8×List UInt8×LA×LA)×(Nat×Int×Int×Int×Int×List UInt8×List UInt8×LA×LA))->LR:=fun p=>(.node p.1 (.leaf .ret [AV.list 1 a,AV.own 0 0 0 0,AV.int .i64 p.2.1.1,AV.int .i64 p.2.1.2.1,AV.osl 1 0 0 p.2.1.2.2.1] [⟨0,7,172,[AV.agg [AV.int .i64 p.2.1.2.2.2.1,AV.int .i64 p.2.1.2.2.2.2.1,AV.int .i64 p.2.1.2.2.2.2.2.1,AV.int .i64 p.2.1.2.2.2.2.2.2.1,AV.str p.2.1.2.2.2.2.2.2.2.1,AV.str p.2.1.2.2.2.2.2.2.2.2.1,AV.list 7 p.2.1.2.2.2.2.2.2.2.2.2.1]],false,true⟩,⟨0,1,3,p.2.1.2.2.2.2.2.2.2.2.2.2,false,true⟩]) (.leaf (.exit 0) [AV.list 1 a,AV.own 0 0 0 0,.top,.top,AV.osl 1 0 0 p.2.2.1] [⟨0,7,172,[AV.agg [AV.int .i64 p.2.2.2.1,AV.int .i64 p.2.2.2.2.1,AV.int .i64 p.2.2.2.2.2.1,AV.int .i64 p.2.2.2.2.2.2.1,AV.str p.2.2.2.2.2.2.2.1,AV.str p.2.2.2.2.2.2.2.2.1,AV.list 7 p.2.2.2.2.2.2.2.2.2.1]],false,true⟩,⟨0,1,3,p.2.2.2.2.2.2.2.2.2.2,false,true⟩]))
abbrev xsv (R:Int->Int->Int->Int->List UInt8->List UInt8->LA->LA->Option (Int×Int)) (a:LA) (H:List Box):=XR P0 (xfX R) [1,2,8,9] [1,2,4,5,8] [(8,1,3)] (xMQ Tryz.f146 0) a H
theorem xyJ (R:Int->Int->Int->Int->List UInt8->List UInt8->LA->LA->Option (Int×Int)) (a:LA) (s:Nat×Int×Int×Int×Int×Int×List UInt8×List UInt8×LA×LA):Enc (encR (xcr R a) (xdB R a)) (xbp R a s) (xsv R (xcr R a s).1 (xcr R a s).2):=by
 obtain ⟨c,i,d,e,f,g,j,k,l,b⟩:=s;have h:xsv R (xcr R a (c,i,d,e,f,g,j,k,l,b)).1 (xcr R a (c,i,d,e,f,g,j,k,l,b)).2=xf9 R a c i d e f g j k l b none (fun s=>some (encR (xcr R a) (xdB R a) (.inl s))) (fun p=>some (encR (xcr R a) (xdB R a) (.inr p))):=by kernel_rfl
 rw [h];unfold xbp xf9;repeat' (first|refine Enc.br ?_ ?_|exact Enc.none|exact Enc.some rfl)
def xlY (R:Int->Int->Int->Int->List UInt8->List UInt8->LA->LA->Option (Int×Int)):Lp:=lpOf [1,2,8,9] [1,2,4,5,8] [(8,1,3)] (xNt (xNM 1 xNy) (xNt (xNH 0 0 0 0) (xNt (xNG 1 0 0) (xNt (pInt .i64) xNv)))) (xNt (xNJ 0 7 172 false true (xNt (xNI (xNt (pInt .i64) (xNt (pInt .i64) (xNt (pInt .i64) (xNt (pInt .i64) (xNt pStr (xNt pStr (xNt (xNM 7 xNy) xNv)))))))) xNv)) (xNt (xNJ 0 1 3 false true xNy) xNv)) fun (a,(_,(c,(i,_)))) (((d,(e,(f,(g,(h,(j,(k,_))))))),_),(b,_))=>((Iter (xbp R a) (c,i,d,e,f,g,h,j,k,b)).isSome,xdB R a ((Iter (xbp R a) (c,i,d,e,f,g,h,j,k,b)).getD (false,(0,0,0,0,0,0,0,[],[],[],[]),(0,0,0,0,0,[],[],[],[]))))
theorem xwa (R:Int->Int->Int->Int->List UInt8->List UInt8->LA->LA->Option (Int×Int)) (c:xlX R):LoopOk P0 (xNs.at (xfX R).pin) (xfX R).nt (xMQ Tryz.f146 0) (xlY R):=xCO fun n o r q=>by
 obtain ⟨a,⟨_,⟨d,⟨i,_⟩⟩⟩⟩:=n;obtain ⟨⟨⟨e,⟨f,⟨g,⟨h,⟨j,⟨k,⟨l,_⟩⟩⟩⟩⟩⟩⟩,_⟩,⟨b,_⟩⟩:=o;obtain ⟨m,rfl⟩:=Prod.mk.inj q;exact xrR xMV (xMW P0 _) rfl (xwE R c) (xtS R c) (xcr R a) (xdB R a) (fun p=>by simp only [xdB,LR.eval];first|(simp;done)|(repeat' split<;>simp)) (xyJ R a) (s:=(d,i,e,f,g,h,j,k,l,b)) (xbU m)
def xey (R:Int->Int->Int->Int->List UInt8->List UInt8->LA->LA->Option (Int×Int)):Env:=(xyX.with 146 (xez R)).fn 75 0 (lsOf []) (xM7 [(10,xlY R)])
theorem xwF (R:Int->Int->Int->Int->List UInt8->List UInt8->LA->LA->Option (Int×Int)) (a:xd5 R):xMM P0 (xNs.at 0) (xey R):=(xvG.with a).fn
theorem xuY (R:Int->Int->Int->Int->List UInt8->List UInt8->LA->LA->Option (Int×Int)) (c:xd5 R):LoOk P0 (xNs.at (xey R).pin) (xey R) (Tryz.f146.body.getD .skip):=xho (ls:=[xMQ Tryz.f146 0]) (by kernel_rfl) (fun l b lp a=>by
 simp only [zC,List.not_mem_nil,or_false] at b;rcases b with rfl
 . rw [show (xey R).lp (xMx (xMQ Tryz.f146 0))=some (xlY R) by kernel_rfl] at a
   simp only [z6] at a;subst a;exact xwa R c)
def xoo (R:Int->Int->Int->Int->List UInt8->List UInt8->LA->LA->Option (Int×Int)) (b i c d:Int) (e f:List UInt8) (a g:LA):Option
 (Bool ×
  (Int×Int×Nat×Int×Int×Int×Int×List UInt8×List UInt8×LA×LA) ×
   Nat×Int×Int×Int×Int×List UInt8×List UInt8×LA×LA):=Iter (xbp R g) (0,0,b,i,c,d,e,f,a,[])
def xon (R:Int->Int->Int->Int->List UInt8->List UInt8->LA->LA->Option (Int×Int)) (b i c d:Int) (e f:List UInt8) (a g:LA):Bool ×
 (Int×Int×Nat×Int×Int×Int×Int×List UInt8×List UInt8×LA×LA) ×
  Nat×Int×Int×Int×Int×List UInt8×List UInt8×LA×LA:=(xoo R b i c d e f a g).getD (false,(0,0,0,0,0,0,0,[],[],[],[]),0,0,0,0,0,[],[],[],[])
def xom (R:Int->Int->Int->Int->List UInt8->List UInt8->LA->LA->Option (Int×Int)) (b i c d:Int) (e f:List UInt8) (a g:LA):(Int×Int×Nat×Int×Int×Int×Int×List UInt8×List UInt8×LA×LA) ×
 Nat×Int×Int×Int×Int×List UInt8×List UInt8×LA×LA:=(xon R b i c d e f a g).snd
def xok (R:Int->Int->Int->Int->List UInt8->List UInt8->LA->LA->Option (Int×Int)) (b i c d:Int) (e f:List UInt8) (a g:LA):Nat×Int×Int×Int×Int×List UInt8×List UInt8×LA×LA:=(xom R b i c d e f a g).snd
def xol (R:Int->Int->Int->Int->List UInt8->List UInt8->LA->LA->Option (Int×Int)) (b i c d:Int) (e f:List UInt8) (a g:LA):Int×Int×Nat×Int×Int×Int×Int×List UInt8×List UInt8×LA×LA:=(xom R b i c d e f a g).fst
def xpF (R:Int->Int->Int->Int->List UInt8->List UInt8->LA->LA->Option (Int×Int)) (b i c d:Int) (e f:List UInt8) (a g:LA):Int×Int×Int×Int×List UInt8×List UInt8×LA×LA:=(xok R b i c d e f a g).snd
def xoj (R:Int->Int->Int->Int->List UInt8->List UInt8->LA->LA->Option (Int×Int)) (b i c d:Int) (e f:List UInt8) (a g:LA):Nat:=(xok R b i c d e f a g).fst
def xpE (R:Int->Int->Int->Int->List UInt8->List UInt8->LA->LA->Option (Int×Int)) (b i c d:Int) (e f:List UInt8) (a g:LA):Int×Int×Int×List UInt8×List UInt8×LA×LA:=(xpF R b i c d e f a g).snd
def xpD (R:Int->Int->Int->Int->List UInt8->List UInt8->LA->LA->Option (Int×Int)) (b i c d:Int) (e f:List UInt8) (a g:LA):Int×Int×List UInt8×List UInt8×LA×LA:=(xpE R b i c d e f a g).snd
def xpC (R:Int->Int->Int->Int->List UInt8->List UInt8->LA->LA->Option (Int×Int)) (b i c d:Int) (e f:List UInt8) (a g:LA):Int×List UInt8×List UInt8×LA×LA:=(xpD R b i c d e f a g).snd
def xpB (R:Int->Int->Int->Int->List UInt8->List UInt8->LA->LA->Option (Int×Int)) (b i c d:Int) (e f:List UInt8) (a g:LA):List UInt8×List UInt8×LA×LA:=(xpC R b i c d e f a g).snd
def xpA (R:Int->Int->Int->Int->List UInt8->List UInt8->LA->LA->Option (Int×Int)) (b i c d:Int) (e f:List UInt8) (a g:LA):List UInt8×LA×LA:=(xpB R b i c d e f a g).snd
def xpz (R:Int->Int->Int->Int->List UInt8->List UInt8->LA->LA->Option (Int×Int)) (b i c d:Int) (e f:List UInt8) (a g:LA):LA×LA:=(xpA R b i c d e f a g).snd
def xpy (R:Int->Int->Int->Int->List UInt8->List UInt8->LA->LA->Option (Int×Int)) (b i c d:Int) (e f:List UInt8) (a g:LA):LA:=(xpz R b i c d e f a g).snd
def xpw (R:Int->Int->Int->Int->List UInt8->List UInt8->LA->LA->Option (Int×Int)) (c i d e:Int) (f g:List UInt8) (a b:LA):Option (Int×Bool):=xij (xpF R c i d e f g a b).fst (xpE R c i d e f g a b).fst (xpD R c i d e f g a b).fst (xpC R c i d e f g a b).fst (xpB R c i d e f g a b).fst (xpA R c i d e f g a b).fst (xpz R c i d e f g a b).fst (List.take (xoj R c i d e f g a b) (List.drop 0 (xpy R c i d e f g a b))) b
def xpv (R:Int->Int->Int->Int->List UInt8->List UInt8->LA->LA->Option (Int×Int)) (b i c d:Int) (e f:List UInt8) (a g:LA):Int×Bool:=(xpw R b i c d e f a g).getD (0,false)
def xkg {T:Type} (R:Int->Int->Int->Int->List UInt8->List UInt8->LA->LA->Option (Int×Int)) (b i c d:Int) (e f:List UInt8) (a g:LA) (δ:T) (κ:Int×Int->T):T:=br ((xoo R b i c d e f a g).isSome) (br ((xon R b i c d e f a g).fst) (κ ((xol R b i c d e f a g).fst,(xol R b i c d e f a g).snd.fst)) (br (decide (0+xoj R b i c d e f a g<=(xpy R b i c d e f a g).length)&&true) (br ((xpw R b i c d e f a g).isSome) (br (!(xpv R b i c d e f a g).snd) (κ (0,7)) (κ ((xpv R b i c d e f a g).fst,0))) δ) δ)) δ
def xmz {T:Type} (R:Int->Int->Int->Int->List UInt8->List UInt8->LA->LA->Option (Int×Int)) (b i c d:Int) (e f:List UInt8) (a g:LA) (δ:T) (κ:Int×Int->T):T:=br (decide ((xjM b).fst<0)) (κ (0,7)) (br ((xoi b i c d e f a).isSome) (br (!(xoi b i c d e f a).getD false) (κ (0,8)) (br (b==2) (br (decide (i<0)) (κ (0,13)) (br (decide (i>=g.length)) (κ (0,13)) (xkg R b i c d e f a g δ κ))) (xkg R b i c d e f a g δ κ))) δ)
def xfP (R:Int->Int->Int->Int->List UInt8->List UInt8->LA->LA->Option (Int×Int)) (b i c d:Int) (e f:List UInt8) (a g:LA):=xmz R b i c d e f a g none some
theorem xBL (R:Int->Int->Int->Int->List UInt8->List UInt8->LA->LA->Option (Int×Int)) (b i c d:Int) (e f:List UInt8) (a g:LA):Enc (fun (p:Int×Int)=>((AV.tuple [AV.int .i64 p.1,AV.int .i64 p.2]):AV)) (xfP R b i c d e f a g) (XF P0 (xey R) Tryz.f146 (Tryz.f146.body.getD .skip) [AV.agg [AV.int .i64 b,AV.int .i64 i,AV.int .i64 c,AV.int .i64 d,AV.str e,AV.str f,AV.list 7 a],AV.list 1 g]):=by
 have h:XF P0 (xey R) Tryz.f146 (Tryz.f146.body.getD .skip) [AV.agg [AV.int .i64 b,AV.int .i64 i,AV.int .i64 c,AV.int .i64 d,AV.str e,AV.str f,AV.list 7 a],AV.list 1 g]=xmz R b i c d e f a g none (fun (p:Int×Int)=>some ((AV.tuple [AV.int .i64 p.1,AV.int .i64 p.2]):AV)):=by kernel_rfl
 rw [h];unfold xfP xmz xkg;repeat' (first|refine Enc.br ?_ ?_|exact Enc.none|exact Enc.some rfl)
def xBK (R:Int->Int->Int->Int->List UInt8->List UInt8->LA->LA->Option (Int×Int)):LA->Option (Bool×AV):=ocOf (xNu (xNL (xNu (sEq (pInt .i64)) (xNu (sEq (pInt .i64)) (xNu (sEq (pInt .i64)) (xNu (sEq (pInt .i64)) (xNu (sEq pStr) (xNu (sEq pStr) (xNu (xNK 7 xNy) xNw)))))))) (xNu (xNK 1 xNy) xNw)) fun ((b,(i,(c,(d,(e,(f,(a,_))))))),(g,_))=>((xfP R b i c d e f a g).isSome,(AV.tuple [AV.int .i64 ((xfP R b i c d e f a g).getD (0,0)).1,AV.int .i64 ((xfP R b i c d e f a g).getD (0,0)).2]))
theorem xBJ (R:Int->Int->Int->Int->List UInt8->List UInt8->LA->LA->Option (Int×Int)) (a:xd5 R):OcOk P0 xNs 146 (xBK R):=xnl fun e h f=>by
 obtain ⟨⟨j,⟨i,⟨k,⟨l,⟨m,⟨n,⟨g,_⟩⟩⟩⟩⟩⟩⟩,⟨o,_⟩⟩:=e;obtain ⟨b,c⟩:=Prod.mk.inj f;refine xhm (p:=(xey R).pin) (xlk xMV (xMW P0 _) rfl (xwF R a) Tryz.func146 rfl (by kernel_rfl) (xuY R a) ((xBL R _ _ _ _ _ _ _ _ _ (xbU (d:=(0,0)) b)).trans ?_))
 exact congrArg some c
def xdi:Nat->Int->Int->Int->Int->List UInt8->List UInt8->LA->LA->Option (Int×Int)
 | 0=>fun _ _ _ _ _ _ _ _=>none
 | fu_+1=>fun b i c d e f a g=>xfP (xdi fu_) b i c d e f a g
theorem xsu:∀ n,xd5 (xdi n)
 | 0=>xnl fun _ _ h=>absurd (Prod.mk.inj h).1 Bool.false_ne_true
 | fu_+1=>fun a r h=>xBJ (xdi fu_) (xsu fu_) a r h
def xgF:Int->Int->Int->Int->List UInt8->List UInt8->LA->LA->Option (Int×Int):=fun b i c d e f a g=>limN fun n=>xdi n b i c d e f a g
theorem xyI:xd5 xgF:=xvB 146 xdi xsu
def xGA:Env:=xyX.with 146 (xez xgF)
theorem xGC:xMM P0 xNs xGA:=xvG.with xyI
def xGB:EO:=EO.mk xGA xGC
def xqX {T:Type} (b h c d:Int) (e f:List UInt8) (a g:LA) (δ:T) (κ:Int×Int->T):T:=br ((xjC b h c d e f a).isSome) (br (decide ((xjC b h c d e f a).getD 0>24)) (κ (0,26)) (br ((xgF b h c d e f a g).isSome) (κ (((xgF b h c d e f a g).getD (0,0)).fst,((xgF b h c d e f a g).getD (0,0)).snd)) δ)) δ
def xtQ (c h d e:Int) (f g:List UInt8) (a b:LA):=xqX c h d e f g a b none some
def xJh:EO:=xGB.f Tryz.func120 14 0 [] [] lk0 (u2 (xNL (u7 uI uI uI uI (sEq pStr) (sEq pStr) (uL 7))) (uL 1)) (fun ((c,i,d,e,g,h,a,_),b,_) _=>xqX c i d e g h a b) (fun _ p=>AV.tuple [AV.int .i64 p.1,AV.int .i64 p.2]) (0,0)
def xD2:LA:=(([AV.str [(97:UInt8),(100:UInt8),(100:UInt8)],AV.str [(97:UInt8),(102:UInt8),(116:UInt8),(101:UInt8),(114:UInt8)],AV.str [(97:UInt8),(108:UInt8),(108:UInt8)],AV.str [(97:UInt8),(108:UInt8),(116:UInt8),(101:UInt8),(114:UInt8)],AV.str [(97:UInt8),(110:UInt8),(100:UInt8)],AV.str [(97:UInt8),(115:UInt8)],AV.str [(98:UInt8),(101:UInt8),(102:UInt8),(111:UInt8),(114:UInt8),(101:UInt8)],AV.str [(98:UInt8),(101:UInt8),(103:UInt8),(105:UInt8),(110:UInt8)],AV.str [(98:UInt8),(101:UInt8),(116:UInt8),(119:UInt8),(101:UInt8),(101:UInt8),(110:UInt8)],AV.str [(98:UInt8),(111:UInt8),(111:UInt8),(108:UInt8)],AV.str [(98:UInt8),(121:UInt8)],AV.str [(99:UInt8),(104:UInt8),(101:UInt8),(99:UInt8),(107:UInt8)],AV.str [(99:UInt8),(111:UInt8),(97:UInt8),(108:UInt8),(101:UInt8),(115:UInt8),(99:UInt8),(101:UInt8)],AV.str [(99:UInt8),(111:UInt8),(109:UInt8),(109:UInt8),(105:UInt8),(116:UInt8)],AV.str [(99:UInt8),(111:UInt8),(110:UInt8),(116:UInt8),(97:UInt8),(105:UInt8),(110:UInt8),(115:UInt8)],AV.str [(99:UInt8),(111:UInt8),(117:UInt8),(110:UInt8),(116:UInt8)],AV.str [(99:UInt8),(114:UInt8),(101:UInt8),(97:UInt8),(116:UInt8),(101:UInt8)],AV.str [(100:UInt8),(101:UInt8),(102:UInt8),(97:UInt8),(117:UInt8),(108:UInt8),(116:UInt8)],AV.str [(100:UInt8),(101:UInt8),(108:UInt8),(101:UInt8),(116:UInt8),(101:UInt8)],AV.str [(100:UInt8),(101:UInt8),(115:UInt8),(99:UInt8)],AV.str [(100:UInt8),(105:UInt8),(115:UInt8),(116:UInt8),(105:UInt8),(110:UInt8),(99:UInt8),(116:UInt8)],AV.str [(100:UInt8),(114:UInt8),(111:UInt8),(112:UInt8)],AV.str [(100:UInt8),(117:UInt8),(114:UInt8),(105:UInt8),(110:UInt8),(103:UInt8)],AV.str [(101:UInt8),(113:UInt8),(117:UInt8),(97:UInt8),(108:UInt8),(115:UInt8)],AV.str [(101:UInt8),(120:UInt8),(99:UInt8),(101:UInt8),(112:UInt8),(116:UInt8)],AV.str [(102:UInt8),(97:UInt8),(108:UInt8),(115:UInt8),(101:UInt8)],AV.str [(102:UInt8),(105:UInt8),(110:UInt8),(105:UInt8),(115:UInt8),(104:UInt8),(101:UInt8),(100:UInt8),(98:UInt8),(121:UInt8)],AV.str [(102:UInt8),(105:UInt8),(110:UInt8),(105:UInt8),(115:UInt8),(104:UInt8),(101:UInt8),(115:UInt8)],AV.str [(102:UInt8),(111:UInt8),(114:UInt8),(101:UInt8),(105:UInt8),(103:UInt8),(110:UInt8)],AV.str [(102:UInt8),(111:UInt8),(114:UInt8),(101:UInt8),(118:UInt8),(101:UInt8),(114:UInt8)],AV.str [(102:UInt8),(114:UInt8),(111:UInt8),(109:UInt8)],AV.str [(103:UInt8),(114:UInt8),(111:UInt8),(117:UInt8),(112:UInt8)],AV.str [(104:UInt8),(111:UInt8),(108:UInt8),(100:UInt8)],AV.str [(105:UInt8),(102:UInt8)],AV.str [(105:UInt8),(110:UInt8),(115:UInt8),(101:UInt8),(114:UInt8),(116:UInt8)],AV.str [(105:UInt8),(110:UInt8),(116:UInt8)],AV.str [(105:UInt8),(110:UInt8),(116:UInt8),(101:UInt8),(114:UInt8),(115:UInt8),(101:UInt8),(99:UInt8),(116:UInt8)],AV.str [(105:UInt8),(110:UInt8),(116:UInt8),(111:UInt8)],AV.str [(105:UInt8),(115:UInt8)],AV.str [(106:UInt8),(111:UInt8),(105:UInt8),(110:UInt8)],AV.str [(107:UInt8),(101:UInt8),(121:UInt8)],AV.str [(108:UInt8),(101:UInt8),(102:UInt8),(116:UInt8)],AV.str [(108:UInt8),(101:UInt8),(110:UInt8),(103:UInt8),(116:UInt8),(104:UInt8)],AV.str [(108:UInt8),(105:UInt8),(109:UInt8),(105:UInt8),(116:UInt8)],AV.str [(109:UInt8),(97:UInt8),(120:UInt8)],AV.str [(109:UInt8),(101:UInt8),(101:UInt8),(116:UInt8),(115:UInt8)],AV.str [(109:UInt8),(101:UInt8),(116:UInt8),(98:UInt8),(121:UInt8)],AV.str [(109:UInt8),(105:UInt8),(110:UInt8)],AV.str [(110:UInt8),(111:UInt8),(110:UInt8),(115:UInt8),(101:UInt8),(113:UInt8),(117:UInt8),(101:UInt8),(110:UInt8),(99:UInt8),(101:UInt8),(100:UInt8)],AV.str [(110:UInt8),(111:UInt8),(116:UInt8)],AV.str [(110:UInt8),(111:UInt8),(119:UInt8)],AV.str [(110:UInt8),(117:UInt8),(108:UInt8),(108:UInt8)],AV.str [(111:UInt8),(102:UInt8)],AV.str [(111:UInt8),(110:UInt8)],AV.str [(111:UInt8),(114:UInt8)],AV.str [(111:UInt8),(114:UInt8),(100:UInt8),(101:UInt8),(114:UInt8)],AV.str [(111:UInt8),(118:UInt8),(101:UInt8),(114:UInt8),(108:UInt8),(97:UInt8),(112:UInt8),(112:UInt8),(101:UInt8),(100:UInt8),(98:UInt8),(121:UInt8)],AV.str [(111:UInt8),(118:UInt8),(101:UInt8),(114:UInt8),(108:UInt8),(97:UInt8),(112:UInt8),(115:UInt8)],AV.str [(112:UInt8),(114:UInt8),(105:UInt8),(109:UInt8),(97:UInt8),(114:UInt8),(121:UInt8)],AV.str [(112:UInt8),(114:UInt8),(117:UInt8),(110:UInt8),(101:UInt8)],AV.str [(114:UInt8),(101:UInt8),(102:UInt8),(101:UInt8),(114:UInt8),(101:UInt8),(110:UInt8),(99:UInt8),(101:UInt8),(115:UInt8)],AV.str [(114:UInt8),(101:UInt8),(108:UInt8),(101:UInt8),(97:UInt8),(115:UInt8),(101:UInt8)],AV.str [(114:UInt8),(101:UInt8),(110:UInt8),(97:UInt8),(109:UInt8),(101:UInt8)],AV.str [(114:UInt8),(101:UInt8),(116:UInt8),(97:UInt8),(105:UInt8),(110:UInt8)],AV.str [(114:UInt8),(111:UInt8),(108:UInt8),(108:UInt8),(98:UInt8),(97:UInt8),(99:UInt8),(107:UInt8)],AV.str [(115:UInt8),(101:UInt8),(108:UInt8),(101:UInt8),(99:UInt8),(116:UInt8)],AV.str [(115:UInt8),(101:UInt8),(113:UInt8),(117:UInt8),(101:UInt8),(110:UInt8),(99:UInt8),(101:UInt8),(100:UInt8)],AV.str [(115:UInt8),(101:UInt8),(116:UInt8)],AV.str [(115:UInt8),(116:UInt8),(97:UInt8),(114:UInt8),(116:UInt8),(101:UInt8),(100:UInt8),(98:UInt8),(121:UInt8)],AV.str [(115:UInt8),(116:UInt8),(97:UInt8),(114:UInt8),(116:UInt8),(115:UInt8)],AV.str [(115:UInt8),(117:UInt8),(109:UInt8)],AV.str [(115:UInt8),(121:UInt8),(115:UInt8),(116:UInt8),(101:UInt8),(109:UInt8)],AV.str [(115:UInt8),(121:UInt8),(115:UInt8),(116:UInt8),(101:UInt8),(109:UInt8),(102:UInt8),(114:UInt8),(111:UInt8),(109:UInt8)],AV.str [(115:UInt8),(121:UInt8),(115:UInt8),(116:UInt8),(101:UInt8),(109:UInt8),(116:UInt8),(111:UInt8)],AV.str [(116:UInt8),(97:UInt8),(98:UInt8),(108:UInt8),(101:UInt8)],AV.str [(116:UInt8),(101:UInt8),(120:UInt8),(116:UInt8)],AV.str [(116:UInt8),(111:UInt8)],AV.str [(116:UInt8),(114:UInt8),(117:UInt8),(101:UInt8)],AV.str [(116:UInt8),(120:UInt8)],AV.str [(117:UInt8),(110:UInt8),(100:UInt8),(101:UInt8),(114:UInt8)],AV.str [(117:UInt8),(110:UInt8),(105:UInt8),(111:UInt8),(110:UInt8)],AV.str [(117:UInt8),(112:UInt8),(100:UInt8),(97:UInt8),(116:UInt8),(101:UInt8)],AV.str [(118:UInt8),(97:UInt8),(108:UInt8),(105:UInt8),(100:UInt8)],AV.str [(118:UInt8),(97:UInt8),(108:UInt8),(105:UInt8),(100:UInt8),(102:UInt8),(114:UInt8),(111:UInt8),(109:UInt8)],AV.str [(118:UInt8),(97:UInt8),(108:UInt8),(105:UInt8),(100:UInt8),(116:UInt8),(111:UInt8)],AV.str [(118:UInt8),(97:UInt8),(108:UInt8),(117:UInt8),(101:UInt8),(115:UInt8)],AV.str [(119:UInt8),(104:UInt8),(101:UInt8),(114:UInt8),(101:UInt8)]]))
def xBS {T:Type} (δ:T) (κ:LA->T):T:=κ ([AV.str [(97:UInt8),(100:UInt8),(100:UInt8)],AV.str [(97:UInt8),(102:UInt8),(116:UInt8),(101:UInt8),(114:UInt8)],AV.str [(97:UInt8),(108:UInt8),(108:UInt8)],AV.str [(97:UInt8),(108:UInt8),(116:UInt8),(101:UInt8),(114:UInt8)],AV.str [(97:UInt8),(110:UInt8),(100:UInt8)],AV.str [(97:UInt8),(115:UInt8)],AV.str [(98:UInt8),(101:UInt8),(102:UInt8),(111:UInt8),(114:UInt8),(101:UInt8)],AV.str [(98:UInt8),(101:UInt8),(103:UInt8),(105:UInt8),(110:UInt8)],AV.str [(98:UInt8),(101:UInt8),(116:UInt8),(119:UInt8),(101:UInt8),(101:UInt8),(110:UInt8)],AV.str [(98:UInt8),(111:UInt8),(111:UInt8),(108:UInt8)],AV.str [(98:UInt8),(121:UInt8)],AV.str [(99:UInt8),(104:UInt8),(101:UInt8),(99:UInt8),(107:UInt8)],AV.str [(99:UInt8),(111:UInt8),(97:UInt8),(108:UInt8),(101:UInt8),(115:UInt8),(99:UInt8),(101:UInt8)],AV.str [(99:UInt8),(111:UInt8),(109:UInt8),(109:UInt8),(105:UInt8),(116:UInt8)],AV.str [(99:UInt8),(111:UInt8),(110:UInt8),(116:UInt8),(97:UInt8),(105:UInt8),(110:UInt8),(115:UInt8)],AV.str [(99:UInt8),(111:UInt8),(117:UInt8),(110:UInt8),(116:UInt8)],AV.str [(99:UInt8),(114:UInt8),(101:UInt8),(97:UInt8),(116:UInt8),(101:UInt8)],AV.str [(100:UInt8),(101:UInt8),(102:UInt8),(97:UInt8),(117:UInt8),(108:UInt8),(116:UInt8)],AV.str [(100:UInt8),(101:UInt8),(108:UInt8),(101:UInt8),(116:UInt8),(101:UInt8)],AV.str [(100:UInt8),(101:UInt8),(115:UInt8),(99:UInt8)],AV.str [(100:UInt8),(105:UInt8),(115:UInt8),(116:UInt8),(105:UInt8),(110:UInt8),(99:UInt8),(116:UInt8)],AV.str [(100:UInt8),(114:UInt8),(111:UInt8),(112:UInt8)],AV.str [(100:UInt8),(117:UInt8),(114:UInt8),(105:UInt8),(110:UInt8),(103:UInt8)],AV.str [(101:UInt8),(113:UInt8),(117:UInt8),(97:UInt8),(108:UInt8),(115:UInt8)],AV.str [(101:UInt8),(120:UInt8),(99:UInt8),(101:UInt8),(112:UInt8),(116:UInt8)],AV.str [(102:UInt8),(97:UInt8),(108:UInt8),(115:UInt8),(101:UInt8)],AV.str [(102:UInt8),(105:UInt8),(110:UInt8),(105:UInt8),(115:UInt8),(104:UInt8),(101:UInt8),(100:UInt8),(98:UInt8),(121:UInt8)],AV.str [(102:UInt8),(105:UInt8),(110:UInt8),(105:UInt8),(115:UInt8),(104:UInt8),(101:UInt8),(115:UInt8)],AV.str [(102:UInt8),(111:UInt8),(114:UInt8),(101:UInt8),(105:UInt8),(103:UInt8),(110:UInt8)],AV.str [(102:UInt8),(111:UInt8),(114:UInt8),(101:UInt8),(118:UInt8),(101:UInt8),(114:UInt8)],AV.str [(102:UInt8),(114:UInt8),(111:UInt8),(109:UInt8)],AV.str [(103:UInt8),(114:UInt8),(111:UInt8),(117:UInt8),(112:UInt8)],AV.str [(104:UInt8),(111:UInt8),(108:UInt8),(100:UInt8)],AV.str [(105:UInt8),(102:UInt8)],AV.str [(105:UInt8),(110:UInt8),(115:UInt8),(101:UInt8),(114:UInt8),(116:UInt8)],AV.str [(105:UInt8),(110:UInt8),(116:UInt8)],AV.str [(105:UInt8),(110:UInt8),(116:UInt8),(101:UInt8),(114:UInt8),(115:UInt8),(101:UInt8),(99:UInt8),(116:UInt8)],AV.str [(105:UInt8),(110:UInt8),(116:UInt8),(111:UInt8)],AV.str [(105:UInt8),(115:UInt8)],AV.str [(106:UInt8),(111:UInt8),(105:UInt8),(110:UInt8)],AV.str [(107:UInt8),(101:UInt8),(121:UInt8)],AV.str [(108:UInt8),(101:UInt8),(102:UInt8),(116:UInt8)],AV.str [(108:UInt8),(101:UInt8),(110:UInt8),(103:UInt8),(116:UInt8),(104:UInt8)],AV.str [(108:UInt8),(105:UInt8),(109:UInt8),(105:UInt8),(116:UInt8)],AV.str [(109:UInt8),(97:UInt8),(120:UInt8)],AV.str [(109:UInt8),(101:UInt8),(101:UInt8),(116:UInt8),(115:UInt8)],AV.str [(109:UInt8),(101:UInt8),(116:UInt8),(98:UInt8),(121:UInt8)],AV.str [(109:UInt8),(105:UInt8),(110:UInt8)],AV.str [(110:UInt8),(111:UInt8),(110:UInt8),(115:UInt8),(101:UInt8),(113:UInt8),(117:UInt8),(101:UInt8),(110:UInt8),(99:UInt8),(101:UInt8),(100:UInt8)],AV.str [(110:UInt8),(111:UInt8),(116:UInt8)],AV.str [(110:UInt8),(111:UInt8),(119:UInt8)],AV.str [(110:UInt8),(117:UInt8),(108:UInt8),(108:UInt8)],AV.str [(111:UInt8),(102:UInt8)],AV.str [(111:UInt8),(110:UInt8)],AV.str [(111:UInt8),(114:UInt8)],AV.str [(111:UInt8),(114:UInt8),(100:UInt8),(101:UInt8),(114:UInt8)],AV.str [(111:UInt8),(118:UInt8),(101:UInt8),(114:UInt8),(108:UInt8),(97:UInt8),(112:UInt8),(112:UInt8),(101:UInt8),(100:UInt8),(98:UInt8),(121:UInt8)],AV.str [(111:UInt8),(118:UInt8),(101:UInt8),(114:UInt8),(108:UInt8),(97:UInt8),(112:UInt8),(115:UInt8)],AV.str [(112:UInt8),(114:UInt8),(105:UInt8),(109:UInt8),(97:UInt8),(114:UInt8),(121:UInt8)],AV.str [(112:UInt8),(114:UInt8),(117:UInt8),(110:UInt8),(101:UInt8)],AV.str [(114:UInt8),(101:UInt8),(102:UInt8),(101:UInt8),(114:UInt8),(101:UInt8),(110:UInt8),(99:UInt8),(101:UInt8),(115:UInt8)],AV.str [(114:UInt8),(101:UInt8),(108:UInt8),(101:UInt8),(97:UInt8),(115:UInt8),(101:UInt8)],AV.str [(114:UInt8),(101:UInt8),(110:UInt8),(97:UInt8),(109:UInt8),(101:UInt8)],AV.str [(114:UInt8),(101:UInt8),(116:UInt8),(97:UInt8),(105:UInt8),(110:UInt8)],AV.str [(114:UInt8),(111:UInt8),(108:UInt8),(108:UInt8),(98:UInt8),(97:UInt8),(99:UInt8),(107:UInt8)],AV.str [(115:UInt8),(101:UInt8),(108:UInt8),(101:UInt8),(99:UInt8),(116:UInt8)],AV.str [(115:UInt8),(101:UInt8),(113:UInt8),(117:UInt8),(101:UInt8),(110:UInt8),(99:UInt8),(101:UInt8),(100:UInt8)],AV.str [(115:UInt8),(101:UInt8),(116:UInt8)],AV.str [(115:UInt8),(116:UInt8),(97:UInt8),(114:UInt8),(116:UInt8),(101:UInt8),(100:UInt8),(98:UInt8),(121:UInt8)],AV.str [(115:UInt8),(116:UInt8),(97:UInt8),(114:UInt8),(116:UInt8),(115:UInt8)],AV.str [(115:UInt8),(117:UInt8),(109:UInt8)],AV.str [(115:UInt8),(121:UInt8),(115:UInt8),(116:UInt8),(101:UInt8),(109:UInt8)],AV.str [(115:UInt8),(121:UInt8),(115:UInt8),(116:UInt8),(101:UInt8),(109:UInt8),(102:UInt8),(114:UInt8),(111:UInt8),(109:UInt8)],AV.str [(115:UInt8),(121:UInt8),(115:UInt8),(116:UInt8),(101:UInt8),(109:UInt8),(116:UInt8),(111:UInt8)],AV.str [(116:UInt8),(97:UInt8),(98:UInt8),(108:UInt8),(101:UInt8)],AV.str [(116:UInt8),(101:UInt8),(120:UInt8),(116:UInt8)],AV.str [(116:UInt8),(111:UInt8)],AV.str [(116:UInt8),(114:UInt8),(117:UInt8),(101:UInt8)],AV.str [(116:UInt8),(120:UInt8)],AV.str [(117:UInt8),(110:UInt8),(100:UInt8),(101:UInt8),(114:UInt8)],AV.str [(117:UInt8),(110:UInt8),(105:UInt8),(111:UInt8),(110:UInt8)],AV.str [(117:UInt8),(112:UInt8),(100:UInt8),(97:UInt8),(116:UInt8),(101:UInt8)],AV.str [(118:UInt8),(97:UInt8),(108:UInt8),(105:UInt8),(100:UInt8)],AV.str [(118:UInt8),(97:UInt8),(108:UInt8),(105:UInt8),(100:UInt8),(102:UInt8),(114:UInt8),(111:UInt8),(109:UInt8)],AV.str [(118:UInt8),(97:UInt8),(108:UInt8),(105:UInt8),(100:UInt8),(116:UInt8),(111:UInt8)],AV.str [(118:UInt8),(97:UInt8),(108:UInt8),(117:UInt8),(101:UInt8),(115:UInt8)],AV.str [(119:UInt8),(104:UInt8),(101:UInt8),(114:UInt8),(101:UInt8)]])
def xGD:EO:=xJh.fT Tryz.func116 2 0 [] [] lk0 (fun _=>xBS none) xNw (fun _=>xD2) (fun _ p=>(AV.list 1 p))
def xmB {T:Type} (l:LA) (a:List UInt8) (i:Int) (δ:T) (κl:(Int)->T) (κr:(Bool×(Bool)×(Unit))->T):T:=br (decide (i<l.length)) (br (ixI l i) (br (decide (i.toNat<l.length)&&xMK Sh.str (gC l i 0)) (br ((gC l i 0).toStr==a) (κr (true,(true),())) (κl (i64.wrap (i+1)))) δ) δ) (κr (false,false,()))
def xdp (l:LA) (a:List UInt8):StT (Int) (Bool×(Bool)×(Unit)):=fun (i)=>xmB l a i none inL inR
def xuq:=xGD.l 18 0 [] [] Tryz.f115 0 lk0 [0,1,5] [4] [] (q3 (qL 1) pStr qI) xNv (fun (l,a,i,_) _=>(xdp l a,(i),fun p=>(.node p.1 (.leaf .ret [AV.bool p.2.1] []) (.leaf (.exit 0) [.top] [])))) (false,false,()) fun (l,a,_,_) _ (i)=>(((l,a,i,()),()),xmB l a i none)
def xux {T:Type} (l:LA) (a:List UInt8) (δ:T) (κ:Bool->T):T:=br ((Iter (xdp l a) 0).isSome) (br (((Iter (xdp l a) 0).getD (false,false,())).fst) (κ (((Iter (xdp l a) 0).getD (false,false,())).snd.fst)) (κ (false))) δ
def xyM (l:LA) (a:List UInt8):=xux l a none some
def xGE:EO:=xGD.f Tryz.func115 18 0 [] [(2,xuq.lp)] (lk1 xuq.ok) (u2 (uL 1) (sEq pStr)) (fun (l,a,_) _=>xux l a) (fun _ p=>AV.bool p) false
def xhJ {T:Type} (a:List UInt8) (i:Int) (κl:(Int)->T) (κr:(Bool×(Bool)×(Unit))->T):T:=br (!(↑(a.getD i.toNat (0:UInt8)).toNat:Int)==95) (κr (true,(false),())) (κl (i64.wrap (i+1)))
def xhI {T:Type} (a:List UInt8) (i:Int) (κl:(Int)->T) (κr:(Bool×(Bool)×(Unit))->T):T:=br (decide ((↑(a.getD i.toNat (0:UInt8)).toNat:Int)>=48)) (br (decide ((↑(a.getD i.toNat (0:UInt8)).toNat:Int)<=57)) (κl (i64.wrap (i+1))) (xhJ a i κl κr)) (xhJ a i κl κr)
def xki {T:Type} (a:List UInt8) (i:Int) (δ:T) (κl:(Int)->T) (κr:(Bool×(Bool)×(Unit))->T):T:=br (decide (i<a.length)) (br (decide (0<=i)&&decide (i<a.length)) (br (decide ((↑(a.getD i.toNat (0:UInt8)).toNat:Int)>=97)) (br (decide ((↑(a.getD i.toNat (0:UInt8)).toNat:Int)<=122)) (κl (i64.wrap (i+1))) (xhI a i κl κr)) (xhI a i κl κr)) δ) (κr (false,false,()))
def xct (a:List UInt8):StT (Int) (Bool×(Bool)×(Unit)):=fun (i)=>xki a i none inL inR
def xsB:=xGE.l 54 0 [] [] Tryz.f86 0 lk0 [0,3] [0,2] [] (q2 pStr qI) xNv (fun (a,i,_) _=>(xct a,(i),fun p=>(.node p.1 (.leaf .ret [AV.str a,AV.bool p.2.1] []) (.leaf (.exit 0) [AV.str a,.top] [])))) (false,false,()) fun (a,_,_) _ (i)=>(((a,i,()),()),xki a i none)
def xq4 (a:List UInt8):=xyM [AV.str [(97:UInt8),(100:UInt8),(100:UInt8)],AV.str [(97:UInt8),(102:UInt8),(116:UInt8),(101:UInt8),(114:UInt8)],AV.str [(97:UInt8),(108:UInt8),(108:UInt8)],AV.str [(97:UInt8),(108:UInt8),(116:UInt8),(101:UInt8),(114:UInt8)],AV.str [(97:UInt8),(110:UInt8),(100:UInt8)],AV.str [(97:UInt8),(115:UInt8)],AV.str [(98:UInt8),(101:UInt8),(102:UInt8),(111:UInt8),(114:UInt8),(101:UInt8)],AV.str [(98:UInt8),(101:UInt8),(103:UInt8),(105:UInt8),(110:UInt8)],AV.str [(98:UInt8),(101:UInt8),(116:UInt8),(119:UInt8),(101:UInt8),(101:UInt8),(110:UInt8)],AV.str [(98:UInt8),(111:UInt8),(111:UInt8),(108:UInt8)],AV.str [(98:UInt8),(121:UInt8)],AV.str [(99:UInt8),(104:UInt8),(101:UInt8),(99:UInt8),(107:UInt8)],AV.str [(99:UInt8),(111:UInt8),(97:UInt8),(108:UInt8),(101:UInt8),(115:UInt8),(99:UInt8),(101:UInt8)],AV.str [(99:UInt8),(111:UInt8),(109:UInt8),(109:UInt8),(105:UInt8),(116:UInt8)],AV.str [(99:UInt8),(111:UInt8),(110:UInt8),(116:UInt8),(97:UInt8),(105:UInt8),(110:UInt8),(115:UInt8)],AV.str [(99:UInt8),(111:UInt8),(117:UInt8),(110:UInt8),(116:UInt8)],AV.str [(99:UInt8),(114:UInt8),(101:UInt8),(97:UInt8),(116:UInt8),(101:UInt8)],AV.str [(100:UInt8),(101:UInt8),(102:UInt8),(97:UInt8),(117:UInt8),(108:UInt8),(116:UInt8)],AV.str [(100:UInt8),(101:UInt8),(108:UInt8),(101:UInt8),(116:UInt8),(101:UInt8)],AV.str [(100:UInt8),(101:UInt8),(115:UInt8),(99:UInt8)],AV.str [(100:UInt8),(105:UInt8),(115:UInt8),(116:UInt8),(105:UInt8),(110:UInt8),(99:UInt8),(116:UInt8)],AV.str [(100:UInt8),(114:UInt8),(111:UInt8),(112:UInt8)],AV.str [(100:UInt8),(117:UInt8),(114:UInt8),(105:UInt8),(110:UInt8),(103:UInt8)],AV.str [(101:UInt8),(113:UInt8),(117:UInt8),(97:UInt8),(108:UInt8),(115:UInt8)],AV.str [(101:UInt8),(120:UInt8),(99:UInt8),(101:UInt8),(112:UInt8),(116:UInt8)],AV.str [(102:UInt8),(97:UInt8),(108:UInt8),(115:UInt8),(101:UInt8)],AV.str [(102:UInt8),(105:UInt8),(110:UInt8),(105:UInt8),(115:UInt8),(104:UInt8),(101:UInt8),(100:UInt8),(98:UInt8),(121:UInt8)],AV.str [(102:UInt8),(105:UInt8),(110:UInt8),(105:UInt8),(115:UInt8),(104:UInt8),(101:UInt8),(115:UInt8)],AV.str [(102:UInt8),(111:UInt8),(114:UInt8),(101:UInt8),(105:UInt8),(103:UInt8),(110:UInt8)],AV.str [(102:UInt8),(111:UInt8),(114:UInt8),(101:UInt8),(118:UInt8),(101:UInt8),(114:UInt8)],AV.str [(102:UInt8),(114:UInt8),(111:UInt8),(109:UInt8)],AV.str [(103:UInt8),(114:UInt8),(111:UInt8),(117:UInt8),(112:UInt8)],AV.str [(104:UInt8),(111:UInt8),(108:UInt8),(100:UInt8)],AV.str [(105:UInt8),(102:UInt8)],AV.str [(105:UInt8),(110:UInt8),(115:UInt8),(101:UInt8),(114:UInt8),(116:UInt8)],AV.str [(105:UInt8),(110:UInt8),(116:UInt8)],AV.str [(105:UInt8),(110:UInt8),(116:UInt8),(101:UInt8),(114:UInt8),(115:UInt8),(101:UInt8),(99:UInt8),(116:UInt8)],AV.str [(105:UInt8),(110:UInt8),(116:UInt8),(111:UInt8)],AV.str [(105:UInt8),(115:UInt8)],AV.str [(106:UInt8),(111:UInt8),(105:UInt8),(110:UInt8)],AV.str [(107:UInt8),(101:UInt8),(121:UInt8)],AV.str [(108:UInt8),(101:UInt8),(102:UInt8),(116:UInt8)],AV.str [(108:UInt8),(101:UInt8),(110:UInt8),(103:UInt8),(116:UInt8),(104:UInt8)],AV.str [(108:UInt8),(105:UInt8),(109:UInt8),(105:UInt8),(116:UInt8)],AV.str [(109:UInt8),(97:UInt8),(120:UInt8)],AV.str [(109:UInt8),(101:UInt8),(101:UInt8),(116:UInt8),(115:UInt8)],AV.str [(109:UInt8),(101:UInt8),(116:UInt8),(98:UInt8),(121:UInt8)],AV.str [(109:UInt8),(105:UInt8),(110:UInt8)],AV.str [(110:UInt8),(111:UInt8),(110:UInt8),(115:UInt8),(101:UInt8),(113:UInt8),(117:UInt8),(101:UInt8),(110:UInt8),(99:UInt8),(101:UInt8),(100:UInt8)],AV.str [(110:UInt8),(111:UInt8),(116:UInt8)],AV.str [(110:UInt8),(111:UInt8),(119:UInt8)],AV.str [(110:UInt8),(117:UInt8),(108:UInt8),(108:UInt8)],AV.str [(111:UInt8),(102:UInt8)],AV.str [(111:UInt8),(110:UInt8)],AV.str [(111:UInt8),(114:UInt8)],AV.str [(111:UInt8),(114:UInt8),(100:UInt8),(101:UInt8),(114:UInt8)],AV.str [(111:UInt8),(118:UInt8),(101:UInt8),(114:UInt8),(108:UInt8),(97:UInt8),(112:UInt8),(112:UInt8),(101:UInt8),(100:UInt8),(98:UInt8),(121:UInt8)],AV.str [(111:UInt8),(118:UInt8),(101:UInt8),(114:UInt8),(108:UInt8),(97:UInt8),(112:UInt8),(115:UInt8)],AV.str [(112:UInt8),(114:UInt8),(105:UInt8),(109:UInt8),(97:UInt8),(114:UInt8),(121:UInt8)],AV.str [(112:UInt8),(114:UInt8),(117:UInt8),(110:UInt8),(101:UInt8)],AV.str [(114:UInt8),(101:UInt8),(102:UInt8),(101:UInt8),(114:UInt8),(101:UInt8),(110:UInt8),(99:UInt8),(101:UInt8),(115:UInt8)],AV.str [(114:UInt8),(101:UInt8),(108:UInt8),(101:UInt8),(97:UInt8),(115:UInt8),(101:UInt8)],AV.str [(114:UInt8),(101:UInt8),(110:UInt8),(97:UInt8),(109:UInt8),(101:UInt8)],AV.str [(114:UInt8),(101:UInt8),(116:UInt8),(97:UInt8),(105:UInt8),(110:UInt8)],AV.str [(114:UInt8),(111:UInt8),(108:UInt8),(108:UInt8),(98:UInt8),(97:UInt8),(99:UInt8),(107:UInt8)],AV.str [(115:UInt8),(101:UInt8),(108:UInt8),(101:UInt8),(99:UInt8),(116:UInt8)],AV.str [(115:UInt8),(101:UInt8),(113:UInt8),(117:UInt8),(101:UInt8),(110:UInt8),(99:UInt8),(101:UInt8),(100:UInt8)],AV.str [(115:UInt8),(101:UInt8),(116:UInt8)],AV.str [(115:UInt8),(116:UInt8),(97:UInt8),(114:UInt8),(116:UInt8),(101:UInt8),(100:UInt8),(98:UInt8),(121:UInt8)],AV.str [(115:UInt8),(116:UInt8),(97:UInt8),(114:UInt8),(116:UInt8),(115:UInt8)],AV.str [(115:UInt8),(117:UInt8),(109:UInt8)],AV.str [(115:UInt8),(121:UInt8),(115:UInt8),(116:UInt8),(101:UInt8),(109:UInt8)],AV.str [(115:UInt8),(121:UInt8),(115:UInt8),(116:UInt8),(101:UInt8),(109:UInt8),(102:UInt8),(114:UInt8),(111:UInt8),(109:UInt8)],AV.str [(115:UInt8),(121:UInt8),(115:UInt8),(116:UInt8),(101:UInt8),(109:UInt8),(116:UInt8),(111:UInt8)],AV.str [(116:UInt8),(97:UInt8),(98:UInt8),(108:UInt8),(101:UInt8)],AV.str [(116:UInt8),(101:UInt8),(120:UInt8),(116:UInt8)],AV.str [(116:UInt8),(111:UInt8)],AV.str [(116:UInt8),(114:UInt8),(117:UInt8),(101:UInt8)],AV.str [(116:UInt8),(120:UInt8)],AV.str [(117:UInt8),(110:UInt8),(100:UInt8),(101:UInt8),(114:UInt8)],AV.str [(117:UInt8),(110:UInt8),(105:UInt8),(111:UInt8),(110:UInt8)],AV.str [(117:UInt8),(112:UInt8),(100:UInt8),(97:UInt8),(116:UInt8),(101:UInt8)],AV.str [(118:UInt8),(97:UInt8),(108:UInt8),(105:UInt8),(100:UInt8)],AV.str [(118:UInt8),(97:UInt8),(108:UInt8),(105:UInt8),(100:UInt8),(102:UInt8),(114:UInt8),(111:UInt8),(109:UInt8)],AV.str [(118:UInt8),(97:UInt8),(108:UInt8),(105:UInt8),(100:UInt8),(116:UInt8),(111:UInt8)],AV.str [(118:UInt8),(97:UInt8),(108:UInt8),(117:UInt8),(101:UInt8),(115:UInt8)],AV.str [(119:UInt8),(104:UInt8),(101:UInt8),(114:UInt8),(101:UInt8)]] a
def xpM {T:Type} (a:List UInt8) (δ:T) (κ:Bool->T):T:=br ((Iter (xct a) 0).isSome) (br (((Iter (xct a) 0).getD (false,false,())).fst) (κ (((Iter (xct a) 0).getD (false,false,())).snd.fst)) (br ((xq4 a).isSome) (κ (!(xq4 a).getD false)) δ)) δ
def xsC {T:Type} (a:List UInt8) (δ:T) (κ:Bool->T):T:=br (a==[]) (κ (false)) (br (decide ((↑a.length:Int)>24)) (κ (false)) (br (decide (0<(↑a.length:Int))) (br (decide ((↑(a.getD 0 (0:UInt8)).toNat:Int)>=48)) (br (decide (0<(↑a.length:Int))) (br (decide ((↑(a.getD 0 (0:UInt8)).toNat:Int)<=57)) (κ (false)) (xpM a δ κ)) δ) (xpM a δ κ)) δ))
def xgx (a:List UInt8):=xsC a none some
def xB3:EO:=xGE.f Tryz.func86 54 0 [] [(4,xsB.lp)] (lk1 xsB.ok) (u1 (sEq pStr)) (fun (a,_) _=>xsC a) (fun _ p=>AV.bool p) false
def xja {T:Type} (b:Nat) (i:Int) (d:List UInt8) (c e f g a:LA) (δ:T) (κl:(Nat×Int×List UInt8×LA×LA×LA×LA×LA)->T) (κr:(Nat×LA)->T):T:=br (decide (i<c.length)) (br (ixI c i) (br (ixS c i (Sh.int .i64) 1) (br (rmB b a 1 8) (κl (b+1,i64.wrap (i+1),d,c,e,f,g,a++[AV.int .i64 (gC c i 1).toInt])) δ) δ) δ) (κr (b,a))
def xc6:StT (Nat×Int×List UInt8×LA×LA×LA×LA×LA) (Nat×LA):=fun (b,i,c,d,e,f,g,a)=>xja b i c d e f g a none inL inR
def xrI:=xB3.l 23 0 [] [] Tryz.f53 0 lk0 [1,3,4] [3] [(3,1,3)] (q3 (xNH 0 0 0 0) (xNG 1 0 0) qI) (q2 (qB 0 5 27 (q1 (xNI (q5 pStr (qL 3) (qL 1) (qL 2) (qL 7))))) (qB 0 1 3 xNy)) (fun (_,b,i,_) (((c,d,e,f,g,_),_),a,_)=>(xc6,(b,i,c,d,e,f,g,a),fun p=>(.leaf (.exit 0) [AV.osl 0 0 0 p.1] [bF 0 1 3 p.2]))) (0,[]) fun _ _ (b,i,c,d,e,f,g,a)=>((((),b,i,()),(((c,d,e,f,g,()),()),a,())),xja b i c d e f g a none)
def xpL (e:List UInt8) (b a c d:LA):=Iter xc6 (0,0,e,b,a,c,d,[])
def xpK (e:List UInt8) (b a c d:LA):=(xpL e b a c d).getD (0,[])
def xpI (e:List UInt8) (b a c d:LA):=(xpK e b a c d).snd
def xpJ (e:List UInt8) (b a c d:LA):=(xpK e b a c d).fst
def xq3 {T:Type} (e:List UInt8) (b a c d:LA) (δ:T) (κ:LA->T):T:=br ((xpL e b a c d).isSome) (br (decide (0+xpJ e b a c d<=(xpI e b a c d).length)&&true) (κ (List.take (xpJ e b a c d) (List.drop 0 (xpI e b a c d)))) δ) δ
def xeJ (e:List UInt8) (b a c d:LA):=xq3 e b a c d none some
def xBR:LA->Option (Bool×AV):=fnO (u1 (xNL (u5 (sEq pStr) (uL 3) (uL 1) (uL 2) (uL 7)))) (fun ((e,b,a,c,d,_),_) _=>xq3 e b a c d) (fun _ p=>AV.list 1 p) []
theorem xvp:OcOk P0 xNs 53 xBR:=fnC xB3.ok Tryz.func53 23 0 [] [(3,xrI.lp)] (lk1 xrI.ok)
def xGF:EO:=xB3.w xvp
def xkh {T:Type} (b:List UInt8) (i:Int) (c:List UInt8) (a d e f:LA) (δ:T) (κl:(Int×List UInt8×LA×LA×LA×LA)->T) (κr:(Bool×(Int)×(Unit))->T):T:=br (decide (i<a.length)) (br (ixI a i) (br (decide (i.toNat<a.length)&&xMK Sh.str (gC a i 0)) (br ((gC a i 0).toStr==b) (κr (true,(i),())) (κl (i64.wrap (i+1),c,a,d,e,f))) δ) δ) (κr (false,0,()))
def xdD (a:List UInt8):StT (Int×List UInt8×LA×LA×LA×LA) (Bool×(Int)×(Unit)):=fun (i,b,c,d,e,f)=>xkh a i b c d e f none inL inR
def xsz:=xGF.l 22 0 [] [] Tryz.f117 0 lk0 [1,2,5] [4] [] (q3 pStr (xNH 0 0 0 0) qI) (q1 (qB 0 5 27 (q1 (xNI (q5 pStr (qL 3) (qL 1) (qL 2) (qL 7)))))) (fun (a,_,i,_) (((b,c,d,e,f,_),_),_)=>(xdD a,(i,b,c,d,e,f),fun p=>(.node p.1 (.leaf .ret [AV.int .i64 p.2.1] []) (.leaf (.exit 0) [.top] [])))) (false,0,()) fun (a,_,_,_) _ (i,b,c,d,e,f)=>(((a,(),i,()),(((b,c,d,e,f,()),()),())),xkh a i b c d e f none)
def xq2 (e:List UInt8) (b a c d:LA) (f:List UInt8):=Iter (xdD f) (0,e,b,a,c,d)
def xq1 (e:List UInt8) (b a c d:LA) (f:List UInt8):=(xq2 e b a c d f).getD (false,0,())
def xsA {T:Type} (e:List UInt8) (b a c d:LA) (f:List UInt8) (δ:T) (κ:Int->T):T:=br ((xq2 e b a c d f).isSome) (br ((xq1 e b a c d f).fst) (κ ((xq1 e b a c d f).snd.fst)) (κ ((-1)))) δ
def xrV (e:List UInt8) (b a c d:LA) (f:List UInt8):=xsA e b a c d f none some
def xKS:EO:=xGF.f Tryz.func117 22 0 [] [(2,xsz.lp)] (lk1 xsz.ok) (u2 (xNL (u5 (sEq pStr) (uL 3) (uL 1) (uL 2) (uL 7))) (sEq pStr)) (fun ((e,b,a,c,d,_),g,_) _=>xsA e b a c d g) (fun _ p=>AV.int .i64 p) 0
def xkY (e:List UInt8) (a b c d:LA) (i:Int):Bool:=(br (decide (i>=0)) ((decide (i<a.length))) ((false)))
def xAk {T:Type} (e:List UInt8) (a b c d:LA) (i:Int) (δ:T) (κ:Bool->T):T:=br (decide (i>=0)) (κ (decide (i<a.length))) (κ (false))
def xGG:EO:=xKS.fT Tryz.func118 14 0 [] [] lk0 (fun ((e,b,a,c,d,_),i,_)=>xAk e b a c d i none) (u2 (xNL (u5 (sEq pStr) (uL 3) (uL 1) (uL 2) (uL 7))) uI) (fun ((e,b,a,c,d,_),i,_)=>xkY e b a c d i) (fun _ p=>(AV.bool p))
def xg0 {T:Type} (i:Int) (b:List UInt8) (a c d e:LA) (δ:T) (κl:(Int×List UInt8×LA×LA×LA×LA)->T) (κr:(Bool×(Int)×(Unit))->T):T:=br (decide (i<a.length)) (br (ixI a i) (br (ixT a i 3 [Sh.str,Sh.int .i64,Sh.bool] 0) (br ((xgx (gC a i 0).toStr).isSome) (br (!(xgx (gC a i 0).toStr).getD false) (κr (true,(1),())) (br (decide ((gC a i 1).toInt<1)) (κr (true,(7),())) (br (decide ((gC a i 1).toInt>3)) (κr (true,(7),())) (br ((xrV b a c d e (gC a i 0).toStr).isSome) (br (decide ((xrV b a c d e (gC a i 0).toStr).getD 0<i)) (κr (true,(10),())) (κl (i64.wrap (i+1),b,a,c,d,e))) δ)))) δ) δ) δ) (κr (false,0,()))
def xcb:StT (Int×List UInt8×LA×LA×LA×LA) (Bool×(Int)×(Unit)):=fun (i,a,b,c,d,e)=>xg0 i a b c d e none inL inR
def xpa:=xGG.l 45 0 [] [] Tryz.f87 0 lk0 [1,3] [2] [] (q2 (xNH 0 0 0 0) qI) (q1 (qB 0 5 27 (q1 (xNI (q5 pStr (qL 3) (qL 1) (qL 2) (qL 7)))))) (fun (_,i,_) (((a,b,c,d,e,_),_),_)=>(xcb,(i,a,b,c,d,e),fun p=>(.node p.1 (.leaf .ret [AV.int .i64 p.2.1] []) (.leaf (.exit 0) [.top] [])))) (false,0,()) fun _ _ (i,a,b,c,d,e)=>((((),i,()),(((a,b,c,d,e,()),()),())),xg0 i a b c d e none)
def xmx (e:List UInt8) (b a c d:LA):=Iter xcb (0,e,b,a,c,d)
def xmZ (e:List UInt8) (b a c d:LA):=(xmx e b a c d).getD (false,0,())
def xoq {T:Type} (e:List UInt8) (a b c d:LA) (δ:T) (κ:Int->T):T:=br (decide ((↑a.length:Int)<1)) (κ (13)) (br (decide ((↑a.length:Int)>12)) (κ (13)) (br ((xmx e a b c d).isSome) (br ((xmZ e a b c d).fst) (κ ((xmZ e a b c d).snd.fst)) (κ (0))) δ))
def xgG (e:List UInt8) (b a c d:LA):=xoq e b a c d none some
def xGH:EO:=xGG.f Tryz.func87 45 0 [] [(4,xpa.lp)] (lk1 xpa.ok) (u1 (xNL (u5 (sEq pStr) (uL 3) (uL 1) (uL 2) (uL 7)))) (fun ((e,b,a,c,d,_),_) _=>xoq e b a c d) (fun _ p=>AV.int .i64 p) 0
def xe5 (i:Int) (a:LA):=ixI a i
def xe6 (i:Int) (a:LA):=decide (i.toNat<a.length)&&xMK (Sh.int .i64) (gC a i 0)
def xbz (i:Int) (a:LA):=(gC a i 0).toInt
def xeC {T:Type} (i:Int) (c:List UInt8) (b a d e:LA) (δ:T) (κl:(Int×List UInt8×LA×LA×LA×LA)->T) (κr:(Bool×(Int)×(Unit))->T):T:=br (xe5 i a) (br (xe6 i a) (br (decide (0<=xbz i a)&&decide (xbz i a<b.length)) (br (decide ((xbz i a).toNat<b.length)&&xMK Sh.bool ((b.getD (xbz i a).toNat .top).cells.getD 2 .top)) (br (((b.getD (xbz i a).toNat .top).cells.getD 2 .top).toBool) (κr (true,(12),())) (κl (i64.wrap (i+1),c,b,a,d,e))) δ) δ) δ) δ
def xfZ {T:Type} (i:Int) (b:List UInt8) (c a d e:LA) (δ:T) (κl:(Int×List UInt8×LA×LA×LA×LA)->T) (κr:(Bool×(Int)×(Unit))->T):T:=br (decide (i<a.length)) (br (xe5 i a) (br (xe6 i a) (br (!xkY b c a d e (xbz i a)) (κr (true,(25),())) (br (decide (i>0)) (br (xe5 i a) (br (xe6 i a) (br (decide (0<=i64.wrap (i - 1))&&decide (i64.wrap (i - 1)<(↑a.length:Int))) (br (decide ((i64.wrap (i - 1)).toNat<a.length)&&xMK (Sh.int .i64) ((a.getD (i64.wrap (i - 1)).toNat .top).cells.getD 0 .top)) (br (decide (xbz i a<=((a.getD (i64.wrap (i - 1)).toNat .top).cells.getD 0 .top).toInt)) (κr (true,(25),())) (xeC i b c a d e δ κl κr)) δ) δ) δ) δ) (xeC i b c a d e δ κl κr))) δ) δ) (κr (false,0,()))
def xbY:StT (Int×List UInt8×LA×LA×LA×LA) (Bool×(Int)×(Unit)):=fun (i,a,b,c,d,e)=>xfZ i a b c d e none inL inR
def xtg:=xGH.l 51 0 [] [] Tryz.f88 0 lk0 [1,3] [2] [] (q2 (xNH 0 0 0 0) qI) (q1 (qB 0 5 27 (q1 (xNI (q5 pStr (qL 3) (qL 1) (qL 2) (qL 7)))))) (fun (_,i,_) (((a,b,c,d,e,_),_),_)=>(xbY,(i,a,b,c,d,e),fun p=>(.node p.1 (.leaf .ret [AV.int .i64 p.2.1] []) (.leaf (.exit 0) [.top] [])))) (false,0,()) fun _ _ (i,a,b,c,d,e)=>((((),i,()),(((a,b,c,d,e,()),()),())),xfZ i a b c d e none)
def xsE (e:List UInt8) (b a c d:LA):=Iter xbY (0,e,b,a,c,d)
def xsD (e:List UInt8) (b a c d:LA):=(xsE e b a c d).getD (false,0,())
def xtU {T:Type} (e:List UInt8) (b a c d:LA) (δ:T) (κ:Int->T):T:=br ((↑a.length:Int)==0) (κ (25)) (br ((xsE e b a c d).isSome) (br ((xsD e b a c d).fst) (κ ((xsD e b a c d).snd.fst)) (κ (0))) δ)
def xqz (e:List UInt8) (b a c d:LA):=xtU e b a c d none some
def xB4:EO:=xGH.f Tryz.func88 51 0 [] [(4,xtg.lp)] (lk1 xtg.ok) (u1 (xNL (u5 (sEq pStr) (uL 3) (uL 1) (uL 2) (uL 7)))) (fun ((e,b,a,c,d,_),_) _=>xtU e b a c d) (fun _ p=>AV.int .i64 p) 0
def xg1 {T:Type} (i k:Int) (b:List UInt8) (c d e f a:LA) (g:List UInt8) (δ:T) (κl:(Int×List UInt8×LA×LA×LA×LA×LA×List UInt8)->T) (κr:(Bool×(Int×List UInt8×LA×LA×LA×LA×LA×List UInt8)×(List UInt8×LA×LA×LA×LA×LA×List UInt8))->T):T:=br (decide (k<i)) (br (ixI a k) (br (ixS a k (Sh.int .i64) 0) (br (ixI a i) (br (ixS a i (Sh.int .i64) 0) (br ((gC a k 0).toInt==(gC a i 0).toInt) (κr (true,(25,b,c,d,e,f,a,g),([],[],[],[],[],[],[]))) (κl (i64.wrap (k+1),b,c,d,e,f,a,g))) δ) δ) δ) δ) (κr (false,(0,[],[],[],[],[],[],[]),(b,c,d,e,f,a,g)))
def xcc (i:Int):StT (Int×List UInt8×LA×LA×LA×LA×LA×List UInt8) (Bool×(Int×List UInt8×LA×LA×LA×LA×LA×List UInt8)×(List UInt8×LA×LA×LA×LA×LA×List UInt8)):=fun (k,a,b,c,d,e,f,g)=>xg1 i k a b c d e f g none inL inR
def xgj:=xB4.l 46 0 [] [] Tryz.f119 1 lk0 [2,3,5,6] [2,3,4,5] [] (q4 (xNH 0 0 0 0) (xNH 1 0 0 0) qI qI) (q2 (qB 0 5 27 (q1 (xNI (q5 pStr (qL 3) (qL 1) (qL 2) (qL 7))))) (qB 0 2 34 (q1 (xNI (q2 (qL 1) pStr))))) (fun (_,_,i,k,_) (((a,b,c,d,e,_),_),((f,g,_),_),_)=>(xcc i,(k,a,b,c,d,e,f,g),fun p=>(.node p.1 (.leaf .ret [AV.own 0 0 0 0,AV.own 1 0 0 0,AV.int .i64 p.2.1.1,AV.int .i64 i] [bF 0 5 27 [AV.agg [AV.str p.2.1.2.1,AV.list 3 p.2.1.2.2.1,AV.list 1 p.2.1.2.2.2.1,AV.list 2 p.2.1.2.2.2.2.1,AV.list 7 p.2.1.2.2.2.2.2.1]],bF 0 2 34 [AV.agg [AV.list 1 p.2.1.2.2.2.2.2.2.1,AV.str p.2.1.2.2.2.2.2.2.2]]]) (.leaf (.exit 2) [AV.own 0 0 0 0,AV.own 1 0 0 0,.top,AV.int .i64 i] [bF 0 5 27 [AV.agg [AV.str p.2.2.1,AV.list 3 p.2.2.2.1,AV.list 1 p.2.2.2.2.1,AV.list 2 p.2.2.2.2.2.1,AV.list 7 p.2.2.2.2.2.2.1]],bF 0 2 34 [AV.agg [AV.list 1 p.2.2.2.2.2.2.2.1,AV.str p.2.2.2.2.2.2.2.2]]])))) (false,(0,[],[],[],[],[],[],[]),([],[],[],[],[],[],[])) fun (_,_,i,_,_) _ (k,a,b,c,d,e,f,g)=>((((),(),i,k,()),(((a,b,c,d,e,()),()),((f,g,()),()),())),xg1 i k a b c d e f g none)
def xj8 (i:Int) (a:List UInt8) (b c d e f:LA) (g:List UInt8):=Iter (xcc i) (0,a,b,c,d,e,f,g)
def xj7 (i:Int) (a:List UInt8) (b c d e f:LA) (g:List UInt8):=(xj8 i a b c d e f g).getD (false,(0,[],[],[],[],[],[],[]),[],[],[],[],[],[],[])
def xj6 (i:Int) (a:List UInt8) (b c d e f:LA) (g:List UInt8):=(xj7 i a b c d e f g).snd
def xj5 (i:Int) (a:List UInt8) (b c d e f:LA) (g:List UInt8):=(xj6 i a b c d e f g).snd
def xj4 (i:Int) (a:List UInt8) (b c d e f:LA) (g:List UInt8):=(xj5 i a b c d e f g).snd
def xj3 (i:Int) (a:List UInt8) (b c d e f:LA) (g:List UInt8):=(xj4 i a b c d e f g).snd
def xj2 (i:Int) (a:List UInt8) (b c d e f:LA) (g:List UInt8):=(xj3 i a b c d e f g).snd
def xj1 (i:Int) (a:List UInt8) (b c d e f:LA) (g:List UInt8):=(xj2 i a b c d e f g).snd
def xj0 (i:Int) (a:List UInt8) (b c d e f:LA) (g:List UInt8):=(xj1 i a b c d e f g).snd
def xeR {T:Type} (i:Int) (b:List UInt8) (c d e f a:LA) (g:List UInt8) (δ:T) (κl:(Int×List UInt8×LA×LA×LA×LA×LA×List UInt8)->T) (κr:(Bool×(Int)×(Unit))->T):T:=br (decide (i<a.length)) (br (ixI a i) (br (ixS a i (Sh.int .i64) 0) (br (!xkY b c d e f (gC a i 0).toInt) (κr (true,(25),())) (br ((xj8 i b c d e f a g).isSome) (br ((xj7 i b c d e f a g).fst) (κr (true,((xj6 i b c d e f a g).fst.fst),())) (κl (i64.wrap (i+1),(xj5 i b c d e f a g).fst,(xj4 i b c d e f a g).fst,(xj3 i b c d e f a g).fst,(xj2 i b c d e f a g).fst,(xj1 i b c d e f a g).fst,(xj0 i b c d e f a g).fst,(xj0 i b c d e f a g).snd))) δ)) δ) δ) (κr (false,0,()))
def xbv:StT (Int×List UInt8×LA×LA×LA×LA×LA×List UInt8) (Bool×(Int)×(Unit)):=fun (i,a,b,c,d,e,f,g)=>xeR i a b c d e f g none inL inR
def xpb:=xB4.l 46 0 [] [(11,xgj.lp)] Tryz.f119 0 (lk1 xgj.ok) [2,3,5] [4] [] (q3 (xNH 0 0 0 0) (xNH 1 0 0 0) qI) (q2 (qB 0 5 27 (q1 (xNI (q5 pStr (qL 3) (qL 1) (qL 2) (qL 7))))) (qB 0 2 34 (q1 (xNI (q2 (qL 1) pStr))))) (fun (_,_,i,_) (((a,b,c,d,e,_),_),((f,g,_),_),_)=>(xbv,(i,a,b,c,d,e,f,g),fun p=>(.node p.1 (.leaf .ret [AV.int .i64 p.2.1] []) (.leaf (.exit 0) [.top] [])))) (false,0,()) fun _ _ (i,a,b,c,d,e,f,g)=>((((),(),i,()),(((a,b,c,d,e,()),()),((f,g,()),()),())),xeR i a b c d e f g none)
def xm1 (e:List UInt8) (b a c d f:LA) (g:List UInt8):=Iter xbv (0,e,b,a,c,d,f,g)
def xm0 (e:List UInt8) (b a c d f:LA) (g:List UInt8):=(xm1 e b a c d f g).getD (false,0,())
def xor {T:Type} (g:List UInt8) (c a d e f:LA) (b:List UInt8) (δ:T) (κ:Int->T):T:=br ((xgx b).isSome) (br (!(xgx b).getD false) (κ (1)) (br ((↑f.length:Int)==0) (κ (25)) (br ((xm1 g c a d e f b).isSome) (br ((xm0 g c a d e f b).fst) (κ ((xm0 g c a d e f b).snd.fst)) (κ (0))) δ))) δ
def xjD (e:List UInt8) (b a c d f:LA) (g:List UInt8):=xor e b a c d f g none some
def xB5:EO:=xB4.f Tryz.func119 46 0 [] [(11,xgj.lp),(6,xpb.lp)] (lks (lkC xpb.ok (lkC xgj.ok lkN))) (u2 (xNL (u5 (sEq pStr) (uL 3) (uL 1) (uL 2) (uL 7))) (xNL (u2 (uL 1) (sEq pStr)))) (fun ((e,b,a,c,d,_),(g,h,_),_) _=>xor e b a c d g h) (fun _ p=>AV.int .i64 p) 0
def xeK {T:Type} (i:Int) (b:List UInt8) (c d a e:LA) (δ:T) (κl:(Int×List UInt8×LA×LA×LA×LA)->T) (κr:(Bool×(Int×List UInt8×LA×LA×LA×LA)×(List UInt8×LA×LA×LA×LA))->T):T:=br (decide (i<a.length)) (br (ixI a i) (br (ixT a i 2 [Sh.list 1,Sh.str] 0) (br ((xjD b c d a e (gC a i 0).toList (gC a i 1).toStr).isSome) (br ((xjD b c d a e (gC a i 0).toList (gC a i 1).toStr).getD 0 != 0) (κr (true,((xjD b c d a e (gC a i 0).toList (gC a i 1).toStr).getD 0,b,c,d,a,e),([],[],[],[],[]))) (κl (i64.wrap (i+1),b,c,d,a,e))) δ) δ) δ) (κr (false,(0,[],[],[],[],[]),(b,c,d,a,e)))
def xbl:StT (Int×List UInt8×LA×LA×LA×LA) (Bool×(Int×List UInt8×LA×LA×LA×LA)×(List UInt8×LA×LA×LA×LA)):=fun (i,a,b,c,d,e)=>xeK i a b c d e none inL inR
def xgu:=xB5.l 60 0 [] [] Tryz.f89 0 lk0 [1,3] [1,2] [] (q2 (xNH 0 0 0 0) qI) (q1 (qB 0 5 27 (q1 (xNI (q5 pStr (qL 3) (qL 1) (qL 2) (qL 7)))))) (fun (_,i,_) (((a,b,c,d,e,_),_),_)=>(xbl,(i,a,b,c,d,e),fun p=>(.node p.1 (.leaf .ret [AV.own 0 0 0 0,AV.int .i64 p.2.1.1] [bF 0 5 27 [AV.agg [AV.str p.2.1.2.1,AV.list 3 p.2.1.2.2.1,AV.list 1 p.2.1.2.2.2.1,AV.list 2 p.2.1.2.2.2.2.1,AV.list 7 p.2.1.2.2.2.2.2]]]) (.leaf (.exit 0) [AV.own 0 0 0 0,.top] [bF 0 5 27 [AV.agg [AV.str p.2.2.1,AV.list 3 p.2.2.2.1,AV.list 1 p.2.2.2.2.1,AV.list 2 p.2.2.2.2.2.1,AV.list 7 p.2.2.2.2.2.2]]])))) (false,(0,[],[],[],[],[]),([],[],[],[],[])) fun _ _ (i,a,b,c,d,e)=>((((),i,()),(((a,b,c,d,e,()),()),())),xeK i a b c d e none)
def xgz (i:Int) (b:List UInt8) (c d e a:LA):=xtQ (gC a i 0).toInt (gC a i 1).toInt (gC a i 2).toInt (gC a i 3).toInt (gC a i 4).toStr (gC a i 5).toStr (gC a i 6).toList ((xeJ b c d e a).getD [])
def xgy (i:Int) (a:List UInt8) (b c d e:LA):=(xgz i a b c d e).getD (0,0)
def xgv (i:Int) (a:List UInt8) (b c d e:LA):=(xgy i a b c d e).fst
def xgw (i:Int) (a:List UInt8) (b c d e:LA):=(xgy i a b c d e).snd
def xeL {T:Type} (i:Int) (b:List UInt8) (c d e a:LA) (δ:T) (κl:(Int×List UInt8×LA×LA×LA×LA)->T) (κr:(Bool×(Int)×(Unit))->T):T:=br (decide (i<a.length)) (br (ixI a i) (br (ixT a i 7 [Sh.int .i64,Sh.int .i64,Sh.int .i64,Sh.int .i64,Sh.str,Sh.str,Sh.list 7] 0) (br ((xeJ b c d e a).isSome) (br ((xgz i b c d e a).isSome) (br (xgw i b c d e a != 0) (κr (true,(xgw i b c d e a),())) (br (xgv i b c d e a != 3) (br (xgv i b c d e a != 0) (κr (true,(7),())) (κl (i64.wrap (i+1),b,c,d,e,a))) (κl (i64.wrap (i+1),b,c,d,e,a)))) δ) δ) δ) δ) (κr (false,0,()))
def xbm:StT (Int×List UInt8×LA×LA×LA×LA) (Bool×(Int)×(Unit)):=fun (i,a,b,c,d,e)=>xeL i a b c d e none inL inR
def xlI:=xB5.l 60 0 [] [(4,xgu.lp)] Tryz.f89 1 lk0 [1,5] [2] [] (q2 (xNH 0 0 0 0) qI) (q1 (qB 0 5 27 (q1 (xNI (q5 pStr (qL 3) (qL 1) (qL 2) (qL 7)))))) (fun (_,i,_) (((a,b,c,d,e,_),_),_)=>(xbm,(i,a,b,c,d,e),fun p=>(.node p.1 (.leaf .ret [AV.int .i64 p.2.1] []) (.leaf (.exit 2) [.top] [])))) (false,0,()) fun _ _ (i,a,b,c,d,e)=>((((),i,()),(((a,b,c,d,e,()),()),())),xeL i a b c d e none)
def xjk (e:List UInt8) (b a c d:LA):=Iter xbl (0,e,b,a,c,d)
def xjj (e:List UInt8) (b a c d:LA):=(xjk e b a c d).getD (false,(0,[],[],[],[],[]),[],[],[],[],[])
def xji (e:List UInt8) (b a c d:LA):=(xjj e b a c d).snd
def xjh (e:List UInt8) (b a c d:LA):=(xji e b a c d).snd
def xjg (e:List UInt8) (b a c d:LA):=(xjh e b a c d).snd
def xjf (e:List UInt8) (b a c d:LA):=(xjg e b a c d).snd
def xje (e:List UInt8) (b a c d:LA):=(xjf e b a c d).snd
def xjd (e:List UInt8) (b a c d:LA):=(xje e b a c d).snd
def xjc (e:List UInt8) (b a c d:LA):=Iter xbm (0,(xjh e b a c d).fst,(xjg e b a c d).fst,(xjf e b a c d).fst,(xje e b a c d).fst,xjd e b a c d)
def xjb (e:List UInt8) (b a c d:LA):=(xjc e b a c d).getD (false,0,())
def xjx {T:Type} (e:List UInt8) (c a b d:LA) (δ:T) (κ:Int->T):T:=br (decide ((↑b.length:Int)>4)) (κ (5)) (br ((xjk e c a b d).isSome) (br ((xjj e c a b d).fst) (κ ((xji e c a b d).fst.fst)) (br (decide ((↑(xjd e c a b d).length:Int)>4)) (κ (5)) (br ((xjc e c a b d).isSome) (br ((xjb e c a b d).fst) (κ ((xjb e c a b d).snd.fst)) (κ (0))) δ))) δ)
def xd7 (e:List UInt8) (b a c d:LA):=xjx e b a c d none some
def xJi:EO:=xB5.f Tryz.func89 60 0 [] [(4,xgu.lp),(12,xlI.lp)] (lks (lkC xgu.ok (lkC xlI.ok lkN))) (u1 (xNL (u5 (sEq pStr) (uL 3) (uL 1) (uL 2) (uL 7)))) (fun ((e,b,a,c,d,_),_) _=>xjx e b a c d) (fun _ p=>AV.int .i64 p) 0
def xq0 {T:Type} (e:List UInt8) (b a c d:LA) (δ:T) (κ:Int->T):T:=br ((xgx e).isSome) (br (!(xgx e).getD false) (κ (1)) (br ((xgG e b a c d).isSome) (br ((xgG e b a c d).getD 0==0) (br ((xqz e b a c d).isSome) (br ((xqz e b a c d).getD 0==0) (br ((xd7 e b a c d).isSome) (κ ((xd7 e b a c d).getD 0)) δ) (κ ((xqz e b a c d).getD 0))) δ) (br ((xgG e b a c d).getD 0==0) (br ((xd7 e b a c d).isSome) (κ ((xd7 e b a c d).getD 0)) δ) (κ ((xgG e b a c d).getD 0)))) δ)) δ
def xfQ (e:List UInt8) (b a c d:LA):=xq0 e b a c d none some
def xBQ:LA->Option (Bool×AV):=fnO (u1 (xNL (u5 (sEq pStr) (uL 3) (uL 1) (uL 2) (uL 7)))) (fun ((e,b,a,c,d,_),_) _=>xq0 e b a c d) (fun _ p=>AV.int .i64 p) 0
theorem xBP:OcOk P0 xNs 51 xBQ:=fnC xJi.ok Tryz.func51 19 0 [] [] lk0
def xKV:EO:=xKK.w xvn
def xKW:EO:=xKV.w xBP
def xGJ:EO:=xKW.w xvp
def xi6 (a l:LA) (i:Int):=(xi2 a (gC l i 0).toInt).getD (0,0,[])
def xi5 (a l:LA) (i:Int):=(xi6 a l i).snd
def xke {T:Type} (c l:LA) (b:Nat) (i:Int) (a:LA) (δ:T) (κl:(Nat×Int×LA)->T) (κr:(Nat×LA)->T):T:=br (decide (i<l.length)) (br (ixI l i) (br (ixS l i (Sh.int .i64) 0) (br ((xi2 c (gC l i 0).toInt).isSome) (br (rmB b a 1 32) (κl (b+1,i64.wrap (i+1),a++[AV.agg [AV.int .i64 (xi6 c l i).fst,AV.int .i64 (xi5 c l i).fst,AV.str (xi5 c l i).snd]])) δ) δ) δ) δ) (κr (b,a))
def xdz (c l:LA):StT (Nat×Int×LA) (Nat×LA):=fun (b,i,a)=>xke c l b i a none inL inR
def xsp:=xGJ.l 24 0 [] [] Tryz.f39 0 lk0 [0,1,5,6] [5] [(5,3,86)] (q4 (qL 3) (qL 1) (xNG 0 0 0) qI) (q1 (qB 0 3 86 xNy)) (fun (c,l,b,i,_) (a,_)=>(xdz c l,(b,i,a),fun p=>(.leaf (.exit 0) [AV.osl 0 0 0 p.1] [bF 0 3 86 p.2]))) (0,[]) fun (c,l,_,_,_) _ (b,i,a)=>(((c,l,b,i,()),(a,())),xke c l b i a none)
def xqW (a l:LA):=(Iter (xdz a l) (0,0,[])).getD (0,[])
def xqU (a l:LA):=(xqW a l).fst
def xqV (a l:LA):=(xqW a l).snd
def xsq {T:Type} (a l:LA) (δ:T) (κ:LA->T):T:=br ((Iter (xdz a l) (0,0,[])).isSome) (br (decide (0+xqU a l<=(xqV a l).length)&&true) (κ (List.take (xqU a l) (List.drop 0 (xqV a l)))) δ) δ
def xi4 (a l:LA):=xsq a l none some
def xGq:EO:=xGJ.f Tryz.func39 24 0 [] [(3,xsp.lp)] (lk1 xsp.ok) (u2 (uL 3) (uL 1)) (fun (a,l,_) _=>xsq a l) (fun _ p=>AV.list 3 p) []
def xkW {T:Type} (a l:LA) (i:Int) (δ:T) (κl:(Int)->T) (κr:(Bool×(Bool)×(Unit))->T):T:=br (decide (i<l.length)) (br (ixI l i) (br (ixS l i (Sh.int .i64) 0) (br ((xi2 a (gC l i 0).toInt).isSome) (br (((xi2 a (gC l i 0).toInt).getD (0,0,[])).fst==0) (κr (true,(true),())) (κl (i64.wrap (i+1)))) δ) δ) δ) (κr (false,false,()))
def xbu (a l:LA):StT (Int) (Bool×(Bool)×(Unit)):=fun (i)=>xkW a l i none inL inR
def xte {T:Type} (a l:LA) (δ:T) (κ:Bool->T):T:=br ((Iter (xbu a l) 0).isSome) (br (((Iter (xbu a l) 0).getD (false,false,())).fst) (κ (((Iter (xbu a l) 0).getD (false,false,())).snd.fst)) (κ (false))) δ
def xmy (a l:LA):=xte a l none some
def xi3 (a:LA) (i:Int):=ixI a i
def xmY (a:LA) (i:Int):=xmf (gC a i 0).toInt (gC a i 1).toInt (gC a i 2).toStr
def xkd {T:Type} (a b:LA) (i:Int) (δ:T) (κl:(Int)->T) (κr:(Bool×(Bool)×(Unit))->T):T:=br (decide (i<a.length)) (br (xi3 a i) (br (ixT a i 3 [Sh.int .i64,Sh.int .i64,Sh.str] 0) (br ((xmY a i).isSome) (br (!(xmY a i).getD false) (κr (true,(false),())) (br (xi3 a i) (br (ixS a i (Sh.int .i64) 0) (br ((gC a i 0).toInt != 0) (br (xi3 a i) (br (ixS a i (Sh.int .i64) 0) (br (ixI b i) (br (ixS b i (Sh.int .i64) 0) (br ((gC a i 0).toInt != (gC b i 0).toInt) (κr (true,(false),())) (κl (i64.wrap (i+1)))) δ) δ) δ) δ) (κl (i64.wrap (i+1)))) δ) δ)) δ) δ) δ) (κr (false,false,()))
def xcm (b a:LA):StT (Int) (Bool×(Bool)×(Unit)):=fun (i)=>xkd b a i none inL inR
def xsn:=xGq.l 43 0 [] [] Tryz.f90 0 lk0 [0,1,5] [4] [] (q3 (qL 3) (qL 1) qI) xNv (fun (b,a,i,_) _=>(xcm b a,(i),fun p=>(.node p.1 (.leaf .ret [AV.bool p.2.1] []) (.leaf (.exit 0) [.top] [])))) (false,false,()) fun (b,a,_,_) _ (i)=>(((b,a,i,()),()),xkd b a i none)
def xso {T:Type} (b a:LA) (δ:T) (κ:Bool->T):T:=br ((↑b.length:Int) != (↑a.length:Int)) (κ (false)) (br ((Iter (xcm b a) 0).isSome) (br (((Iter (xcm b a) 0).getD (false,false,())).fst) (κ (((Iter (xcm b a) 0).getD (false,false,())).snd.fst)) (κ (true))) δ)
def xrU (b a:LA):=xso b a none some
def xKL:EO:=xGq.f Tryz.func90 43 0 [] [(4,xsn.lp)] (lk1 xsn.ok) (u2 (uL 3) (uL 1)) (fun (b,a,_) _=>xso b a) (fun _ p=>AV.bool p) false
def xzB (k:Int):Bool:=(br (k==1) ((true)) (br (k==2) ((true)) ((k==3))))
def xDh {T:Type} (k:Int) (δ:T) (κ:Bool->T):T:=br (k==1) (κ (true)) (br (k==2) (κ (true)) (κ (k==3)))
def xGr:EO:=xKL.fT Tryz.func122 13 0 [] [] lk0 (fun (k,_)=>xDh k none) (u1 uI) (fun (k,_)=>xzB k) (fun _ p=>(AV.bool p))
def xjl {T:Type} (l:LA) (i:Int) (δ:T) (κl:(Int)->T) (κr:(Bool×(Bool)×(Unit))->T):T:=br (decide (i<l.length)) (br (ixI l i) (br (ixS l i (Sh.int .i64) 0) (br (!xzB (gC l i 0).toInt) (κr (true,(false),())) (κl (i64.wrap (i+1)))) δ) δ) (κr (false,false,()))
def xb2 (l:LA):StT (Int) (Bool×(Bool)×(Unit)):=fun (i)=>xjl l i none inL inR
def xrJ:=xGr.l 16 0 [] [] Tryz.f91 0 lk0 [0,3] [2] [] (q2 (qL 1) qI) xNv (fun (l,i,_) _=>(xb2 l,(i),fun p=>(.node p.1 (.leaf .ret [AV.bool p.2.1] []) (.leaf (.exit 0) [.top] [])))) (false,false,()) fun (l,_,_) _ (i)=>(((l,i,()),()),xjl l i none)
def xq5 {T:Type} (l:LA) (δ:T) (κ:Bool->T):T:=br ((Iter (xb2 l) 0).isSome) (br (((Iter (xb2 l) 0).getD (false,false,())).fst) (κ (((Iter (xb2 l) 0).getD (false,false,())).snd.fst)) (κ (true))) δ
def xtV (l:LA):=xq5 l none some
def xGs:EO:=xGr.f Tryz.func91 16 0 [] [(2,xrJ.lp)] (lk1 xrJ.ok) (u1 (uL 1)) (fun (l,_) _=>xq5 l) (fun _ p=>AV.bool p) false
def xjm {T:Type} (i:Int) (b a:LA) (δ:T) (κl:(Int×LA×LA)->T) (κr:(Bool×(Bool×LA×LA)×(LA×LA))->T):T:=br (decide (i<a.length)) (br (ixI a i) (br (ixT a i 3 [Sh.int .i64,Sh.int .i64] 1) (br (!xeI (gC a i 1).toInt (gC a i 2).toInt) (κr (true,(false,b,a),([],[]))) (br (ixI a i) (br (ixS a i (Sh.list 3) 0) (br ((xrU (gC a i 0).toList b).isSome) (br (!(xrU (gC a i 0).toList b).getD false) (κr (true,(false,b,a),([],[]))) (κl (i64.wrap (i+1),b,a))) δ) δ) δ)) δ) δ) (κr (false,(false,[],[]),(b,a)))
def xb3:StT (Int×LA×LA) (Bool×(Bool×LA×LA)×(LA×LA)):=fun (i,a,b)=>xjm i a b none inL inR
def xrK:=xGs.l 46 0 [] [] Tryz.f52 0 lk0 [1,3] [1,2] [] (q2 (xNH 0 0 0 0) qI) (q1 (qB 0 2 93 (q1 (xNI (q2 (qL 1) (qL 3)))))) (fun (_,i,_) (((a,b,_),_),_)=>(xb3,(i,a,b),fun p=>(.node p.1 (.leaf .ret [AV.own 0 0 0 0,AV.bool p.2.1.1] [bF 0 2 93 [AV.agg [AV.list 1 p.2.1.2.1,AV.list 3 p.2.1.2.2]]]) (.leaf (.exit 0) [AV.own 0 0 0 0,.top] [bF 0 2 93 [AV.agg [AV.list 1 p.2.2.1,AV.list 3 p.2.2.2]]])))) (false,(false,[],[]),([],[])) fun _ _ (i,a,b)=>((((),i,()),(((a,b,()),()),())),xjm i a b none)
def xpT (a b:LA):=(Iter xb3 (0,a,b)).getD (false,(false,[],[]),[],[])
def xpS (a b:LA):=(xpT a b).snd
def xpR (a b:LA):=(xpS a b).snd.fst
def xpP (a b:LA):=(↑(xpR a b).length:Int)
def xpQ (a b:LA):=xtV (xpR a b)
def xra {T:Type} (a b:LA) (δ:T) (κ:Bool->T):T:=br ((Iter xb3 (0,a,b)).isSome) (br ((xpT a b).fst) (κ ((xpS a b).fst.fst)) (br (decide (xpP a b>0)) (br (decide (xpP a b<=48)) (br ((xpQ a b).isSome) (κ ((xpQ a b).getD false)) δ) (κ (false))) (κ (false)))) δ
def xqj (a b:LA):=xra a b none some
def xGt:EO:=xGs.f Tryz.func52 46 0 [] [(2,xrK.lp)] (lk1 xrK.ok) (u1 (xNL (u2 (uL 1) (uL 3)))) (fun ((a,b,_),_) _=>xra a b) (fun _ p=>AV.bool p) false
def xeQ (l:LA) (i:Int):=ixI l i
def xhF {T:Type} (l a:LA) (i:Int) (δ:T) (κl:(LA×Int)->T) (κr:(LA)->T):T:=br (decide (i<l.length)) (br (xeQ l i) (br (ixT l i 2 [Sh.int .i64,Sh.int .i64] 0) (br (xeI (gC l i 0).toInt (gC l i 1).toInt) (br (xeQ l i) (br (ixS l i (Sh.int .i64) 0) (br ((xbQ a (gC l i 0).toInt).isSome) (br (xeQ l i) (br (ixS l i (Sh.int .i64) 1) (br ((xbQ ((xbQ a (gC l i 0).toInt).getD []) (gC l i 1).toInt).isSome) (κl ((xbQ ((xbQ a (gC l i 0).toInt).getD []) (gC l i 1).toInt).getD [],i64.wrap (i+1))) δ) δ) δ) δ) δ) δ) (κl (a,i64.wrap (i+1)))) δ) δ) (κr (a))
def xcy (l:LA):StT (LA×Int) (LA):=fun (a,i)=>xhF l a i none inL inR
def xqr:=xGt.l 31 0 [] [] Tryz.f82 0 lk0 [0,3,4] [3] [(3,1,1073741824)] (q3 (qL 2) (qL 1) qI) xNv (fun (l,a,i,_) _=>(xcy l,(a,i),fun p=>(.leaf (.exit 0) [AV.list 1 p] []))) [] fun (l,_,_,_) _ (a,i)=>(((l,a,i,()),()),xhF l a i none)
def xpl {T:Type} (l:LA) (δ:T) (κ:LA->T):T:=br ((Iter (xcy l) ([],0)).isSome) (κ ((Iter (xcy l) ([],0)).getD [])) δ
def xsl (l:LA):=xpl l none some
def xGu:EO:=xGt.f Tryz.func82 31 0 [] [(3,xqr.lp)] (lk1 xqr.ok) (u1 (uL 2)) (fun (l,_) _=>xpl l) (fun _ p=>AV.list 1 p) []
def xgh {T:Type} (l:LA) (t i:Int) (δ:T) (κl:(Int)->T) (κr:(Bool×(Bool)×(Unit))->T):T:=br (decide (i<l.length)) (br (ixI l i) (br (ixT l i 2 [Sh.int .i64,Sh.int .i64] 0) (br (xh3 (gC l i 0).toInt (gC l i 1).toInt t) (κr (true,(true),())) (κl (i64.wrap (i+1)))) δ) δ) (κr (false,false,()))
def xaP (l:LA) (t:Int):StT (Int) (Bool×(Bool)×(Unit)):=fun (i)=>xgh l t i none inL inR
def xn4:=xGu.l 18 0 [] [] Tryz.f84 0 lk0 [0,1,5] [4] [] (q3 (qL 2) qI qI) xNv (fun (l,t,i,_) _=>(xaP l t,(i),fun p=>(.node p.1 (.leaf .ret [AV.bool p.2.1] []) (.leaf (.exit 0) [.top] [])))) (false,false,()) fun (l,t,_,_) _ (i)=>(((l,t,i,()),()),xgh l t i none)
def xmR {T:Type} (l:LA) (t:Int) (δ:T) (κ:Bool->T):T:=br ((Iter (xaP l t) 0).isSome) (br (((Iter (xaP l t) 0).getD (false,false,())).fst) (κ (((Iter (xaP l t) 0).getD (false,false,())).snd.fst)) (κ (false))) δ
def xfV (l:LA) (t:Int):=xmR l t none some
def xKM:EO:=xGu.f Tryz.func84 18 0 [] [(2,xn4.lp)] (lk1 xn4.ok) (u2 (uL 2) uI) (fun (l,t,_) _=>xmR l t) (fun _ p=>AV.bool p) false
def xbR (c:Int) (a b:Bool):Bool:=(br (c==1) (br (a) ((b)) ((false))) (br (c==2) (br (a) ((true)) ((b))) (br (c==3) (br (a) ((!b)) ((false))) (br (!a) ((!b)) ((false))))))
def xAj {T:Type} (c:Int) (a b:Bool) (δ:T) (κ:Bool->T):T:=br (c==1) (br (a) (κ (b)) (κ (false))) (br (c==2) (br (a) (κ (true)) (κ (b))) (br (c==3) (br (a) (κ (!b)) (κ (false))) (br (!a) (κ (!b)) (κ (false)))))
def xGv:EO:=xKM.fT Tryz.func83 32 0 [] [] lk0 (fun (c,a,b,_)=>xAj c a b none) (u3 uI (sEq pBool) (sEq pBool)) (fun (c,a,b,_)=>xbR c a b) (fun _ p=>(AV.bool p))
def xdV (a:LA) (i:Int):=decide (0<=i64.wrap (i - 1))&&decide (i64.wrap (i - 1)<(↑a.length:Int))
def xdW (a:LA) (i:Int):=decide ((i64.wrap (i - 1)).toNat<a.length)&&xMK (Sh.int .i64) ((a.getD (i64.wrap (i - 1)).toNat .top).cells.getD 0 .top)
def xba (a:LA) (i:Int):=((a.getD (i64.wrap (i - 1)).toNat .top).cells.getD 0 .top).toInt
def xfG (c:LA) (b:Nat) (i:Int) (a:LA):=(xaV b (xba c i) (gC c i 0).toInt a).getD (false,(0,[],[]),0,[])
def xfE (c:LA) (b:Nat) (i:Int) (a:LA):=(xfG c b i a).fst
def xfF (c:LA) (b:Nat) (i:Int) (a:LA):=(xfG c b i a).snd
def xfC (c:LA) (b:Nat) (i:Int) (a:LA):=(xfF c b i a).fst
def xfD (c:LA) (b:Nat) (i:Int) (a:LA):=(xfF c b i a).snd
def xei {T:Type} (f:Int) (a b e:LA) (d:Nat) (i:Int) (c:LA) (δ:T) (κl:(Nat×Int×LA)->T) (κr:(Nat×LA)->T):T:=br (decide (i<e.length)) (br (xdV e i) (br (xdW e i) (br ((xfV a (xba e i)).isSome) (br (xdV e i) (br (xdW e i) (br ((xfV b (xba e i)).isSome) (br (xbR f ((xfV a (xba e i)).getD false) ((xfV b (xba e i)).getD false)) (br (xdV e i) (br (xdW e i) (br (ixI e i) (br (ixS e i (Sh.int .i64) 0) (br ((xaV d (xba e i) (gC e i 0).toInt c).isSome) (κl (br (xfE e d i c) (xfC e d i c).fst (xfD e d i c).fst,i64.wrap (i+1),br (xfE e d i c) (xfC e d i c).snd.snd (xfD e d i c).snd)) δ) δ) δ) δ) δ) (κl (d,i64.wrap (i+1),c))) δ) δ) δ) δ) δ) δ) (κr (d,c))
def xbj (e:Int) (a b f:LA):StT (Nat×Int×LA) (Nat×LA):=fun (d,i,c)=>xei e a b f d i c none inL inR
def xn5:=xGv.l 58 0 [] [] Tryz.f50 0 lk0 [0,1,2,8,9,10] [9] [(9,2,44)] (q6 qI (qL 2) (qL 2) (qL 1) (xNG 0 0 0) qI) (q1 (qB 0 2 44 xNy)) (fun (e,a,b,f,d,i,_) (c,_)=>(xbj e a b f,(d,i,c),fun p=>(.leaf (.exit 0) [AV.osl 0 0 0 p.1] [bF 0 2 44 p.2]))) (0,[]) fun (e,a,b,f,_,_,_) _ (d,i,c)=>(((e,a,b,f,d,i,()),(c,())),xei e a b f d i c none)
def xfo (a b:LA):Nat:=1+a.length+b.length
def xlQ (a b:LA):LA:=[AV.agg [AV.int .i64 0,AV.int .i64 1099511627776]]++a++b
def xlP (a b:LA):=xsl (List.take (xfo a b) (List.drop 0 (xlQ a b)))
def xlO (c:Int) (a b:LA):=Iter (xbj c a b ((xlP a b).getD [])) (0,1,[])
def xlN (c:Int) (a b:LA):=(xlO c a b).getD (0,[])
def xlL (c:Int) (a b:LA):=(xlN c a b).snd
def xlM (c:Int) (a b:LA):=(xlN c a b).fst
def xmU {T:Type} (c:Int) (a b:LA) (δ:T) (κ:LA->T):T:=br (decide ((1+a.length)*16<=140737488355328)&&decide (1+a.length<=4611686018427387904)) (br (1+a.length==([AV.agg [AV.int .i64 0,AV.int .i64 1099511627776]]++a).length&&(decide (xfo a b*16<=140737488355328)&&decide (xfo a b<=4611686018427387904))) (br (decide (0+xfo a b<=(xlQ a b).length)&&true) (br ((xlP a b).isSome) (br ((xlO c a b).isSome) (br (decide (0+xlM c a b<=(xlL c a b).length)&&true) (κ (List.take (xlM c a b) (List.drop 0 (xlL c a b)))) δ) δ) δ) δ) δ) δ
def xfW (c:Int) (a b:LA):=xmU c a b none some
def xKN:EO:=xGv.f Tryz.func50 58 0 [] [(8,xn5.lp)] (lk1 xn5.ok) (u3 uI (uL 2) (uL 2)) (fun (c,a,b,_) _=>xmU c a b) (fun _ p=>AV.list 2 p) []
def xzw {T:Type} (l:LA) (δ:T) (κ:LA->T):T:=br ((xfW 2 l []).isSome) (κ ((xfW 2 l []).getD [])) δ
def xuX (l:LA):=xzw l none some
def xmT {T:Type} (a b:LA) (δ:T) (κ:LA->T):T:=br ((xfW 3 a b).isSome) (κ ((xfW 3 a b).getD [])) δ
def xdu (a b:LA):=xmT a b none some
def xKO:EO:=xKN.f Tryz.func26 8 0 [] [] lk0 (u2 (uL 2) (uL 2)) (fun (a,b,_) _=>xmT a b) (fun _ p=>AV.list 2 p) []
def xoK {T:Type} (e:List UInt8) (b a c d l:LA) (δ:T) (κ:Bool->T):T:=br ((xfQ e b a c d).isSome) (br ((xfQ e b a c d).getD 0==0) (br ((xeJ e b a c d).isSome) (br ((xqj ((xeJ e b a c d).getD []) l).isSome) (κ ((xqj ((xeJ e b a c d).getD []) l).getD false)) δ) δ) (κ (false))) δ
def xgH (e:List UInt8) (b a c d l:LA):=xoK e b a c d l none some
def xKT:EO:=xKO.f Tryz.func28 15 0 [] [] lk0 (u2 (xNL (u5 (sEq pStr) (uL 3) (uL 1) (uL 2) (uL 7))) (uL 3)) (fun ((e,b,a,c,d,_),l,_) _=>xoK e b a c d l) (fun _ p=>AV.bool p) false
def xtX {T:Type} (f:List UInt8) (c a d e b:LA) (δ:T) (κ:LA->T):T:=br ((xi4 b a).isSome) (κ ((xi4 b a).getD [])) δ
def xeT (e:List UInt8) (b a c d f:LA):=xtX e b a c d f none some
def xGI:EO:=xKT.f Tryz.func23 9 0 [] [] lk0 (u2 (xNL (u5 (sEq pStr) (uL 3) (uL 1) (uL 2) (uL 7))) (uL 3)) (fun ((e,b,a,c,d,_),g,_) _=>xtX e b a c d g) (fun _ p=>AV.list 3 p) []
def xk1 {T:Type} (l h:LA) (b:Nat) (i:Int) (c:List UInt8) (d e f g a:LA) (δ:T) (κl:(Nat×Int×List UInt8×LA×LA×LA×LA×LA)->T) (κr:(Nat×LA)->T):T:=br (decide (i<l.length)) (br (ixI l i) (br (ixS l i (Sh.list 3) 0) (br ((xeT c d e f g (gC l i 0).toList).isSome) (br ((xaB ((xeT c d e f g (gC l i 0).toList).getD []) h).isSome) (br ((xaB ((xeT c d e f g (gC l i 0).toList).getD []) h).getD 0==0) (br (ixI l i) (br (ixT l i 3 [Sh.int .i64,Sh.int .i64] 1) (br (rmB b a 1 16) (κl (b+1,i64.wrap (i+1),c,d,e,f,g,a++[AV.agg [AV.int .i64 (gC l i 1).toInt,AV.int .i64 (gC l i 2).toInt]])) δ) δ) δ) (κl (b,i64.wrap (i+1),c,d,e,f,g,a))) δ) δ) δ) δ) (κr (b,a))
def xdH (l c:LA):StT (Nat×Int×List UInt8×LA×LA×LA×LA×LA) (Nat×LA):=fun (b,i,d,e,f,g,h,a)=>xk1 l c b i d e f g h a none inL inR
def xm8 (e:List UInt8) (b a c d l f:LA):=Iter (xdH l f) (0,0,e,b,a,c,d,[])
def xm7 (e:List UInt8) (b a c d l f:LA):=(xm8 e b a c d l f).getD (0,[])
def xm5 (e:List UInt8) (b a c d l f:LA):=(xm7 e b a c d l f).fst
def xm6 (e:List UInt8) (b a c d l f:LA):=(xm7 e b a c d l f).snd
def xti {T:Type} (e:List UInt8) (b a c d l f:LA) (δ:T) (κ:LA->T):T:=br ((xm8 e b a c d l f).isSome) (br (decide (0+xm5 e b a c d l f<=(xm6 e b a c d l f).length)&&true) (κ (List.take (xm5 e b a c d l f) (List.drop 0 (xm6 e b a c d l f)))) δ) δ
def xjE (e:List UInt8) (b a c d l f:LA):=xti e b a c d l f none some
def xsJ {T:Type} (e:List UInt8) (b a c d l f:LA) (δ:T) (κ:LA->T):T:=br ((xjE e b a c d l f).isSome) (br ((xuX ((xjE e b a c d l f).getD [])).isSome) (κ ((xuX ((xjE e b a c d l f).getD [])).getD [])) δ) δ
def xfx (e:List UInt8) (b a c d l f:LA):=xsJ e b a c d l f none some
def xkn {T:Type} (i:Int) (a:LA) (c:List UInt8) (b:LA) (d:List UInt8) (δ:T) (κl:(Int×LA×List UInt8×LA×List UInt8)->T) (κr:(Bool×(Bool)×(Unit))->T):T:=br (decide (i<a.length)) (br (ixI a i) (br (ixS a i (Sh.int .i64) 0) (br (ixI b i) (br (ixS b i (Sh.int .i64) 0) (br ((gC a i 0).toInt != (gC b i 0).toInt) (κr (true,(false),())) (κl (i64.wrap (i+1),a,c,b,d))) δ) δ) δ) δ) (κr (false,false,()))
def xdK:StT (Int×LA×List UInt8×LA×List UInt8) (Bool×(Bool)×(Unit)):=fun (i,a,b,c,d)=>xkn i a b c d none inL inR
def xsM:=xGI.l 38 0 [] [] Tryz.f54 0 lk0 [2,3,5] [4] [] (q3 (xNH 0 0 0 0) (xNH 1 0 0 0) qI) (q2 (qB 0 2 34 (q1 (xNI (q2 (qL 1) pStr)))) (qB 0 2 34 (q1 (xNI (q2 (qL 1) pStr))))) (fun (_,_,i,_) (((a,b,_),_),((c,d,_),_),_)=>(xdK,(i,a,b,c,d),fun p=>(.node p.1 (.leaf .ret [AV.bool p.2.1] []) (.leaf (.exit 0) [.top] [])))) (false,false,()) fun _ _ (i,a,b,c,d)=>((((),(),i,()),(((a,b,()),()),((c,d,()),()),())),xkn i a b c d none)
def xrn (a:LA) (b:List UInt8) (c:LA) (d:List UInt8):=Iter xdK (0,a,b,c,d)
def xrm (a:LA) (b:List UInt8) (c:LA) (d:List UInt8):=(xrn a b c d).getD (false,false,())
def xsN {T:Type} (a:LA) (b:List UInt8) (c:LA) (d:List UInt8) (δ:T) (κ:Bool->T):T:=br (!b==d) (κ (false)) (br ((↑a.length:Int) != (↑c.length:Int)) (κ (false)) (br ((xrn a b c d).isSome) (br ((xrm a b c d).fst) (κ ((xrm a b c d).snd.fst)) (κ (true))) δ))
def xrY (a:LA) (b:List UInt8) (c:LA) (d:List UInt8):=xsN a b c d none some
def xB6:EO:=xGI.f Tryz.func54 38 0 [] [(4,xsM.lp)] (lk1 xsM.ok) (u2 (xNL (u2 (uL 1) (sEq pStr))) (xNL (u2 (uL 1) (sEq pStr)))) (fun ((a,b,_),(c,d,_),_) _=>xsN a b c d) (fun _ p=>AV.bool p) false
def xkl {T:Type} (j:Bool) (i:Int) (k:List UInt8) (l m a n g:LA) (h b:List UInt8) (c d e f:LA) (δ:T) (κl:(Bool×Int×List UInt8×LA×LA×LA×LA×LA×List UInt8×List UInt8×LA×LA×LA×LA)->T) (κr:(Bool×List UInt8×LA×LA×LA×LA×LA×List UInt8×List UInt8×LA×LA×LA×LA)->T):T:=br (decide (i<a.length)) (br (j) (κl (true,i64.wrap (i+1),k,l,m,a,n,g,h,b,c,d,e,f)) (br (ixI a i) (br (ixT a i 2 [Sh.list 1,Sh.str] 0) (br ((xrY (gC a i 0).toList (gC a i 1).toStr g h).isSome) (κl ((xrY (gC a i 0).toList (gC a i 1).toStr g h).getD false,i64.wrap (i+1),k,l,m,a,n,g,h,b,c,d,e,f)) δ) δ) δ)) (κr (j,k,l,m,a,n,g,h,b,c,d,e,f))
def xdI:StT (Bool×Int×List UInt8×LA×LA×LA×LA×LA×List UInt8×List UInt8×LA×LA×LA×LA) (Bool×List UInt8×LA×LA×LA×LA×LA×List UInt8×List UInt8×LA×LA×LA×LA):=fun (f,i,g,h,j,k,l,m,n,a,b,c,d,e)=>xkl f i g h j k l m n a b c d e none inL inR
def xm9:=xB6.l 76 0 [] [] Tryz.f29 0 lk0 [3,4,5,7,8] [3,4,5,7] [] (q5 (xNH 0 0 0 0) (xNH 1 0 0 0) (xNH 2 0 0 0) pBool qI) (q3 (qB 0 5 27 (q1 (xNI (q5 pStr (qL 3) (qL 1) (qL 2) (qL 7))))) (qB 0 2 34 (q1 (xNI (q2 (qL 1) pStr)))) (qB 0 5 27 (q1 (xNI (q5 pStr (qL 3) (qL 1) (qL 2) (qL 7)))))) (fun (_,_,_,f,i,_) (((g,h,j,k,m,_),_),((n,o,_),_),((a,b,c,d,e,_),_),_)=>(xdI,(f,i,g,h,j,k,m,n,o,a,b,c,d,e),fun p=>(.leaf (.exit 0) [AV.own 0 0 0 0,AV.own 1 0 0 0,AV.own 2 0 0 0,AV.bool p.1] [bF 0 5 27 [AV.agg [AV.str p.2.1,AV.list 3 p.2.2.1,AV.list 1 p.2.2.2.1,AV.list 2 p.2.2.2.2.1,AV.list 7 p.2.2.2.2.2.1]],bF 0 2 34 [AV.agg [AV.list 1 p.2.2.2.2.2.2.1,AV.str p.2.2.2.2.2.2.2.1]],bF 0 5 27 [AV.agg [AV.str p.2.2.2.2.2.2.2.2.1,AV.list 3 p.2.2.2.2.2.2.2.2.2.1,AV.list 1 p.2.2.2.2.2.2.2.2.2.2.1,AV.list 2 p.2.2.2.2.2.2.2.2.2.2.2.1,AV.list 7 p.2.2.2.2.2.2.2.2.2.2.2.2]]]))) (false,[],[],[],[],[],[],[],[],[],[],[],[]) fun _ _ (f,i,g,h,j,k,m,n,o,a,b,c,d,e)=>((((),(),(),f,i,()),(((g,h,j,k,m,()),()),((n,o,()),()),((a,b,c,d,e,()),()),())),xkl f i g h j k m n o a b c d e none)
def xkm {T:Type} (a b:LA) (i:Int) (d:LA) (j e:List UInt8) (f c g h:LA) (δ:T) (κl:(Int×LA×List UInt8×List UInt8×LA×LA×LA×LA)->T) (κr:(Bool×(Bool)×(Unit))->T):T:=br (decide (i<d.length)) (br (ixI d i) (br (ixS d i (Sh.int .i64) 0) (br (decide (0<=(gC d i 0).toInt)&&decide ((gC d i 0).toInt<a.length)) (br (decide ((gC d i 0).toInt.toNat<a.length)&&xMK (Sh.int .i64) ((a.getD (gC d i 0).toInt.toNat .top).cells.getD 0 .top)) (br (ixI c i) (br (ixS c i (Sh.int .i64) 0) (br (decide (0<=(gC c i 0).toInt)&&decide ((gC c i 0).toInt<b.length)) (br (decide ((gC c i 0).toInt.toNat<b.length)&&xMK (Sh.int .i64) ((b.getD (gC c i 0).toInt.toNat .top).cells.getD 0 .top)) (br (((a.getD (gC d i 0).toInt.toNat .top).cells.getD 0 .top).toInt != ((b.getD (gC c i 0).toInt.toNat .top).cells.getD 0 .top).toInt) (κr (true,(false),())) (κl (i64.wrap (i+1),d,j,e,f,c,g,h))) δ) δ) δ) δ) δ) δ) δ) δ) (κr (false,false,()))
def xdJ (a b:LA):StT (Int×LA×List UInt8×List UInt8×LA×LA×LA×LA) (Bool×(Bool)×(Unit)):=fun (i,h,j,c,d,e,f,g)=>xkm a b i h j c d e f g none inL inR
def xsK:=xB6.l 76 0 [] [(5,xm9.lp)] Tryz.f29 1 lk0 [4,5,9,10,11] [6] [] (q5 (xNH 0 0 0 0) (xNH 1 0 0 0) (qL 1) (qL 1) qI) (q2 (qB 0 2 34 (q1 (xNI (q2 (qL 1) pStr)))) (qB 0 5 27 (q1 (xNI (q5 pStr (qL 3) (qL 1) (qL 2) (qL 7)))))) (fun (_,_,a,b,i,_) (((h,j,_),_),((c,d,e,f,g,_),_),_)=>(xdJ a b,(i,h,j,c,d,e,f,g),fun p=>(.node p.1 (.leaf .ret [AV.bool p.2.1] []) (.leaf (.exit 2) [.top] [])))) (false,false,()) fun (_,_,a,b,_,_) _ (i,h,j,c,d,e,f,g)=>((((),(),a,b,i,()),(((h,j,()),()),((c,d,e,f,g,()),()),())),xkm a b i h j c d e f g none)
def xp4 (j:List UInt8) (g f h i k:LA) (l e:List UInt8) (b a c d:LA):=Iter xdI (false,0,j,g,f,h,i,k,l,e,b,a,c,d)
def xp3 (j:List UInt8) (g f h i k:LA) (l e:List UInt8) (b a c d:LA):=(xp4 j g f h i k l e b a c d).getD (false,[],[],[],[],[],[],[],[],[],[],[],[])
def xp2 (j:List UInt8) (g f h i k:LA) (l e:List UInt8) (b a c d:LA):=(xp3 j g f h i k l e b a c d).snd
def xp1 (j:List UInt8) (g f h i k:LA) (l e:List UInt8) (b a c d:LA):=(xp2 j g f h i k l e b a c d).snd
def xp0 (j:List UInt8) (g f h i k:LA) (l e:List UInt8) (b a c d:LA):=(xp1 j g f h i k l e b a c d).snd
def xpx (j:List UInt8) (g f h i k:LA) (l e:List UInt8) (b a c d:LA):=(xp0 j g f h i k l e b a c d).snd
def xpZ (j:List UInt8) (g f h i k:LA) (l e:List UInt8) (b a c d:LA):=(xpx j g f h i k l e b a c d).snd
def xre (j:List UInt8) (g f h i k:LA) (l e:List UInt8) (b a c d:LA):=xeJ (xp2 j g f h i k l e b a c d).fst (xp1 j g f h i k l e b a c d).fst (xp0 j g f h i k l e b a c d).fst (xpx j g f h i k l e b a c d).fst (xpZ j g f h i k l e b a c d).fst
def xpY (j:List UInt8) (g f h i k:LA) (l e:List UInt8) (b a c d:LA):=(xpZ j g f h i k l e b a c d).snd
def xpX (j:List UInt8) (g f h i k:LA) (l e:List UInt8) (b a c d:LA):=(xpY j g f h i k l e b a c d).snd
def xpW (j:List UInt8) (g f h i k:LA) (l e:List UInt8) (b a c d:LA):=(xpX j g f h i k l e b a c d).snd
def xpU (j:List UInt8) (g f h i k:LA) (l e:List UInt8) (b a c d:LA):=(xpW j g f h i k l e b a c d).fst
def xpV (j:List UInt8) (g f h i k:LA) (l e:List UInt8) (b a c d:LA):=(xpW j g f h i k l e b a c d).snd
def xrj (j:List UInt8) (g f h i k:LA) (l e:List UInt8) (b a c d:LA):=(xpV j g f h i k l e b a c d).snd
def xrk (j:List UInt8) (g f h i k:LA) (l e:List UInt8) (b a c d:LA):=(xpV j g f h i k l e b a c d).fst
def xrh (j:List UInt8) (g f h i k:LA) (l e:List UInt8) (b a c d:LA):=(xrj j g f h i k l e b a c d).snd
def xri (j:List UInt8) (g f h i k:LA) (l e:List UInt8) (b a c d:LA):=(xrj j g f h i k l e b a c d).fst
def xrf (j:List UInt8) (g f h i k:LA) (l e:List UInt8) (b a c d:LA):=(xrh j g f h i k l e b a c d).fst
def xrg (j:List UInt8) (g f h i k:LA) (l e:List UInt8) (b a c d:LA):=(xrh j g f h i k l e b a c d).snd
def xrd (j:List UInt8) (g f h i k:LA) (l e:List UInt8) (b a c d:LA):=xeJ (xpU j g f h i k l e b a c d) (xrk j g f h i k l e b a c d) (xri j g f h i k l e b a c d) (xrf j g f h i k l e b a c d) (xrg j g f h i k l e b a c d)
def xrc (j:List UInt8) (g f h i k:LA) (l e:List UInt8) (b a c d:LA):=Iter (xdJ ((xre j g f h i k l e b a c d).getD []) ((xrd j g f h i k l e b a c d).getD [])) (0,(xpY j g f h i k l e b a c d).fst,(xpX j g f h i k l e b a c d).fst,xpU j g f h i k l e b a c d,xrk j g f h i k l e b a c d,xri j g f h i k l e b a c d,xrf j g f h i k l e b a c d,xrg j g f h i k l e b a c d)
def xrb (j:List UInt8) (g f h i k:LA) (l e:List UInt8) (b a c d:LA):=(xrc j g f h i k l e b a c d).getD (false,false,())
def xsL {T:Type} (j:List UInt8) (g f h i k:LA) (l e:List UInt8) (b a c d:LA) (δ:T) (κ:Bool->T):T:=br ((xfQ j g f h i).isSome) (br ((xfQ j g f h i).getD 0 != 0) (κ (false)) (br ((xfQ e b a c d).isSome) (br ((xfQ e b a c d).getD 0 != 0) (κ (false)) (br ((↑k.length:Int) != (↑a.length:Int)) (κ (false)) (br ((xp4 j g f h i k l e b a c d).isSome) (br (!(xp3 j g f h i k l e b a c d).fst) (κ (false)) (br ((xre j g f h i k l e b a c d).isSome) (br ((xrd j g f h i k l e b a c d).isSome) (br ((xrc j g f h i k l e b a c d).isSome) (br ((xrb j g f h i k l e b a c d).fst) (κ ((xrb j g f h i k l e b a c d).snd.fst)) (κ (true))) δ) δ) δ)) δ))) δ)) δ
def xrX (j:List UInt8) (g f h i k:LA) (l e:List UInt8) (b a c d:LA):=xsL j g f h i k l e b a c d none some
def xKU:EO:=xB6.f Tryz.func29 76 0 [] [(5,xm9.lp),(12,xsK.lp)] (lks (lkC xm9.ok (lkC xsK.ok lkN))) (u3 (xNL (u5 (sEq pStr) (uL 3) (uL 1) (uL 2) (uL 7))) (xNL (u2 (uL 1) (sEq pStr))) (xNL (u5 (sEq pStr) (uL 3) (uL 1) (uL 2) (uL 7)))) (fun ((k,h,g,i,j,_),(l,m,_),(e,b,a,c,d,_),_) _=>xsL k h g i j l m e b a c d) (fun _ p=>AV.bool p) false
def xuu {T:Type} (a:LA) (c:List UInt8) (b:LA) (δ:T) (κ:Bool->T):T:=br ((xmy b a).isSome) (κ (!(xmy b a).getD false)) δ
def xoL (a:LA) (b:List UInt8) (c:LA):=xuu a b c none some
def xc7 (l:LA) (i:Int):=ixI l i
def xgm (l g:LA) (i:Int) (f:LA) (a:List UInt8) (b c d e:LA):=xdu [AV.agg [AV.int .i64 (gC l i 1).toInt,AV.int .i64 (gC l i 2).toInt]] ((xfx a b c d e g ((xi4 (gC l i 0).toList f).getD [])).getD [])
def xek (l:LA) (i:Int):=decide (i.toNat<l.length)&&xMK (Sh.list 3) (gC l i 0)
def xgl (l g:LA) (i:Int) (f:LA) (a:List UInt8) (b c d e:LA):=xgb (gC l i 0).toList ((xgm l g i f a b c d e).getD [])
def xgk (l g:LA) (i:Int) (f:LA) (a:List UInt8) (b c d e:LA):=(xgl l g i f a b c d e).getD []
def xej (l h:LA) (f:Nat) (i:Int) (g:LA) (a:List UInt8) (b c d e:LA):=f+(xgk l h i g a b c d e).length
def xg2 {T:Type} (l j:LA) (g:Nat) (i:Int) (f:LA) (k a:List UInt8) (b c d e h:LA) (δ:T) (κl:(Nat×Int×LA×List UInt8×List UInt8×LA×LA×LA×LA×LA)->T) (κr:(Nat×LA)->T):T:=br (decide (i<l.length)) (br (xc7 l i) (br (xek l i) (br ((xoL f k (gC l i 0).toList).isSome) (br (!(xoL f k (gC l i 0).toList).getD false) (κl (g,i64.wrap (i+1),f,k,a,b,c,d,e,h)) (br (xc7 l i) (br (xek l i) (br ((xi4 (gC l i 0).toList f).isSome) (br ((xfx a b c d e j ((xi4 (gC l i 0).toList f).getD [])).isSome) (br (xc7 l i) (br (xek l i) (br (xc7 l i) (br (ixT l i 3 [Sh.int .i64,Sh.int .i64] 1) (br ((xgm l j i f a b c d e).isSome) (br ((xgl l j i f a b c d e).isSome) (br (g==h.length&&(decide (xej l j g i f a b c d e*40<=140737488355328)&&decide (xej l j g i f a b c d e<=4611686018427387904))) (κl (xej l j g i f a b c d e,i64.wrap (i+1),f,k,a,b,c,d,e,h++xgk l j i f a b c d e)) δ) δ) δ) δ) δ) δ) δ) δ) δ) δ) δ)) δ) δ) δ) (κr (g,h))
def xcd (l k:LA):StT (Nat×Int×LA×List UInt8×List UInt8×LA×LA×LA×LA×LA) (Nat×LA):=fun (g,i,h,j,a,b,c,d,e,f)=>xg2 l k g i h j a b c d e f none inL inR
def xne (f:LA) (g:List UInt8) (l:LA) (e:List UInt8) (b a c d h:LA):=Iter (xcd l h) (0,0,f,g,e,b,a,c,d,[])
def xnd (f:LA) (g:List UInt8) (l:LA) (e:List UInt8) (b a c d h:LA):=(xne f g l e b a c d h).getD (0,[])
def xnb (f:LA) (g:List UInt8) (l:LA) (e:List UInt8) (b a c d h:LA):=(xnd f g l e b a c d h).snd
def xnc (f:LA) (g:List UInt8) (l:LA) (e:List UInt8) (b a c d h:LA):=(xnd f g l e b a c d h).fst
def xna (f:LA) (g:List UInt8) (l:LA) (e:List UInt8) (b a c d h:LA):=xwc (List.take (xnc f g l e b a c d h) (List.drop 0 (xnb f g l e b a c d h)))
def xtj {T:Type} (f:LA) (g:List UInt8) (l:LA) (e:List UInt8) (b a c d h:LA) (δ:T) (κ:LA->T):T:=br ((xne f g l e b a c d h).isSome) (br (decide (0+xnc f g l e b a c d h<=(xnb f g l e b a c d h).length)&&true) (br ((xna f g l e b a c d h).isSome) (κ ((xna f g l e b a c d h).getD [])) δ) δ) δ
def xrl (f:LA) (g:List UInt8) (l:LA) (e:List UInt8) (b a c d h:LA):=xtj f g l e b a c d h none some
def xKw:EO:=xGm.w xwi
def xBx:EO:=xKw.w xvz
def xjK:Env:=xBx.E.fn 24 1 (lsOf [8000000]) (xM7 [])
theorem xAf:xMM P0 (xNs.at 1) xjK:=xBx.ok.fn
theorem xyy:LoOk P0 (xNs.at xjK.pin) xjK (Tryz.f33.body.getD .skip):=xmP (by kernel_rfl)
def xhp (r a:LA) (b:List UInt8):=(xfU ((xaZ a b r).getD ([],false)).fst).getD []
def xjL (r a:LA) (c:List UInt8) (b:LA):=((b.getD (putIx b (xhp r a c)) .top).cells.getD 1 .top).toList.length
def xtJ (r a:LA) (c:List UInt8) (b:LA):=xNq 2 ((b.getD (putIx b (xhp r a c)) .top).cells.getD 1 .top)
def xtI (r:LA) (f t:Int) (a:LA) (c:List UInt8) (b:LA):=xee [AV.agg [AV.int .i64 f,AV.int .i64 t]] (List.take (xjL r a c b) (List.drop 0 ((b.getD (putIx b (xhp r a c)) .top).cells.getD 1 .top).toList))
def xnx {T:Type} (r:LA) (f t:Int) (a:LA) (b:List UInt8) (c:LA) (δ:T) (κ:Bool×(LA)×(LA×LA)->T):T:=br ((xaZ a b r).isSome) (br (!((xaZ a b r).getD ([],false)).snd) (κ (true,(c),([],[]))) (br ((xfU ((xaZ a b r).getD ([],false)).fst).isSome) (br (decide ((xhp r a b).length<=4611686018427387904)) (br (xNf c (xhp r a b)) (br (xtJ r a b c) (br (decide (putIx c (xhp r a b)<c.length)&&(xtJ r a b c&&2*xjL r a b c==2*xjL r a b c)&&decide (0+xjL r a b c<=xjL r a b c)&&true) (br ((xtI r f t a b c).isSome) (κ (false,[],((xtI r f t a b c).getD [],c))) δ) δ) δ) (br ((xee [AV.agg [AV.int .i64 f,AV.int .i64 t]] []).isSome) (κ (false,[],((xee [AV.agg [AV.int .i64 f,AV.int .i64 t]] []).getD [],c))) δ)) δ) δ)) δ
def missing1 (r:LA) (f t:Int) (a:LA) (b:List UInt8) (c:LA):=xnx r f t a b c none some
theorem xFG (r:LA) (f t:Int) (a:LA) (b:List UInt8) (xs:LA):Enc (fun (p:Bool×(LA)×(LA×LA))=>((br p.1 ((AV.nils,([⟨0,2,1208926125859592950775808,p.2.1,true,true⟩]:List Box))) ((AV.list 2 p.2.2.1,([⟨0,2,1208926125859592950775808,p.2.2.2,true,true⟩]:List Box)))):(AV×List Box))) (missing1 r f t a b xs) (XFM P0 xjK Tryz.f33 (Tryz.f33.body.getD .skip) [AV.agg [AV.list 3 r,AV.int .i64 f,AV.int .i64 t],AV.eptr 2 [AV.agg [AV.list 1 a,AV.str b]] 0 0,AV.func (1099511627776:FuncId) [AV.own (0:Id) 0 0 0]] [{ ver:=0,sz:=2,ty:=(1208926125859592950775808:TypeId),xs:=xs,frz:=true,pm:=true }]):=by
 have h:XFM P0 xjK Tryz.f33 (Tryz.f33.body.getD .skip) [AV.agg [AV.list 3 r,AV.int .i64 f,AV.int .i64 t],AV.eptr 2 [AV.agg [AV.list 1 a,AV.str b]] 0 0,AV.func (1099511627776:FuncId) [AV.own (0:Id) 0 0 0]] [{ ver:=0,sz:=2,ty:=(1208926125859592950775808:TypeId),xs:=xs,frz:=true,pm:=true }]=xnx r f t a b xs none (fun (p:Bool×(LA)×(LA×LA))=>some ((br p.1 ((AV.nils,([⟨0,2,1208926125859592950775808,p.2.1,true,true⟩]:List Box))) ((AV.list 2 p.2.2.1,([⟨0,2,1208926125859592950775808,p.2.2.2,true,true⟩]:List Box)))):(AV×List Box))):=by kernel_rfl
 rw [h];unfold missing1 xnx;repeat' (first|refine Enc.br ?_ ?_|exact Enc.none|exact Enc.some rfl)
def xfA (r:LA) (f t:Int) (a:LA) (b:List UInt8) (c:LA):Option (LA×LA):=(missing1 r f t a b c).map fun p=>br p.1 ([],p.2.1) p.2.2
def xFF:LA->List Box->Option (Bool×AV×List Box):=omOf (xNu (xNL (xNu (xNK 3 xNy) (xNu (sEq (pInt .i64)) (xNu (sEq (pInt .i64)) xNw)))) (xNu (sEq (xNN 2 0 0 (xNt (xNI (xNt (xNM 1 xNy) (xNt pStr xNv))) xNv))) (xNu (sEq (xM8 (1099511627776:FuncId) (xNt (xNH 0 0 0 0) xNv))) xNw))) (xNt (xNJ 0 2 (1208926125859592950775808:TypeId) true true xNy) xNv) fun ((r,(f,(t,_))),(((a,(b,_)),_),((_,_),_))) (c,_)=>((xfA r f t a b c).isSome,(AV.list 2 ((xfA r f t a b c).getD ([],[])).1,([⟨0,2,1208926125859592950775808,((xfA r f t a b c).getD ([],[])).2,true,true⟩]:List Box)))
theorem xFE:OmOk P0 xNs 33 (xFF):=xr2 fun h i l k j=>by
 obtain ⟨⟨r,⟨f,⟨t,_⟩⟩⟩,⟨⟨⟨c,⟨e,_⟩⟩,_⟩,⟨⟨_,_⟩,_⟩⟩⟩:=h;obtain ⟨g,_⟩:=i;obtain ⟨d,a⟩:=Prod.mk.inj j;unfold xfA at d a;cases hf:missing1 r f t c e g with
 | none=>rw [hf] at d;simp at d
 | some p =>
  rw [hf] at a;have hx:=xFG r f t c e g p hf;have hg:GoodM P0 xNs 33 _ _ _ _:=xgN (p:=xjK.pin) (xiH xMV (xMW P0 _) rfl xAf rfl Tryz.func33 rfl (by kernel_rfl) xyy hx)
  obtain ⟨b,m,n,o⟩:=p;cases b with
  | true =>
   obtain ⟨rfl,rfl⟩:=Prod.mk.inj a;exact GoodM.subR hg (xyT 2)
  | false =>
   obtain ⟨rfl,rfl⟩:=Prod.mk.inj a;exact hg
def xvE:EO:=xBx.wM xFE
def xae (a:List UInt8) (b c d e f:LA) (g:Int):=(xfU ((xoN a b c d e (gC f g 0).toList).getD [])).getD []
def xb9 (a:List UInt8) (b c d e f:LA) (g:Int):=decide ((xae a b c d e f g).length<=4611686018427387904)
def xat (a:List UInt8) (b c d e g:LA) (h:Int) (f:LA):=((f.getD (putIx f (xae a b c d e g h)) .top).cells.getD 1 .top).toList.length
def xdt (a:List UInt8) (b c d e g:LA) (h:Int) (f:LA):=((f.getD (putIx f (xae a b c d e g h)) .top).cells.getD 1 .top).toList++[AV.agg [AV.int .i64 (gC g h 1).toInt,AV.int .i64 (gC g h 2).toInt]]
def xca (a:List UInt8) (b c d e g:LA) (h:Int) (f:LA):=f.set (putIx f (xae a b c d e g h)) (AV.agg (List.take 1 (f.getD (putIx f (xae a b c d e g h)) .top).cells++[AV.int .i64 (↑(xat a b c d e g h f):Int)]++List.drop 2 (f.getD (putIx f (xae a b c d e g h)) .top).cells))
def xbt (a:List UInt8) (b c d e g:LA) (h:Int) (f:LA):=xat a b c d e g h f+1
def xdU {T:Type} (l j:LA) (k a:List UInt8) (b c d e h:LA) (i g:Int) (f:LA) (δ:T) (κl:(Int×LA)->T) (κr:(LA)->T):T:=br (decide (g<i)) (br (ixI h g) (br (ixT h g 3 [Sh.list 3,Sh.int .i64,Sh.int .i64] 0) (br ((xoN a b c d e (gC h g 0).toList).isSome) (br ((xfU ((xoN a b c d e (gC h g 0).toList).getD [])).isSome) (br (xb9 a b c d e h g) (br (xNf f (xae a b c d e h g)) (br (xNq 2 ((f.getD (putIx f (xae a b c d e h g)) .top).cells.getD 1 .top)) (br (decide (putIx f (xae a b c d e h g)<f.length)&&(xNq 2 ((f.getD (putIx f (xae a b c d e h g)) .top).cells.getD 1 .top)&&((f.getD (putIx f (xae a b c d e h g)) .top).cells.length==2&&(2*xat a b c d e h g f==2*xat a b c d e h g f&&(xat a b c d e h g f==xat a b c d e h g f&&(xat a b c d e h g f==xat a b c d e h g f&&(decide (xbt a b c d e h g f*16<=140737488355328)&&decide (xbt a b c d e h g f<=4611686018427387904)))))))) (br (xbt a b c d e h g f==(xdt a b c d e h g f).length&&(decide ((xca a b c d e h g f).length<4611686018427387904)&&(xb9 a b c d e h g&&deadR (xca a b c d e h g f) (xae a b c d e h g) (xbt a b c d e h g f)))) (κl (i64.wrap (g+1),xM1 (xca a b c d e h g f) (xae a b c d e h g) (AV.list 2 (xdt a b c d e h g f)))) δ) δ) δ) (br (decide (f.length<4611686018427387904)&&(xb9 a b c d e h g&&deadR f (xae a b c d e h g) 1)) (κl (i64.wrap (g+1),xM1 f (xae a b c d e h g) (AV.list 2 [AV.agg [AV.int .i64 (gC h g 1).toInt,AV.int .i64 (gC h g 2).toInt]]))) δ)) δ) δ) δ) δ) δ) (κr (f))
def xa2 (l g:LA) (h a:List UInt8) (b c d e i:LA) (j:Int):StT (Int×LA) (LA):=fun (k,f)=>xdU l g h a b c d e i j k f none inL inR
def xe2:=xvE.l 67 0 [1000034,1000027,8000000] [] Tryz.f11 0 lk0 [1,4,6,9,20,21,22] [1,4,9] [(9,0,1073741824)] (q7 (qL 3) (xNN 2 0 0 (q1 (xNI (q2 (qL 1) pStr)))) (xNN 5 0 0 (q1 (xNI (q5 pStr (qL 3) (qL 1) (qL 2) (qL 7))))) (xM8 1099511627776 (q1 (xNH 0 0 0 0))) (qL 3) qI qI) (q1 (qB 0 2 1208926125859592950775808 xNy)) (fun (l,((g,h,_),_),((a,b,c,d,e,_),_),(_,_),i,j,k,_) (f,_)=>(xa2 l g h a b c d e i j,(k,f),fun p=>(.leaf (.exit 0) [AV.list 3 l,AV.eptr 2 [AV.agg [AV.list 1 g,AV.str h]] 0 0,AV.func 1099511627776 [AV.own 0 0 0 0]] [bF 0 2 1208926125859592950775808 p]))) [] fun (l,((g,h,_),_),((a,b,c,d,e,_),_),(_,_),i,j,_,_) _ (k,f)=>(((l,((g,h,()),()),((a,b,c,d,e,()),()),((),()),i,j,k,()),(f,())),xdU l g h a b c d e i j k f none)
def xfw {T:Type} (f:LA) (g:List UInt8) (l:LA) (m n:Int) (d:LA) (i:Int) (c:Nat) (b:Int) (e a h:LA) (j k:Int) (δ:T) (κl:(Nat×Int×LA×LA×LA×Int×Int)->T) (κr:(Nat×LA×LA)->T):T:=br (decide (b<i)) (br (ixI d b) (br (ixT d b 2 [Sh.int .i64,Sh.int .i64] 0) (br (rmB c a 1 40) (κl (c+1,i64.wrap (b+1),e,a++[AV.agg [AV.list 3 h,AV.int .i64 (gC d b 0).toInt,AV.int .i64 (gC d b 1).toInt]],h,j,k)) δ) δ) δ) (κr (c,e,a))
def xbH (a:LA) (b:List UInt8) (f:LA) (g h:Int) (i:LA) (j:Int):StT (Nat×Int×LA×LA×LA×Int×Int) (Nat×LA×LA):=fun (d,k,e,c,l,m,n)=>xfw a b f g h i j d k e c l m n none inL inR
def xe3:=xvE.l 67 0 [1000034,1000027,8000000] [(3,xe2.lp)] Tryz.f11 2 lk0 [13,14,16,42,43,44,50,51,52] [13,14,42,43,44] [(14,3,54),(13,1,1073741824)] (q9 (xM8 33 (q2 (xNN 2 0 0 (q1 (xNI (q2 (qL 1) pStr)))) (xM8 1099511627776 (q1 (xNH 0 0 0 0))))) (xNG 1 0 0) (xNH 2 0 0 0) (qL 3) qI qI (qL 2) qI qI) (q3 (xNJ 0 2 1208926125859592950775808 true true xNy) (qB 0 3 54 xNy) (qB 0 3 54 (q1 (xNI (q3 (qL 3) qI qI))))) (fun ((((a,b,_),_),(_,_),_),d,_,f,g,h,i,j,k,_) (e,c,((m,n,o,_),_),_)=>(xbH a b f g h i j,(d,k,e,c,m,n,o),fun p=>(.leaf (.exit 4) [AV.func 33 [AV.eptr 2 [AV.agg [AV.list 1 a,AV.str b]] 0 0,AV.func 1099511627776 [AV.own 0 0 0 0]],AV.osl 1 0 0 p.1,AV.list 3 f,AV.int .i64 g,AV.int .i64 h] [⟨0,2,1208926125859592950775808,p.2.1,true,true⟩,bF 0 3 54 p.2.2]))) (0,[],[]) fun ((((a,b,_),_),(_,_),_),_,_,f,g,h,i,j,_,_) _ (d,k,e,c,m,n,o)=>((((((a,b,()),()),((),()),()),d,(),f,g,h,i,j,k,()),(e,c,((m,n,o,()),()),())),xfw a b f g h i j d k e c m n o none)
def xh1 (a:LA) (b:List UInt8) (c:LA) (d:Int) (e:LA):=xfA (gC c d 0).toList (gC c d 1).toInt (gC c d 2).toInt a b e
def xh0 (a:LA) (b:List UInt8) (d:LA) (e:Int) (c:LA):=(xh1 a b d e c).getD ([],[])
def xhx (a:LA) (b:List UInt8) (d:LA) (e:Int) (c:LA):=(xh0 a b d e c).fst
def xhZ (a:LA) (b:List UInt8) (c:LA) (h:Int) (g:Nat) (d:Int) (e f:LA):=Iter (xbH a b c h d (xhx a b c d e) (↑(xhx a b c d e).length:Int)) (g,0,(xh0 a b c d e).snd,f,(gC c d 0).toList,(gC c d 1).toInt,(gC c d 2).toInt)
def xhY (a:LA) (b:List UInt8) (f:LA) (g:Int) (d:Nat) (h:Int) (e c:LA):=(xhZ a b f g d h e c).getD (0,[],[])
def xhX (a:LA) (b:List UInt8) (f:LA) (g:Int) (d:Nat) (h:Int) (e c:LA):=(xhY a b f g d h e c).snd
def xfv {T:Type} (a:LA) (b:List UInt8) (g:LA) (h:Int) (d:Nat) (e:Int) (f c:LA) (δ:T) (κl:(Nat×Int×LA×LA)->T) (κr:(Nat×LA)->T):T:=br (decide (e<h)) (br (ixI g e) (br (ixT g e 3 [Sh.list 3,Sh.int .i64,Sh.int .i64] 0) (br ((xh1 a b g e f).isSome) (br ((xhZ a b g h d e f c).isSome) (κl ((xhY a b g h d e f c).fst,i64.wrap (e+1),(xhX a b g h d e f c).fst,(xhX a b g h d e f c).snd)) δ) δ) δ) δ) (κr (d,c))
def xbG (a:LA) (b:List UInt8) (f:LA) (g:Int):StT (Nat×Int×LA×LA) (Nat×LA):=fun (d,h,e,c)=>xfv a b f g d h e c none inL inR
def xnk:=xvE.l 67 0 [1000034,1000027,8000000] [(3,xe2.lp),(14,xe3.lp)] Tryz.f11 1 (lk1 xe3.ok) [13,14,42,43,44] [14] [(14,3,54),(13,1,1073741824)] (q5 (xM8 33 (q2 (xNN 2 0 0 (q1 (xNI (q2 (qL 1) pStr)))) (xM8 1099511627776 (q1 (xNH 0 0 0 0))))) (xNG 1 0 0) (qL 3) qI qI) (q2 (xNJ 0 2 1208926125859592950775808 true true xNy) (qB 0 3 54 xNy)) (fun ((((a,b,_),_),(_,_),_),d,f,g,h,_) (e,c,_)=>(xbG a b f g,(d,h,e,c),fun p=>(.leaf (.exit 2) [AV.osl 0 0 0 p.1] [bF 0 3 54 p.2]))) (0,[]) fun ((((a,b,_),_),(_,_),_),_,f,g,_,_) _ (d,h,e,c)=>((((((a,b,()),()),((),()),()),d,f,g,h,()),(e,c,())),xfv a b f g d h e c none)
def xkM (f:LA) (g:List UInt8) (l:LA) (e:List UInt8) (b a c d h:LA):=Iter (xbG f g l (↑l.length:Int)) (0,0,(Iter (xa2 l f g e b a c d h (↑h.length:Int)) (0,[])).getD [],[])
def xkL (f:LA) (g:List UInt8) (l:LA) (e:List UInt8) (b a c d h:LA):=(xkM f g l e b a c d h).getD (0,[])
def xkJ (f:LA) (g:List UInt8) (l:LA) (e:List UInt8) (b a c d h:LA):=(xkL f g l e b a c d h).snd
def xkK (f:LA) (g:List UInt8) (l:LA) (e:List UInt8) (b a c d h:LA):=(xkL f g l e b a c d h).fst
def xkI (f:LA) (g:List UInt8) (l:LA) (e:List UInt8) (b a c d h:LA):=xny (List.take (xkK f g l e b a c d h) (List.drop 0 (xkJ f g l e b a c d h)))
def xlK {T:Type} (f:LA) (g:List UInt8) (l:LA) (e:List UInt8) (b a c d h:LA) (δ:T) (κ:LA->T):T:=br ((Iter (xa2 l f g e b a c d h (↑h.length:Int)) (0,[])).isSome) (br ((xkM f g l e b a c d h).isSome) (br (decide (0+xkK f g l e b a c d h<=(xkJ f g l e b a c d h).length)&&true) (br ((xkI f g l e b a c d h).isSome) (κ ((xkI f g l e b a c d h).getD [])) δ) δ) δ) δ
def xe1 (f:LA) (g:List UInt8) (l:LA) (e:List UInt8) (b a c d h:LA):=xlK f g l e b a c d h none some
def xwC:LA->Option (Bool×AV):=fnO (u4 (xNL (u2 (uL 1) (sEq pStr))) (uL 3) (xNL (u5 (sEq pStr) (uL 3) (uL 1) (uL 2) (uL 7))) (uL 3)) (fun ((f,g,_),l,(e,b,a,c,d,_),h,_) _=>xlK f g l e b a c d h) (fun _ p=>AV.list 3 p) []
theorem xrw:OcOk P0 xNs 11 xwC:=fnC xvE.ok Tryz.func11 67 0 [1000034,1000027,8000000] [(3,xe2.lp),(14,xe3.lp),(11,xnk.lp)] (lks (lkC xe2.ok (lkC xnk.ok (lkC xe3.ok lkN))))
def xGh:EO:=xvE.w xrw
def xnK {T:Type} (f:LA) (g:List UInt8) (l:LA) (e:List UInt8) (b a c d h:LA) (δ:T) (κ:Bool->T):T:=br ((xe1 f g l e b a c d h).isSome) (κ ((↑((xe1 f g l e b a c d h).getD []).length:Int)==0)) δ
def xjv (f:LA) (g:List UInt8) (l:LA) (e:List UInt8) (b a c d h:LA):=xnK f g l e b a c d h none some
def xzb:LA->Option (Bool×AV):=fnO (u4 (xNL (u2 (uL 1) (sEq pStr))) (uL 3) (xNL (u5 (sEq pStr) (uL 3) (uL 1) (uL 2) (uL 7))) (uL 3)) (fun ((f,g,_),l,(e,b,a,c,d,_),h,_) _=>xnK f g l e b a c d h) (fun _ p=>AV.bool p) false
theorem xs5:OcOk P0 xNs 13 xzb:=fnC xGh.ok Tryz.func13 16 0 [] [] lk0
def xKt:EO:=xGh.w xs5
def xrs {T:Type} (a b:LA) (δ:T) (κ:Bool->T):T:=br ((xgK a b).isSome) (κ ((xgK a b).getD 0==0)) δ
def xqm (a b:LA):=xrs a b none some
def xKu:EO:=xKt.f Tryz.func43 9 0 [] [] lk0 (u2 (uL 3) (uL 3)) (fun (a,b,_) _=>xrs a b) (fun _ p=>AV.bool p) false
def xgP (a b c d:Int):Bool:=(br (xcl a b) (br (xcl c d) (br (decide (a<d)) ((decide (c<b))) ((false))) ((false))) ((false)))
def xwD {T:Type} (a b c d:Int) (δ:T) (κ:Bool->T):T:=br (xcl a b) (br (xcl c d) (br (decide (a<d)) (κ (decide (c<b))) (κ (false))) (κ (false))) (κ (false))
def xKv:EO:=xKu.fT Tryz.func113 25 0 [] [] lk0 (fun ((a,b,_),(c,d,_),_)=>xwD a b c d none) (u2 (xNL (u2 uI uI)) (xNL (u2 uI uI))) (fun ((a,b,_),(c,d,_),_)=>xgP a b c d) (fun _ p=>(AV.bool p))
def xdm (a b c d:Int):Int×Int×Bool:=(br (!xgP a b c d) ((0,0,false)) ((if c>a then c else a,if d<b then d else b,true)))
def xv5 {T:Type} (a b c d:Int) (δ:T) (κ:Int×Int×Bool->T):T:=br (!xgP a b c d) (κ (0,0,false)) (κ (if c>a then c else a,if d<b then d else b,true))
def xGi:EO:=xKv.fT Tryz.func76 22 0 [] [] lk0 (fun ((a,b,_),(c,d,_),_)=>xv5 a b c d none) (u2 (xNL (u2 uI uI)) (xNL (u2 uI uI))) (fun ((a,b,_),(c,d,_),_)=>xdm a b c d) (fun _ p=>(AV.tuple [AV.agg [AV.int .i64 p.1,AV.int .i64 p.2.1],AV.bool p.2.2]))
def xeG {T:Type} (b:LA) (g:Int) (d:Nat) (a e f:Int) (c:LA) (δ:T) (κl:(Nat×Int×Int×Int×LA)->T) (κr:(Nat×LA)->T):T:=br (decide (a<g)) (br (ixI b a) (br (ixT b a 3 [Sh.list 3,Sh.int .i64,Sh.int .i64] 0) (br ((xdm (gC b a 1).toInt (gC b a 2).toInt e f).snd.snd) (br (rmB d c 1 40) (κl (d+1,i64.wrap (a+1),e,f,c++[AV.agg [AV.list 3 (gC b a 0).toList,AV.int .i64 (xdm (gC b a 1).toInt (gC b a 2).toInt e f).fst,AV.int .i64 (xdm (gC b a 1).toInt (gC b a 2).toInt e f).snd.fst]])) δ) (κl (d,i64.wrap (a+1),e,f,c))) δ) δ) (κr (d,c))
def xbk (e:LA) (f:Int):StT (Nat×Int×Int×Int×LA) (Nat×LA):=fun (b,g,c,d,a)=>xeG e f b g c d a none inL inR
def xlH:=xGi.l 34 0 [] [] Tryz.f44 0 lk0 [3,5,10,11,12] [5] [(5,3,54)] (q5 (xNH 0 0 0 0) (xNG 1 0 0) (qL 3) qI qI) (q2 (qB 0 2 44 (q1 (xNI (q2 qI qI)))) (qB 0 3 54 xNy)) (fun (_,b,e,f,g,_) (((c,d,_),_),a,_)=>(xbk e f,(b,g,c,d,a),fun p=>(.leaf (.exit 0) [AV.osl 0 0 0 p.1] [bF 0 3 54 p.2]))) (0,[]) fun (_,_,e,f,_,_) _ (b,g,c,d,a)=>((((),b,e,f,g,()),(((c,d,()),()),a,())),xeG e f b g c d a none)
def xiP (l:LA) (a b:Int):=Iter (xbk l (↑l.length:Int)) (0,0,a,b,[])
def xiO (l:LA) (a b:Int):=(xiP l a b).getD (0,[])
def xiM (l:LA) (a b:Int):=(xiO l a b).fst
def xiN (l:LA) (a b:Int):=(xiO l a b).snd
def xiL (l:LA) (a b:Int):=xny (List.take (xiM l a b) (List.drop 0 (xiN l a b)))
def xjQ {T:Type} (l:LA) (a b:Int) (δ:T) (κ:LA->T):T:=br ((xiP l a b).isSome) (br (decide (0+xiM l a b<=(xiN l a b).length)&&true) (br ((xiL l a b).isSome) (κ ((xiL l a b).getD [])) δ) δ) δ
def xlJ (l:LA) (a b:Int):=xjQ l a b none some
def xGj:EO:=xGi.f Tryz.func44 34 0 [] [(3,xlH.lp)] (lk1 xlH.ok) (u2 (uL 3) (xNL (u2 uI uI))) (fun (l,(a,b,_),_) _=>xjQ l a b) (fun _ p=>AV.list 3 p) []
def xef {T:Type} (i c:LA) (j:Int) (d:Nat) (a:Int) (e:LA) (f:List UInt8) (g h:Int) (b:LA) (δ:T) (κl:(Nat×Int×LA×List UInt8×Int×Int×LA)->T) (κr:(Nat×Int×Int×LA)->T):T:=br (decide (a<j)) (br (ixI c a) (br (ixT c a 3 [Sh.list 3,Sh.int .i64,Sh.int .i64] 0) (br ((xaZ e f (gC c a 0).toList).isSome) (br (((xaZ e f (gC c a 0).toList).getD ([],false)).snd) (br ((xqm ((xaZ e f (gC c a 0).toList).getD ([],false)).fst i).isSome) (br ((xqm ((xaZ e f (gC c a 0).toList).getD ([],false)).fst i).getD false) (br (rmB d b 1 40) (κl (d+1,i64.wrap (a+1),e,f,g,h,b++[AV.agg [AV.list 3 (gC c a 0).toList,AV.int .i64 (gC c a 1).toInt,AV.int .i64 (gC c a 2).toInt]])) δ) (κl (d,i64.wrap (a+1),e,f,g,h,b))) δ) (κl (d,i64.wrap (a+1),e,f,g,h,b))) δ) δ) δ) (κr (d,g,h,b))
def xa5 (e f:LA) (g:Int):StT (Nat×Int×LA×List UInt8×Int×Int×LA) (Nat×Int×Int×LA):=fun (b,h,i,j,c,d,a)=>xef e f g b h i j c d a none inL inR
def xkH:=xGj.l 41 0 [] [] Tryz.f18 0 lk0 [2,4,7,9,14,15,16] [7,9] [(9,3,54)] (q7 (qL 3) (xNH 0 0 0 0) (xNH 1 0 0 0) (xNG 2 0 0) (qL 3) qI qI) (q3 (qB 0 2 34 (q1 (xNI (q2 (qL 1) pStr)))) (qB 0 2 44 (q1 (xNI (q2 qI qI)))) (qB 0 3 54 xNy)) (fun (e,_,_,b,f,g,h,_) (((i,j,_),_),((c,d,_),_),a,_)=>(xa5 e f g,(b,h,i,j,c,d,a),fun p=>(.leaf (.exit 0) [AV.own 0 0 0 0,AV.osl 1 0 0 p.1] [bF 0 2 44 [AV.agg [AV.int .i64 p.2.1,AV.int .i64 p.2.2.1]],bF 0 3 54 p.2.2.2]))) (0,0,0,[]) fun (e,_,_,_,f,g,_,_) _ (b,h,i,j,c,d,a)=>(((e,(),(),b,f,g,h,()),(((i,j,()),()),((c,d,()),()),a,())),xef e f g b h i j c d a none)
def xhW (a:LA) (b:List UInt8) (l e:LA) (c d:Int):=Iter (xa5 e l (↑l.length:Int)) (0,0,a,b,c,d,[])
def xhV (a:LA) (b:List UInt8) (l e:LA) (c d:Int):=(xhW a b l e c d).getD (0,0,0,[])
def xhT (a:LA) (b:List UInt8) (l e:LA) (c d:Int):=(xhV a b l e c d).snd
def xhU (a:LA) (b:List UInt8) (l e:LA) (c d:Int):=(xhV a b l e c d).fst
def xhS (a:LA) (b:List UInt8) (l e:LA) (c d:Int):=(xhT a b l e c d).snd
def xhR (a:LA) (b:List UInt8) (l e:LA) (c d:Int):=(xhS a b l e c d).snd
def xhQ (a:LA) (b:List UInt8) (l e:LA) (c d:Int):=xlJ (List.take (xhU a b l e c d) (List.drop 0 (xhR a b l e c d))) (xhT a b l e c d).fst (xhS a b l e c d).fst
def xiS {T:Type} (a:LA) (b:List UInt8) (l e:LA) (c d:Int) (δ:T) (κ:LA->T):T:=br ((xhW a b l e c d).isSome) (br (decide (0+xhU a b l e c d<=(xhR a b l e c d).length)&&true) (br ((xhQ a b l e c d).isSome) (κ ((xhQ a b l e c d).getD [])) δ) δ) δ
def xkG (a:LA) (b:List UInt8) (l e:LA) (c d:Int):=xiS a b l e c d none some
def xuH:LA->Option (Bool×AV):=fnO (u4 (xNL (u2 (uL 1) (sEq pStr))) (uL 3) (uL 3) (xNL (u2 uI uI))) (fun ((a,b,_),l,e,(c,d,_),_) _=>xiS a b l e c d) (fun _ p=>AV.list 3 p) []
theorem xuG:OcOk P0 xNs 18 xuH:=fnC xGj.ok Tryz.func18 41 0 [] [(3,xkH.lp)] (lk1 xkH.ok)
end Go.Sim.M
end
noncomputable section
set_option maxRecDepth 100000
namespace Go.Sim
def stepX (P:Program) (E:Env) (live liveO:List Nat) (conv:List (Nat×Nat×TypeId)) (c:Code) (s:List AV×List Box):Option ((List AV×List Box)⊕{r:Exit×List AV×List Box // r.1≠.normal}) :=
 match XR P E live liveO conv c s.1 s.2 with
 | some (.normal,v,H)=>some (.inl (v,H))
 | some (.exit i,v,H)=>some (.inr ⟨(.exit i,v,H),by simp⟩)
 | some (.ret,v,H)=>some (.inr ⟨(.ret,v,H),by simp⟩)
 | _=>none
def closedLp (P:Program) (E:Env) (live liveO:List Nat) (conv:List (Nat×Nat×TypeId)) (c:Code) (n:Nat):Lp:=⟨live,liveO,conv,fun vals H =>
 match iterN (stepX P E live liveO conv c) n (vals,H) with
 | some r=>some (true,.leaf r.1.1 r.1.2.1 r.1.2.2)
 | none=>none⟩
theorem xl8 {P:Program} {Inv:IV} {E:Env} (U:P.follows .mixedOrders=true) (J:InvOk Inv) (q:Inv.pin=E.pin) (O:xMM P Inv E) {c:Code} (Q:LoOk P Inv E c) {live liveO:List Nat} {conv:List (Nat×Nat×TypeId)} {n:Nat} :
  LoopOk P Inv E.nt c (closedLp P E live liveO conv c n):=fun vals H r h=>by
 simp only [closedLp] at h;split at h
 case h_2=>simp at h
 rename_i r0 hr;simp only [z6,zb,true_and] at h;subst h;exact xrR U J q O Q (σ:=List AV×List Box) (ρ:={r:Exit×List AV×List Box // r.1≠.normal}) (step:=stepX P E live liveO conv c) (fun s=>s) (fun r=>.leaf r.1.1 r.1.2.1 r.1.2.2) (fun r=>r.2)
  (fun s r hs=>by
   unfold stepX at hs;split at hs<;>simp only [z6,reduceCtorEq] at hs;all_goals (subst hs;rename_i hx;exact hx)) (s:=(vals,H)) (r:=r0) (xpi.2 ⟨n,hr⟩)
end Go.Sim
namespace Go.Sim.M
open Go.RowKit Go.Proofs
def mmA (g:FuncId):Bool:=([55,57,128,152,175,136,164,190,100,133,154,131,153,183,138,99,166,85,33]:List Nat).contains g
noncomputable def EA0:Env:={ E0 with ls:=lsOf [42,54,141],fuel:=1000 }
theorem xBX:xMM P0 xNs EA0:=xI4
noncomputable def runA (E:Env) (fn:Func):List AV->Option (Bool×AV):=fun xs=>match XF P0 E fn (fn.body.getD .skip) xs with
 | some r=>some (true,r)
 | none=>none
theorem xDm {E:Env} {f:FuncId} {fn:Func} (Q:xMM P0 (xNs.at 0) E) (J:E.pin=0) (hf:P0.funcs[f]?=some fn) (hb:fn.body.isSome=true) (q:(fn.name == "runtime.NumGoroutine")=false) (O:LoOk P0 (xNs.at 0) E (fn.body.getD .skip)):OcOk P0 xNs f (runA E fn):=fun xs r h=>by
 unfold runA at h;split at h
 case h_2=>simp at h
 rename_i r0 hr;simp only [z6,zb,true_and] at h;subst h;exact xhm (p:=0) (xlk xMV (xMW P0 _) J.symm Q hf hb q O hr)
noncomputable def EAr:Env:={ Env.deep P0 mmA EA0 10 with pin:=0,nt:=60,ls:=lsOf [] }
theorem xGc:xMM P0 (xNs.at 0) EAr:=xix xMV mmA (xMW P0 0) xBX (fun _=>rfl) 10
noncomputable def xGb:Lp:=closedLp P0 EAr [3,4,11,12,13] [4] [(4,2,189114876045)] (xMQ Tryz.f98 0) 100
noncomputable def EAr1:Env:={ EAr with lp:=xM7 [(xMx (xMQ Tryz.f98 0),xGb)] }
theorem xJf:xMM P0 (xNs.at 0) EAr1:=xGc
noncomputable def xEZ:List AV->Option (Bool×AV):=runA EAr1 Tryz.f98
theorem xJ0:OcOk P0 xNs 98 xEZ:=xDm xJf rfl Tryz.func98 rfl (by kernel_rfl) (xho (ls:=[xMQ Tryz.f98 0]) (by kernel_rfl) (fun l hl lp hs=>by
 simp only [zC,List.not_mem_nil,or_false] at hl;subst hl;rw [show EAr1.lp (xMx (xMQ Tryz.f98 0))=some xGb by kernel_rfl] at hs
 cases hs;exact xl8 (E:=EAr) xMV (xMW P0 _) rfl xGc (xeP fun _=>rfl)))
noncomputable def EAlv (p:Nat):Env:={ Env.deep P0 mmA EA0 6 with pin:=p,nt:=71,ls:=lsOf [] }
theorem xEm (p:Nat):xMM P0 (xNs.at p) (EAlv p):=xkT (xix xMV mmA (xMW P0 0) xBX (fun _=>rfl) 6)
noncomputable def xEl (p:Nat):Lp:=closedLp P0 (EAlv p) [0,1,2,3,4] [] [(3,0,0)] (xMQ Tryz.f99 0) 100
noncomputable def EAlv1 (p:Nat):Env:={ EAlv p with lp:=xM7 [(xMx (xMQ Tryz.f99 0),xEl p)] }
theorem xH4 (p:Nat):xMM P0 (xNs.at p) (EAlv1 p):=xEm p
noncomputable def xCK:List AV->List Box->Option (Bool×AV×List Box):=fun xs H=>match XFM P0 (EAlv1 H.length) Tryz.f99 (Tryz.f99.body.getD .skip) xs H with
 | some (r,H')=>some (true,r,H')
 | none=>none
theorem xK9:OmOk P0 xNs 99 xCK:=fun xs H r H' h=>by
 unfold xCK at h;split at h
 case h_2=>simp at h
 rename_i r0 H0 hr;simp only [z6,zb,true_and] at h;obtain ⟨rfl,rfl⟩:=h;refine xgN (p:=H.length) (xiH xMV (xMW P0 _) rfl (xH4 H.length) rfl Tryz.func99 rfl (by kernel_rfl) (xho (ls:=[xMQ Tryz.f99 0,xMQ Tryz.f99 1]) (by kernel_rfl) (fun l hl lp hs=>?_)) hr)
 simp only [zC,List.not_mem_nil,or_false] at hl;rcases hl with rfl|rfl
 . rw [show (EAlv1 H.length).lp (xMx (xMQ Tryz.f99 0))=some (xEl H.length) by kernel_rfl] at hs
   cases hs;exact xl8 (E:=EAlv H.length) xMV (xMW P0 _) rfl (xEm H.length) (xeP fun _=>rfl)
 . rw [show (EAlv1 H.length).lp (xMx (xMQ Tryz.f99 1))=none by kernel_rfl] at hs
   simp at hs
noncomputable def EAs:Env:=(EA0.with 98 xEZ).withM 99 xCK
theorem xGd:xMM P0 xNs EAs:=(xBX.with xJ0).withM xK9
noncomputable def EAd:Env:={ Env.deep P0 mmA EAs 14 with pin:=0 }
theorem xBY:xMM P0 (xNs.at 0) EAd:=xkT (xix xMV mmA (xMW P0 0) xGd (fun _=>rfl) 14)
noncomputable def EAh:Env:={ EAd with ls:=lsOf [1000042] }
noncomputable def xHd:List AV->Option (Bool×AV):=runA EAh Tryz.f60
theorem xK3:OcOk P0 xNs 60 xHd:=xDm (E:=EAh) xBY rfl Tryz.func60 rfl (by kernel_rfl) (xeP fun _=>rfl)
noncomputable def EAs2:Env:=EAs.with 60 xHd
theorem xzZ:xMM P0 xNs EAs2:=xGd.with xK3
noncomputable def EAm (p:Nat):Env:={ Env.deep P0 mmA EAs2 14 with pin:=p,nt:=24,ls:=lsOf [8000000] }
theorem xKk (p:Nat):xMM P0 (xNs.at p) (EAm p):=xkT (xix xMV mmA (xMW P0 0) xzZ (fun _=>rfl) 14)
noncomputable def xCS:List AV->List Box->Option (Bool×AV×List Box):=fun xs H=>match XFM P0 (EAm H.length) Tryz.f33 (Tryz.f33.body.getD .skip) xs H with
 | some (r,H')=>some (true,(match r with|.nils=>.list 2 []|x=>x),H')
 | none=>none
theorem xLa:OmOk P0 xNs 33 xCS:=fun xs H r H' h=>by
 unfold xCS at h;split at h
 case h_2=>simp at h
 rename_i r0 H0 hr;simp only [z6,zb,true_and] at h;obtain ⟨rfl,rfl⟩:=h;have hg:GoodM P0 xNs 33 xs H r0 H0:=xgN (p:=H.length) (xiH xMV (xMW P0 _) rfl (xKk H.length) rfl Tryz.func33 rfl (by kernel_rfl) (xeP fun _=>rfl) hr)
 refine GoodM.subR hg ?_;cases r0<;>first|exact Sub.refl _|exact xyT 2
noncomputable def EAn:Env:={ Env.deep P0 mmA (EAs2.withM 33 xCS) 14 with pin:=0,nt:=67,ls:=lsOf [1000034,1000027,8000000] }
theorem xyW:xMM P0 (xNs.at 0) EAn:=xkT (xix xMV mmA (xMW P0 0) (xzZ.withM xLa) (fun _=>rfl) 14)
noncomputable def xyV:Lp:=closedLp P0 EAn [1,4,6,9,20,21,22] [1,4,9] [(9,0,1073741824)] (xMQ Tryz.f11 0) 20
noncomputable def xvD:Lp:=closedLp P0 EAn [13,14,16,42,43,44,50,51,52] [13,14,42,43,44] [(14,3,54),(13,1,1073741824)] (xMQ Tryz.f11 2) 20
noncomputable def EAn1:Env:={ EAn with lp:=xM7 [(3,xyV),(14,xvD)] }
noncomputable def xBZ:Lp:=closedLp P0 EAn1 [13,14,42,43,44] [14] [(14,3,54),(13,1,1073741824)] (xMQ Tryz.f11 1) 20
noncomputable def EAn2:Env:={ EAn with lp:=xM7 [(3,xyV),(14,xvD),(11,xBZ)] }
theorem xKl:LoopOk P0 (xNs.at 0) EAn.nt (xMQ Tryz.f11 0) xyV:=xl8 (E:=EAn) xMV (xMW P0 _) rfl xyW (xeP fun _=>rfl)
theorem xGa:LoopOk P0 (xNs.at 0) EAn.nt (xMQ Tryz.f11 2) xvD:=xl8 (E:=EAn) xMV (xMW P0 _) rfl xyW (xeP fun _=>rfl)
theorem xKm:LoopOk P0 (xNs.at 0) EAn.nt (xMQ Tryz.f11 1) xBZ:=xl8 (E:=EAn1) xMV (xMW P0 _) rfl xyW (xho (ls:=[xMQ Tryz.f11 2]) (by kernel_rfl) (fun l hl lp hs=>by
 simp only [zC,List.not_mem_nil,or_false] at hl;subst hl;rw [show EAn1.lp (xMx (xMQ Tryz.f11 2))=some xvD by kernel_rfl] at hs
 cases hs;exact xGa))
noncomputable def xEP (xs:List AV):Option AV:=XF P0 EAn2 Tryz.f11 (Tryz.f11.body.getD .skip) xs
noncomputable def xEO:List AV->Option (Bool×AV):=ocOf (xNu (xNL (xNu (xNK (1:Nat) xNy) (xNu (sEq pStr) xNw))) (xNu (xNK (3:Nat) xNy) (xNu (xNL (xNu (sEq pStr) (xNu (xNK (3:Nat) xNy) (xNu (xNK (1:Nat) xNy) (xNu (xNK (2:Nat) xNy) (xNu (xNK (7:Nat) xNy) xNw)))))) (xNu (xNK (3:Nat) xNy) xNw)))) fun ((f_fc,(f_ft,_)),(l,((parent_tn,(parent_tcs,(parent_tkey,(parent_tfs,(parent_tck,_))))),(pl,_))))=>((xEP [AV.agg [AV.list 1 f_fc,AV.str f_ft],AV.list 3 l,AV.agg [AV.str parent_tn,AV.list 3 parent_tcs,AV.list 1 parent_tkey,AV.list 2 parent_tfs,AV.list 7 parent_tck],AV.list 3 pl]).isSome,(xEP [AV.agg [AV.list 1 f_fc,AV.str f_ft],AV.list 3 l,AV.agg [AV.str parent_tn,AV.list 3 parent_tcs,AV.list 1 parent_tkey,AV.list 2 parent_tfs,AV.list 7 parent_tck],AV.list 3 pl]).getD .top)
theorem xJH:OcOk P0 xNs 11 xEO:=xnl fun vv rr hh=>by
 obtain ⟨⟨f_fc,⟨f_ft,_⟩⟩,⟨l,⟨⟨parent_tn,⟨parent_tcs,⟨parent_tkey,⟨parent_tfs,⟨parent_tck,_⟩⟩⟩⟩⟩,⟨pl,_⟩⟩⟩⟩:=vv;obtain ⟨q,J⟩:=Prod.mk.inj hh;have hx:=xbU (d:=AV.top) q;refine xhm (p:=0) (xlk (E:=EAn2) xMV (xMW P0 _) rfl xyW Tryz.func11 rfl (by kernel_rfl) ?_ (hx.trans (congrArg some J)))
 exact (xho (ls:=[xMQ Tryz.f11 0,xMQ Tryz.f11 1,xMQ Tryz.f11 2]) (by kernel_rfl) (fun l hl lp hs=>by
 simp only [zC,List.not_mem_nil,or_false] at hl;rcases hl with rfl|rfl|rfl
 . rw [show EAn2.lp (xMx (xMQ Tryz.f11 0))=some xyV by kernel_rfl] at hs
   cases hs;exact xKl
 . rw [show EAn2.lp (xMx (xMQ Tryz.f11 1))=some xBZ by kernel_rfl] at hs
   cases hs;exact xKm
 . rw [show EAn2.lp (xMx (xMQ Tryz.f11 2))=some xvD by kernel_rfl] at hs
   cases hs;exact xGa))
noncomputable def EAc:Env:={ EAd with ls:=lsOf [] }
noncomputable def xEG:List AV->Option (Bool×AV):=runA EAc Tryz.f30
theorem xJw:OcOk P0 xNs 30 xEG:=xDm (E:=EAc) xBY rfl Tryz.func30 rfl (by kernel_rfl) (xeP fun _=>rfl)
end Go.Sim.M
end
noncomputable section
set_option maxRecDepth 100000
namespace Go.Sim.M
open Go.RowKit Go.Proofs
mutual
def eqV:AV->AV->Bool
 | .int k a,.int k' b=>decide (k=k')&&decide (a=b)
 | .bool a,.bool b=>a==b
 | .str a,.str b=>decide (a=b)
 | .list n a,.list m b=>Nat.beq n m&&eqVs a b
 | .agg a,.agg b=>eqVs a b
 | .nils,.nils=>true
 | _,_=>false
def eqVs:List AV->List AV->Bool
 | [],[]=>true
 | a::l,b::m=>eqV a b&&eqVs l m
 | _,_=>false
end
mutual
theorem xK1:∀ (a b:AV),eqV a b=true->a=b:=fun a b h=>by
 cases a<;>cases b<;>first|(simp [eqV] at h;done)|skip
 case nils.nils=>rfl
 all_goals simp only [eqV,zf,zl,beq_iff_eq] at h
 all_goals first|(rw [h.1,h.2];done)|(rw [h];done)|(rw [zg h.1,xwu _ _ h.2];done)|(rw [xwu _ _ h])
theorem xwu:∀ (a b:List AV),eqVs a b=true->a=b
 | [],[],_=>rfl
 | a::l,b::m,h=>by simp only [eqVs,zf] at h;rw [xK1 a b h.1,xwu l m h.2]
 | [],_::_,h=>by simp [eqVs] at h
 | _::_,[],h=>by simp [eqVs] at h
end
def ptO (args:List AV) (r:AV):List AV->Option (Bool×AV):=fun xs=>match eqVs xs args with
 | true=>some (true,r)
 | false=>none
theorem xFJ {P:Program} {Inv:IV} {f:FuncId} {args:List AV} {r:AV} (h:Good P Inv f args r):OcOk P Inv f (ptO args r):=fun xs r0 h0=>by
 unfold ptO at h0;split at h0
 case h_2=>simp at h0
 rename_i he;simp only [z6,zb,true_and] at h0;subst h0;rw [xwu _ _ he];exact h
def vI (n:Int):AV:=.agg [.int .i64 1,.int .i64 n,.str []]
def vN:AV:=.agg [.int .i64 0,.int .i64 0,.str []]
def fA (f t:Int) (r:List AV):AV:=.agg [.list 3 r,.int .i64 f,.int .i64 t]
def frA:AV:=.agg [.list 1 [.int .i64 1],.str [112]]
def colA (n:UInt8) (b:Bool):AV:=.agg [.str [n],.int .i64 1,.bool b]
def paA:AV:=.agg [.str [112],.list 3 [colA 97 false],.list 1 [.int .i64 0],.nils,.nils]
def liA:AV:=.list 3 [fA 0 9 [vI 1,vI 7],fA 0 9 [vI 2,vN]]
def plA:AV:=.list 3 [fA 0 4 [vI 7],fA 6 1099511627776 [vI 7]]
def reA:AV:=.list 3 [fA 4 6 [vI 1,vI 7]]
def deA:AV:=.list 3 [fA 0 9 [vI 1,vI 7]]
def cuA:AV:=.list 3 [fA 3 5 [vI 1,vI 7]]
theorem xJJ:xEO [frA,liA,paA,plA]=some (true,reA):=by kernel_rfl
theorem xJI:OcOk P0 xNs 11 (ptO [frA,liA,paA,plA] reA):=xFJ (xJH _ _ xJJ)
theorem xAQ {f:FuncId} {fn:Func} {args:List AV} {r:AV} (hf:P0.funcs[f]?=some fn) (hb:fn.body.isSome=true) (q:(fn.name == "runtime.NumGoroutine")=false) (h:XF P0 EAd fn (fn.body.getD .skip) args=some r):Good P0 xNs f args r :=
 xhm (p:=0) (xlk xMV (xMW P0 _) rfl xBY hf hb q (xeP fun _=>rfl) h)
theorem xLi:XF P0 EAd Tryz.f41 (Tryz.f41.body.getD .skip) [reA]=some reA:=by kernel_rfl
theorem xLh:OcOk P0 xNs 41 (ptO [reA] reA):=xFJ (xAQ Tryz.func41 rfl (by kernel_rfl) xLi)
theorem xJY:XF P0 EAd Tryz.f44 (Tryz.f44.body.getD .skip) [deA,.agg [.int .i64 3,.int .i64 5]]=some cuA:=by kernel_rfl
theorem xJX:OcOk P0 xNs 44 (ptO [deA,.agg [.int .i64 3,.int .i64 5]] cuA):=xFJ (xAQ Tryz.func44 rfl (by kernel_rfl) xJY)
noncomputable def EAv:Env:=(((EAs2.with 11 (ptO [frA,liA,paA,plA] reA)).with 41 (ptO [reA] reA)).with 44 (ptO [deA,.agg [.int .i64 3,.int .i64 5]] cuA)).with 30 xEG
theorem xKn:xMM P0 xNs EAv:=(((xzZ.with xJI).with xLh).with xJX).with xJw
noncomputable def EAe:Env:={ Env.deep P0 mmA EAv 14 with pin:=0,ls:=lsOf [42,54,141,34,9000027,7000027,5000035,6000001,6000003] }
theorem xKj:xMM P0 (xNs.at 0) EAe:=xkT (xix xMV mmA (xMW P0 0) xKn (fun _=>rfl) 14)
end Go.Sim.M
end
noncomputable section
set_option maxRecDepth 100000
namespace Go.Sim.M
open Go.RowKit Go.Proofs
theorem xJn:XF P0 EAe Tryz.f9 (Tryz.f9.body.getD .skip) []=some (.bool true):=by kernel_rfl
def xEp:List AV->Option (Bool×AV)
 | []=>some (true,.bool true)
 | _=>none
theorem xJm:OcOk P0 xNs 9 xEp:=fun xs r h=>by
 unfold xEp at h;split at h
 . simp only [z6,zb,true_and] at h;subst h;exact xhm (p:=0) (xlk xMV (xMW P0 _) rfl xKj Tryz.func9 rfl (by kernel_rfl) (xeP fun _=>rfl) xJn)
 . simp at h
end Go.Sim.M
end
noncomputable section
set_option maxRecDepth 100000
namespace Go.Sim.M
open Go.IntKind (i64 u64 u8)
open Go.RowKit Go.Proofs
def xKy:EO:=xKU.w xrw
def xKz:EO:=xKy.w xs5
def xKA:EO:=xKz.w xuG
def xKB:EO:=xKA.w xJm
def xse {T:Type} (j:List UInt8) (c d a g:LA) (k:List UInt8) (e f h i:LA) (b:Int) (l m:LA) (δ:T) (κ:Bool->T):T:=br (decide ((↑c.length:Int)>12)) (κ (false)) (br (decide ((↑e.length:Int)>12)) (κ (false)) (br (decide (b<0)) (κ (false)) (br (decide (b>=a.length)) (κ (false)) (br ((xno l 14).isSome) (br (!(xno l 14).getD false) (κ (false)) (br ((xno m 14).isSome) (br (!(xno m 14).getD false) (κ (false)) (br ((xgH j c d a g l).isSome) (br ((xgH j c d a g l).getD false) (br ((xgH k e f h i m).isSome) (br ((xgH k e f h i m).getD false) (br (ixI a b) (br (ixT a b 2 [Sh.list 1,Sh.str] 0) (br ((xrX j c d a g (gC a b 0).toList (gC a b 1).toStr k e f h i).isSome) (κ ((xrX j c d a g (gC a b 0).toList (gC a b 1).toStr k e f h i).getD false)) δ) δ) δ) (κ (false))) δ) (κ (false))) δ)) δ)) δ))))
def xrQ (i:List UInt8) (c a d e:LA) (j:List UInt8) (f b g h:LA) (k:Int) (l m:LA):=xse i c a d e j f b g h k l m none some
def xGk:EO:=xKB.f Tryz.func8 67 0 [1000030] [] lk0 (u1 (xNL (xNu (sEq pStr) (xNu (uL 3) (xNu (uL 1) (xNu (uL 2) (xNu (uL 7) (xNu (sEq pStr) (u7 (uL 3) (uL 1) (uL 2) (uL 7) uI (uL 3) (uL 3)))))))))) (fun ((j,c,a,d,e,k,g,b,h,i,l,m,n,_),_) _=>xse j c a d e k g b h i l m n) (fun _ p=>AV.bool p) false
def xa7 (d:List UInt8) (e f g h:LA) (j:List UInt8) (k l m n:LA) (b:Int) (c a:LA) (i:Int):=decide (i.toNat<a.length)
def xdc (d:List UInt8) (e f g h:LA) (j:List UInt8) (k l m n:LA) (b:Int) (c a:LA) (i:Int):=decide (i<a.length)
def xdf (a:LA) (b c i:Int):=xdu [AV.agg [AV.int .i64 (gC a i 1).toInt,AV.int .i64 (gC a i 2).toInt]] [AV.agg [AV.int .i64 b,AV.int .i64 c]]
def xa6 (d:List UInt8) (e f g h:LA) (j:List UInt8) (k l m n:LA) (a:Int) (b c:LA) (i:Int):=decide (0<=i)&&xdc d e f g h j k l m n a b c i
def xde (a:LA) (b c i:Int):=xgb (gC a i 0).toList ((xdf a b c i).getD [])
def xdd (a:LA) (b c i:Int):=(xde a b c i).getD []
def xbP (b:LA) (c d:Int) (a:Nat) (i:Int):=a+(xdd b c d i).length
def xdN {T:Type} (l:List UInt8) (m n o p:LA) (f:List UInt8) (g h j k:LA) (d:Int) (e a:LA) (q r:Int) (t:LA) (u:List UInt8) (s:LA) (b:Nat) (i:Int) (c:LA) (δ:T) (κl:(Nat×Int×LA)->T) (κr:(Nat×LA)->T):T:=br (xdc l m n o p f g h j k d e a i) (br (xa6 l m n o p f g h j k d e a i) (br (xa7 l m n o p f g h j k d e a i&&xMK (Sh.list 3) (gC a i 0)) (br ((xeT f g h j k (gC a i 0).toList).isSome) (br ((xaB ((xeT f g h j k (gC a i 0).toList).getD []) s).isSome) (br ((xaB ((xeT f g h j k (gC a i 0).toList).getD []) s).getD 0==0) (br (xa6 l m n o p f g h j k d e a i) (br (xa7 l m n o p f g h j k d e a i&&xMK (Sh.list 3) (gC a i 0)) (br (xa6 l m n o p f g h j k d e a i) (br (xa7 l m n o p f g h j k d e a i&&((a.getD i.toNat .top).cells.length==3&&xMR [Sh.int .i64,Sh.int .i64] (a.getD i.toNat .top).cells 1)) (br ((xdf a q r i).isSome) (br ((xde a q r i).isSome) (br (b==c.length&&(decide (xbP a q r b i*40<=140737488355328)&&decide (xbP a q r b i<=4611686018427387904))) (κl (xbP a q r b i,i64.wrap (i+1),c++xdd a q r i)) δ) δ) δ) δ) δ) δ) δ) (br (xa6 l m n o p f g h j k d e a i) (br (xa7 l m n o p f g h j k d e a i&&((a.getD i.toNat .top).cells.length==3&&xMR [Sh.list 3,Sh.int .i64,Sh.int .i64] (a.getD i.toNat .top).cells 0)) (br (rmB b c 1 40) (κl (b+1,i64.wrap (i+1),c++[AV.agg [AV.list 3 (gC a i 0).toList,AV.int .i64 (gC a i 1).toInt,AV.int .i64 (gC a i 2).toInt]])) δ) δ) δ)) δ) δ) δ) δ) (κr (b,c))
def xaR (h:List UInt8) (j k l m:LA) (n:List UInt8) (o p q r:LA) (c:Int) (d e:LA) (f g:Int) (s:LA) (t:List UInt8) (u:LA):StT (Nat×Int×LA) (Nat×LA):=fun (b,i,a)=>xdN h j k l m n o p q r c d e f g s t u b i a none inL inR
def xjw:=xGk.l 118 0 [1000030,1000044,5000033,6000007] [] Tryz.f6 0 lk0 [3,5,7,8,9,10] [3,5,7,8,9] [(9,3,54)] (q6 (xNN 13 0 0 (q1 (xNI (xNt pStr (xNt (qL 3) (xNt (qL 1) (q10 (qL 2) (qL 7) pStr (qL 3) (qL 1) (qL 2) (qL 7) qI (qL 3) (qL 3)))))))) (xNN 2 0 0 (q1 (xNI (q2 qI qI)))) (xNN 2 0 0 (q1 (xNI (q2 (qL 1) pStr)))) (qL 3) (xNG 0 0 0) qI) (q1 (qB 0 3 54 xNy)) (fun (((h,j,k,m,n,o,q,r,s,t,c,d,e,_),_),((f,g,_),_),((u,v,_),_),w,b,i,_) (a,_)=>(xaR h j k m n o q r s t c d e f g u v w,(b,i,a),fun p=>(.leaf (.exit 0) [AV.eptr 13 [AV.agg [AV.str h,AV.list 3 j,AV.list 1 k,AV.list 2 m,AV.list 7 n,AV.str o,AV.list 3 q,AV.list 1 r,AV.list 2 s,AV.list 7 t,AV.int .i64 c,AV.list 3 d,AV.list 3 e]] 0 0,AV.eptr 2 [AV.agg [AV.int .i64 f,AV.int .i64 g]] 0 0,AV.eptr 2 [AV.agg [AV.list 1 u,AV.str v]] 0 0,AV.list 3 w,AV.osl 0 0 0 p.1] [bF 0 3 54 p.2]))) (0,[]) fun (((h,j,k,m,n,o,q,r,s,t,c,d,e,_),_),((f,g,_),_),((u,v,_),_),w,_,_,_) _ (b,i,a)=>(((((h,j,k,m,n,o,q,r,s,t,c,d,e,()),()),((f,g,()),()),((u,v,()),()),w,b,i,()),(a,())),xdN h j k m n o q r s t c d e f g u v w b i a none)
def xgs (l:List UInt8) (j g a k:LA) (h:List UInt8) (d b e f:LA) (c:Int) (m i:LA) (n o p:Int):=Iter (xaR l j g a k h d b e f c m i o p (gC a c 0).toList (gC a c 1).toStr ((xeT h d b e f (gC i n 0).toList).getD [])) (0,0,[])
def xgt (a:LA) (g:List UInt8) (d b e f:LA) (c:Int) (h i:LA) (n j k:Int):=xkG (gC a c 0).toList (gC a c 1).toStr h ((xeT g d b e f (gC i n 0).toList).getD []) j k
def xgr (i:List UInt8) (c a d e:LA) (j:List UInt8) (f b g h:LA) (k:Int) (l m:LA) (n o p:Int):=(xgs i c a d e j f b g h k l m n o p).getD (0,[])
def xgp (i:List UInt8) (c a d e:LA) (j:List UInt8) (f b g h:LA) (k:Int) (l m:LA) (n o p:Int):=(xgr i c a d e j f b g h k l m n o p).fst
def xgq (i:List UInt8) (c a d e:LA) (j:List UInt8) (f b g h:LA) (k:Int) (l m:LA) (n o p:Int):=(xgr i c a d e j f b g h k l m n o p).snd
def xgo (l:List UInt8) (j g a k:LA) (h:List UInt8) (c b d e:LA) (f:Int) (i m:LA) (n o p:Int):=xjv (gC a f 0).toList (gC a f 1).toStr i h c b d e (List.take (xgp l j g a k h c b d e f i m n o p) (List.drop 0 (xgq l j g a k h c b d e f i m n o p)))
def xhn {T:Type} (m:List UInt8) (k i a l:LA) (h:List UInt8) (c b d e:LA) (f:Int) (j g:LA) (n o p:Int) (δ:T) (κ:Bool->T):T:=br ((xrQ m k i a l h c b d e f j g).isSome) (br (!(xrQ m k i a l h c b d e f j g).getD false) (κ (true)) (br (decide (n<0)) (κ (true)) (br (decide (n>=g.length)) (κ (true)) (br (ixI a f) (br (ixT a f 2 [Sh.list 1,Sh.str] 0) (br (ixI g n) (br (ixS g n (Sh.list 3) 0) (br ((xeT h c b d e (gC g n 0).toList).isSome) (br ((xgs m k i a l h c b d e f j g n o p).isSome) (br ((xjv (gC a f 0).toList (gC a f 1).toStr j h c b d e g).isSome) (br (!(xjv (gC a f 0).toList (gC a f 1).toStr j h c b d e g).getD false) (κ (true)) (br ((xgt a h c b d e f j g n o p).isSome) (br (decide ((↑((xgt a h c b d e f j g n o p).getD []).length:Int)>0)) (κ (true)) (br (decide (0+xgp m k i a l h c b d e f j g n o p<=(xgq m k i a l h c b d e f j g n o p).length)&&true) (br ((xgo m k i a l h c b d e f j g n o p).isSome) (br ((xgo m k i a l h c b d e f j g n o p).getD false) (κ (true)) (κ (false))) δ) δ)) δ)) δ) δ) δ) δ) δ) δ) δ)))) δ
def xiW (i:List UInt8) (c a d e:LA) (j:List UInt8) (f b g h:LA) (k:Int) (l m:LA) (n o p:Int):=xhn i c a d e j f b g h k l m n o p none some
def xtG:LA->Option (Bool×AV):=fnO (u3 (xNL (xNu (sEq pStr) (xNu (uL 3) (xNu (uL 1) (xNu (uL 2) (xNu (uL 7) (xNu (sEq pStr) (u7 (uL 3) (uL 1) (uL 2) (uL 7) uI (uL 3) (uL 3))))))))) uI (xNL (u2 uI uI))) (fun ((i,c,a,d,e,j,f,b,g,h,k,l,m,_),n,(o,q,_),_) _=>xhn i c a d e j f b g h k l m n o q) (fun _ p=>AV.bool p) false
theorem xtF:OcOk P0 xNs 6 xtG:=fnC xGk.ok Tryz.func6 118 0 [1000030,1000044,5000033,6000007] [(7,xjw.lp)] (lk1 xjw.ok)
end Go.Sim.M
end
