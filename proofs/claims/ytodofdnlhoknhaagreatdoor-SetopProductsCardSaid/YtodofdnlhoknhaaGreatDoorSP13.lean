/- Part 13 of the proof of the law. -/
import Derived.Test.YtodofdnlhoknhaaGreatDoorSP12
import Derived.StillTailTactics
set_option linter.defProp false
set_option linter.unusedVariables false
set_option linter.unusedSimpArgs false
set_option maxRecDepth 100000
noncomputable section
namespace Go.Sim.M
def cmpI (x y:Int):Int:=if x<y then -1 else if y<x then 1 else 0
def orI (x y:Int):Int:=if x=0 then y else x
end Go.Sim.M
namespace Go.Proofs
open Go.RowKit Go.Sim Go.Sim.M Go.Sort Go.Lib
def Tryz.cmp_walk (x y:Int) (w:World):Calls Tryz.prog 110 #[.int .i64 x,.int .i64 y] w fun e w'=>e=.returned (.int .i64 (cmpI x y))/\w'=w:=by
 unfold cmpI
 go_enter Tryz.func110,Tryz.ntmps110
 go_wp2
 all_goals (go_ret;exact ⟨rfl,rfl⟩)
def Tryz.or_walk (x y:Int) (b off c:Nat) (w:World) (h0:w.cell? ⟨b,off,none⟩=some (.int .i64 x)) (h1:w.cell? ⟨b,off+1,none⟩=some (.int .i64 y)):Calls Tryz.prog 109 #[.slice (some ⟨b,off,none⟩) 2 c] w fun e w'=>e=.returned (.int .i64 (orI x y))/\w'=w:=by
 unfold orI;by_cases hx:x=0
 . subst hx;rw [if_pos rfl];by_cases hy:y=0
   . subst hy
     go_enter Tryz.func109,Tryz.ntmps109
     go_wp2
     refine wp_loop_rounds 3 ?_;rw [rounds_succ]
     go_wp2
     rw [rounds_succ]
     go_wp2
     rw [rounds_succ]
     go_wp2
     go_ret
     exact ⟨rfl,rfl⟩
   . have hy':(y != 0)=true:=by simpa using hy
     go_enter Tryz.func109,Tryz.ntmps109
     go_wp2
     refine wp_loop_rounds 3 ?_;rw [rounds_succ]
     go_wp2
     rw [rounds_succ]
     go_wp2
     go_ret
     exact ⟨rfl,rfl⟩
 . have hx':(x != 0)=true:=by simpa using hx
   rw [if_neg hx]
   go_enter Tryz.func109,Tryz.ntmps109
   go_wp2
   refine wp_loop_rounds 3 ?_;rw [rounds_succ]
   go_wp2
   go_ret
   exact ⟨rfl,rfl⟩
def fill2I (u1 u2:Int):Instr.fill (fun i=>some (i*1,1)) ((Array.range (2*1)).map (fun x=>(Value.int .i64 0).cells[x % (Value.int .i64 0).cells.size]!)) [(0,.int .i64 u1),(1,.int .i64 u2)]=some #[.int .i64 u1,.int .i64 u2]:=by
 simp [Instr.fill,Array.range,Value.cells];apply Array.ext
 . simp
 . intro i h1 h2;rcases i with _|_|i
   . simp
   . simp
   . simp at h2;omega
set_option maxHeartbeats 2000000 in
def Tryz.levels2_walk (a b c d:Int) (w:World):Calls Tryz.prog 108 #[.agg #[.int .i64 a,.int .i64 b],.agg #[.int .i64 c,.int .i64 d]] w fun e w'=>e=.returned (.int .i64 (orI (cmpI a c) (cmpI b d)))/\∃ q J,w'=Sort.grow (w.drewN q) J:=by
 go_enter Tryz.func108,Tryz.ntmps108
 go_wp2_with (go_at_call 110;skip)
 have g0:(w.alloc (.cells #[.int .i64 a,.int .i64 b] 52)).heap[w.heap.size]?=some (.cells #[.int .i64 a,.int .i64 b] 52 (0,0)):=heap_alloc_new w _;have g1:((w.alloc (.cells #[.int .i64 a,.int .i64 b] 52)).alloc (.cells #[.int .i64 c,.int .i64 d] 52)).heap[w.heap.size+1]?=some (.cells #[.int .i64 c,.int .i64 d] 52 (0,0)):=by
  have:=heap_alloc_new (w.alloc (.cells #[.int .i64 a,.int .i64 b] 52)) (.cells #[.int .i64 c,.int .i64 d] 52);have e:(w.alloc (.cells #[.int .i64 a,.int .i64 b] 52)).heap.size=w.heap.size+1:=by simp
  rwa [e] at this
 have f0:((w.alloc (.cells #[.int .i64 a,.int .i64 b] 52)).alloc (.cells #[.int .i64 c,.int .i64 d] 52)).cell? ⟨w.heap.size,0,none⟩=some (.int .i64 a):=by
  rw [World.cell?_alloc_past _ _ _ (by simp)];simp only [World.cell?,g0];rfl
 have f1:((w.alloc (.cells #[.int .i64 a,.int .i64 b] 52)).alloc (.cells #[.int .i64 c,.int .i64 d] 52)).cell? ⟨w.heap.size,1,none⟩=some (.int .i64 b):=by
  rw [World.cell?_alloc_past _ _ _ (by simp)];simp only [World.cell?,g0];rfl
 have f2:((w.alloc (.cells #[.int .i64 a,.int .i64 b] 52)).alloc (.cells #[.int .i64 c,.int .i64 d] 52)).cell? ⟨w.heap.size+1,0,none⟩=some (.int .i64 c):=by
  simp only [World.cell?,g1];rfl
 have f3:((w.alloc (.cells #[.int .i64 a,.int .i64 b] 52)).alloc (.cells #[.int .i64 c,.int .i64 d] 52)).cell? ⟨w.heap.size+1,1,none⟩=some (.int .i64 d):=by
  simp only [World.cell?,g1];rfl
 have f4:∃ q J,((w.alloc (.cells #[.int .i64 a,.int .i64 b] 52)).alloc (.cells #[.int .i64 c,.int .i64 d] 52))=Sort.grow (w.drewN q) J:=⟨0,_,by rw [alloc_eq_grow,alloc_eq_grow,grow_grow];rfl⟩
 generalize ((w.alloc (.cells #[.int .i64 a,.int .i64 b] 52)).alloc (.cells #[.int .i64 c,.int .i64 d] 52))=W2 at f0 f1 f2 f3 f4 |-;refine wp_region_still_tail 10 (by kernel_rfl) (by kernel_rfl) ?_
 simp only [List.take_succ_cons,List.take_zero,List.drop_succ_cons,List.drop_zero];change wpStill _ _ (World.drew W2) _ _ _;have f0':W2.drew.cell? ⟨w.heap.size,0,none⟩=some (.int .i64 a):=f0;have f1':W2.drew.cell? ⟨w.heap.size,1,none⟩=some (.int .i64 b):=f1;have f2':W2.drew.cell? ⟨w.heap.size+1,0,none⟩=some (.int .i64 c):=f2;have f3':W2.drew.cell? ⟨w.heap.size+1,1,none⟩=some (.int .i64 d):=f3;have f4':∃ q J,W2.drew=Sort.grow (w.drewN q) J:=by obtain ⟨q,J,e⟩:=f4;exact ⟨q+1,J,by rw [e];rfl⟩
 iterate 4 still_step
 still_call (Tryz.cmp_walk _ _ _)
 iterate 4 still_step
 still_call (Tryz.cmp_walk _ _ _)
 refine wpStill_nil ?_;change wpList _ _ _ _ _ (World.drew W2);generalize World.drew W2=W at f0' f1' f2' f3' f4' |-;generalize O:cmpI a c=u1;generalize Q:cmpI b d=u2;obtain ⟨ie,q1,q2,q3⟩:∃ ie,Tryz.prog.info? 3=some ie/\ie.zero=some (.int .i64 0)/\ie.size=1:=⟨(Tryz.prog.info? 3).get (by kernel_rfl),(Option.some_get _).symm,by kernel_rfl,by kernel_rfl⟩
 refine wpList_buildSlice rfl 22 3 2 _ rfl #[.int .i64 u1,.int .i64 u2] ie (.int .i64 0) (by kernel_rfl) q1 q2 (by rw [q3];decide) (by rw [q3];decide) (by rw [q3];refine Eq.trans (congrArg _ ?_) (fill2I u1 u2);simp [Act.eval]) ?_
 simp only [Act.put]
 go_wp2_with fail
 have g2:(W.alloc (.cells #[.int .i64 u1,.int .i64 u2] 3)).heap[W.heap.size]?=some (.cells #[.int .i64 u1,.int .i64 u2] 3 (0,0)):=heap_alloc_new W _;refine (Tryz.or_walk u1 u2 W.heap.size 0 2 (W.alloc (.cells #[.int .i64 u1,.int .i64 u2] 3)) (by simp only [World.cell?,g2];rfl) (by simp only [World.cell?,g2];rfl)).mono ?_
 rintro e w' ⟨rfl,rfl⟩
 go_wp2
 go_ret
 obtain ⟨q,J,hq⟩:=f4';exact ⟨by rw [O,Q];rfl,q,_,by rw [hq,alloc_eq_grow,grow_grow]⟩
end Go.Proofs
namespace Go.Sim.M
abbrev TyE:Type:=Fin 1099511627777×Int×Int
def intsE (x:TyE):List Int:=[(x.1.val:Int),x.2.1,x.2.2]
def cmpE (x y:TyE):Int:=(x.1.val:Int) - (y.1.val:Int)
end Go.Sim.M
namespace Go.Proofs
open Go.RowKit Go.Sim Go.Sim.M Go.Sort
set_option maxHeartbeats 1000000 in
def Tryz.walkE (a b c a' b' c' r:Int) (hr:IntKind.i64.wrap (a - a')=r) (W:World):Calls Tryz.prog 147 #[.agg #[.int .i64 a,.int .i64 b,.int .i64 c],.agg #[.int .i64 a',.int .i64 b',.int .i64 c']] W fun e w'=>e=.returned (.int .i64 r)/\∃ q os',w'=Sort.grow (W.drewN q) os':=by
 go_enter Tryz.func147,Tryz.ntmps147
 go_wp2
 go_ret
 subst hr;exact ⟨rfl,0,_,by rw [alloc_eq_grow,alloc_eq_grow,grow_grow];rfl⟩
end Go.Proofs
namespace Go.Sim.M
open Go.RowKit Go.Proofs Go.Sort
def isE:AV->Bool
 | .agg [.int .i64 a,.int .i64 _,.int .i64 _]=>decide (0<=a)&&decide (a<=1099511627776)
 | _=>false
def decE:AV->TyE
 | .agg [.int _ a,.int _ b,.int _ c]=>(Fin.ofNat 1099511627777 a.toNat,b,c)
 | _=>default
noncomputable def srtE (xs:List AV):List AV:=(pdqL cmpE (xs.map decE)).map (encI intsE)
def xBZ {x:AV} (h:isE x=true):encI intsE (decE x)=x:=by
 unfold isE at h;split at h
 . rename_i a b c;simp only [Bool.and_eq_true,decide_eq_true_eq] at h;have:a.toNat % 1099511627777=a.toNat:=Nat.mod_eq_of_lt (by omega)
   simp only [decE,encI,intsE,List.map_cons,List.map_nil,Fin.ofNat,this,Int.toNat_of_nonneg h.1]
 . simp at h
def xAw {xs:List AV} (h:xs.all isE=true):(xs.map decE).map (encI intsE)=xs:=by
 rw [List.map_map]
 conv=>rhs;rw [<-List.map_id xs]
 refine List.map_congr_left fun x hx=>?_
 exact xBZ (List.all_eq_true.1 h x hx)
def ltE (x y:TyE):ltOf cmpE x y=decide (x.1.val<y.1.val):=by
 unfold ltOf cmpE;by_cases h:x.1.val<y.1.val
 . rw [decide_eq_true h,decide_eq_true (by omega)]
 . rw [decide_eq_false h,decide_eq_false (by omega)]
def swoE:SWO (ltOf cmpE) where
 irrefl x:=by rw [ltE];simp
 trans x y z h1 h2:=by rw [ltE] at *;simp at *;omega
 ntrans x y z h1 h2:=by rw [ltE] at *;simp at *;omega
noncomputable def xtn:List AV->List Box->Option (Bool×AV×List Box)
 | [.osl (.b 0) ver 0 n,.func g []],[⟨ver',3,ty,xs,false,true⟩]=>match Nat.beq g 147&&Nat.beq ty 154 with
  | true=>some (Nat.beq ver ver'&&(Nat.beq n xs.length&&(decide (n<4611686018427387904)&&xs.all isE)),.tuple [],[⟨ver',3,154,srtE xs,false,true⟩])
  | false=>none
 | _,_=>none
def xDY:OmOk Tryz.prog xIE 146 xtn:=fun Q H r H' h=>by
 unfold xtn at h;split at h
 . rename_i ver n g O ty xs;split at h
   case h_2=>simp at h
   rename_i hg;simp only [Bool.and_eq_true] at hg;obtain rfl:=Nat.eq_of_beq_eq_true hg.1;obtain rfl:=Nat.eq_of_beq_eq_true hg.2;simp only [Option.some.injEq,Prod.mk.injEq,Bool.and_eq_true,decide_eq_true_eq] at h;obtain ⟨⟨h1,h2,h3,h4⟩,rfl,rfl⟩:=h;obtain rfl:=Nat.eq_of_beq_eq_true h1;obtain rfl:=Nat.eq_of_beq_eq_true h2;have q:∃ ti,xHW Tryz.prog 154=some ti/\ti.sz=3/\ti.agg=true:=by
    have h:(match xHW Tryz.prog 154 with|some ti=>(ti.sz==3)&&ti.agg|none=>false)=true:=by kernel_rfl
    split at h
    . rename_i ti q;simp only [Bool.and_eq_true,beq_iff_eq] at h;exact ⟨ti,q,h.1,h.2⟩
    . simp at h
   obtain ⟨ti,q,hz,ha⟩:=q;have J:=xmh (P:=Tryz.prog) (Inv:=xIE) Tryz.srl146 3 (by decide) (fun w=>by rw [<-ha];exact xiY q w) (fun w=>by rw [<-hz];exact xcL q w)
    intsE (fun _=>rfl) cmpE swoE 147 rfl (xc2 Tryz.func146 rfl (by kernel_rfl)) (xkf (xc2 Tryz.func147 rfl (by kernel_rfl)))
    (fun x y W=>Tryz.walkE _ _ _ _ _ _ (cmpE x y) (by
     have:=x.1.isLt;have:=y.1.isLt;unfold cmpE;exact xay (by omega) (by omega)) W)
    ver 154 rfl (xs.map decE) (by simpa using h3)
   rw [List.length_map,xAw h4] at J;exact J
 . simp at h
end Go.Sim.M
namespace Go.Sim.M
abbrev TyS:Type:=Fin 1099511627777×Int
def intsS (x:TyS):List Int:=[(x.1.val:Int),x.2]
def cmpS (x y:TyS):Int:=(x.1.val:Int) - (y.1.val:Int)
end Go.Sim.M
namespace Go.Proofs
open Go.RowKit Go.Sim Go.Sim.M Go.Sort
set_option maxHeartbeats 1000000 in
def Tryz.walkS (a b a' b' r:Int) (hr:IntKind.i64.wrap (a - a')=r) (W:World):Calls Tryz.prog 113 #[.agg #[.int .i64 a,.int .i64 b],.agg #[.int .i64 a',.int .i64 b']] W fun e w'=>e=.returned (.int .i64 r)/\∃ q os',w'=Sort.grow (W.drewN q) os':=by
 go_enter Tryz.func113,Tryz.ntmps113
 go_wp2
 go_ret
 subst hr;exact ⟨rfl,0,_,by rw [alloc_eq_grow,alloc_eq_grow,grow_grow];rfl⟩
end Go.Proofs
namespace Go.Sim.M
open Go.RowKit Go.Proofs Go.Sort
def isS:AV->Bool
 | .agg [.int .i64 a,.int .i64 _]=>decide (0<=a)&&decide (a<=1099511627776)
 | _=>false
def decS:AV->TyS
 | .agg [.int _ a,.int _ b]=>(Fin.ofNat 1099511627777 a.toNat,b)
 | _=>default
noncomputable def srtS (xs:List AV):List AV:=(pdqL cmpS (xs.map decS)).map (encI intsS)
def xB0 {x:AV} (h:isS x=true):encI intsS (decS x)=x:=by
 unfold isS at h;split at h
 . rename_i a b;simp only [Bool.and_eq_true,decide_eq_true_eq] at h;have:a.toNat % 1099511627777=a.toNat:=Nat.mod_eq_of_lt (by omega)
   simp only [decS,encI,intsS,List.map_cons,List.map_nil,Fin.ofNat,this,Int.toNat_of_nonneg h.1]
 . simp at h
def xAz {xs:List AV} (h:xs.all isS=true):(xs.map decS).map (encI intsS)=xs:=by
 rw [List.map_map]
 conv=>rhs;rw [<-List.map_id xs]
 refine List.map_congr_left fun x hx=>?_
 exact xB0 (List.all_eq_true.1 h x hx)
def ltS (x y:TyS):ltOf cmpS x y=decide (x.1.val<y.1.val):=by
 unfold ltOf cmpS;by_cases h:x.1.val<y.1.val
 . rw [decide_eq_true h,decide_eq_true (by omega)]
 . rw [decide_eq_false h,decide_eq_false (by omega)]
def swoS:SWO (ltOf cmpS) where
 irrefl x:=by rw [ltS];simp
 trans x y z h1 h2:=by rw [ltS] at *;simp at *;omega
 ntrans x y z h1 h2:=by rw [ltS] at *;simp at *;omega
noncomputable def xtp:List AV->List Box->Option (Bool×AV×List Box)
 | [.osl (.b 0) ver 0 n,.func g []],[⟨ver',2,ty,xs,false,true⟩]=>match Nat.beq g 113&&Nat.beq ty 132 with
  | true=>some (Nat.beq ver ver'&&(Nat.beq n xs.length&&(decide (n<4611686018427387904)&&xs.all isS)),.tuple [],[⟨ver',2,132,srtS xs,false,true⟩])
  | false=>none
 | _,_=>none
def xDx:OmOk Tryz.prog xIE 112 xtp:=fun Q H r H' h=>by
 unfold xtp at h;split at h
 . rename_i ver n g O ty xs;split at h
   case h_2=>simp at h
   rename_i hg;simp only [Bool.and_eq_true] at hg;obtain rfl:=Nat.eq_of_beq_eq_true hg.1;obtain rfl:=Nat.eq_of_beq_eq_true hg.2;simp only [Option.some.injEq,Prod.mk.injEq,Bool.and_eq_true,decide_eq_true_eq] at h;obtain ⟨⟨h1,h2,h3,h4⟩,rfl,rfl⟩:=h;obtain rfl:=Nat.eq_of_beq_eq_true h1;obtain rfl:=Nat.eq_of_beq_eq_true h2;have q:∃ ti,xHW Tryz.prog 132=some ti/\ti.sz=2/\ti.agg=true:=by
    have h:(match xHW Tryz.prog 132 with|some ti=>(ti.sz==2)&&ti.agg|none=>false)=true:=by kernel_rfl
    split at h
    . rename_i ti q;simp only [Bool.and_eq_true,beq_iff_eq] at h;exact ⟨ti,q,h.1,h.2⟩
    . simp at h
   obtain ⟨ti,q,hz,ha⟩:=q;have J:=xmh (P:=Tryz.prog) (Inv:=xIE) Tryz.srl112 2 (by decide) (fun w=>by rw [<-ha];exact xiY q w) (fun w=>by rw [<-hz];exact xcL q w)
    intsS (fun _=>rfl) cmpS swoS 113 rfl (xc2 Tryz.func112 rfl (by kernel_rfl)) (xkf (xc2 Tryz.func113 rfl (by kernel_rfl)))
    (fun x y W=>Tryz.walkS _ _ _ _ (cmpS x y) (by
     have:=x.1.isLt;have:=y.1.isLt;unfold cmpS;exact xay (by omega) (by omega)) W)
    ver 132 rfl (xs.map decS) (by simpa using h3)
   rw [List.length_map,xAz h4] at J;exact J
 . simp at h
end Go.Sim.M
namespace Go.Sim.M
abbrev TyP:Type:=Int×Int
def intsP (x:TyP):List Int:=[x.1,x.2]
def cmpP (x y:TyP):Int:=orI (cmpI x.1 y.1) (cmpI x.2 y.2)
end Go.Sim.M
namespace Go.Sim.M
open Go.RowKit Go.Proofs Go.Sort
def isP:AV->Bool
 | .agg [.int .i64 _,.int .i64 _]=>true
 | _=>false
def decP:AV->TyP
 | .agg [.int _ a,.int _ b]=>(a,b)
 | _=>default
noncomputable def srtP (xs:List AV):List AV:=(pdqL cmpP (xs.map decP)).map (encI intsP)
def xBx {x:AV} (h:isP x=true):encI intsP (decP x)=x:=by
 unfold isP at h;split at h
 . rfl
 . simp at h
def xAy {xs:List AV} (h:xs.all isP=true):(xs.map decP).map (encI intsP)=xs:=by
 rw [List.map_map]
 conv=>rhs;rw [<-List.map_id xs]
 refine List.map_congr_left fun x hx=>?_
 exact xBx (List.all_eq_true.1 h x hx)
def ltP (x y:TyP):ltOf cmpP x y=decide (x.1<y.1\/x.1=y.1/\x.2<y.2):=by
 unfold ltOf cmpP orI cmpI;by_cases h:x.1<y.1\/x.1=y.1/\x.2<y.2
 . rw [decide_eq_true h];simp only [decide_eq_true_eq];rcases h with h|⟨h,h'⟩
   . simp [h]
   . simp [h,h']
 . rw [decide_eq_false h];simp only [decide_eq_false_iff_not];have h1:¬ x.1<y.1:=fun e=>h (.inl e)
   by_cases h2:y.1<x.1
   . simp [h1,h2]
   . have h3:x.1=y.1:=by omega
     have h4:¬ x.2<y.2:=fun e=>h (.inr ⟨h3,e⟩)
     by_cases h5:y.2<x.2
     . simp [h1,h2,h4,h5]
     . simp [h1,h2,h4,h5]
def swoP:SWO (ltOf cmpP) where
 irrefl x:=by rw [ltP];simp
 trans x y z h1 h2:=by rw [ltP] at *;simp only [decide_eq_true_eq] at *;omega
 ntrans x y z h1 h2:=by rw [ltP] at *;simp only [decide_eq_true_eq,decide_eq_false_iff_not] at *;omega
noncomputable def xto:List AV->List Box->Option (Bool×AV×List Box)
 | [.osl (.b 0) ver 0 n,.func g []],[⟨ver',2,ty,xs,false,true⟩]=>match Nat.beq g 108&&Nat.beq ty 52 with
  | true=>some (Nat.beq ver ver'&&(Nat.beq n xs.length&&(decide (n<4611686018427387904)&&xs.all isP)),.tuple [],[⟨ver',2,52,srtP xs,false,true⟩])
  | false=>none
 | _,_=>none
def xDZ:OmOk Tryz.prog xIE 107 xto:=fun Q H r H' h=>by
 unfold xto at h;split at h
 . rename_i ver n g O ty xs;split at h
   case h_2=>simp at h
   rename_i hg;simp only [Bool.and_eq_true] at hg;obtain rfl:=Nat.eq_of_beq_eq_true hg.1;obtain rfl:=Nat.eq_of_beq_eq_true hg.2;simp only [Option.some.injEq,Prod.mk.injEq,Bool.and_eq_true,decide_eq_true_eq] at h;obtain ⟨⟨h1,h2,h3,h4⟩,rfl,rfl⟩:=h;obtain rfl:=Nat.eq_of_beq_eq_true h1;obtain rfl:=Nat.eq_of_beq_eq_true h2;have q:∃ ti,xHW Tryz.prog 52=some ti/\ti.sz=2/\ti.agg=true:=by
    have h:(match xHW Tryz.prog 52 with|some ti=>(ti.sz==2)&&ti.agg|none=>false)=true:=by kernel_rfl
    split at h
    . rename_i ti q;simp only [Bool.and_eq_true,beq_iff_eq] at h;exact ⟨ti,q,h.1,h.2⟩
    . simp at h
   obtain ⟨ti,q,hz,ha⟩:=q;have J:=xmh (P:=Tryz.prog) (Inv:=xIE) Tryz.srl107 2 (by decide) (fun w=>by rw [<-ha];exact xiY q w) (fun w=>by rw [<-hz];exact xcL q w)
    intsP (fun _=>rfl) cmpP swoP 108 rfl (xc2 Tryz.func107 rfl (by kernel_rfl)) (xkf (xc2 Tryz.func108 rfl (by kernel_rfl)))
    (fun x y W=>Tryz.levels2_walk _ _ _ _ W)
    ver 52 rfl (xs.map decP) (by simpa using h3)
   rw [List.length_map,xAy h4] at J;exact J
 . simp at h
end Go.Sim.M
namespace Go.Sim.M
open Go.RowKit Go.Proofs
noncomputable def E1:Env:=((xCU.E.withM 112 xtp).withM 146 xtn).withM 107 xto
def xCR:xHX Tryz.prog xIE E1:=((xCU.ok.withM xDx).withM xDY).withM xDZ
noncomputable def xFV:EO:=EO.mk E1 xCR
end Go.Sim.M
namespace Go.Sim.M
open Go.IntKind (i64 u64 u8)
open Go.RowKit Go.Proofs
def xgX:Env:=E1.fn 29 1 (lsOf []) (xIi [])
def xsJ:xHX P0 (xIE.at 1) xgX:=xCR.fn
def xqp:LoOk P0 (xIE.at xgX.pin) xgX (Tryz.f114.body.getD .skip):=xgd (by kernel_rfl)
def xmk {T:Type} (k:Nat) (a n:Int) (b:LA) (δ:T) (κ:Bool×(Nat×LA)×(Nat×LA)->T):T:=br (rmB k b 1 16) (κ (false,(0,[]),(k+1,b++[AV.agg [AV.int .i64 a,AV.int .i64 n]]))) δ
def xok {T:Type} (k:Nat) (b n:Int) (a:LA) (δ:T) (κ:Bool×(Nat×LA)×(Nat×LA)->T):T:=br (decide ((↑k:Int)>0)) (br (decide (0<=i64.wrap ((↑k:Int) - 1))&&decide (i64.wrap ((↑k:Int) - 1)<(↑k:Int))) (br (decide (0+(i64.wrap ((↑k:Int) - 1)).toNat<a.length)&&xHV (Sh.int .i64) ((a.getD (0+(i64.wrap ((↑k:Int) - 1)).toNat) .top).cells.getD 1 .top)) (br (((a.getD (0+(i64.wrap ((↑k:Int) - 1)).toNat) .top).cells.getD 1 .top).toInt==n) (κ (true,(k,a),(0,[]))) (xmk k b n a δ κ)) δ) δ) (xmk k b n a δ κ)
def xaZ (k:Nat) (a n:Int) (b:LA):=xok k a n b none some
def xwN (k:Nat) (a n:Int) (xs:LA):Enc (fun (p:Bool×(Nat×LA)×(Nat×LA))=>((br p.1 ((AV.osl 0 0 0 p.2.1.1,([⟨0,2,132,p.2.1.2,false,true⟩]:List Box))) ((AV.osl 0 1 0 p.2.2.1,([⟨1,2,132,p.2.2.2,false,true⟩]:List Box)))):(AV×List Box))) (xaZ k a n xs) (XFM P0 xgX Tryz.f114 (Tryz.f114.body.getD .skip) [AV.osl (0:Id) 0 0 k,AV.int .i64 a,AV.int .i64 n] [{ ver:=0,sz:=2,ty:=(132:TypeId),xs:=xs,frz:=false,pm:=true }]):=by
 have h:XFM P0 xgX Tryz.f114 (Tryz.f114.body.getD .skip) [AV.osl (0:Id) 0 0 k,AV.int .i64 a,AV.int .i64 n] [{ ver:=0,sz:=2,ty:=(132:TypeId),xs:=xs,frz:=false,pm:=true }]=xok k a n xs none (fun (p:Bool×(Nat×LA)×(Nat×LA))=>some ((br p.1 ((AV.osl 0 0 0 p.2.1.1,([⟨0,2,132,p.2.1.2,false,true⟩]:List Box))) ((AV.osl 0 1 0 p.2.2.1,([⟨1,2,132,p.2.2.2,false,true⟩]:List Box)))):(AV×List Box))):=by kernel_rfl
 rw [h];unfold xaZ xok xmk;repeat' (first|refine Enc.br ?_ ?_|exact Enc.none|exact Enc.some rfl)
def xwM:LA->List Box->Option (Bool×AV×List Box):=omOf (xIG (sEq (xIR 0 0 0)) (xIG (sEq (pInt .i64)) (xIG (sEq (pInt .i64)) xII))) (xIF (xIU 0 2 (132:TypeId) false true xIJ) xIH) fun (k,(a,(n,_))) (b,_)=>((xaZ k a n b).isSome,(AV.osl 0 1 0 (br ((xaZ k a n b).getD (false,(0,[]),(0,[]))).1 ((xaZ k a n b).getD (false,(0,[]),(0,[]))).2.1.1 ((xaZ k a n b).getD (false,(0,[]),(0,[]))).2.2.1),([⟨1,2,132,(br ((xaZ k a n b).getD (false,(0,[]),(0,[]))).1 ((xaZ k a n b).getD (false,(0,[]),(0,[]))).2.1.2 ((xaZ k a n b).getD (false,(0,[]),(0,[]))).2.2.2),false,true⟩]:List Box)))
def xwL:OmOk P0 xIE 114 (xwM):=xlj fun e f j i g=>by
 obtain ⟨k,⟨b,⟨n,_⟩⟩⟩:=e;obtain ⟨h,_⟩:=f;obtain ⟨c,a⟩:=Prod.mk.inj g;have hx:=xwN _ _ _ _ _ (xdV (d:=(false,(0,[]),(0,[]))) c);revert hx a;generalize ((xaZ k b n h).getD (false,(0,[]),(0,[])))=p;intro a hx;obtain ⟨rfl,rfl⟩:=Prod.mk.inj a;obtain ⟨t,⟨l,m⟩,o,q⟩:=p;have hg:GoodM P0 xIE 114 _ _ _ _:=xnH (p:=xgX.pin) (xnG xH5 (xH6 P0 _) rfl xsJ rfl Tryz.func114 rfl (by kernel_rfl) xqp hx)
 cases t
 . exact hg
 . exact GoodM.bump1 rfl (by decide) hg
def xpJ:EO:=xFV.wM xwL
def xjD {T:Type} (d:LA) (e:Int) (b:Nat) (c:Int) (a:LA) (δ:T) (κl:(Nat×Int×LA)->T) (κr:(Nat×LA)->T):T:=br (decide (c<e)) (br (ixI d c) (br (ixT d c 3 [Sh.int .i64,Sh.int .i64,Sh.int .i64] 0) (br (xfm (gC d c 0).toInt (gC d c 1).toInt) (br (rmB b a 2 16) (κl (b+2,i64.wrap (c+1),a++[AV.agg [AV.int .i64 (gC d c 0).toInt,AV.int .i64 (gC d c 2).toInt],AV.agg [AV.int .i64 (gC d c 1).toInt,AV.int .i64 (i64.wrap (0 - (gC d c 2).toInt))]])) δ) (κl (b,i64.wrap (c+1),a))) δ) δ) (κr (b,a))
def xd3 (c:LA) (d:Int):StT (Nat×Int×LA) (Nat×LA):=fun (b,e,a)=>xjD c d b e a none inL inR
def xgP:=xpJ.l 106 0 [] [] Tryz.f77 0 lk0 [3,10,11,12] [3] [(3,2,132)] (q4 (xIR 0 0 0) (qL 3) qI qI) (q1 (qB 0 2 132 xIJ)) (fun (b,c,d,e,_) (a,_)=>(xd3 c d,(b,e,a),fun p=>(.leaf (.exit 0) [AV.osl 0 0 0 p.1] [bF 0 2 132 p.2]))) (0,[]) fun (_,c,d,_,_) _ (b,e,a)=>(((b,c,d,e,()),(a,())),xjD c d b e a none)
def xoH (i:Int) (a:LA):=decide (0+i.toNat<a.length)
def xpC {T:Type} (b e:Nat) (d i:Int) (a c:LA) (δ:T) (κl:(Int×Int×LA×LA)->T) (κr:(Int×Int×LA×LA)->T):T:=br (decide (i<(↑b:Int))) (br (decide (0<=i)&&decide (i<(↑b:Int))) (br (xoH i a&&xHV (Sh.int .i64) ((a.getD (0+i.toNat) .top).cells.getD 0 .top)) (br (((a.getD (0+i.toNat) .top).cells.getD 0 .top).toInt==0) (br (decide (0<=i)&&decide (i<(↑b:Int))) (br (xoH i a&&xHV (Sh.int .i64) ((a.getD (0+i.toNat) .top).cells.getD 1 .top)) (κl (i64.wrap (d+((a.getD (0+i.toNat) .top).cells.getD 1 .top).toInt),i64.wrap (i+1),a,c)) δ) δ) (κr (d,i,a,c))) δ) δ) (κr (d,i,a,c))
def xhc (b d:Nat):StT (Int×Int×LA×LA) (Int×Int×LA×LA):=fun (e,i,a,c)=>xpC b d e i a c none inL inR
def xi2:=xpJ.l 106 0 [] [(3,xgP.lp)] Tryz.f77 1 lk0 [3,6,7,8] [3,6,7,8] [(3,2,132),(6,2,132)] (q4 (xIR 0 0 0) (xIR 1 0 0) qI qI) (q2 (qB 0 2 132 xIJ) (qB 0 2 132 xIJ)) (fun (a,c,e,i,_) (b,d,_)=>(xhc a c,(e,i,b,d),fun p=>(.leaf (.exit 2) [AV.osl 0 0 0 a,AV.osl 1 0 0 c,AV.int .i64 p.1,AV.int .i64 p.2.1] [bF 0 2 132 p.2.2.1,bF 0 2 132 p.2.2.2]))) (0,0,[],[]) fun (a,c,_,_,_) _ (e,i,b,d)=>(((a,c,e,i,()),(b,d,())),xpC a c e i b d none)
def xgR (i:Int) (a:LA):=decide (0+i.toNat<a.length)
def xhf {T:Type} (b f:Nat) (e d i:Int) (a c:LA) (δ:T) (κl:(Int×Int×LA×LA)->T) (κr:(Int×Int×LA×LA)->T):T:=br (decide (i<(↑b:Int))) (br (decide (0<=i)&&decide (i<(↑b:Int))) (br (xgR i a&&xHV (Sh.int .i64) ((a.getD (0+i.toNat) .top).cells.getD 0 .top)) (br (((a.getD (0+i.toNat) .top).cells.getD 0 .top).toInt==e) (br (decide (0<=i)&&decide (i<(↑b:Int))) (br (xgR i a&&xHV (Sh.int .i64) ((a.getD (0+i.toNat) .top).cells.getD 1 .top)) (κl (i64.wrap (d+((a.getD (0+i.toNat) .top).cells.getD 1 .top).toInt),i64.wrap (i+1),a,c)) δ) δ) (κr (d,i,a,c))) δ) δ) (κr (d,i,a,c))
def xcx (b d:Nat) (e:Int):StT (Int×Int×LA×LA) (Int×Int×LA×LA):=fun (f,i,a,c)=>xhf b d e f i a c none inL inR
def xi3:=xpJ.l 106 0 [] [(3,xgP.lp),(11,xi2.lp)] Tryz.f77 3 lk0 [3,6,7,8,9] [3,6,7,8,9] [(3,2,132),(6,2,132)] (q5 (xIR 0 0 0) (xIR 1 0 0) qI qI qI) (q2 (qB 0 2 132 xIJ) (qB 0 2 132 xIJ)) (fun (a,c,f,i,e,_) (b,d,_)=>(xcx a c e,(f,i,b,d),fun p=>(.leaf (.exit 6) [AV.osl 0 0 0 a,AV.osl 1 0 0 c,AV.int .i64 p.1,AV.int .i64 p.2.1,AV.int .i64 e] [bF 0 2 132 p.2.2.1,bF 0 2 132 p.2.2.2]))) (0,0,[],[]) fun (a,c,_,_,e,_) _ (f,i,b,d)=>(((a,c,f,i,e,()),(b,d,())),xhf a c e f i b d none)
def xf7 (i:Int) (a:LA):=decide (0+i.toNat<a.length)&&xHV (Sh.int .i64) ((a.getD (0+i.toNat) .top).cells.getD 0 .top)
def xeK (i:Int) (a:LA):=((a.getD (0+i.toNat) .top).cells.getD 0 .top).toInt
def xf8 (b d:Nat) (e i:Int) (a c:LA):=Iter (xcx b d (xeK i a)) (e,i,a,c)
def xdd (b d:Nat) (e i:Int) (a c:LA):=(xf8 b d e i a c).getD (0,0,[],[])
def xgQ (b c:Nat) (e i:Int) (a d:LA):=xaZ c (xeK i a) ((xdd b c e i a d).fst) (((xdd b c e i a d).snd).snd).snd
def xcG (b d:Nat) (e i:Int) (a c:LA):=(xgQ b d e i a c).getD (false,(0,[]),0,[])
def xhe {T:Type} (b d:Nat) (e i:Int) (a c:LA) (δ:T) (κl:(Nat×Int×Int×LA×LA)->T) (κr:(Nat×LA)->T):T:=br (decide (i<(↑b:Int))) (br (decide (0<=i)&&decide (i<(↑b:Int))) (br (xf7 i a) (br (decide (xeK i a<1099511627776)) (br (decide (0<=i)&&decide (i<(↑b:Int))) (br (xf7 i a) (br ((xf8 b d e i a c).isSome) (br ((xgQ b d e i a c).isSome) (κl (br ((xcG b d e i a c).fst) (((xcG b d e i a c).snd).fst).fst (((xcG b d e i a c).snd).snd).fst,((xdd b d e i a c).fst),((xdd b d e i a c).snd).fst,(((xdd b d e i a c).snd).snd).fst,br ((xcG b d e i a c).fst) (((xcG b d e i a c).snd).fst).snd (((xcG b d e i a c).snd).snd).snd)) δ) δ) δ) δ) (κr (d,c))) δ) δ) (κr (d,c))
def xd4 (b:Nat):StT (Nat×Int×Int×LA×LA) (Nat×LA):=fun (d,e,i,a,c)=>xhe b d e i a c none inL inR
def xoI:=xpJ.l 106 0 [] [(3,xgP.lp),(11,xi2.lp),(17,xi3.lp)] Tryz.f77 2 (lk1 xi3.ok) [3,6,7,8] [6] [(3,2,132),(6,2,132)] (q4 (xIR 0 0 0) (xIR 1 0 0) qI qI) (q2 (qB 0 2 132 xIJ) (qB 0 2 132 xIJ)) (fun (b,d,e,i,_) (a,c,_)=>(xd4 b,(d,e,i,a,c),fun p=>(.leaf (.exit 4) [AV.osl 0 0 0 p.1] [bF 0 2 132 p.2]))) (0,[]) fun (b,_,_,_,_) _ (d,e,i,a,c)=>(((b,d,e,i,()),(a,c,())),xhe b d e i a c none)
def xeh (l:LA):=(Iter (xd3 l (↑l.length:Int)) (0,0,[])).getD (0,[])
def xny (l:LA):=Iter (xhc ((xeh l).fst) 0) (0,0,srtS ((xeh l).snd),[])
def xgS (l:LA):=(xny l).getD (0,0,[],[])
def xoi (l:LA):=xaZ 0 0 ((xgS l).fst) (((xgS l).snd).snd).snd
def xgf (l:LA):=(xoi l).getD (false,(0,[]),0,[])
def xoh (l:LA):=Iter (xd4 ((xeh l).fst)) (br ((xgf l).fst) (((xgf l).snd).fst).fst (((xgf l).snd).snd).fst,((xgS l).fst),((xgS l).snd).fst,(((xgS l).snd).snd).fst,br ((xgf l).fst) (((xgf l).snd).fst).snd (((xgf l).snd).snd).snd)
def xju (l:LA):=(xoh l).getD (0,[])
def xpi {T:Type} (l:LA) (δ:T) (κ:LA->T):T:=br ((Iter (xd3 l (↑l.length:Int)) (0,0,[])).isSome) (br (((xeh l).fst).beq ((xeh l).snd).length&&(decide (((xeh l).fst)<4611686018427387904)&&((xeh l).snd).all isS)) (br ((xny l).isSome) (br ((xoi l).isSome) (br ((xoh l).isSome) (br (decide (0+((xju l).fst)<=((xju l).snd).length)&&true) (κ (List.take ((xju l).fst) (List.drop 0 ((xju l).snd)))) δ) δ) δ) δ) δ) δ
def xag (l:LA):=xpi l none some
def xz0:EO:=xpJ.f Tryz.func77 106 0 [] [(3,xgP.lp),(11,xi2.lp),(17,xi3.lp),(15,xoI.lp)] (lks (lkC xgP.ok (lkC xi2.ok (lkC xoI.ok (lkC xi3.ok lkN))))) (u1 (uL 3)) (fun (l,_) _=>xpi l) (fun _ p=>AV.list 2 p) []
def xev {T:Type} (d:LA) (e:Int) (c:Nat) (b:Int) (a:LA) (δ:T) (κl:(Nat×Int×LA)->T) (κr:(Nat×LA)->T):T:=br (decide (b<e)) (br (ixI d b) (br (ixT d b 2 [Sh.int .i64,Sh.int .i64] 0) (br (rmB c a 1 24) (κl (c+1,i64.wrap (b+1),a++[AV.agg [AV.int .i64 (gC d b 0).toInt,AV.int .i64 (gC d b 1).toInt,AV.int .i64 1]])) δ) δ) δ) (κr (c,a))
def xbB (c:LA) (d:Int):StT (Nat×Int×LA) (Nat×LA):=fun (b,e,a)=>xev c d b e a none inL inR
def xjm:=xz0.l 20 0 [] [] Tryz.f116 0 lk0 [3,6,7,8] [3] [(3,3,100)] (q4 (xIR 0 0 0) (qL 2) qI qI) (q1 (qB 0 3 100 xIJ)) (fun (b,c,d,e,_) (a,_)=>(xbB c d,(b,e,a),fun p=>(.leaf (.exit 0) [AV.osl 0 0 0 p.1] [bF 0 3 100 p.2]))) (0,[]) fun (_,c,d,_,_) _ (b,e,a)=>(((b,c,d,e,()),(a,())),xev c d b e a none)
def xdN (l:LA):=(Iter (xbB l (↑l.length:Int)) (0,0,[])).getD (0,[])
def xhn (l:LA):=xag (List.take ((xdN l).fst) (List.drop 0 ((xdN l).snd)))
def xh8 {T:Type} (l:LA) (δ:T) (κ:LA->T):T:=br ((Iter (xbB l (↑l.length:Int)) (0,0,[])).isSome) (br (decide (0+((xdN l).fst)<=((xdN l).snd).length)&&true) (br ((xhn l).isSome) (κ ((xhn l).getD [])) δ) δ) δ
def xdT (l:LA):=xh8 l none some
def xom:EO:=xz0.f Tryz.func116 20 0 [] [(3,xjm.lp)] (lk1 xjm.ok) (u1 (uL 2)) (fun (l,_) _=>xh8 l) (fun _ p=>AV.list 2 p) []
def xhQ {T:Type} (o n:Int) (e f:Nat) (k p m j:Int) (h l i g a:Nat) (b:LA) (d:Nat) (c:LA) (δ:T) (κl:(Int×Int×Nat×Nat×Nat×Nat×Nat×LA×Nat×LA)->T) (κr:(Int×Nat×Nat×Nat×Nat×LA×Nat×LA×Nat)->T):T:=br (decide (m<p)) (br (a==e) (br (a==e) (br (a==e&&(decide (f<b.length)&&xHV (Sh.int .i64) ((b.getD f .top).cells.getD 0 .top))) (br (d==g&&(rmB i c 1 16)) (κl (i64.wrap (m+1),j,h,l,i+1,g+1,a,List.take h b,g+1,c++[AV.agg [AV.int .i64 ((b.getD f .top).cells.getD 0 .top).toInt,AV.int .i64 o]])) δ) δ) δ) δ) (κr (j,l,h,g,i,b,a,c,d))
def xch (m n:Int) (e f:Nat) (k o:Int):StT (Int×Int×Nat×Nat×Nat×Nat×Nat×LA×Nat×LA) (Int×Nat×Nat×Nat×Nat×LA×Nat×LA×Nat):=fun (p,g,h,i,j,l,a,b,c,d)=>xhQ m n e f k o p g h i j l a b c d none inL inR
def xg5:=xom.l 71 5 [] [] Tryz.f106 1 lk0 [0,1,2,3,4,7,8,37,38] [0,1,2,3,4,7,8] [(3,0,0)] (q9 qI qI (xIS 0 0 0 0) (xIS 1 0 0 0) (xIS 2 0 0 0) (pOwnV 3 0) qI qI qI) (q5 (qB 0 1 3 (q1 qI)) (xIU 0 1 126 false false (q1 (pOslV 3 0))) (xIU 0 1 64 false false (q1 (pOslV 4 0))) (pBoxV 2 128 false true xIJ) (pBoxV 2 52 false true xIJ)) (fun (o,n,_,_,_,(e,f),k,q,r,_) ((g,_),((h,i),_),((j,m),_),(a,b),(c,d),_)=>(xch o n e f k q,(r,g,i,h,m,j,a,b,c,d),fun p=>(.leaf (.exit 2) [AV.int .i64 o,AV.int .i64 n,AV.own 0 0 0 0,AV.own 1 0 0 0,AV.own 2 0 0 0,AV.own 3 e f 0,AV.int .i64 k] [bF 0 1 3 [AV.int .i64 p.1],⟨0,1,126,[AV.osl 3 p.2.1 0 p.2.2.1],false,false⟩,⟨0,1,64,[AV.osl 4 p.2.2.2.1 0 p.2.2.2.2.1],false,false⟩,bF p.2.2.2.2.2.2.1 2 128 p.2.2.2.2.2.1,bF p.2.2.2.2.2.2.2.2 2 52 p.2.2.2.2.2.2.2.1]))) (0,0,0,0,0,[],0,[],0) fun (o,n,_,_,_,(e,f),k,q,_,_) _ (r,g,i,h,m,j,a,b,c,d)=>(((o,n,(),(),(),(e,f),k,q,r,()),((g,()),((h,i),()),((j,m),()),(a,b),(c,d),())),xhQ o n e f k q r g i h m j a b c d none)
def xaF (a:Nat):Nat:=0+(i64.wrap ((↑a:Int) - 1)).toNat
def xcJ (n b:Int) (c d:Nat) (a:LA):Int:=if i64.wrap (b - n)<((a.getD (xaF c) .top).cells.getD 1 .top).toInt then i64.wrap (b - n) else ((a.getD (xaF c) .top).cells.getD 1 .top).toInt
def xgn (j n d:Int) (c g h i a:Nat) (b:LA) (e:Nat) (f:LA):=Iter (xch j n g (xaF c) (xcJ n d c a b) (xcJ n d c a b)) (0,d,c,g,h,i,a,List.take c b,e,f)
def xae (j n e:Int) (f g h i a:Nat) (b:LA) (c:Nat) (d:LA):=(xgn j n e f g h i a b c d).getD (0,0,0,0,0,[],0,[],0)
def xdX (j n e:Int) (f g h i a:Nat) (b:LA) (c:Nat) (d:LA):=i64.wrap ((↑((((xae j n e f g h i a b c d).snd).snd).fst):Int) - 1)
def xcg (j n f:Int) (g e h i a:Nat) (b:LA) (c:Nat) (d:LA):=(((((((xae j n f g e h i a b c d).snd).snd).snd).snd).snd).snd).fst==e
def xdW (j n f:Int) (e g h i a:Nat) (b:LA) (c:Nat) (d:LA):=((((((((xae j n f e g h i a b c d).snd).snd).snd).snd).snd).fst).getD (xaF e) .top).cells
def xcY (j n f:Int) (e g h i a:Nat) (b:LA) (c:Nat) (d:LA):=(((((((xae j n f e g h i a b c d).snd).snd).snd).snd).snd).fst).set (xaF e) (AV.agg (List.take 1 (xdW j n f e g h i a b c d)++[AV.int .i64 (i64.wrap (((xdW j n f e g h i a b c d).getD 1 .top).toInt - xcJ n f e a b))]++List.drop 2 (xdW j n f e g h i a b c d)))
def xeA {T:Type} (j n g:Int) (f e h i a:Nat) (b:LA) (c:Nat) (d:LA) (δ:T) (κl:(Int×Nat×Nat×Nat×Nat×Nat×LA×Nat×LA)->T) (κr:(Int×Nat×Nat×Nat×Nat×LA×Nat×LA×Nat)->T):T:=br (decide (g>n)) (br (a==e) (br (a==e&&(decide (0<=i64.wrap ((↑f:Int) - 1))&&decide (i64.wrap ((↑f:Int) - 1)<(↑f:Int)))) (br (a==e) (br (a==e) (br (a==e&&(decide (xaF f<b.length)&&xHV (Sh.int .i64) ((b.getD (xaF f) .top).cells.getD 1 .top))) (br ((xgn j n g f e h i a b c d).isSome) (br (xcg j n g f e h i a b c d) (br (xcg j n g f e h i a b c d) (br (xcg j n g f e h i a b c d&&((decide (xaF f<(((((((xae j n g f e h i a b c d).snd).snd).snd).snd).snd).fst).length))&&xHV (Sh.int .i64) ((xdW j n g f e h i a b c d).getD 1 .top))) (br (xcg j n g f e h i a b c d) (br (xcg j n g f e h i a b c d) (br (xcg j n g f e h i a b c d&&(decide (xaF f<(((((((xae j n g f e h i a b c d).snd).snd).snd).snd).snd).fst).length))) (br (e==e) (br (e==e) (br (e==e&&(decide (xaF f<(xcY j n g f e h i a b c d).length)&&xHV (Sh.int .i64) (((xcY j n g f e h i a b c d).getD (xaF f) .top).cells.getD 1 .top))) (br ((((xcY j n g f e h i a b c d).getD (xaF f) .top).cells.getD 1 .top).toInt==0) (br (e==(((xae j n g f e h i a b c d).snd).fst)) (br (e==(((xae j n g f e h i a b c d).snd).fst)&&(decide (0<=xdX j n g f e h i a b c d)&&decide (xdX j n g f e h i a b c d<=(↑((((xae j n g f e h i a b c d).snd).snd).fst):Int))&&true)) (κl (i64.wrap ((xae j n g f e h i a b c d).fst - xcJ n g f a b),(xdX j n g f e h i a b c d).toNat - 0,(((xae j n g f e h i a b c d).snd).fst),(((((xae j n g f e h i a b c d).snd).snd).snd).snd).fst,((((xae j n g f e h i a b c d).snd).snd).snd).fst,e,List.take ((xdX j n g f e h i a b c d).toNat - 0) (xcY j n g f e h i a b c d),((((((((xae j n g f e h i a b c d).snd).snd).snd).snd).snd).snd).snd).snd,((((((((xae j n g f e h i a b c d).snd).snd).snd).snd).snd).snd).snd).fst)) δ) δ) (κl (i64.wrap ((xae j n g f e h i a b c d).fst - xcJ n g f a b),((((xae j n g f e h i a b c d).snd).snd).fst),(((xae j n g f e h i a b c d).snd).fst),(((((xae j n g f e h i a b c d).snd).snd).snd).snd).fst,((((xae j n g f e h i a b c d).snd).snd).snd).fst,e,List.take ((((xae j n g f e h i a b c d).snd).snd).fst) (xcY j n g f e h i a b c d),((((((((xae j n g f e h i a b c d).snd).snd).snd).snd).snd).snd).snd).snd,((((((((xae j n g f e h i a b c d).snd).snd).snd).snd).snd).snd).snd).fst))) δ) δ) δ) δ) δ) δ) δ) δ) δ) δ) δ) δ) δ) δ) δ) (κr (g,e,f,i,h,b,a,d,c))
def xbN (j n:Int):StT (Int×Nat×Nat×Nat×Nat×Nat×LA×Nat×LA) (Int×Nat×Nat×Nat×Nat×LA×Nat×LA×Nat):=fun (e,f,g,h,i,a,b,c,d)=>xeA j n e f g h i a b c d none inL inR
def xm3:=xom.l 71 5 [] [(7,xg5.lp)] Tryz.f106 0 (lk1 xg5.ok) [0,1,2,3,4] [] [(3,0,0)] (q5 qI qI (xIS 0 0 0 0) (xIS 1 0 0 0) (xIS 2 0 0 0)) (q5 (qB 0 1 3 (q1 qI)) (xIU 0 1 126 false false (q1 (pOslV 3 0))) (xIU 0 1 64 false false (q1 (pOslV 4 0))) (pBoxV 2 128 false true xIJ) (pBoxV 2 52 false true xIJ)) (fun (j,n,_,_,_,_) ((e,_),((f,g),_),((h,i),_),(a,b),(c,d),_)=>(xbN j n,(e,g,f,i,h,a,b,c,d),fun p=>(.leaf (.exit 0) [] [bF 0 1 3 [AV.int .i64 p.1],⟨0,1,126,[AV.osl 3 p.2.1 0 p.2.2.1],false,false⟩,⟨0,1,64,[AV.osl 4 p.2.2.2.1 0 p.2.2.2.2.1],false,false⟩,bF p.2.2.2.2.2.2.1 2 128 p.2.2.2.2.2.1,bF p.2.2.2.2.2.2.2.2 2 52 p.2.2.2.2.2.2.2.1]))) (0,0,0,0,0,[],0,[],0) fun (j,n,_,_,_,_) _ (e,g,f,i,h,a,b,c,d)=>(((j,n,(),(),(),()),((e,()),((f,g),()),((h,i),()),(a,b),(c,d),())),xeA j n e g f i h a b c d none)
def xfE:Env:=xom.E.fn 71 5 (lsOf []) (xIi [(7,xg5.lp),(3,xm3.lp)])
def xrw:xHX P0 (xIE.at 5) xfE:=xom.ok.fn
def xpH:LoOk P0 (xIE.at xfE.pin) xfE (Tryz.f106.body.getD .skip):=xlg (ls:=[xH0 Tryz.f106 0,xH0 Tryz.f106 1]) (by kernel_rfl) (lkC xm3.ok (lkC xg5.ok lkN))
def xiT (a n h:Int) (b c:Nat) (d e:LA):=Iter (xbN a n) (n,b+1,1,c,0,1,List.take (b+1) (d++[AV.agg [AV.int .i64 a,AV.int .i64 (i64.wrap (n - h))]]),0,e)
def xiU (a n h:Int) (b c:Nat) (d e:LA):=Iter (xbN a n) (h,b,0,c,0,0,List.take b d,0,e)
def xbC (a n h:Int) (b c:Nat) (d e:LA):=(xiT a n h b c d e).getD (0,0,0,0,0,[],0,[],0)
def xbD (a n h:Int) (b c:Nat) (d e:LA):=(xiU a n h b c d e).getD (0,0,0,0,0,[],0,[],0)
def xik {T:Type} (a n h:Int) (b d:Nat) (c e:LA) (δ:T) (κ:Int×Nat×Nat×Nat×Nat×LA×Nat×LA×Nat->T):T:=br (decide (n>h)) (br (rmB b c 1 16) (br ((xiT a n h b d c e).isSome) (κ ((xbC a n h b d c e).fst,((xbC a n h b d c e).snd).fst,(((xbC a n h b d c e).snd).snd).fst,((((xbC a n h b d c e).snd).snd).snd).fst,(((((xbC a n h b d c e).snd).snd).snd).snd).fst,((((((xbC a n h b d c e).snd).snd).snd).snd).snd).fst,(((((((xbC a n h b d c e).snd).snd).snd).snd).snd).snd).fst,((((((((xbC a n h b d c e).snd).snd).snd).snd).snd).snd).snd).fst,((((((((xbC a n h b d c e).snd).snd).snd).snd).snd).snd).snd).snd)) δ) δ) (br ((xiU a n h b d c e).isSome) (κ ((xbD a n h b d c e).fst,((xbD a n h b d c e).snd).fst,(((xbD a n h b d c e).snd).snd).fst,((((xbD a n h b d c e).snd).snd).snd).fst,(((((xbD a n h b d c e).snd).snd).snd).snd).fst,((((((xbD a n h b d c e).snd).snd).snd).snd).snd).fst,(((((((xbD a n h b d c e).snd).snd).snd).snd).snd).snd).fst,((((((((xbD a n h b d c e).snd).snd).snd).snd).snd).snd).snd).fst,((((((((xbD a n h b d c e).snd).snd).snd).snd).snd).snd).snd).snd)) δ)
def xiS (a n h:Int) (b c:Nat) (d e:LA):=xik a n h b c d e none some
def xvy (a n h:Int) (b c:Nat) (d e:LA):Enc (fun (p:Int×Nat×Nat×Nat×Nat×LA×Nat×LA×Nat)=>(((AV.tuple [],([⟨0,1,3,[AV.int .i64 p.1],false,true⟩,⟨0,1,126,[AV.osl 3 p.2.1 0 p.2.2.1],false,false⟩,⟨0,1,64,[AV.osl 4 p.2.2.2.1 0 p.2.2.2.2.1],false,false⟩,⟨p.2.2.2.2.2.2.1,2,128,p.2.2.2.2.2.1,false,true⟩,⟨p.2.2.2.2.2.2.2.2,2,52,p.2.2.2.2.2.2.2.1,false,true⟩]:List Box))):(AV×List Box))) (xiS a n h b c d e) (XFM P0 xfE Tryz.f106 (Tryz.f106.body.getD .skip) [AV.int .i64 a,AV.int .i64 n,AV.own (0:Id) 0 0 0,AV.own (1:Id) 0 0 0,AV.own (2:Id) 0 0 0] [{ ver:=0,sz:=1,ty:=(3:TypeId),xs:=[AV.int .i64 h],frz:=false,pm:=true },{ ver:=0,sz:=1,ty:=(126:TypeId),xs:=[AV.osl (3:Id) 0 0 b],frz:=false,pm:=false },{ ver:=0,sz:=1,ty:=(64:TypeId),xs:=[AV.osl (4:Id) 0 0 c],frz:=false,pm:=false },{ ver:=0,sz:=2,ty:=(128:TypeId),xs:=d,frz:=false,pm:=true },{ ver:=0,sz:=2,ty:=(52:TypeId),xs:=e,frz:=false,pm:=true }]):=by
 have h:XFM P0 xfE Tryz.f106 (Tryz.f106.body.getD .skip) [AV.int .i64 a,AV.int .i64 n,AV.own (0:Id) 0 0 0,AV.own (1:Id) 0 0 0,AV.own (2:Id) 0 0 0] [{ ver:=0,sz:=1,ty:=(3:TypeId),xs:=[AV.int .i64 h],frz:=false,pm:=true },{ ver:=0,sz:=1,ty:=(126:TypeId),xs:=[AV.osl (3:Id) 0 0 b],frz:=false,pm:=false },{ ver:=0,sz:=1,ty:=(64:TypeId),xs:=[AV.osl (4:Id) 0 0 c],frz:=false,pm:=false },{ ver:=0,sz:=2,ty:=(128:TypeId),xs:=d,frz:=false,pm:=true },{ ver:=0,sz:=2,ty:=(52:TypeId),xs:=e,frz:=false,pm:=true }]=xik a n h b c d e none (fun (p:Int×Nat×Nat×Nat×Nat×LA×Nat×LA×Nat)=>some (((AV.tuple [],([⟨0,1,3,[AV.int .i64 p.1],false,true⟩,⟨0,1,126,[AV.osl 3 p.2.1 0 p.2.2.1],false,false⟩,⟨0,1,64,[AV.osl 4 p.2.2.2.1 0 p.2.2.2.2.1],false,false⟩,⟨p.2.2.2.2.2.2.1,2,128,p.2.2.2.2.2.1,false,true⟩,⟨p.2.2.2.2.2.2.2.2,2,52,p.2.2.2.2.2.2.2.1,false,true⟩]:List Box))):(AV×List Box))):=by kernel_rfl
 rw [h];unfold xiS xik;repeat' (first|refine Enc.br ?_ ?_|exact Enc.none|exact Enc.some rfl)
end Go.Sim.M
namespace Go.Sim
open Go.RowKit
def GoodM.aged {P:Program} {Inv:IV} {f:FuncId} {args:List AV} {H E:List Box} {p q v k t s y:Nat} {xs:List AV}
  (h:GoodM P Inv f args H (.tuple []) E) (hz:∀ bx,H[q]?=some bx->bx.ver=0)
  (ep:E[p]?=some ⟨0,1,t,[.osl (.b q) v 0 k],false,false⟩) (eq:E[q]?=some ⟨v,s,y,xs,false,true⟩) (pt:isC t=false) (py:isC y=false)
  (ho:∀ n bx,E[n]?=some bx->isC bx.ty=false/\(n=p\/n=q\/bx.pm=true\/∃ n' v' k',n'≠q/\bx.xs=[.osl (.b n') v' 0 k'])) :
  GoodM P Inv f args H (.tuple []) ((E.set p ⟨0,1,t,[.osl (.b q) 1 0 k],false,false⟩).set q ⟨1,s,y,xs,false,true⟩):=by
 have pq:p≠q:=fun e=>by
  subst e;rw [ep] at eq;simp at eq
 refine ⟨h.1,fun w0 w A M vs hI hB hR Z=>(h.2 w0 w A M vs hI hB hR Z).mono ?_⟩
 rintro e w' ⟨u,A',M',rfl,h1,h2,h3,h4,h5⟩;let M'':Id->Option MB:=fun id=>if id=.b q then (M' id).map fun m=>⟨m.b,1,m.sz,m.cap,m.ty⟩ else M' id
 have eo:∀ id,id≠.b q->M'' id=M' id:=fun id g1=>if_neg g1
 have e4:∀ m,M' (.b q)=some m->M'' (.b q)=some ⟨m.b,1,m.sz,m.cap,m.ty⟩:=fun m hm=>(if_pos rfl).trans (by rw [hm];rfl)
 have Q:∀ id m1,M'' id=some m1->∃ m0,M' id=some m0/\m1.b=m0.b/\m1.cap=m0.cap:=fun id m1 J=>by
  by_cases g3:id=.b q
  . subst g3;cases hm:M' (.b q) with
    | none=>simp [M'',hm] at J
    | some m=>rw [e4 m hm] at J;simp only [z6] at J;subst J;exact ⟨m,rfl,rfl,rfl⟩
  . exact ⟨m1,eo id g3▸J,rfl,rfl⟩
 have O:∀ n bx m,E[n]?=some bx->M' (.b n)=some m->BoxAt w' A' M' w0.heap.size (.b n) m bx:=fun n bx m hn hm=>by
  obtain ⟨bx',g1,g2⟩:=h4.box _ m hm;rw [xbM,hn] at g1;cases g1;exact g2
 have hv:∀ m,M' (.b q)=some m->v=m.ver:=fun m hm=>(O q _ m eq hm).ver
 have hx:∀ c n' v' k',n'≠q->Rel w' A' M' c (.osl (.b n') v' 0 k')->Rel w' A' M'' c (.osl (.b n') v' 0 k'):=fun c n' v' k' hn hr=>by
  obtain ⟨m0,g1,g2,g3,g4⟩:=Rel.osl_inv hr;exact .osl c _ v' 0 k' m0 ((eo _ fun e=>hn (by cases e;rfl)).trans g1) g2 g3 g4
 have hy:∀ c,Rel w' A' M' c (.osl (.b q) v 0 k)->Rel w' A' M'' c (.osl (.b q) 1 0 k):=fun c hr=>by
  obtain ⟨m0,g1,g2,g3,g4⟩:=Rel.osl_inv hr;exact .osl c _ 1 0 k _ (e4 m0 g1) (zd _) g3 fun _=>g4 (hv m0 g1)
 have hb:∀ id (bx bx':Box) (m m':MB),isC bx.ty=false->bx'=⟨m'.ver,bx.sz,bx.ty,bx'.xs,bx.frz,bx.pm⟩->m'=⟨m.b,m'.ver,m.sz,m.cap,m.ty⟩->bx'.xs.length=bx.xs.length->(∀ x,x∈bx'.xs->x.okElem m.sz=true) ->
   (∀ c i j,Rel w' A' (MP M' bx.pm) c ((bx.xs.getD i .top).cells.getD j .top)->Rel w' A' (MP M'' bx.pm) c ((bx'.xs.getD i .top).cells.getD j .top))->BoxAt w' A' M' w0.heap.size id m bx->BoxAt w' A' M'' w0.heap.size id m' bx':=fun id bx bx' m m' V Y aa hl ac hc g=>by
  rw [Y,aa];have W:xHZ m.ty=false:=g.nomap (xaG V);refine ⟨rfl,g.sz,g.ty,g.capm,hl▸g.fits,ac,g.low,g.lt,fun h0=>?_,g.guard⟩
  obtain ⟨c,c1,c2,c3⟩:=g.cells h0;refine ⟨c,.of W (c1.plain W),c2,fun i j hi hj=>?_⟩
  have:=c3 i j (hl▸hi) hj;rw [xaw V,xbf V] at this;rw [xaw V,xbf (bx:=⟨m'.ver,bx.sz,bx.ty,bx'.xs,bx.frz,bx.pm⟩) V];exact hc _ i j this
 have ht:∀ a v1 v2 d,(∀ c,Rel w' A' M' c (.osl a v1 0 d)->Rel w' A' M'' c (.osl a v2 0 d))->∀ c i j,Rel w' A' M' c ((([.osl a v1 0 d]:List AV).getD i .top).cells.getD j .top)->Rel w' A' M'' c ((([.osl a v2 0 d]:List AV).getD i .top).cells.getD j .top):=fun a v1 v2 d hh c i j hr=>by
  match i,j with
  | 0,0=>exact hh c hr
  | 0,j+1=>exact .top _
  | i+1,0=>exact .top _
  | i+1,j+1=>exact .top _
 have hg:∀ n bx,E[n]?=some bx->∃ bx',((E.set p ⟨0,1,t,[.osl (.b q) 1 0 k],false,false⟩).set q ⟨1,s,y,xs,false,true⟩)[n]?=some bx'/\isC bx'.ty=false/\(∀ m m1,M' (.b n)=some m->M'' (.b n)=some m1->BoxAt w' A' M'' w0.heap.size (.b n) m1 bx'):=fun n bx hn=>by
  have hn':=xcS hn;obtain ⟨hC,hc⟩:=ho n bx hn;by_cases g1:n=q
  . subst g1;rw [hn] at eq;cases eq;refine ⟨_,zL (by simpa using hn'),py,fun m m1 e1 e2=>?_⟩
    rw [e4 m e1] at e2;cases e2;have g:=O n _ m hn e1;exact hb _ ⟨v,s,y,xs,false,true⟩ ⟨1,s,y,xs,false,true⟩ m _ py rfl rfl rfl g.ok (fun c i j hr=>hr) g
  . have ge:∀ m m1,M' (.b n)=some m->M'' (.b n)=some m1->m1=m:=fun m m1 e1 e2=>by
     rw [eo _ fun e=>g1 (by cases e;rfl),e1] at e2;cases e2;rfl
    by_cases g2:n=p
    . subst g2;rw [hn] at ep;cases ep;refine ⟨_,(zX (Ne.symm g1)).trans (zL hn'),pt,fun m m1 e1 e2=>?_⟩
      cases ge m m1 e1 e2;have g:=O n _ m hn e1;have hv:0=m.ver:=g.ver;have hz:m.sz=1:=g.sz.symm;exact hb _ ⟨0,1,t,[.osl (.b q) v 0 k],false,false⟩ ⟨0,1,t,[.osl (.b q) 1 0 k],false,false⟩ m m pt (by rw [<-hv]) rfl rfl (fun x hx=>by simp only [zv] at hx;subst hx;rw [hz];rfl) (ht _ _ _ _ hy) g
    . refine ⟨bx,(zX (Ne.symm g1)).trans ((zX (Ne.symm g2)).trans hn),hC,fun m m1 e1 e2=>?_⟩
      cases ge m m1 e1 e2;have g:=O n _ m hn e1;refine hb _ bx bx m m hC (by rw [<-g.ver]) rfl rfl g.ok ?_ g
      rcases hc with hc|hc|hc|⟨n',v',k',hc,hd⟩
      . exact absurd hc g2
      . exact absurd hc g1
      . rw [hc];exact fun c i j hr=>hr
      . cases ae:bx.pm with
        | true=>exact fun c i j hr=>hr
        | false=>rw [hd];exact ht _ _ _ _ fun c=>hx c n' v' k' hc
 have hR':HR w' A' M'' w0.heap.size ((E.set p ⟨0,1,t,[.osl (.b q) 1 0 k],false,false⟩).set q ⟨1,s,y,xs,false,true⟩):=by
  refine ⟨fun id m1 J=>?_,fun id id' m1 m2 k1 k2 c1 c2 he=>?_,h4.lt⟩
  . obtain ⟨m0,g1,_⟩:=Q id m1 J;obtain ⟨bx,q1,q2⟩:=h4.box _ m0 g1;cases id with
    | r n i j =>
     rw [eo _ (fun e=>by cases e),g1] at J
     cases J;obtain ⟨c0,r1,_⟩:=xlN q1;obtain ⟨bx',r2,r3,_⟩:=hg n c0 r1;rw [xec r1 (ho n c0 r1).1] at q1;cases q1;exact ⟨_,xec r2 r3,hb _ tombB tombB m1 m1 rfl (by rw [<-q2.ver]) rfl rfl q2.ok (fun c i j hr=>hr) q2⟩
    | b n =>
     obtain ⟨bx',r2,_,r3⟩:=hg n bx q1;exact ⟨bx',r2,r3 _ _ g1 J⟩
  . obtain ⟨n1,a1,a2,a3⟩:=Q id m1 k1;obtain ⟨n2,b1,b2,b3⟩:=Q id' m2 k2;exact h4.inj id id' n1 n2 a1 b1 (a3▸c1) (b3▸c2) (by rw [<-a2,<-b2,he])
 refine ⟨u,A',M'',rfl,h1,h2,⟨h3.size,h3.keep,h3.less,h3.more,fun id m ad hm=>?_,fun id m1 J h0=>?_⟩,hR',?_⟩
 . obtain ⟨m',g1,g2⟩:=h3.ids id m ad hm;by_cases q4:id=.b q
   . subst q4;obtain ⟨bx,r1,r2⟩:=hR.box _ m hm;exact ⟨_,e4 m' g1,.inr (by rw [<-r2.ver,hz bx r1];exact Nat.zero_lt_one)⟩
   . exact ⟨m',(eo id q4).trans g1,g2⟩
 . obtain ⟨m0,g1,g2,g3⟩:=Q id m1 J;rw [g2];exact h3.src id m0 g1 (g3▸h0)
 . obtain ⟨ab,rfl,q1,_⟩:=h5.tuple_inv;exact .tuple ab [] q1 (by simp)
namespace M
open Go.Proofs
noncomputable def set2 (q n h:Int) (ns no:Nat) (sx ox:List AV):Option (Int×Nat×Nat×List AV×List AV):=(xiS q n h ns no sx ox).bind fun p =>
 br (Nat.beq p.2.1 p.2.2.2.2.2.2.1&&Nat.beq p.2.2.2.1 p.2.2.2.2.2.2.2.2) (some (p.1,p.2.2.1,p.2.2.2.2.1,p.2.2.2.2.2.1,p.2.2.2.2.2.2.2.1)) none
noncomputable def xBs:List AV->List Box->Option (Bool×AV×List Box):=omOf (xIG (sEq (pInt IntKind.i64)) (xIG (sEq (pInt IntKind.i64)) (xIG (sEq (xIS 0 0 0 0)) (xIG (sEq (xIS 1 0 0 0)) (xIG (sEq (xIS 2 0 0 0)) xII)))))
 (xIF (xIU 0 1 3 false true (xIF (pInt IntKind.i64) xIH)) (xIF (xIU 0 1 126 false false (xIF (xIR 3 0 0) xIH)) (xIF (xIU 0 1 64 false false (xIF (xIR 4 0 0) xIH)) (xIF (xIU 0 2 128 false true xIJ) (xIF (xIU 0 2 52 false true xIJ) xIH)))))
 fun (q,(n,(_,(_,(_,_))))) ((h,_),((ns,_),((no,_),(sx,(ox,_)))))=>((set2 q n h ns no sx ox).isSome,(.tuple [],[⟨0,1,3,[.int .i64 ((set2 q n h ns no sx ox).getD (0,0,0,[],[])).1],false,true⟩,⟨0,1,126,[.osl (.b 3) 1 0 ((set2 q n h ns no sx ox).getD (0,0,0,[],[])).2.1],false,false⟩,⟨0,1,64,[.osl (.b 4) 1 0 ((set2 q n h ns no sx ox).getD (0,0,0,[],[])).2.2.1],false,false⟩,⟨1,2,128,((set2 q n h ns no sx ox).getD (0,0,0,[],[])).2.2.2.1,false,true⟩,⟨1,2,52,((set2 q n h ns no sx ox).getD (0,0,0,[],[])).2.2.2.2,false,true⟩]))
def xFL:OmOk P0 xIE 106 xBs:=xlj fun vv bb rr Z hh=>by
 obtain ⟨J,⟨n,⟨_,⟨_,⟨_,_⟩⟩⟩⟩⟩:=vv;obtain ⟨⟨h,_⟩,⟨⟨ns,_⟩,⟨⟨no,_⟩,⟨sx,⟨ox,_⟩⟩⟩⟩⟩:=bb;obtain ⟨O,W⟩:=Prod.mk.inj hh;cases hs:xiS J n h ns no sx ox with
 | none=>rw [show set2 J n h ns no sx ox=none by unfold set2;rw [hs];rfl] at O;simp at O
 | some p =>
  have V:set2 J n h ns no sx ox=br (Nat.beq p.2.1 p.2.2.2.2.2.2.1&&Nat.beq p.2.2.2.1 p.2.2.2.2.2.2.2.2) (some (p.1,p.2.2.1,p.2.2.2.2.1,p.2.2.2.2.2.1,p.2.2.2.2.2.2.2.1)) none:=by unfold set2;rw [hs];rfl
  cases ht:Nat.beq p.2.1 p.2.2.2.2.2.2.1&&Nat.beq p.2.2.2.1 p.2.2.2.2.2.2.2.2 with
  | false=>rw [V,ht] at O;simp [br] at O
  | true =>
   rw [ht] at V;have Y:set2 J n h ns no sx ox=some (p.1,p.2.2.1,p.2.2.2.2.1,p.2.2.2.2.2.1,p.2.2.2.2.2.2.2.1):=V;rw [Y] at W;simp only [zh] at W;simp only [zf] at ht;have e1:=zg ht.1;have e2:=zg ht.2;have hx:=xvy J n h ns no sx ox p hs;have hg:GoodM P0 xIE 106 _ _ _ _:=xnH (p:=xfE.pin) (xnG xH5 (xH6 P0 _) rfl xrw rfl Tryz.func106 rfl (by kernel_rfl) xpH hx)
   rw [<-e1,<-e2] at hg;have Q:=GoodM.aged (p:=1) (q:=3) hg (fun bx hb=>by cases hb;rfl) rfl rfl rfl rfl (fun n bx hn=>by
    match n with
    | 0=>cases hn;exact ⟨rfl,.inr (.inr (.inl rfl))⟩
    | 1=>cases hn;exact ⟨rfl,.inl rfl⟩
    | 2=>cases hn;exact ⟨rfl,.inr (.inr (.inr ⟨_,_,_,by decide,rfl⟩))⟩
    | 3=>cases hn;exact ⟨rfl,.inr (.inl rfl)⟩
    | 4=>cases hn;exact ⟨rfl,.inr (.inr (.inl rfl))⟩
    | n+5=>simp at hn)
   have Q:=GoodM.aged (p:=2) (q:=4) Q (fun bx hb=>by cases hb;rfl) rfl rfl rfl rfl (fun n bx hn=>by
    match n with
    | 0=>cases hn;exact ⟨rfl,.inr (.inr (.inl rfl))⟩
    | 1=>cases hn;exact ⟨rfl,.inr (.inr (.inr ⟨_,_,_,by decide,rfl⟩))⟩
    | 2=>cases hn;exact ⟨rfl,.inl rfl⟩
    | 3=>cases hn;exact ⟨rfl,.inr (.inr (.inl rfl))⟩
    | 4=>cases hn;exact ⟨rfl,.inr (.inl rfl)⟩
    | n+5=>simp at hn)
   obtain ⟨rfl,rfl⟩:=Prod.mk.inj W;exact Q
noncomputable def ESet:Env:=xom.E.withM 106 xBs
def xC6:xHX P0 xIE ESet:=xom.ok.withM xFL
noncomputable def xwX:EO:=EO.mk ESet xC6
end M
end Go.Sim
namespace Go.Sim.M
open Go.IntKind (i64 u64 u8)
open Go.RowKit Go.Proofs
def xiA (a:LA) (h b:Int) (f c:Nat) (g:Int) (d e:LA):Int:=if 0>(gC a b 1).toInt then 0 else (gC a b 1).toInt
def xiz (f:LA) (h g:Int) (d a:Nat) (e:Int) (b c:LA):=set2 (gC f g 0).toInt (if 1048576<xiA f h g d a e b c then 1048576 else xiA f h g d a e b c) e a d c b
def xcn (f:LA) (g h:Int) (d a:Nat) (e:Int) (b c:LA):=(xiz f g h d a e b c).getD (0,0,0,[],[])
def xgs {T:Type} (g:LA) (h e:Int) (d a:Nat) (f:Int) (b c:LA) (δ:T) (κl:(Int×Nat×Nat×Int×LA×LA)->T) (κr:(Nat×Int×Nat×LA×LA)->T):T:=br (decide (e<h)) (br (ixI g e) (br (ixT g e 2 [Sh.int .i64,Sh.int .i64] 0) (br ((xiz g h e d a f b c).isSome) (κl (i64.wrap (e+1),(((xcn g h e d a f b c).snd).snd).fst,(((xcn g h e d a f b c).snd).fst),(xcn g h e d a f b c).fst,((((xcn g h e d a f b c).snd).snd).snd).snd,List.take (((xcn g h e d a f b c).snd).fst) ((((xcn g h e d a f b c).snd).snd).snd).fst)) δ) δ) δ) (κr (d,f,a,b,c))
def xcF (f:LA) (g:Int):StT (Int×Nat×Nat×Int×LA×LA) (Nat×Int×Nat×LA×LA):=fun (h,d,a,e,b,c)=>xgs f g h d a e b c none inL inR
def xl0:=xwX.l 30 0 [] [] Tryz.f76 0 lk0 [3,4,6,10,11,12] [3,6] [(3,2,52),(4,2,128),(4,0,0)] (q6 (xIS 0 0 0 0) (xIS 1 0 0 0) (xIj 106 (q3 (xIS 2 0 0 0) (xIS 1 0 0 0) (xIS 0 0 0 0))) (qL 2) qI qI) (q5 (xIU 0 1 64 false false (q1 (xIR 3 0 0))) (xIU 0 1 126 false false (q1 (xIR 4 0 0))) (qB 0 1 3 (q1 qI)) (qB 0 2 52 xIJ) (qB 0 2 128 xIJ)) (fun (_,_,(_,_,_,_),f,g,h,_) ((d,_),(a,_),(e,_),b,c,_)=>(xcF f g,(h,d,a,e,b,c),fun p=>(.leaf (.exit 0) [AV.own 0 0 0 0,AV.func 106 [AV.own 1 0 0 0,AV.own 2 0 0 0,AV.own 0 0 0 0]] [⟨0,1,64,[AV.osl 3 0 0 p.1],false,false⟩,bF 0 1 3 [AV.int .i64 p.2.1],⟨0,1,126,[AV.osl 4 0 0 p.2.2.1],false,false⟩,bF 0 2 52 p.2.2.2.1,bF 0 2 128 p.2.2.2.2]))) (0,0,0,[],[]) fun (_,_,(_,_,_,_),f,g,_,_) _ (h,d,a,e,b,c)=>((((),(),((),(),(),()),f,g,h,()),((d,()),(a,()),(e,()),b,c,())),xgs f g h d a e b c none)
def xkX (l:LA):=Iter (xcF l (↑l.length:Int)) (0,0,0,0,[],[])
def xeJ (l:LA):=(xkX l).getD (0,0,0,[],[])
def xkW (l:LA):=set2 1099511627776 0 ((xeJ l).snd).fst (((xeJ l).snd).snd).fst (xeJ l).fst ((((xeJ l).snd).snd).snd).snd ((((xeJ l).snd).snd).snd).fst
def xb9 (l:LA):=((xkW l).getD (0,0,0,[],[])).snd.snd
def xlt {T:Type} (l:LA) (δ:T) (κ:LA->T):T:=br ((xkX l).isSome) (br ((xkW l).isSome) (br (((xb9 l).fst).beq ((xb9 l).snd.snd).length&&(decide (((xb9 l).fst)<4611686018427387904)&&((xb9 l).snd.snd).all isP)) (br (decide (0+((xb9 l).fst)<=(srtP ((xb9 l).snd.snd)).length)&&true) (κ (List.take ((xb9 l).fst) (List.drop 0 (srtP ((xb9 l).snd.snd))))) δ) δ) δ) δ
def xav (l:LA):=xlt l none some
def xEi:EO:=xwX.f Tryz.func76 30 0 [] [(6,xl0.lp)] (lk1 xl0.ok) (u1 (uL 2)) (fun (l,_) _=>xlt l) (fun _ p=>AV.list 2 p) []
def xki {T:Type} (a:LA) (δ:T) (κ:LA->T):T:=br ((↑a.length:Int)==1) (κ (a)) (br ((xdT a).isSome) (br ((xav ((xdT a).getD [])).isSome) (κ ((xav ((xdT a).getD [])).getD [])) δ) δ)
def xeL (a:LA):=xki a none some
def xuP:EO:=xEi.f Tryz.func115 10 0 [] [] lk0 (u1 (uL 2)) (fun (a,_) _=>xki a) (fun _ p=>AV.list 2 p) []
def xhY {T:Type} (b e:LA) (f:Int) (c:Nat) (a:Int) (d:LA) (δ:T) (κl:(Nat×Int×LA)->T) (κr:(Nat×LA)->T):T:=br (decide (a<f)) (br (decide (0<=a)&&decide (a<e.length)) (br (decide (a.toNat<e.length)&&((e.getD a.toNat .top).cells.length==2&&xH1 [Sh.int .i64,Sh.int .i64] (e.getD a.toNat .top).cells 0)) (br (xfm ((e.getD a.toNat .top).cells.getD 0 .top).toInt ((e.getD a.toNat .top).cells.getD 1 .top).toInt) (br (c==d.length&&(decide ((c+2)*24<=140737488355328)&&decide (c+2<=4611686018427387904))) (κl (c+2,i64.wrap (a+1),d++[AV.agg [AV.int .i64 ((e.getD a.toNat .top).cells.getD 0 .top).toInt,AV.int .i64 1,AV.int .i64 0],AV.agg [AV.int .i64 ((e.getD a.toNat .top).cells.getD 1 .top).toInt,AV.int .i64 (-1),AV.int .i64 0]])) δ) (κl (c,i64.wrap (a+1),d))) δ) δ) (κr (c,d))
def xbP (b d:LA) (e:Int):StT (Nat×Int×LA) (Nat×LA):=fun (c,f,a)=>xhY b d e c f a none inL inR
def xjQ:=xuP.l 49 0 [] [] Tryz.f129 0 lk0 [1,5,10,11,12] [1,5] [(5,3,154)] (q5 (qL 2) (xIR 0 0 0) (qL 2) qI qI) (q1 (qB 0 3 154 xIJ)) (fun (b,c,d,e,f,_) (a,_)=>(xbP b d e,(c,f,a),fun p=>(.leaf (.exit 0) [AV.list 2 b,AV.osl 0 0 0 p.1] [bF 0 3 154 p.2]))) (0,[]) fun (b,_,d,e,_,_) _ (c,f,a)=>(((b,c,d,e,f,()),(a,())),xhY b d e c f a none)
def xhZ {T:Type} (d:LA) (e:Int) (b:Nat) (a:Int) (c:LA) (δ:T) (κl:(Nat×Int×LA)->T) (κr:(Nat×LA)->T):T:=br (decide (a<e)) (br (decide (0<=a)&&decide (a<d.length)) (br (decide (a.toNat<d.length)&&((d.getD a.toNat .top).cells.length==2&&xH1 [Sh.int .i64,Sh.int .i64] (d.getD a.toNat .top).cells 0)) (br (xfm ((d.getD a.toNat .top).cells.getD 0 .top).toInt ((d.getD a.toNat .top).cells.getD 1 .top).toInt) (br (b==c.length&&(decide ((b+2)*24<=140737488355328)&&decide (b+2<=4611686018427387904))) (κl (b+2,i64.wrap (a+1),c++[AV.agg [AV.int .i64 ((d.getD a.toNat .top).cells.getD 0 .top).toInt,AV.int .i64 0,AV.int .i64 1],AV.agg [AV.int .i64 ((d.getD a.toNat .top).cells.getD 1 .top).toInt,AV.int .i64 0,AV.int .i64 (-1)]])) δ) (κl (b,i64.wrap (a+1),c))) δ) δ) (κr (b,c))
def xdc (c:LA) (d:Int):StT (Nat×Int×LA) (Nat×LA):=fun (b,e,a)=>xhZ c d b e a none inL inR
def xns:=xuP.l 49 0 [] [(3,xjQ.lp)] Tryz.f129 1 lk0 [5,28,29,30] [5] [(5,3,154)] (q4 (xIR 0 0 0) (qL 2) qI qI) (q1 (qB 0 3 154 xIJ)) (fun (b,c,d,e,_) (a,_)=>(xdc c d,(b,e,a),fun p=>(.leaf (.exit 2) [AV.osl 0 0 0 p.1] [bF 0 3 154 p.2]))) (0,[]) fun (_,c,d,_,_) _ (b,e,a)=>(((b,c,d,e,()),(a,())),xhZ c d b e a none)
def xjB (a b:LA):=(Iter (xbP b a (↑a.length:Int)) (0,0,[])).getD (0,[])
def xjA (a b:LA):=Iter (xdc b (↑b.length:Int)) ((xjB a b).fst,0,(xjB a b).snd)
def xjz (a b:LA):=(xjA a b).getD (0,[])
def xfH (a b:LA):=(xjz a b).fst
def xfI (a b:LA):=(xjz a b).snd
def xnt {T:Type} (a b:LA) (δ:T) (κ:LA->T):T:=br ((Iter (xbP b a (↑a.length:Int)) (0,0,[])).isSome) (br ((xjA a b).isSome) (br ((xfH a b).beq (xfI a b).length&&(decide (xfH a b<4611686018427387904)&&(xfI a b).all isE)) (br (decide (0+xfH a b<=(srtE (xfI a b)).length)&&true) (κ (List.take (xfH a b) (List.drop 0 (srtE (xfI a b))))) δ) δ) δ) δ
def xf0 (a b:LA):=xnt a b none some
def xEj:EO:=xuP.f Tryz.func129 49 0 [] [(3,xjQ.lp),(9,xns.lp)] (lks (lkC xjQ.ok (lkC xns.ok lkN))) (u2 (uL 2) (uL 2)) (fun (a,b,_) _=>xnt a b) (fun _ p=>AV.list 3 p) []
def xj5 (a b:Bool):Bool:=((a))
def xwJ {T:Type} (a b:Bool) (δ:T) (κ:Bool->T):T:=κ (a)
def xEk:EO:=xEj.fT Tryz.func93 6 0 [] [] lk0 (fun (a,b,_)=>xwJ a b none) (u2 (sEq pBool) (sEq pBool)) (fun (a,b,_)=>xj5 a b) (fun _ p=>(AV.bool p))
def xeI (a b:Bool):Bool:=(br (a) ((!b)) ((false)))
def xqL {T:Type} (a b:Bool) (δ:T) (κ:Bool->T):T:=br (a) (κ (!b)) (κ (false))
def xuQ:EO:=xEk.fT Tryz.func98 10 0 [] [] lk0 (fun (a,b,_)=>xqL a b none) (u2 (sEq pBool) (sEq pBool)) (fun (a,b,_)=>xeI a b) (fun _ p=>(AV.bool p))
def xmq {T:Type} (l:LA) (e:Nat) (d b c i:Int) (a:LA) (δ:T) (κl:(Int×Int×Int×LA)->T) (κr:(Int×Int×Int×LA)->T):T:=br (decide (i<l.length)) (br (decide (0<=i)&&decide (i<l.length)) (br (decide (i.toNat<l.length)&&xHV (Sh.int .i64) ((l.getD i.toNat .top).cells.getD 0 .top)) (br (((l.getD i.toNat .top).cells.getD 0 .top).toInt==d) (br (decide (0<=i)&&decide (i<l.length)) (br (decide (i.toNat<l.length)&&xHV (Sh.int .i64) ((l.getD i.toNat .top).cells.getD 1 .top)) (br (decide (0<=i)&&decide (i<l.length)) (br (decide (i.toNat<l.length)&&xHV (Sh.int .i64) ((l.getD i.toNat .top).cells.getD 2 .top)) (κl (i64.wrap (b+((l.getD i.toNat .top).cells.getD 1 .top).toInt),i64.wrap (c+((l.getD i.toNat .top).cells.getD 2 .top).toInt),i64.wrap (i+1),a)) δ) δ) δ) δ) (κr (b,c,i,a))) δ) δ) (κr (b,c,i,a))
def xha (l:LA) (b:Nat) (c:Int):StT (Int×Int×Int×LA) (Int×Int×Int×LA):=fun (d,e,i,a)=>xmq l b c d e i a none inL inR
def xf3:=xuQ.l 92 0 [] [] Tryz.f92 1 lk0 [2,7,8,9,10,11,12] [2,7,8,9,10,11,12] [(8,2,52)] (q7 (xIj 93 xIH) (qL 3) (xIR 0 0 0) qI qI qI qI) (q1 (qB 0 2 52 xIJ)) (fun (_,l,a,d,e,i,c,_) (b,_)=>(xha l a c,(d,e,i,b),fun p=>(.leaf (.exit 2) [AV.func 93 [],AV.list 3 l,AV.osl 0 0 0 a,AV.int .i64 p.1,AV.int .i64 p.2.1,AV.int .i64 p.2.2.1,AV.int .i64 c] [bF 0 2 52 p.2.2.2]))) (0,0,0,[]) fun (_,l,a,_,_,_,c,_) _ (d,e,i,b)=>((((),l,a,d,e,i,c,()),(b,())),xmq l a c d e i b none)
def xf2 (a:Nat):=decide (0<=i64.wrap ((↑a:Int) - 1))&&decide (i64.wrap ((↑a:Int) - 1)<(↑a:Int))
def xah (l:LA) (b:Nat) (d e i c:Int) (a:LA):=(Iter (xha l b c) (d,e,i,a)).getD (0,0,0,[])
def xaL (a:Nat):Nat:=0+(i64.wrap ((↑a:Int) - 1)).toNat
def xaj (l:LA) (b:Nat) (d e i c:Int) (a:LA):=(((xah l b d e i c a).snd).snd).snd
def xlX (l:LA) (b:Nat) (d e i c:Int) (a:LA):=xj5 (decide (((xah l b d e i c a).fst)>0)) (decide ((((xah l b d e i c a).snd).fst)>0))
def xam (l:LA) (b:Nat) (d e i c:Int) (a:LA):=(((xah l b d e i c a).snd).snd).fst
def xf1 (l:LA) (a:Nat) (d e i c:Int) (b:LA):=decide (xaL a<(xaj l a d e i c b).length)
def xmp {T:Type} (l:LA) (a:Nat) (d e i c:Int) (b:LA) (δ:T) (κl:(Nat×Int×Int×Int×Int×LA)->T) (κr:(Nat×LA)->T):T:=br (decide (c<1099511627776)) (br ((Iter (xha l a c) (d,e,i,b)).isSome) (br (decide (xam l a d e i c b<l.length)) (br (decide (0<=xam l a d e i c b)&&(decide (xam l a d e i c b<l.length))) (br (decide ((xam l a d e i c b).toNat<l.length)&&xHV (Sh.int .i64) ((l.getD (xam l a d e i c b).toNat .top).cells.getD 0 .top)) (br (xlX l a d e i c b) (br (decide ((↑a:Int)>0)) (br (xf2 a) (br (xf1 l a d e i c b&&xHV (Sh.int .i64) (((xaj l a d e i c b).getD (xaL a) .top).cells.getD 1 .top)) (br ((((xaj l a d e i c b).getD (xaL a) .top).cells.getD 1 .top).toInt==c) (br (xf2 a) (br (xf1 l a d e i c b) (κl (a,((xah l a d e i c b).fst),(((xah l a d e i c b).snd).fst),xam l a d e i c b,((l.getD (xam l a d e i c b).toNat .top).cells.getD 0 .top).toInt,(xaj l a d e i c b).set (xaL a) (AV.agg (List.take 1 ((xaj l a d e i c b).getD (xaL a) .top).cells++[AV.int .i64 ((l.getD (xam l a d e i c b).toNat .top).cells.getD 0 .top).toInt]++List.drop 2 ((xaj l a d e i c b).getD (xaL a) .top).cells)))) δ) δ) (br (a==(xaj l a d e i c b).length&&(decide ((a+1)*16<=140737488355328)&&decide (a+1<=4611686018427387904))) (κl (a+1,((xah l a d e i c b).fst),(((xah l a d e i c b).snd).fst),xam l a d e i c b,((l.getD (xam l a d e i c b).toNat .top).cells.getD 0 .top).toInt,xaj l a d e i c b++[AV.agg [AV.int .i64 c,AV.int .i64 ((l.getD (xam l a d e i c b).toNat .top).cells.getD 0 .top).toInt]])) δ)) δ) δ) (br (a==(xaj l a d e i c b).length&&(decide ((a+1)*16<=140737488355328)&&decide (a+1<=4611686018427387904))) (κl (a+1,((xah l a d e i c b).fst),(((xah l a d e i c b).snd).fst),xam l a d e i c b,((l.getD (xam l a d e i c b).toNat .top).cells.getD 0 .top).toInt,xaj l a d e i c b++[AV.agg [AV.int .i64 c,AV.int .i64 ((l.getD (xam l a d e i c b).toNat .top).cells.getD 0 .top).toInt]])) δ)) (κl (a,((xah l a d e i c b).fst),(((xah l a d e i c b).snd).fst),xam l a d e i c b,((l.getD (xam l a d e i c b).toNat .top).cells.getD 0 .top).toInt,xaj l a d e i c b))) δ) δ) (br (xlX l a d e i c b) (br (decide ((↑a:Int)>0)) (br (xf2 a) (br (xf1 l a d e i c b&&xHV (Sh.int .i64) (((xaj l a d e i c b).getD (xaL a) .top).cells.getD 1 .top)) (br ((((xaj l a d e i c b).getD (xaL a) .top).cells.getD 1 .top).toInt==c) (br (xf2 a) (br (xf1 l a d e i c b) (κl (a,((xah l a d e i c b).fst),(((xah l a d e i c b).snd).fst),xam l a d e i c b,1099511627776,(xaj l a d e i c b).set (xaL a) (AV.agg (List.take 1 ((xaj l a d e i c b).getD (xaL a) .top).cells++[AV.int .i64 1099511627776]++List.drop 2 ((xaj l a d e i c b).getD (xaL a) .top).cells)))) δ) δ) (br (a==(xaj l a d e i c b).length&&(decide ((a+1)*16<=140737488355328)&&decide (a+1<=4611686018427387904))) (κl (a+1,((xah l a d e i c b).fst),(((xah l a d e i c b).snd).fst),xam l a d e i c b,1099511627776,xaj l a d e i c b++[AV.agg [AV.int .i64 c,AV.int .i64 1099511627776]])) δ)) δ) δ) (br (a==(xaj l a d e i c b).length&&(decide ((a+1)*16<=140737488355328)&&decide (a+1<=4611686018427387904))) (κl (a+1,((xah l a d e i c b).fst),(((xah l a d e i c b).snd).fst),xam l a d e i c b,1099511627776,xaj l a d e i c b++[AV.agg [AV.int .i64 c,AV.int .i64 1099511627776]])) δ)) (κl (a,((xah l a d e i c b).fst),(((xah l a d e i c b).snd).fst),xam l a d e i c b,1099511627776,xaj l a d e i c b)))) δ) (κr (a,b))
def xkT (l:LA):StT (Nat×Int×Int×Int×Int×LA) (Nat×LA):=fun (b,d,e,i,c,a)=>xmp l b d e i c a none inL inR
def xlW:=xuQ.l 92 0 [] [(6,xf3.lp)] Tryz.f92 0 (lk1 xf3.ok) [2,7,8,9,10,11,12] [8] [(8,2,52)] (q7 (xIj 93 xIH) (qL 3) (xIR 0 0 0) qI qI qI qI) (q1 (qB 0 2 52 xIJ)) (fun (_,l,b,d,e,i,c,_) (a,_)=>(xkT l,(b,d,e,i,c,a),fun p=>(.leaf (.exit 0) [AV.osl 0 0 0 p.1] [bF 0 2 52 p.2]))) (0,[]) fun (_,l,_,_,_,_,_,_) _ (b,d,e,i,c,a)=>((((),l,b,d,e,i,c,()),(a,())),xmp l b d e i c a none)
def xnT (a b:LA):=Iter (xkT ((xf0 a b).getD [])) (0,0,0,0,0,[])
def xhx (a b:LA):=(xnT a b).getD (0,[])
def xoF {T:Type} (a b:LA) (δ:T) (κ:LA->T):T:=br ((xf0 a b).isSome) (br ((xnT a b).isSome) (br (decide (0+((xhx a b).fst)<=((xhx a b).snd).length)&&true) (κ (List.take ((xhx a b).fst) (List.drop 0 ((xhx a b).snd)))) δ) δ) δ
def xnu (a b:LA):=xoF a b none some
def xEl:EO:=xuQ.f Tryz.func92 92 0 [] [(6,xf3.lp),(5,xlW.lp)] (lks (lkC xlW.ok (lkC xf3.ok lkN))) (u3 (uL 2) (uL 2) (sEq (xIj (93:FuncId) xIH))) (fun (a,b,_,_) _=>xoF a b) (fun _ p=>AV.list 2 p) []
def xqn {T:Type} (l:LA) (δ:T) (κ:LA->T):T:=br ((xnu l []).isSome) (κ ((xnu l []).getD [])) δ
def xhj (l:LA):=xqn l none some
def xuR:EO:=xEl.f Tryz.func61 5 0 [] [] lk0 (u1 (uL 2)) (fun (l,_) _=>xqn l) (fun _ p=>AV.list 2 p) []
def xms {T:Type} (l:LA) (e:Nat) (d b c i:Int) (a:LA) (δ:T) (κl:(Int×Int×Int×LA)->T) (κr:(Int×Int×Int×LA)->T):T:=br (decide (i<l.length)) (br (decide (0<=i)&&decide (i<l.length)) (br (decide (i.toNat<l.length)&&xHV (Sh.int .i64) ((l.getD i.toNat .top).cells.getD 0 .top)) (br (((l.getD i.toNat .top).cells.getD 0 .top).toInt==d) (br (decide (0<=i)&&decide (i<l.length)) (br (decide (i.toNat<l.length)&&xHV (Sh.int .i64) ((l.getD i.toNat .top).cells.getD 1 .top)) (br (decide (0<=i)&&decide (i<l.length)) (br (decide (i.toNat<l.length)&&xHV (Sh.int .i64) ((l.getD i.toNat .top).cells.getD 2 .top)) (κl (i64.wrap (b+((l.getD i.toNat .top).cells.getD 1 .top).toInt),i64.wrap (c+((l.getD i.toNat .top).cells.getD 2 .top).toInt),i64.wrap (i+1),a)) δ) δ) δ) δ) (κr (b,c,i,a))) δ) δ) (κr (b,c,i,a))
def xhb (l:LA) (b:Nat) (c:Int):StT (Int×Int×Int×LA) (Int×Int×Int×LA):=fun (d,e,i,a)=>xms l b c d e i a none inL inR
def xf6:=xuR.l 92 0 [] [] Tryz.f92 1 lk0 [2,7,8,9,10,11,12] [2,7,8,9,10,11,12] [(8,2,52)] (q7 (xIj 98 xIH) (qL 3) (xIR 0 0 0) qI qI qI qI) (q1 (qB 0 2 52 xIJ)) (fun (_,l,a,d,e,i,c,_) (b,_)=>(xhb l a c,(d,e,i,b),fun p=>(.leaf (.exit 2) [AV.func 98 [],AV.list 3 l,AV.osl 0 0 0 a,AV.int .i64 p.1,AV.int .i64 p.2.1,AV.int .i64 p.2.2.1,AV.int .i64 c] [bF 0 2 52 p.2.2.2]))) (0,0,0,[]) fun (_,l,a,_,_,_,c,_) _ (d,e,i,b)=>((((),l,a,d,e,i,c,()),(b,())),xms l a c d e i b none)
def xf5 (a:Nat):=decide (0<=i64.wrap ((↑a:Int) - 1))&&decide (i64.wrap ((↑a:Int) - 1)<(↑a:Int))
def xai (l:LA) (b:Nat) (d e i c:Int) (a:LA):=(Iter (xhb l b c) (d,e,i,a)).getD (0,0,0,[])
def xaM (a:Nat):Nat:=0+(i64.wrap ((↑a:Int) - 1)).toNat
def xak (l:LA) (b:Nat) (d e i c:Int) (a:LA):=(((xai l b d e i c a).snd).snd).snd
def xlZ (l:LA) (b:Nat) (d e i c:Int) (a:LA):=xeI (decide (((xai l b d e i c a).fst)>0)) (decide ((((xai l b d e i c a).snd).fst)>0))
def xan (l:LA) (b:Nat) (d e i c:Int) (a:LA):=(((xai l b d e i c a).snd).snd).fst
def xf4 (l:LA) (a:Nat) (d e i c:Int) (b:LA):=decide (xaM a<(xak l a d e i c b).length)
def xmr {T:Type} (l:LA) (a:Nat) (d e i c:Int) (b:LA) (δ:T) (κl:(Nat×Int×Int×Int×Int×LA)->T) (κr:(Nat×LA)->T):T:=br (decide (c<1099511627776)) (br ((Iter (xhb l a c) (d,e,i,b)).isSome) (br (decide (xan l a d e i c b<l.length)) (br (decide (0<=xan l a d e i c b)&&(decide (xan l a d e i c b<l.length))) (br (decide ((xan l a d e i c b).toNat<l.length)&&xHV (Sh.int .i64) ((l.getD (xan l a d e i c b).toNat .top).cells.getD 0 .top)) (br (xlZ l a d e i c b) (br (decide ((↑a:Int)>0)) (br (xf5 a) (br (xf4 l a d e i c b&&xHV (Sh.int .i64) (((xak l a d e i c b).getD (xaM a) .top).cells.getD 1 .top)) (br ((((xak l a d e i c b).getD (xaM a) .top).cells.getD 1 .top).toInt==c) (br (xf5 a) (br (xf4 l a d e i c b) (κl (a,((xai l a d e i c b).fst),(((xai l a d e i c b).snd).fst),xan l a d e i c b,((l.getD (xan l a d e i c b).toNat .top).cells.getD 0 .top).toInt,(xak l a d e i c b).set (xaM a) (AV.agg (List.take 1 ((xak l a d e i c b).getD (xaM a) .top).cells++[AV.int .i64 ((l.getD (xan l a d e i c b).toNat .top).cells.getD 0 .top).toInt]++List.drop 2 ((xak l a d e i c b).getD (xaM a) .top).cells)))) δ) δ) (br (a==(xak l a d e i c b).length&&(decide ((a+1)*16<=140737488355328)&&decide (a+1<=4611686018427387904))) (κl (a+1,((xai l a d e i c b).fst),(((xai l a d e i c b).snd).fst),xan l a d e i c b,((l.getD (xan l a d e i c b).toNat .top).cells.getD 0 .top).toInt,xak l a d e i c b++[AV.agg [AV.int .i64 c,AV.int .i64 ((l.getD (xan l a d e i c b).toNat .top).cells.getD 0 .top).toInt]])) δ)) δ) δ) (br (a==(xak l a d e i c b).length&&(decide ((a+1)*16<=140737488355328)&&decide (a+1<=4611686018427387904))) (κl (a+1,((xai l a d e i c b).fst),(((xai l a d e i c b).snd).fst),xan l a d e i c b,((l.getD (xan l a d e i c b).toNat .top).cells.getD 0 .top).toInt,xak l a d e i c b++[AV.agg [AV.int .i64 c,AV.int .i64 ((l.getD (xan l a d e i c b).toNat .top).cells.getD 0 .top).toInt]])) δ)) (κl (a,((xai l a d e i c b).fst),(((xai l a d e i c b).snd).fst),xan l a d e i c b,((l.getD (xan l a d e i c b).toNat .top).cells.getD 0 .top).toInt,xak l a d e i c b))) δ) δ) (br (xlZ l a d e i c b) (br (decide ((↑a:Int)>0)) (br (xf5 a) (br (xf4 l a d e i c b&&xHV (Sh.int .i64) (((xak l a d e i c b).getD (xaM a) .top).cells.getD 1 .top)) (br ((((xak l a d e i c b).getD (xaM a) .top).cells.getD 1 .top).toInt==c) (br (xf5 a) (br (xf4 l a d e i c b) (κl (a,((xai l a d e i c b).fst),(((xai l a d e i c b).snd).fst),xan l a d e i c b,1099511627776,(xak l a d e i c b).set (xaM a) (AV.agg (List.take 1 ((xak l a d e i c b).getD (xaM a) .top).cells++[AV.int .i64 1099511627776]++List.drop 2 ((xak l a d e i c b).getD (xaM a) .top).cells)))) δ) δ) (br (a==(xak l a d e i c b).length&&(decide ((a+1)*16<=140737488355328)&&decide (a+1<=4611686018427387904))) (κl (a+1,((xai l a d e i c b).fst),(((xai l a d e i c b).snd).fst),xan l a d e i c b,1099511627776,xak l a d e i c b++[AV.agg [AV.int .i64 c,AV.int .i64 1099511627776]])) δ)) δ) δ) (br (a==(xak l a d e i c b).length&&(decide ((a+1)*16<=140737488355328)&&decide (a+1<=4611686018427387904))) (κl (a+1,((xai l a d e i c b).fst),(((xai l a d e i c b).snd).fst),xan l a d e i c b,1099511627776,xak l a d e i c b++[AV.agg [AV.int .i64 c,AV.int .i64 1099511627776]])) δ)) (κl (a,((xai l a d e i c b).fst),(((xai l a d e i c b).snd).fst),xan l a d e i c b,1099511627776,xak l a d e i c b)))) δ) (κr (a,b))
def xkU (l:LA):StT (Nat×Int×Int×Int×Int×LA) (Nat×LA):=fun (b,d,e,i,c,a)=>xmr l b d e i c a none inL inR
def xlY:=xuR.l 92 0 [] [(6,xf6.lp)] Tryz.f92 0 (lk1 xf6.ok) [2,7,8,9,10,11,12] [8] [(8,2,52)] (q7 (xIj 98 xIH) (qL 3) (xIR 0 0 0) qI qI qI qI) (q1 (qB 0 2 52 xIJ)) (fun (_,l,b,d,e,i,c,_) (a,_)=>(xkU l,(b,d,e,i,c,a),fun p=>(.leaf (.exit 0) [AV.osl 0 0 0 p.1] [bF 0 2 52 p.2]))) (0,[]) fun (_,l,_,_,_,_,_,_) _ (b,d,e,i,c,a)=>((((),l,b,d,e,i,c,()),(a,())),xmr l b d e i c a none)
def xnU (a b:LA):=Iter (xkU ((xf0 a b).getD [])) (0,0,0,0,0,[])
def xh0 (a b:LA):=(xnU a b).getD (0,[])
def xoG {T:Type} (a b:LA) (δ:T) (κ:LA->T):T:=br ((xf0 a b).isSome) (br ((xnU a b).isSome) (br (decide (0+((xh0 a b).fst)<=((xh0 a b).snd).length)&&true) (κ (List.take ((xh0 a b).fst) (List.drop 0 ((xh0 a b).snd)))) δ) δ) δ
def xnv (a b:LA):=xoG a b none some
def xEm:EO:=xuR.f Tryz.func92 92 0 [] [(6,xf6.lp),(5,xlY.lp)] (lks (lkC xlY.ok (lkC xf6.ok lkN))) (u3 (uL 2) (uL 2) (sEq (xIj (98:FuncId) xIH))) (fun (a,b,_,_) _=>xoG a b) (fun _ p=>AV.list 2 p) []
def xkS {T:Type} (a b:LA) (δ:T) (κ:LA->T):T:=br ((xnv a b).isSome) (κ ((xnv a b).getD [])) δ
def xeP (a b:LA):=xkS a b none some
def xuS:EO:=xEm.f Tryz.func63 8 0 [] [] lk0 (u2 (uL 2) (uL 2)) (fun (a,b,_) _=>xkS a b) (fun _ p=>AV.list 2 p) []
def xet {T:Type} (h:LA) (i j:Int) (e:LA) (f:Int) (d:Nat) (c:Int) (a b g:LA) (δ:T) (κl:(Nat×Int×LA×LA×LA)->T) (κr:(Nat×LA)->T):T:=br (decide (c<f)) (br (ixI e c) (br (ixT e c 2 [Sh.int .i64,Sh.int .i64] 0) (br (decide (b.length*32<=140737488355328)&&decide (b.length<=4611686018427387904)) (br (decide (0+b.length<=b.length)&&true&&true&&true&&true) (br (rmB d a 1 40) (κl (d+1,i64.wrap (c+1),a++[AV.agg [AV.list 3 (List.take b.length (List.drop 0 b)),AV.int .i64 (gC e c 0).toInt,AV.int .i64 (gC e c 1).toInt]],b,g)) δ) δ) δ) δ) δ) (κr (d,a))
def xbA (c:LA) (d e:Int) (f:LA) (g:Int):StT (Nat×Int×LA×LA×LA) (Nat×LA):=fun (b,h,a,i,j)=>xet c d e f g b h a i j none inL inR
def xd6:=xuS.l 38 0 [54] [] Tryz.f89 1 lk0 [1,5,7,11,12,13,20,21,22] [1,5,11,12,13] [(5,3,54)] (q9 (xIj 115 xIH) (xIR 0 0 0) (xIS 1 0 0 0) (qL 2) qI qI (qL 2) qI qI) (q2 (qB 0 3 54 xIJ) (qB 0 2 148 (q1 (xIT (q2 (qL 3) (qL 2)))))) (fun (_,b,_,c,d,e,f,g,h,_) (a,((i,j,_),_),_)=>(xbA c d e f g,(b,h,a,i,j),fun p=>(.leaf (.exit 2) [AV.func 115 [],AV.osl 0 0 0 p.1,AV.list 2 c,AV.int .i64 d,AV.int .i64 e] [bF 0 3 54 p.2]))) (0,[]) fun (_,_,_,c,d,e,f,g,_,_) _ (b,h,a,i,j)=>((((),b,(),c,d,e,f,g,h,()),(a,((i,j,()),()),())),xet c d e f g b h a i j none)
def xd5 (a:LA) (e:Int) (d:Nat) (b:Int) (c:LA):=Iter (xbA a e b ((xeL (gC a b 1).toList).getD []) (↑((xeL (gC a b 1).toList).getD []).length:Int)) (d,0,c,(gC a b 0).toList,(gC a b 1).toList)
def xes {T:Type} (d:LA) (e:Int) (c:Nat) (b:Int) (a:LA) (δ:T) (κl:(Nat×Int×LA)->T) (κr:(Nat×LA)->T):T:=br (decide (b<e)) (br (ixI d b) (br (ixT d b 2 [Sh.list 3,Sh.list 2] 0) (br ((xeL (gC d b 1).toList).isSome) (br ((xd5 d e c b a).isSome) (κl (((xd5 d e c b a).getD (0,[])).fst,i64.wrap (b+1),((xd5 d e c b a).getD (0,[])).snd)) δ) δ) δ) δ) (κr (c,a))
def xcc (c:LA) (d:Int):StT (Nat×Int×LA) (Nat×LA):=fun (b,e,a)=>xes c d b e a none inL inR
def xjk:=xuS.l 38 0 [54] [(6,xd6.lp)] Tryz.f89 0 (lk1 xd6.ok) [1,5,11,12,13] [5] [(5,3,54)] (q5 (xIj 115 xIH) (xIR 0 0 0) (qL 2) qI qI) (q1 (qB 0 3 54 xIJ)) (fun (_,b,c,d,e,_) (a,_)=>(xcc c d,(b,e,a),fun p=>(.leaf (.exit 0) [AV.osl 0 0 0 p.1] [bF 0 3 54 p.2]))) (0,[]) fun (_,_,c,d,_,_) _ (b,e,a)=>((((),b,c,d,e,()),(a,())),xes c d b e a none)
def xhl (l:LA):=Iter (xcc ((xdD l).getD []) (↑((xdD l).getD []).length:Int)) (0,0,[])
def xdL (l:LA):=(xhl l).getD (0,[])
def xh6 {T:Type} (l:LA) (δ:T) (κ:LA->T):T:=br ((xdD l).isSome) (br ((xhl l).isSome) (br (decide (0+((xdL l).fst)<=((xdL l).snd).length)&&true) (κ (List.take ((xdL l).fst) (List.drop 0 ((xdL l).snd)))) δ) δ) δ
def xjG (l:LA):=xh6 l none some
def xEn:EO:=xuS.f Tryz.func89 38 0 [54] [(6,xd6.lp),(3,xjk.lp)] (lks (lkC xjk.ok (lkC xd6.ok lkN))) (u2 (uL 3) (sEq (xIj (115:FuncId) xIH))) (fun (l,_,_) _=>xh6 l) (fun _ p=>AV.list 3 p) []
def xk9 {T:Type} (l:LA) (δ:T) (κ:LA->T):T:=br ((xjG l).isSome) (κ ((xjG l).getD [])) δ
def xbz (l:LA):=xk9 l none some
def xuT:EO:=xEn.f Tryz.func78 5 0 [] [] lk0 (u1 (uL 3)) (fun (l,_) _=>xk9 l) (fun _ p=>AV.list 3 p) []
def xjU {T:Type} (h:LA) (i j:Int) (e:LA) (f:Int) (d:Nat) (c:Int) (a b g:LA) (δ:T) (κl:(Nat×Int×LA×LA×LA)->T) (κr:(Nat×LA)->T):T:=br (decide (c<f)) (br (ixI e c) (br (ixT e c 2 [Sh.int .i64,Sh.int .i64] 0) (br (decide (b.length*32<=140737488355328)&&decide (b.length<=4611686018427387904)) (br (decide (0+b.length<=b.length)&&true&&true&&true&&true) (br (rmB d a 1 40) (κl (d+1,i64.wrap (c+1),a++[AV.agg [AV.list 3 (List.take b.length (List.drop 0 b)),AV.int .i64 (gC e c 0).toInt,AV.int .i64 (gC e c 1).toInt]],b,g)) δ) δ) δ) δ) δ) (κr (d,a))
def xfk (c:LA) (d e:Int) (f:LA) (g:Int):StT (Nat×Int×LA×LA×LA) (Nat×LA):=fun (b,h,a,i,j)=>xjU c d e f g b h a i j none inL inR
def xd8:=xuT.l 38 0 [54] [] Tryz.f89 1 lk0 [1,5,7,11,12,13,20,21,22] [1,5,11,12,13] [(5,3,54)] (q9 (xIj 61 xIH) (xIR 0 0 0) (xIS 1 0 0 0) (qL 2) qI qI (qL 2) qI qI) (q2 (qB 0 3 54 xIJ) (qB 0 2 148 (q1 (xIT (q2 (qL 3) (qL 2)))))) (fun (_,b,_,c,d,e,f,g,h,_) (a,((i,j,_),_),_)=>(xfk c d e f g,(b,h,a,i,j),fun p=>(.leaf (.exit 2) [AV.func 61 [],AV.osl 0 0 0 p.1,AV.list 2 c,AV.int .i64 d,AV.int .i64 e] [bF 0 3 54 p.2]))) (0,[]) fun (_,_,_,c,d,e,f,g,_,_) _ (b,h,a,i,j)=>((((),b,(),c,d,e,f,g,h,()),(a,((i,j,()),()),())),xjU c d e f g b h a i j none)
def xd7 (a:LA) (e:Int) (d:Nat) (b:Int) (c:LA):=Iter (xfk a e b ((xhj (gC a b 1).toList).getD []) (↑((xhj (gC a b 1).toList).getD []).length:Int)) (d,0,c,(gC a b 0).toList,(gC a b 1).toList)
def xeu {T:Type} (d:LA) (e:Int) (c:Nat) (b:Int) (a:LA) (δ:T) (κl:(Nat×Int×LA)->T) (κr:(Nat×LA)->T):T:=br (decide (b<e)) (br (ixI d b) (br (ixT d b 2 [Sh.list 3,Sh.list 2] 0) (br ((xhj (gC d b 1).toList).isSome) (br ((xd7 d e c b a).isSome) (κl (((xd7 d e c b a).getD (0,[])).fst,i64.wrap (b+1),((xd7 d e c b a).getD (0,[])).snd)) δ) δ) δ) δ) (κr (c,a))
def xcd (c:LA) (d:Int):StT (Nat×Int×LA) (Nat×LA):=fun (b,e,a)=>xeu c d b e a none inL inR
def xjl:=xuT.l 38 0 [54] [(6,xd8.lp)] Tryz.f89 0 (lk1 xd8.ok) [1,5,11,12,13] [5] [(5,3,54)] (q5 (xIj 61 xIH) (xIR 0 0 0) (qL 2) qI qI) (q1 (qB 0 3 54 xIJ)) (fun (_,b,c,d,e,_) (a,_)=>(xcd c d,(b,e,a),fun p=>(.leaf (.exit 0) [AV.osl 0 0 0 p.1] [bF 0 3 54 p.2]))) (0,[]) fun (_,_,c,d,_,_) _ (b,e,a)=>((((),b,c,d,e,()),(a,())),xeu c d b e a none)
def xhm (l:LA):=Iter (xcd ((xdD l).getD []) (↑((xdD l).getD []).length:Int)) (0,0,[])
def xdM (l:LA):=(xhm l).getD (0,[])
def xh7 {T:Type} (l:LA) (δ:T) (κ:LA->T):T:=br ((xdD l).isSome) (br ((xhm l).isSome) (br (decide (0+((xdM l).fst)<=((xdM l).snd).length)&&true) (κ (List.take ((xdM l).fst) (List.drop 0 ((xdM l).snd)))) δ) δ) δ
def xjH (l:LA):=xh7 l none some
def xEo:EO:=xuT.f Tryz.func89 38 0 [54] [(6,xd8.lp),(3,xjl.lp)] (lks (lkC xjl.ok (lkC xd8.ok lkN))) (u2 (uL 3) (sEq (xIj (61:FuncId) xIH))) (fun (l,_,_) _=>xh7 l) (fun _ p=>AV.list 3 p) []
def xla {T:Type} (l:LA) (δ:T) (κ:LA->T):T:=br ((xjH l).isSome) (κ ((xjH l).getD [])) δ
def xgz (l:LA):=xla l none some
def xEp:EO:=xEo.f Tryz.func55 5 0 [] [] lk0 (u1 (uL 3)) (fun (l,_) _=>xla l) (fun _ p=>AV.list 3 p) []
def xk0 (a b:Int):Int:=((a))
def xv6 {T:Type} (a b:Int) (δ:T) (κ:Int->T):T:=κ (a)
def xzT:EO:=xEp.fT Tryz.func118 5 0 [] [] lk0 (fun ((a,b,_),_)=>xv6 a b none) (u1 (xIW (u2 uI uI))) (fun ((a,b,_),_)=>xk0 a b) (fun _ p=>(AV.int .i64 p))
def xmu (b:Nat) (a:LA):=decide (0+(i64.wrap ((↑b:Int) - 1)).toNat<a.length)&&xHV (Sh.int .i64) ((a.getD (0+(i64.wrap ((↑b:Int) - 1)).toNat) .top).cells.getD 0 .top)
def xmv (a:Nat):=decide (0<=i64.wrap ((↑a:Int) - 1))&&decide (i64.wrap ((↑a:Int) - 1)<(↑a:Int))
def xgt (b:LA) (k:Int):=decide (k.toNat<b.length)&&((b.getD k.toNat .top).cells.length==2&&xH1 [Sh.int .i64,Sh.int .i64] (b.getD k.toNat .top).cells 0)
def xgu (a:LA) (i:Int):=decide (i.toNat<a.length)&&((a.getD i.toNat .top).cells.length==2&&xH1 [Sh.int .i64,Sh.int .i64] (a.getD i.toNat .top).cells 0)
def xgv (b:LA) (k:Int):=ixI b k
def xgw (a:LA) (i:Int):=ixI a i
def xmw (a:Nat):=(↑a:Int)==0
def xen (b:LA) (k:Int):=xk0 (gC b k 0).toInt (gC b k 1).toInt
def xeo (a:LA) (i:Int):=xk0 (gC a i 0).toInt (gC a i 1).toInt
def xjh (a:LA) (c:Nat) (i:Int) (b:LA):=((b.getD (0+(i64.wrap ((↑c:Int) - 1)).toNat) .top).cells.getD 0 .top).toInt != xeo a i
def xji (b:LA) (c:Nat) (k:Int) (a:LA):=((a.getD (0+(i64.wrap ((↑c:Int) - 1)).toNat) .top).cells.getD 0 .top).toInt != xen b k
def xeU (a b:LA) (i k:Int):=decide (xeo a i<=xen b k)
def xel {T:Type} (a:LA) (c:Nat) (i k:Int) (b:LA) (δ:T) (κl:(Nat×Int×Int×LA)->T):T:=br (rmB c b 1 8) (κl (c+1,i64.wrap (i+1),k,b++[AV.int .i64 (xeo a i)])) δ
def xej {T:Type} (a:LA) (b:Nat) (i k:Int) (c:LA) (δ:T) (κl:(Nat×Int×Int×LA)->T):T:=br (xgw a i) (br (xgu a i) (br (xmw b) (xel a b i k c δ κl) (br (xmv b) (br (xmu b c) (br (xjh a b i c) (xel a b i k c δ κl) (κl (b,i64.wrap (i+1),k,c))) δ) δ)) δ) δ
def xem {T:Type} (b:LA) (c:Nat) (i k:Int) (a:LA) (δ:T) (κl:(Nat×Int×Int×LA)->T):T:=br (rmB c a 1 8) (κl (c+1,i,i64.wrap (k+1),a++[AV.int .i64 (xen b k)])) δ
def xek {T:Type} (b:LA) (a:Nat) (i k:Int) (c:LA) (δ:T) (κl:(Nat×Int×Int×LA)->T):T:=br (xgv b k) (br (xgt b k) (br (xmw a) (xem b a i k c δ κl) (br (xmv a) (br (xmu a c) (br (xji b a k c) (xem b a i k c δ κl) (κl (a,i,i64.wrap (k+1),c))) δ) δ)) δ) δ
def xei {T:Type} (a b:LA) (d:Nat) (i k:Int) (c:LA) (δ:T) (κl:(Nat×Int×Int×LA)->T):T:=br (k==(↑b.length:Int)) (xej a d i k c δ κl) (br (decide (i<a.length)) (br (xgw a i) (br (xgu a i) (br (xgv b k) (br (xgt b k) (br (xeU a b i k) (xej a d i k c δ κl) (xek b d i k c δ κl)) δ) δ) δ) δ) (xek b d i k c δ κl))
def xfr {T:Type} (a b:LA) (d:Nat) (i k:Int) (c:LA) (δ:T) (κl:(Nat×Int×Int×LA)->T) (κr:(Nat×LA)->T):T:=br (decide (i<a.length)) (xei a b d i k c δ κl) (br (decide (k<b.length)) (xei a b d i k c δ κl) (κr (d,c)))
def xa9 (a b:LA):StT (Nat×Int×Int×LA) (Nat×LA):=fun (d,i,k,c)=>xfr a b d i k c none inL inR
def xmt:=xzT.l 83 0 [] [] Tryz.f117 0 lk0 [0,1,2,3,9,10,11] [9] [(9,1,3)] (q7 (qL 2) (qL 2) (xIj 118 xIH) (xIj 118 xIH) (xIR 0 0 0) qI qI) (q1 (qB 0 1 3 xIJ)) (fun (a,b,_,_,d,i,k,_) (c,_)=>(xa9 a b,(d,i,k,c),fun p=>(.leaf (.exit 0) [AV.osl 0 0 0 p.1] [bF 0 1 3 p.2]))) (0,[]) fun (a,b,_,_,_,_,_,_) _ (d,i,k,c)=>(((a,b,(),(),d,i,k,()),(c,())),xfr a b d i k c none)
def xfi (a b:LA):=Iter (xa9 a b) (0,0,0,[])
def xmj {T:Type} (a b:LA) (δ:T) (κ:LA->T):T:=br ((xfi a b).isSome) (br (decide (0+(((xfi a b).getD (0,[])).fst)<=(((xfi a b).getD (0,[])).snd).length)&&true) (κ (List.take (((xfi a b).getD (0,[])).fst) (List.drop 0 (((xfi a b).getD (0,[])).snd)))) δ) δ
def xbr (a b:LA):=xmj a b none some
def xD8:EO:=xzT.f Tryz.func117 83 0 [] [(3,xmt.lp)] (lk1 xmt.ok) (u4 (uL 2) (uL 2) (sEq (xIj (118:FuncId) xIH)) (sEq (xIj (118:FuncId) xIH))) (fun (a,b,_,_,_) _=>xmj a b) (fun _ p=>AV.list 1 p) []
def xgg (a b t:Int):Int:=((xco a t))
def xuJ {T:Type} (a b t:Int) (δ:T) (κ:Int->T):T:=κ (xco a t)
def xzU:EO:=xD8.fT Tryz.func170 9 0 [] [] lk0 (fun ((a,b,_),t,_)=>xuJ a b t none) (u2 (xIW (u2 uI uI)) uI) (fun ((a,b,_),t,_)=>xgg a b t) (fun _ p=>(AV.int .i64 p))
def xaC (i j:Int):=i64.wrap ((u64.wrap (i64.wrap (i+j))).fdiv 2)
def xax (x:LA) (i j:Int):=(x.getD (xaC i j).toNat .top).cells
def xa5 {T:Type} (x:LA) (a n i j:Int) (δ:T) (κl:(Int×Int)->T) (κr:(Int)->T):T:=br (decide (i<j)) (br (decide (0<=xaC i j)&&decide (xaC i j<x.length)) (br (decide ((xaC i j).toNat<x.length)&&((xax x i j).length==2&&xH1 [Sh.int .i64,Sh.int .i64] (xax x i j) 0)) (br (decide (xgg ((xax x i j).getD 0 .top).toInt ((xax x i j).getD 1 .top).toInt a<0)) (κl (i64.wrap (xaC i j+1),j)) (κl (i,xaC i j))) δ) δ) (κr (i))
def xap (x:LA) (a n:Int):StT (Int×Int) (Int):=fun (i,j)=>xa5 x a n i j none inL inR
def xgj:=xzU.l 49 0 [] [] Tryz.f169 0 lk0 [0,1,2,8,9,10] [0,1,2,8,9] [] (q6 (qL 2) qI (xIj 170 xIH) qI qI qI) xIH (fun (x,a,_,n,i,j,_) _=>(xap x a n,(i,j),fun p=>(.leaf (.exit 0) [AV.list 2 x,AV.int .i64 a,AV.func 170 [],AV.int .i64 n,AV.int .i64 p] []))) 0 fun (x,a,_,n,_,_,_) _ (i,j)=>(((x,a,(),n,i,j,()),()),xa5 x a n i j none)
def xaD (l:LA) (t:Int):=(Iter (xap l t (↑l.length:Int)) (0,(↑l.length:Int))).getD 0
def xbi (l:LA) (t:Int):=(l.getD (xaD l t).toNat .top).cells
def xdk {T:Type} (l:LA) (t:Int) (δ:T) (κ:Int×Bool->T):T:=br ((Iter (xap l t (↑l.length:Int)) (0,(↑l.length:Int))).isSome) (br (decide (xaD l t<l.length)) (br (decide (0<=xaD l t)&&decide (xaD l t<l.length)) (br (decide ((xaD l t).toNat<l.length)&&((xbi l t).length==2&&xH1 [Sh.int .i64,Sh.int .i64] (xbi l t) 0)) (κ (xaD l t,xgg ((xbi l t).getD 0 .top).toInt ((xbi l t).getD 1 .top).toInt t==0)) δ) δ) (κ (xaD l t,false))) δ
def xbQ (l:LA) (t:Int):=xdk l t none some
def xD9:EO:=xzU.f Tryz.func169 49 0 [] [(3,xgj.lp)] (lk1 xgj.ok) (u3 (uL 2) uI (sEq (xIj (170:FuncId) xIH))) (fun (l,t,_,_) _=>xdk l t) (fun _ p=>AV.tuple [AV.int .i64 p.1,AV.bool p.2]) (0,false)
def xkx {T:Type} (l:LA) (t:Int) (δ:T) (κ:Int->T):T:=br ((xbQ l t).isSome) (br (((xbQ l t).getD (0,false)).snd) (κ (((xbQ l t).getD (0,false)).fst)) (κ (i64.wrap (((xbQ l t).getD (0,false)).fst - 1)))) δ
def xdy (l:LA) (t:Int):=xkx l t none some
def xEa:EO:=xD9.f Tryz.func140 17 0 [] [] lk0 (u2 (uL 2) uI) (fun (l,t,_) _=>xkx l t) (fun _ p=>AV.int .i64 p) 0
def xmH {T:Type} (l:LA) (t:Int) (δ:T) (κ:Int->T):T:=br (decide (t<0)) (κ (0)) (br (decide (t>=1099511627776)) (κ (0)) (br ((xdy l t).isSome) (br (decide ((xdy l t).getD 0<0)) (κ (0)) (br (decide (0<=(xdy l t).getD 0)&&decide ((xdy l t).getD 0<(↑l.length:Int))) (br (decide (((xdy l t).getD 0).toNat<l.length)&&xHV (Sh.int .i64) ((l.getD ((xdy l t).getD 0).toNat .top).cells.getD 1 .top)) (κ (((l.getD ((xdy l t).getD 0).toNat .top).cells.getD 1 .top).toInt)) δ) δ)) δ))
def xbq (l:LA) (t:Int):=xmH l t none some
def xEb:EO:=xEa.f Tryz.func119 22 0 [] [] lk0 (u2 (uL 2) uI) (fun (l,t,_) _=>xmH l t) (fun _ p=>AV.int .i64 p) 0
def xkV (x y:Int):Int:=((i64.wrap (x+y)))
def xv3 {T:Type} (x y:Int) (δ:T) (κ:Int->T):T:=κ (i64.wrap (x+y))
def xEc:EO:=xEb.fT Tryz.func80 8 0 [] [] lk0 (fun (x,y,_)=>xv3 x y none) (u2 uI uI) (fun (x,y,_)=>xkV x y) (fun _ p=>(AV.int .i64 p))
def xkZ (x y:Int):Int:=((i64.wrap (x - y)))
def xv5 {T:Type} (x y:Int) (δ:T) (κ:Int->T):T:=κ (i64.wrap (x - y))
def xEd:EO:=xEc.fT Tryz.func82 8 0 [] [] lk0 (fun (x,y,_)=>xv5 x y none) (u2 uI uI) (fun (x,y,_)=>xkZ x y) (fun _ p=>(AV.int .i64 p))
def xkY (x y:Int):Int:=((if y<x then y else x))
def xv4 {T:Type} (x y:Int) (δ:T) (κ:Int->T):T:=κ (if y<x then y else x)
def xEe:EO:=xEd.fT Tryz.func88 8 0 [] [] lk0 (fun (x,y,_)=>xv4 x y none) (u2 uI uI) (fun (x,y,_)=>xkY x y) (fun _ p=>(AV.int .i64 p))
def xjt (x a:Int):Int:=((if 0>x then 0 else x))
def xuI {T:Type} (x a:Int) (δ:T) (κ:Int->T):T:=κ (if 0>x then 0 else x)
def xzV:EO:=xEe.fT Tryz.func81 7 0 [] [] lk0 (fun (x,a,_)=>xuI x a none) (u2 uI uI) (fun (x,a,_)=>xjt x a) (fun _ p=>(AV.int .i64 p))
def xgT (a b c:LA) (f:Nat) (d:Int) (e:LA):=xaZ f (gC c d 0).toInt (xkV ((xbq a (gC c d 0).toInt).getD 0) ((xbq b (gC c d 0).toInt).getD 0)) e
def xbF (a b e:LA) (d:Nat) (f:Int) (c:LA):=(xgT a b e d f c).getD (false,(0,[]),0,[])
def xe6 {T:Type} (a b f:LA) (g:Int) (d:Nat) (e:Int) (c:LA) (δ:T) (κl:(Nat×Int×LA)->T) (κr:(Nat×LA)->T):T:=br (decide (e<g)) (br (ixI f e) (br (ixS f e (Sh.int .i64) 0) (br ((xbq a (gC f e 0).toInt).isSome) (br ((xbq b (gC f e 0).toInt).isSome) (br ((xgT a b f d e c).isSome) (κl (br ((xbF a b f d e c).fst) (((xbF a b f d e c).snd).fst).fst (((xbF a b f d e c).snd).snd).fst,i64.wrap (e+1),br ((xbF a b f d e c).fst) (((xbF a b f d e c).snd).fst).snd (((xbF a b f d e c).snd).snd).snd)) δ) δ) δ) δ) δ) (κr (d,c))
def xbS (a b e:LA) (f:Int):StT (Nat×Int×LA) (Nat×LA):=fun (d,g,c)=>xe6 a b e f d g c none inL inR
def xj6:=xzV.l 38 0 [] [] Tryz.f79 0 lk0 [0,1,2,7,12,13,14] [2,7] [(7,2,132)] (q7 (qL 2) (qL 2) (xIj 80 xIH) (xIR 0 0 0) (qL 1) qI qI) (q1 (qB 0 2 132 xIJ)) (fun (a,b,_,d,e,f,g,_) (c,_)=>(xbS a b e f,(d,g,c),fun p=>(.leaf (.exit 0) [AV.func 80 [],AV.osl 0 0 0 p.1] [bF 0 2 132 p.2]))) (0,[]) fun (a,b,_,_,e,f,_,_) _ (d,g,c)=>(((a,b,(),d,e,f,g,()),(c,())),xe6 a b e f d g c none)
def xiB (a b:LA):=Iter (xbS a b ((xbr a b).getD []) (↑((xbr a b).getD []).length:Int)) (0,0,[])
def xde (a b:LA):=(xiB a b).getD (0,[])
def xjd {T:Type} (a b:LA) (δ:T) (κ:LA->T):T:=br ((xbr a b).isSome) (br ((xiB a b).isSome) (br ((↑((xde a b).fst):Int)==0) (κ ([AV.agg [AV.int .i64 0,AV.int .i64 0]])) (br (decide (0+((xde a b).fst)<=((xde a b).snd).length)&&true) (κ (List.take ((xde a b).fst) (List.drop 0 ((xde a b).snd)))) δ)) δ) δ
def xh1 (a b:LA):=xjd a b none some
def xzW:EO:=xzV.f Tryz.func79 38 0 [] [(3,xj6.lp)] (lk1 xj6.ok) (u3 (uL 2) (uL 2) (sEq (xIj (80:FuncId) xIH))) (fun (a,b,_,_) _=>xjd a b) (fun _ p=>AV.list 2 p) []
def xgW (a b c:LA) (f:Nat) (d:Int) (e:LA):=xaZ f (gC c d 0).toInt (xkZ ((xbq a (gC c d 0).toInt).getD 0) ((xbq b (gC c d 0).toInt).getD 0)) e
def xbI (a b e:LA) (d:Nat) (f:Int) (c:LA):=(xgW a b e d f c).getD (false,(0,[]),0,[])
def xe9 {T:Type} (a b f:LA) (g:Int) (d:Nat) (e:Int) (c:LA) (δ:T) (κl:(Nat×Int×LA)->T) (κr:(Nat×LA)->T):T:=br (decide (e<g)) (br (ixI f e) (br (ixS f e (Sh.int .i64) 0) (br ((xbq a (gC f e 0).toInt).isSome) (br ((xbq b (gC f e 0).toInt).isSome) (br ((xgW a b f d e c).isSome) (κl (br ((xbI a b f d e c).fst) (((xbI a b f d e c).snd).fst).fst (((xbI a b f d e c).snd).snd).fst,i64.wrap (e+1),br ((xbI a b f d e c).fst) (((xbI a b f d e c).snd).fst).snd (((xbI a b f d e c).snd).snd).snd)) δ) δ) δ) δ) δ) (κr (d,c))
def xbV (a b e:LA) (f:Int):StT (Nat×Int×LA) (Nat×LA):=fun (d,g,c)=>xe9 a b e f d g c none inL inR
def xj9:=xzW.l 38 0 [] [] Tryz.f79 0 lk0 [0,1,2,7,12,13,14] [2,7] [(7,2,132)] (q7 (qL 2) (qL 2) (xIj 82 xIH) (xIR 0 0 0) (qL 1) qI qI) (q1 (qB 0 2 132 xIJ)) (fun (a,b,_,d,e,f,g,_) (c,_)=>(xbV a b e f,(d,g,c),fun p=>(.leaf (.exit 0) [AV.func 82 [],AV.osl 0 0 0 p.1] [bF 0 2 132 p.2]))) (0,[]) fun (a,b,_,_,e,f,_,_) _ (d,g,c)=>(((a,b,(),d,e,f,g,()),(c,())),xe9 a b e f d g c none)
def xiE (a b:LA):=Iter (xbV a b ((xbr a b).getD []) (↑((xbr a b).getD []).length:Int)) (0,0,[])
def xdh (a b:LA):=(xiE a b).getD (0,[])
def xjg {T:Type} (a b:LA) (δ:T) (κ:LA->T):T:=br ((xbr a b).isSome) (br ((xiE a b).isSome) (br ((↑((xdh a b).fst):Int)==0) (κ ([AV.agg [AV.int .i64 0,AV.int .i64 0]])) (br (decide (0+((xdh a b).fst)<=((xdh a b).snd).length)&&true) (κ (List.take ((xdh a b).fst) (List.drop 0 ((xdh a b).snd)))) δ)) δ) δ
def xh3 (a b:LA):=xjg a b none some
def xzX:EO:=xzW.f Tryz.func79 38 0 [] [(3,xj9.lp)] (lk1 xj9.ok) (u3 (uL 2) (uL 2) (sEq (xIj (82:FuncId) xIH))) (fun (a,b,_,_) _=>xjg a b) (fun _ p=>AV.list 2 p) []
def xgV (a b c:LA) (f:Nat) (d:Int) (e:LA):=xaZ f (gC c d 0).toInt (xkY ((xbq a (gC c d 0).toInt).getD 0) ((xbq b (gC c d 0).toInt).getD 0)) e
def xbH (a b e:LA) (d:Nat) (f:Int) (c:LA):=(xgV a b e d f c).getD (false,(0,[]),0,[])
def xe8 {T:Type} (a b f:LA) (g:Int) (d:Nat) (e:Int) (c:LA) (δ:T) (κl:(Nat×Int×LA)->T) (κr:(Nat×LA)->T):T:=br (decide (e<g)) (br (ixI f e) (br (ixS f e (Sh.int .i64) 0) (br ((xbq a (gC f e 0).toInt).isSome) (br ((xbq b (gC f e 0).toInt).isSome) (br ((xgV a b f d e c).isSome) (κl (br ((xbH a b f d e c).fst) (((xbH a b f d e c).snd).fst).fst (((xbH a b f d e c).snd).snd).fst,i64.wrap (e+1),br ((xbH a b f d e c).fst) (((xbH a b f d e c).snd).fst).snd (((xbH a b f d e c).snd).snd).snd)) δ) δ) δ) δ) δ) (κr (d,c))
def xbU (a b e:LA) (f:Int):StT (Nat×Int×LA) (Nat×LA):=fun (d,g,c)=>xe8 a b e f d g c none inL inR
def xj8:=xzX.l 38 0 [] [] Tryz.f79 0 lk0 [0,1,2,7,12,13,14] [2,7] [(7,2,132)] (q7 (qL 2) (qL 2) (xIj 88 xIH) (xIR 0 0 0) (qL 1) qI qI) (q1 (qB 0 2 132 xIJ)) (fun (a,b,_,d,e,f,g,_) (c,_)=>(xbU a b e f,(d,g,c),fun p=>(.leaf (.exit 0) [AV.func 88 [],AV.osl 0 0 0 p.1] [bF 0 2 132 p.2]))) (0,[]) fun (a,b,_,_,e,f,_,_) _ (d,g,c)=>(((a,b,(),d,e,f,g,()),(c,())),xe8 a b e f d g c none)
def xiD (a b:LA):=Iter (xbU a b ((xbr a b).getD []) (↑((xbr a b).getD []).length:Int)) (0,0,[])
def xdg (a b:LA):=(xiD a b).getD (0,[])
def xjf {T:Type} (a b:LA) (δ:T) (κ:LA->T):T:=br ((xbr a b).isSome) (br ((xiD a b).isSome) (br ((↑((xdg a b).fst):Int)==0) (κ ([AV.agg [AV.int .i64 0,AV.int .i64 0]])) (br (decide (0+((xdg a b).fst)<=((xdg a b).snd).length)&&true) (κ (List.take ((xdg a b).fst) (List.drop 0 ((xdg a b).snd)))) δ)) δ) δ
def xh2 (a b:LA):=xjf a b none some
def xzY:EO:=xzX.f Tryz.func79 38 0 [] [(3,xj8.lp)] (lk1 xj8.ok) (u3 (uL 2) (uL 2) (sEq (xIj (88:FuncId) xIH))) (fun (a,b,_,_) _=>xjf a b) (fun _ p=>AV.list 2 p) []
def xgU (a b c:LA) (f:Nat) (d:Int) (e:LA):=xaZ f (gC c d 0).toInt (xjt ((xbq a (gC c d 0).toInt).getD 0) ((xbq b (gC c d 0).toInt).getD 0)) e
def xbG (a b e:LA) (d:Nat) (f:Int) (c:LA):=(xgU a b e d f c).getD (false,(0,[]),0,[])
def xe7 {T:Type} (a b f:LA) (g:Int) (d:Nat) (e:Int) (c:LA) (δ:T) (κl:(Nat×Int×LA)->T) (κr:(Nat×LA)->T):T:=br (decide (e<g)) (br (ixI f e) (br (ixS f e (Sh.int .i64) 0) (br ((xbq a (gC f e 0).toInt).isSome) (br ((xbq b (gC f e 0).toInt).isSome) (br ((xgU a b f d e c).isSome) (κl (br ((xbG a b f d e c).fst) (((xbG a b f d e c).snd).fst).fst (((xbG a b f d e c).snd).snd).fst,i64.wrap (e+1),br ((xbG a b f d e c).fst) (((xbG a b f d e c).snd).fst).snd (((xbG a b f d e c).snd).snd).snd)) δ) δ) δ) δ) δ) (κr (d,c))
def xbT (a b e:LA) (f:Int):StT (Nat×Int×LA) (Nat×LA):=fun (d,g,c)=>xe7 a b e f d g c none inL inR
def xj7:=xzY.l 38 0 [] [] Tryz.f79 0 lk0 [0,1,2,7,12,13,14] [2,7] [(7,2,132)] (q7 (qL 2) (qL 2) (xIj 81 xIH) (xIR 0 0 0) (qL 1) qI qI) (q1 (qB 0 2 132 xIJ)) (fun (a,b,_,d,e,f,g,_) (c,_)=>(xbT a b e f,(d,g,c),fun p=>(.leaf (.exit 0) [AV.func 81 [],AV.osl 0 0 0 p.1] [bF 0 2 132 p.2]))) (0,[]) fun (a,b,_,_,e,f,_,_) _ (d,g,c)=>(((a,b,(),d,e,f,g,()),(c,())),xe7 a b e f d g c none)
def xiC (a b:LA):=Iter (xbT a b ((xbr a b).getD []) (↑((xbr a b).getD []).length:Int)) (0,0,[])
def xdf (a b:LA):=(xiC a b).getD (0,[])
def xje {T:Type} (a b:LA) (δ:T) (κ:LA->T):T:=br ((xbr a b).isSome) (br ((xiC a b).isSome) (br ((↑((xdf a b).fst):Int)==0) (κ ([AV.agg [AV.int .i64 0,AV.int .i64 0]])) (br (decide (0+((xdf a b).fst)<=((xdf a b).snd).length)&&true) (κ (List.take ((xdf a b).fst) (List.drop 0 ((xdf a b).snd)))) δ)) δ) δ
def xf9 (a b:LA):=xje a b none some
def xEf:EO:=xzY.f Tryz.func79 38 0 [] [(3,xj7.lp)] (lk1 xj7.ok) (u3 (uL 2) (uL 2) (sEq (xIj (81:FuncId) xIH))) (fun (a,b,_,_) _=>xje a b) (fun _ p=>AV.list 2 p) []
def xof {T:Type} (a b:LA) (δ:T) (κ:LA->T):T:=br ((xh1 a b).isSome) (κ ((xh1 a b).getD [])) δ
def xlx (a b:LA):=xof a b none some
def xEg:EO:=xEf.f Tryz.func43 8 0 [] [] lk0 (u2 (uL 2) (uL 2)) (fun (a,b,_) _=>xof a b) (fun _ p=>AV.list 2 p) []
def xoj {T:Type} (a b:LA) (δ:T) (κ:LA->T):T:=br ((xh3 a b).isSome) (κ ((xh3 a b).getD [])) δ
def xl2 (a b:LA):=xoj a b none some
def xC0:EO:=xEg.f Tryz.func47 8 0 [] [] lk0 (u2 (uL 2) (uL 2)) (fun (a,b,_) _=>xoj a b) (fun _ p=>AV.list 2 p) []
def xog {T:Type} (a b:LA) (δ:T) (κ:LA->T):T:=br ((xh2 a b).isSome) (κ ((xh2 a b).getD [])) δ
def xl1 (a b:LA):=xog a b none some
def xC1:EO:=xC0.f Tryz.func53 8 0 [] [] lk0 (u2 (uL 2) (uL 2)) (fun (a,b,_) _=>xog a b) (fun _ p=>AV.list 2 p) []
def xnw {T:Type} (l:LA) (δ:T) (κ:LA->T):T:=br ((xf9 l []).isSome) (κ ((xf9 l []).getD [])) δ
def xmI (l:LA):=xnw l none some
def xC2:EO:=xC1.f Tryz.func46 5 0 [] [] lk0 (u1 (uL 2)) (fun (l,_) _=>xnw l) (fun _ p=>AV.list 2 p) []
def xjP {T:Type} (x y:LA) (δ:T) (κ:LA->T):T:=br ((xl2 x y).isSome) (br ((xmI ((xl2 x y).getD [])).isSome) (κ ((xmI ((xl2 x y).getD [])).getD [])) δ) δ
def xgK (x y:LA):=xjP x y none some
def xsW:EO:=xC2.f Tryz.func45 9 0 [] [] lk0 (u2 (uL 2) (uL 2)) (fun (x,y,_) _=>xjP x y) (fun _ p=>AV.list 2 p) []
def xfS (b a:Bool):Int:=(br (b) (((-1))) (br (a) ((1)) ((0))))
def xvS {T:Type} (b a:Bool) (δ:T) (κ:Int->T):T:=br (b) (κ ((-1))) (br (a) (κ (1)) (κ (0)))
def xEq:EO:=xsW.fT Tryz.func134 7 0 [] [] lk0 (fun (b,a,_)=>xvS b a none) (u2 (sEq pBool) (sEq pBool)) (fun (b,a,_)=>xfS b a) (fun _ p=>(AV.int .i64 p))
def xfF (a b:Int) (c:List UInt8) (d e:Int) (f:List UInt8):Int:=(br (a != d) ((xfS (decide (a<d)) (decide (a>d)))) (br (b != e) ((xfS (decide (b<e)) (decide (b>e)))) ((xfS (Op.bytesLess c f) !(Op.bytesLess c f || c==f)))))
def xsu {T:Type} (a b:Int) (c:List UInt8) (d e:Int) (f:List UInt8) (δ:T) (κ:Int->T):T:=br (a != d) (κ (xfS (decide (a<d)) (decide (a>d)))) (br (b != e) (κ (xfS (decide (b<e)) (decide (b>e)))) (κ (xfS (Op.bytesLess c f) !(Op.bytesLess c f || c==f))))
def xz1:EO:=xEq.fT Tryz.func103 48 0 [] [] lk0 (fun ((a,b,c,_),(d,e,f,_),_)=>xsu a b c d e f none) (u2 (xIW (u3 uI uI (sEq pStr))) (xIW (u3 uI uI (sEq pStr)))) (fun ((a,b,c,_),(d,e,f,_),_)=>xfF a b c d e f) (fun _ p=>(AV.int .i64 p))
def xcQ (a b:LA) (i:Int):=xfF (gC a i 0).toInt (gC a i 1).toInt (gC a i 2).toStr (gC b i 0).toInt (gC b i 1).toInt (gC b i 2).toStr
def xc8 {T:Type} (a b:LA) (i:Int) (δ:T) (κl:(Int)->T) (κr:(Bool×(Int)×(Unit))->T):T:=br (decide (i<a.length)) (br (decide (i<b.length)) (br (ixI a i) (br (ixT a i 3 [Sh.int .i64,Sh.int .i64,Sh.str] 0) (br (ixI b i) (br (ixT b i 3 [Sh.int .i64,Sh.int .i64,Sh.str] 0) (br (xcQ a b i != 0) (κr (true,(xcQ a b i),())) (κl (i64.wrap (i+1)))) δ) δ) δ) δ) (κr (false,0,()))) (κr (false,0,()))
def xaV (a b:LA):StT (Int) (Bool×(Int)×(Unit)):=fun (i)=>xc8 a b i none inL inR
def xk7:=xz1.l 41 0 [] [] Tryz.f73 0 lk0 [0,1,5] [0,1,4] [] (q3 (qL 3) (qL 3) qI) xIH (fun (a,b,i,_) _=>(xaV a b,(i),fun p=>(.node p.1 (.leaf .ret [AV.list 3 a,AV.list 3 b,AV.int .i64 p.2.1] []) (.leaf (.exit 0) [AV.list 3 a,AV.list 3 b,.top] [])))) (false,0,()) fun (a,b,_,_) _ (i)=>(((a,b,i,()),()),xc8 a b i none)
def xkF {T:Type} (a b:LA) (δ:T) (κ:Int->T):T:=br ((Iter (xaV a b) 0).isSome) (br (((Iter (xaV a b) 0).getD (false,0,())).fst) (κ (((Iter (xaV a b) 0).getD (false,0,())).snd.fst)) (br (decide ((↑a.length:Int)<(↑b.length:Int))) (κ ((-1))) (br (decide ((↑a.length:Int)>(↑b.length:Int))) (κ (1)) (κ (0))))) δ
def xcr (a b:LA):=xkF a b none some
def xz2:EO:=xz1.f Tryz.func73 41 0 [] [(2,xk7.lp)] (lk1 xk7.ok) (u2 (uL 3) (uL 3)) (fun (a,b,_) _=>xkF a b) (fun _ p=>AV.int .i64 p) 0
def xpw {T:Type} (a b:LA) (δ:T) (κ:Bool->T):T:=br ((xcr a b).isSome) (κ ((xcr a b).getD 0==0)) δ
def xn9 (a b:LA):=xpw a b none some
def xe1 {T:Type} (a b:LA) (i:Int) (δ:T) (κl:(Int)->T) (κr:(Bool×(Bool)×(Unit))->T):T:=br (decide (i<a.length)) (br (ixI a i) (br (ixT a i 3 [Sh.int .i64,Sh.int .i64] 1) (br (ixI b i) (br (ixT b i 3 [Sh.int .i64,Sh.int .i64] 1) (br (!((gC a i 1).toInt==(gC b i 1).toInt&&((gC a i 2).toInt==(gC b i 2).toInt&&true))) (κr (true,(false),())) (br (ixI a i) (br (ixS a i (Sh.list 3) 0) (br (ixI b i) (br (ixS b i (Sh.list 3) 0) (br ((xcr (gC a i 0).toList (gC b i 0).toList).isSome) (br ((xcr (gC a i 0).toList (gC b i 0).toList).getD 0 != 0) (κr (true,(false),())) (κl (i64.wrap (i+1)))) δ) δ) δ) δ) δ)) δ) δ) δ) δ) (κr (false,false,()))
def xbh (a b:LA):StT (Int) (Bool×(Bool)×(Unit)):=fun (i)=>xe1 a b i none inL inR
def xj3:=xz2.l 42 0 [] [] Tryz.f35 0 lk0 [0,1,5] [4] [] (q3 (qL 3) (qL 3) qI) xIH (fun (a,b,i,_) _=>(xbh a b,(i),fun p=>(.node p.1 (.leaf .ret [AV.bool p.2.1] []) (.leaf (.exit 0) [.top] [])))) (false,false,()) fun (a,b,_,_) _ (i)=>(((a,b,i,()),()),xe1 a b i none)
def xi9 {T:Type} (a b:LA) (δ:T) (κ:Bool->T):T:=br ((↑a.length:Int) != (↑b.length:Int)) (κ (false)) (br ((Iter (xbh a b) 0).isSome) (br (((Iter (xbh a b) 0).getD (false,false,())).fst) (κ (((Iter (xbh a b) 0).getD (false,false,())).snd.fst)) (κ (true))) δ)
def xbm (a b:LA):=xi9 a b none some
def xEr:EO:=xz2.f Tryz.func35 42 0 [] [(4,xj3.lp)] (lk1 xj3.ok) (u2 (uL 3) (uL 3)) (fun (a,b,_) _=>xi9 a b) (fun _ p=>AV.bool p) false
def xhh (a b:Int):Bool:=(br (decide (a>=0)) (br (decide (a<b)) ((decide (b<=1099511627776))) ((false))) ((false)))
def xuC {T:Type} (a b:Int) (δ:T) (κ:Bool->T):T:=br (decide (a>=0)) (br (decide (a<b)) (κ (decide (b<=1099511627776))) (κ (false))) (κ (false))
def xEs:EO:=xEr.fT Tryz.func83 18 0 [] [] lk0 (fun ((a,b,_),_)=>xuC a b none) (u1 (xIW (u2 uI uI))) (fun ((a,b,_),_)=>xhh a b) (fun _ p=>(AV.bool p))
def xiW (a b t:Int):Bool:=(br (xhh a b) (br (decide (a<=t)) ((decide (t<b))) ((false))) ((false)))
def xrG {T:Type} (a b t:Int) (δ:T) (κ:Bool->T):T:=br (xhh a b) (br (decide (a<=t)) (κ (decide (t<b))) (κ (false))) (κ (false))
def xEt:EO:=xEs.fT Tryz.func72 19 0 [] [] lk0 (fun ((a,b,_),t,_)=>xrG a b t none) (u2 (xIW (u2 uI uI)) uI) (fun ((a,b,_),t,_)=>xiW a b t) (fun _ p=>(AV.bool p))
def xzw:Int×Int×List UInt8:=((0,0,[]))
def xvR {T:Type} (δ:T) (κ:Int×Int×List UInt8->T):T:=κ (0,0,[])
def xC3:EO:=xEt.fT Tryz.func203 2 0 [] [] lk0 (fun _=>xvR none) xII (fun _=>xzw) (fun _ p=>(AV.agg [AV.int .i64 p.1,AV.int .i64 p.2.1,AV.str p.2.2]))
def xsv {T:Type} (a:LA) (i:Int) (δ:T) (κ:Int×Int×List UInt8->T):T:=br (decide (i<0)) (κ (0,0,[])) (br (decide (i>=a.length)) (κ (0,0,[])) (br (ixI a i) (br (ixT a i 3 [Sh.int .i64,Sh.int .i64,Sh.str] 0) (κ ((gC a i 0).toInt,(gC a i 1).toInt,(gC a i 2).toStr)) δ) δ))
def xo2 (a:LA) (i:Int):=xsv a i none some
def xwS:EO:=xC3.f Tryz.func179 18 0 [] [] lk0 (u2 (uL 3) uI) (fun (a,i,_) _=>xsv a i) (fun _ p=>AV.agg [AV.int .i64 p.1,AV.int .i64 p.2.1,AV.str p.2.2]) (0,0,[])
def xis (b o:LA) (i:Int):=(xo2 b (gC o i 0).toInt).getD (0,0,[])
def xit (a o:LA) (i:Int):=(xo2 a (gC o i 0).toInt).getD (0,0,[])
def xlS (a b o:LA) (i:Int):=xfF (xit a o i).fst ((xit a o i).snd).fst ((xit a o i).snd).snd (xis b o i).fst ((xis b o i).snd).fst ((xis b o i).snd).snd
def xi7 {T:Type} (a b o:LA) (i:Int) (δ:T) (κl:(Int)->T) (κr:(Bool×(Bool)×(Unit))->T):T:=br (decide (i<o.length)) (br (ixI o i) (br (ixS o i (Sh.int .i64) 0) (br ((xo2 a (gC o i 0).toInt).isSome) (br (ixI o i) (br (ixS o i (Sh.int .i64) 0) (br ((xo2 b (gC o i 0).toInt).isSome) (br (xlS a b o i != 0) (br (ixI o i) (br (decide (i.toNat<o.length)&&xHV Sh.bool (gC o i 1)) (κr (true,(!decide (xlS a b o i<0)==(gC o i 1).toBool),())) δ) δ) (κl (i64.wrap (i+1)))) δ) δ) δ) δ) δ) δ) (κr (false,false,()))
def xcv (a b o:LA):StT (Int) (Bool×(Bool)×(Unit)):=fun (i)=>xi7 a b o i none inL inR
def xlR:=xwS.l 44 0 [] [] Tryz.f150 0 lk0 [0,1,2,7] [0,1,6] [] (q4 (qL 3) (qL 3) (qL 2) qI) xIH (fun (a,b,o,i,_) _=>(xcv a b o,(i),fun p=>(.node p.1 (.leaf .ret [AV.list 3 a,AV.list 3 b,AV.bool p.2.1] []) (.leaf (.exit 0) [AV.list 3 a,AV.list 3 b,.top] [])))) (false,false,()) fun (a,b,o,_,_) _ (i)=>(((a,b,o,i,()),()),xi7 a b o i none)
def xln {T:Type} (a b o:LA) (δ:T) (κ:Bool->T):T:=br ((Iter (xcv a b o) 0).isSome) (br (((Iter (xcv a b o) 0).getD (false,false,())).fst) (κ (((Iter (xcv a b o) 0).getD (false,false,())).snd.fst)) (br ((xcr a b).isSome) (κ (decide ((xcr a b).getD 0<0))) δ)) δ
def xkG (a b o:LA):=xln a b o none some
def xwT:EO:=xwS.f Tryz.func150 44 0 [] [(2,xlR.lp)] (lk1 xlR.ok) (u3 (uL 3) (uL 3) (uL 2)) (fun (a,b,o,_) _=>xln a b o) (fun _ p=>AV.bool p) false
def xb4 {T:Type} (b:LA) (c:Nat) (i k:Int) (a:LA) (δ:T) (κl:(Nat×Int×Int×LA)->T):T:=br (ixI b k) (br (ixS b k (Sh.list 3) 0) (br (rmB c a 1 24) (κl (c+1,i,i64.wrap (k+1),a++[AV.list 3 (gC b k 0).toList])) δ) δ) δ
def xb5 {T:Type} (a:LA) (c:Nat) (i k:Int) (b:LA) (δ:T) (κl:(Nat×Int×Int×LA)->T):T:=br (ixI a i) (br (ixS a i (Sh.list 3) 0) (br (rmB c b 1 24) (κl (c+1,i64.wrap (i+1),k,b++[AV.list 3 (gC a i 0).toList])) δ) δ) δ
def xb3 {T:Type} (a b o:LA) (d:Nat) (i k:Int) (c:LA) (δ:T) (κl:(Nat×Int×Int×LA)->T):T:=br (i==(↑a.length:Int)) (xb4 b d i k c δ κl) (br (decide (k<b.length)) (br (ixI b k) (br (ixS b k (Sh.list 3) 0) (br (ixI a i) (br (ixS a i (Sh.list 3) 0) (br ((xkG (gC b k 0).toList (gC a i 0).toList o).isSome) (br ((xkG (gC b k 0).toList (gC a i 0).toList o).getD false) (xb4 b d i k c δ κl) (xb5 a d i k c δ κl)) δ) δ) δ) δ) δ) (xb5 a d i k c δ κl))
def xcK {T:Type} (a b o:LA) (d:Nat) (i k:Int) (c:LA) (δ:T) (κl:(Nat×Int×Int×LA)->T) (κr:(Nat×LA)->T):T:=br (decide (i<a.length)) (xb3 a b o d i k c δ κl) (br (decide (k<b.length)) (xb3 a b o d i k c δ κl) (κr (d,c)))
def xa2 (a b o:LA):StT (Nat×Int×Int×LA) (Nat×LA):=fun (d,i,k,c)=>xcK a b o d i k c none inL inR
def xlT:=xwT.l 62 0 [] [] Tryz.f133 0 lk0 [0,1,2,7,8,9] [7] [(7,1,47)] (q6 (qL 1) (qL 1) (qL 2) (xIR 0 0 0) qI qI) (q1 (qB 0 1 47 xIJ)) (fun (a,b,o,d,i,k,_) (c,_)=>(xa2 a b o,(d,i,k,c),fun p=>(.leaf (.exit 0) [AV.osl 0 0 0 p.1] [bF 0 1 47 p.2]))) (0,[]) fun (a,b,o,_,_,_,_) _ (d,i,k,c)=>(((a,b,o,d,i,k,()),(c,())),xcK a b o d i k c none)
def xeB (a b o:LA):=Iter (xa2 a b o) (0,0,0,[])
def xlo {T:Type} (a b o:LA) (δ:T) (κ:LA->T):T:=br ((xeB a b o).isSome) (br (decide (0+(((xeB a b o).getD (0,[])).fst)<=(((xeB a b o).getD (0,[])).snd).length)&&true) (κ (List.take (((xeB a b o).getD (0,[])).fst) (List.drop 0 (((xeB a b o).getD (0,[])).snd)))) δ) δ
def xnf (a b o:LA):=xlo a b o none some
def xqu:EO:=xwT.f Tryz.func133 62 0 [] [(3,xlT.lp)] (lk1 xlT.ok) (u3 (uL 1) (uL 1) (uL 2)) (fun (a,b,o,_) _=>xlo a b o) (fun _ p=>AV.list 1 p) []
def xjN (R:LA->LA->Option (LA)):LA->Option (Bool×AV):=ocOf (xIG (xIV 1 xIJ) (xIG (xIV 2 xIJ) xII)) fun (l,(o,_))=>((R l o).isSome,AV.list 1 ((R l o).getD []))
def xgo (R:LA->LA->Option (LA)):Prop:=OcOk P0 xIE 101 (xjN R)
def xfh (R:LA->LA->Option (LA)):Env:=(xqu.E.with 101 (xjN R)).fn 34 0 (lsOf []) (xIi [])
def xqK (R:LA->LA->Option (LA)) (a:xgo R):xHX P0 (xIE.at 0) (xfh R):=(xqu.ok.with a).fn
def xo3 (R:LA->LA->Option (LA)) (a:xgo R):LoOk P0 (xIE.at (xfh R).pin) (xfh R) (Tryz.f101.body.getD .skip):=xgd (by kernel_rfl)
def xgF (l:LA):=decide (0<=i64.wrap ((↑l.length:Int).tdiv 2))&&decide (i64.wrap ((↑l.length:Int).tdiv 2)<=(↑l.length:Int))
def xdZ (l:LA):Nat:=0+((l.getD 0 .top).cells.getD 0 .top).toList.length
def xgG (R:LA->LA->Option (LA)) (l o:LA):Option (LA):=R (List.take (l.length - (i64.wrap ((↑l.length:Int).tdiv 2)).toNat) (List.drop (i64.wrap ((↑l.length:Int).tdiv 2)).toNat l)) o
def xgE (R:LA->LA->Option (LA)) (l o:LA):Option (LA):=xnf ((R (List.take ((i64.wrap ((↑l.length:Int).tdiv 2)).toNat - 0) (List.drop 0 l)) o).getD []) ((xgG R l o).getD []) o
def xdH {T:Type} (R:LA->LA->Option (LA)) (l o:LA) (δ:T) (κ:LA->T):T:=br ((↑l.length:Int)==0) (κ ([])) (br ((↑l.length:Int)==1) (br (decide (0<(↑l.length:Int))) (br (decide (0<l.length)&&xHV (Sh.list 3) ((l.getD 0 .top).cells.getD 0 .top)) (br (decide (xdZ l*32<=140737488355328)&&decide (xdZ l<=4611686018427387904)) (br (decide (0+xdZ l<=([]++((l.getD 0 .top).cells.getD 0 .top).toList).length)&&true&&true&&true) (κ ([AV.list 3 (List.take (xdZ l) (List.drop 0 ([]++((l.getD 0 .top).cells.getD 0 .top).toList)))])) δ) δ) δ) δ) (br (xgF l&&true) (br ((R (List.take ((i64.wrap ((↑l.length:Int).tdiv 2)).toNat - 0) (List.drop 0 l)) o).isSome) (br (xgF l) (br ((xgG R l o).isSome) (br ((xgE R l o).isSome) (κ ((xgE R l o).getD [])) δ) δ) δ) δ) δ))
def xbJ (R:LA->LA->Option (LA)) (l o:LA):=xdH R l o none some
def xuF (R:LA->LA->Option (LA)) (l o:LA):Enc (fun (p:LA)=>((AV.list 1 p):AV)) (xbJ R l o) (XF P0 (xfh R) Tryz.f101 (Tryz.f101.body.getD .skip) [AV.list 1 l,AV.list 2 o]):=by
 have h:XF P0 (xfh R) Tryz.f101 (Tryz.f101.body.getD .skip) [AV.list 1 l,AV.list 2 o]=xdH R l o none (fun (p:LA)=>some ((AV.list 1 p):AV)):=by kernel_rfl
 rw [h];unfold xbJ xdH;repeat' (first|refine Enc.br ?_ ?_|exact Enc.none|exact Enc.some rfl)
def xuE (R:LA->LA->Option (LA)):LA->Option (Bool×AV):=ocOf (xIG (xIV 1 xIJ) (xIG (xIV 2 xIJ) xII)) fun (l,(o,_))=>((xbJ R l o).isSome,(AV.list 1 ((xbJ R l o).getD [])))
def xuD (R:LA->LA->Option (LA)) (a:xgo R):OcOk P0 xIE 101 (xuE R):=xli fun e g f=>by
 obtain ⟨l,⟨o,_⟩⟩:=e;obtain ⟨b,c⟩:=Prod.mk.inj f;refine xlc (p:=(xfh R).pin) (xos xH5 (xH6 P0 _) rfl (xqK R a) Tryz.func101 rfl (by kernel_rfl) (xo3 R a) ((xuF R _ _ _ (xdV (d:=[]) b)).trans ?_))
 exact congrArg some c
def xby:Nat->LA->LA->Option (LA)
 | 0=>fun _ _=>none
 | fu_+1=>fun l o=>xbJ (xby fu_) l o
def xnd:∀ n,xgo (xby n)
 | 0=>xli fun _ _ h=>absurd (Prod.mk.inj h).1 Bool.false_ne_true
 | fu_+1=>fun a r h=>xuD (xby fu_) (xnd fu_) a r h
def xwU:Env:=xqu.E.with 101 (xjN (xby 1000))
def xyT:xHX P0 xIE xwU:=xqu.ok.with (xnd _)
def xyS:EO:=EO.mk xwU xyT
def xne {T:Type} (l:LA) (δ:T) (κ:LA->T):T:=br ((xby 1000 l []).isSome) (κ ((xby 1000 l []).getD [])) δ
def xiX (l:LA):=xne l none some
def xwV:EO:=xyS.f Tryz.func67 5 0 [] [] lk0 (u1 (uL 1)) (fun (l,_) _=>xne l) (fun _ p=>AV.list 1 p) []
def xex (a:LA) (i:Int):=xn9 ((a.getD (i64.wrap (i - 1)).toNat .top).cells.getD 0 .top).toList (gC a i 0).toList
def xc9 {T:Type} (c:LA) (b:Nat) (i:Int) (a:LA) (δ:T) (κl:(Nat×Int×LA)->T):T:=br (ixI c i) (br (ixS c i (Sh.list 3) 0) (br (rmB b a 1 24) (κl (b+1,i64.wrap (i+1),a++[AV.list 3 (gC c i 0).toList])) δ) δ) δ
def xfw {T:Type} (a:LA) (c:Nat) (i:Int) (b:LA) (δ:T) (κl:(Nat×Int×LA)->T) (κr:(Nat×LA)->T):T:=br (decide (i<a.length)) (br (i==0) (xc9 a c i b δ κl) (br (decide (0<=i64.wrap (i - 1))&&decide (i64.wrap (i - 1)<(↑a.length:Int))) (br (decide ((i64.wrap (i - 1)).toNat<a.length)&&xHV (Sh.list 3) ((a.getD (i64.wrap (i - 1)).toNat .top).cells.getD 0 .top)) (br (ixI a i) (br (ixS a i (Sh.list 3) 0) (br ((xex a i).isSome) (br (!(xex a i).getD false) (xc9 a c i b δ κl) (κl (c,i64.wrap (i+1),b))) δ) δ) δ) δ) δ)) (κr (c,b))
def xb0 (c:LA):StT (Nat×Int×LA) (Nat×LA):=fun (b,i,a)=>xfw c b i a none inL inR
def xeQ (l:LA):=(Iter (xb0 ((xiX l).getD [])) (0,0,[])).getD (0,[])
def xna {T:Type} (l:LA) (δ:T) (κ:LA->T):T:=br ((xiX l).isSome) (br ((Iter (xb0 ((xiX l).getD [])) (0,0,[])).isSome) (br (decide (0+((xeQ l).fst)<=((xeQ l).snd).length)&&true) (κ (List.take ((xeQ l).fst) (List.drop 0 ((xeQ l).snd)))) δ) δ) δ
def xlm (l:LA):=xna l none some
def xhd {T:Type} (k:Nat) (a n:Int) (b:LA) (δ:T) (κ:Bool×(Nat×LA)×(Nat×LA)->T):T:=br (rmB k b 1 16) (κ (false,(0,[]),(k+1,b++[AV.agg [AV.int .i64 a,AV.int .i64 n]]))) δ
def xlE {T:Type} (k:Nat) (a n:Int) (b:LA) (δ:T) (κ:Bool×(Nat×LA)×(Nat×LA)->T):T:=br (decide ((↑k:Int)>0)) (br (decide (0<=i64.wrap ((↑k:Int) - 1))&&decide (i64.wrap ((↑k:Int) - 1)<(↑k:Int))) (br (decide (0+(i64.wrap ((↑k:Int) - 1)).toNat<b.length)&&xHV (Sh.int .i64) ((b.getD (0+(i64.wrap ((↑k:Int) - 1)).toNat) .top).cells.getD 1 .top)) (br (((b.getD (0+(i64.wrap ((↑k:Int) - 1)).toNat) .top).cells.getD 1 .top).toInt==n) (κ (true,(k,b),(0,[]))) (xhd k a n b δ κ)) δ) δ) (xhd k a n b δ κ)
def xnP (k:Nat) (a n:Int) (b:LA):=xlE k a n b none some
def xjy {T:Type} (l:LA) (t:Int) (b:Nat) (i:Int) (a:LA) (δ:T) (κl:(Nat×Int×LA)->T) (κr:(Nat×LA)->T):T:=br (decide (i<l.length)) (br (ixI l i) (br (ixT l i 3 [Sh.int .i64,Sh.int .i64] 1) (br (xiW (gC l i 1).toInt (gC l i 2).toInt t) (br (ixI l i) (br (ixS l i (Sh.list 3) 0) (br (rmB b a 1 24) (κl (b+1,i64.wrap (i+1),a++[AV.list 3 (gC l i 0).toList])) δ) δ) δ) (κl (b,i64.wrap (i+1),a))) δ) δ) (κr (b,a))
def xd0 (l:LA) (t:Int):StT (Nat×Int×LA) (Nat×LA):=fun (b,i,a)=>xjy l t b i a none inL inR
def xoB:=xwV.l 30 0 [] [] Tryz.f33 0 lk0 [0,1,5,6] [5] [(5,1,47)] (q4 (qL 3) qI (xIR 0 0 0) qI) (q1 (qB 0 1 47 xIJ)) (fun (l,t,b,i,_) (a,_)=>(xd0 l t,(b,i,a),fun p=>(.leaf (.exit 0) [AV.osl 0 0 0 p.1] [bF 0 1 47 p.2]))) (0,[]) fun (l,t,_,_,_) _ (b,i,a)=>(((l,t,b,i,()),(a,())),xjy l t b i a none)
def xjs (l:LA) (t:Int):=(Iter (xd0 l t) (0,0,[])).getD (0,[])
def xoa (l:LA) (t:Int):=xiX (List.take ((xjs l t).fst) (List.drop 0 ((xjs l t).snd)))
def xo5 {T:Type} (l:LA) (t:Int) (δ:T) (κ:LA->T):T:=br ((Iter (xd0 l t) (0,0,[])).isSome) (br (decide (0+((xjs l t).fst)<=((xjs l t).snd).length)&&true) (br ((xoa l t).isSome) (κ ((xoa l t).getD [])) δ) δ) δ
def xdx (l:LA) (t:Int):=xo5 l t none some
def xz3:EO:=xwV.f Tryz.func33 30 0 [] [(3,xoB.lp)] (lk1 xoB.ok) (u2 (uL 3) uI) (fun (l,t,_) _=>xo5 l t) (fun _ p=>AV.list 1 p) []
def xcu {T:Type} (a:List UInt8) (i:Int) (δ:T) (κl:(Int)->T) (κr:(Bool×(Bool)×(Unit))->T):T:=br (decide (i<a.length)) (br (decide (0<=i)&&decide (i<a.length)) (br (decide ((↑(a.getD i.toNat (0:UInt8)).toNat:Int)<32)) (κr (true,(false),())) (br (decide (0<=i)&&decide (i<a.length)) (br (decide ((↑(a.getD i.toNat (0:UInt8)).toNat:Int)>126)) (κr (true,(false),())) (κl (i64.wrap (i+1)))) δ)) δ) (κr (false,false,()))
def xaH (a:List UInt8):StT (Int) (Bool×(Bool)×(Unit)):=fun (i)=>xcu a i none inL inR
def xj1:=xz3.l 20 0 [] [] Tryz.f145 0 lk0 [0,3] [2] [] (q2 pStr qI) xIH (fun (a,i,_) _=>(xaH a,(i),fun p=>(.node p.1 (.leaf .ret [AV.bool p.2.1] []) (.leaf (.exit 0) [.top] [])))) (false,false,()) fun (a,_,_) _ (i)=>(((a,i,()),()),xcu a i none)
def xi6 {T:Type} (a:List UInt8) (δ:T) (κ:Bool->T):T:=br ((Iter (xaH a) 0).isSome) (br (((Iter (xaH a) 0).getD (false,false,())).fst) (κ (((Iter (xaH a) 0).getD (false,false,())).snd.fst)) (κ (true))) δ
def xhR (a:List UInt8):=xi6 a none some
def xEB:EO:=xz3.f Tryz.func145 20 0 [] [(2,xj1.lp)] (lk1 xj1.ok) (u1 (sEq pStr)) (fun (a,_) _=>xi6 a) (fun _ p=>AV.bool p) false
def xma {T:Type} (c a:Int) (b:List UInt8) (δ:T) (κ:Bool->T):T:=br (c==0) (br (a==0) (κ (b==[])) (κ (false))) (br (c==1) (br (b==[]) (br (decide (a>=(-1125899906842624))) (κ (decide (a<=1125899906842624))) (κ (false))) (κ (false))) (br (c==2) (br (a==0) (br (decide ((↑b.length:Int)<=200)) (br ((xhR b).isSome) (κ ((xhR b).getD false)) δ) (κ (false))) (κ (false))) (br (c==3) (br (b==[]) (br (a==0) (κ (true)) (κ (a==1))) (κ (false))) (κ (false)))))
def xn8 (a b:Int) (c:List UInt8):=xma a b c none some
def xz5:EO:=xEB.f Tryz.func127 61 0 [] [] lk0 (u1 (xIW (u3 uI uI (sEq pStr)))) (fun ((a,b,c,_),_) _=>xma a b c) (fun _ p=>AV.bool p) false
def xdY (a:LA) (i:Int):=xn8 (gC a i 0).toInt (gC a i 1).toInt (gC a i 2).toStr
def xdv {T:Type} (a b:LA) (i:Int) (δ:T) (κl:(Int)->T) (κr:(Bool×(Bool)×(Unit))->T):T:=br (decide (i<a.length)) (br (ixI a i) (br (ixT a i 3 [Sh.int .i64,Sh.int .i64,Sh.str] 0) (br ((xdY a i).isSome) (br (!(xdY a i).getD false) (κr (true,(false),())) (br (ixI a i) (br (ixS a i (Sh.int .i64) 0) (br ((gC a i 0).toInt != 0) (br (ixI a i) (br (ixS a i (Sh.int .i64) 0) (br (ixI b i) (br (ixS b i (Sh.int .i64) 0) (br ((gC a i 0).toInt != (gC b i 0).toInt) (κr (true,(false),())) (κl (i64.wrap (i+1)))) δ) δ) δ) δ) (κl (i64.wrap (i+1)))) δ) δ)) δ) δ) δ) (κr (false,false,()))
def xaS (b a:LA):StT (Int) (Bool×(Bool)×(Unit)):=fun (i)=>xdv b a i none inL inR
def xnb:=xz5.l 43 0 [] [] Tryz.f90 0 lk0 [0,1,5] [4] [] (q3 (qL 3) (qL 1) qI) xIH (fun (b,a,i,_) _=>(xaS b a,(i),fun p=>(.node p.1 (.leaf .ret [AV.bool p.2.1] []) (.leaf (.exit 0) [.top] [])))) (false,false,()) fun (b,a,_,_) _ (i)=>(((b,a,i,()),()),xdv b a i none)
def xnc {T:Type} (b a:LA) (δ:T) (κ:Bool->T):T:=br ((↑b.length:Int) != (↑a.length:Int)) (κ (false)) (br ((Iter (xaS b a) 0).isSome) (br (((Iter (xaS b a) 0).getD (false,false,())).fst) (κ (((Iter (xaS b a) 0).getD (false,false,())).snd.fst)) (κ (true))) δ)
def xmF (b a:LA):=xnc b a none some
def xEC:EO:=xz5.f Tryz.func90 43 0 [] [(4,xnb.lp)] (lk1 xnb.ok) (u2 (uL 3) (uL 1)) (fun (b,a,_) _=>xnc b a) (fun _ p=>AV.bool p) false
def xfT (a b:LA):Nat:=0+a.length+b.length
def xll {T:Type} (a b:LA) (δ:T) (κ:LA->T):T:=br (decide ((0+a.length)*32<=140737488355328)&&decide (0+a.length<=4611686018427387904)) (br (0+a.length==([]++a).length&&(decide (xfT a b*32<=140737488355328)&&decide (xfT a b<=4611686018427387904))) (br (decide (0+xfT a b<=([]++a++b).length)&&true) (κ (List.take (xfT a b) (List.drop 0 ([]++a++b)))) δ) δ) δ
def xed (a b:LA):=xll a b none some
def xED:EO:=xEC.f Tryz.func38 13 0 [] [] lk0 (u2 (uL 3) (uL 3)) (fun (a,b,_) _=>xll a b) (fun _ p=>AV.list 3 p) []
def xo4 (k:Int):Bool:=(br (k==1) ((true)) (br (k==2) ((true)) ((k==3))))
def xvT {T:Type} (k:Int) (δ:T) (κ:Bool->T):T:=br (k==1) (κ (true)) (br (k==2) (κ (true)) (κ (k==3)))
def xz6:EO:=xED.fT Tryz.func128 13 0 [] [] lk0 (fun (k,_)=>xvT k none) (u1 uI) (fun (k,_)=>xo4 k) (fun _ p=>(AV.bool p))
def xfn {T:Type} (l:LA) (i:Int) (δ:T) (κl:(Int)->T) (κr:(Bool×(Bool)×(Unit))->T):T:=br (decide (i<l.length)) (br (ixI l i) (br (ixS l i (Sh.int .i64) 0) (br (!xo4 (gC l i 0).toInt) (κr (true,(false),())) (κl (i64.wrap (i+1)))) δ) δ) (κr (false,false,()))
def xa7 (l:LA):StT (Int) (Bool×(Bool)×(Unit)):=fun (i)=>xfn l i none inL inR
def xmm:=xz6.l 16 0 [] [] Tryz.f91 0 lk0 [0,3] [2] [] (q2 (qL 1) qI) xIH (fun (l,i,_) _=>(xa7 l,(i),fun p=>(.node p.1 (.leaf .ret [AV.bool p.2.1] []) (.leaf (.exit 0) [.top] [])))) (false,false,()) fun (l,_,_) _ (i)=>(((l,i,()),()),xfn l i none)
def xmb {T:Type} (l:LA) (δ:T) (κ:Bool->T):T:=br ((Iter (xa7 l) 0).isSome) (br (((Iter (xa7 l) 0).getD (false,false,())).fst) (κ (((Iter (xa7 l) 0).getD (false,false,())).snd.fst)) (κ (true))) δ
def xlF (l:LA):=xmb l none some
def xz7:EO:=xz6.f Tryz.func91 16 0 [] [(2,xmm.lp)] (lk1 xmm.ok) (u1 (uL 1)) (fun (l,_) _=>xmb l) (fun _ p=>AV.bool p) false
def xd1 {T:Type} (i:Int) (b a:LA) (δ:T) (κl:(Int×LA×LA)->T) (κr:(Bool×(Bool×LA×LA)×(LA×LA))->T):T:=br (decide (i<a.length)) (br (ixI a i) (br (ixT a i 3 [Sh.int .i64,Sh.int .i64] 1) (br (!xhh (gC a i 1).toInt (gC a i 2).toInt) (κr (true,(false,b,a),([],[]))) (br (ixI a i) (br (ixS a i (Sh.list 3) 0) (br ((xmF (gC a i 0).toList b).isSome) (br (!(xmF (gC a i 0).toList b).getD false) (κr (true,(false,b,a),([],[]))) (κl (i64.wrap (i+1),b,a))) δ) δ) δ)) δ) δ) (κr (false,(false,[],[]),(b,a)))
def xa8:StT (Int×LA×LA) (Bool×(Bool×LA×LA)×(LA×LA)):=fun (i,a,b)=>xd1 i a b none inL inR
def xmo:=xz7.l 46 0 [] [] Tryz.f57 0 lk0 [1,3] [1,2] [] (q2 (xIS 0 0 0 0) qI) (q1 (qB 0 2 25 (q1 (xIT (q2 (qL 1) (qL 3)))))) (fun (_,i,_) (((a,b,_),_),_)=>(xa8,(i,a,b),fun p=>(.node p.1 (.leaf .ret [AV.own 0 0 0 0,AV.bool p.2.1.1] [bF 0 2 25 [AV.agg [AV.list 1 p.2.1.2.1,AV.list 3 p.2.1.2.2]]]) (.leaf (.exit 0) [AV.own 0 0 0 0,.top] [bF 0 2 25 [AV.agg [AV.list 1 p.2.2.1,AV.list 3 p.2.2.2]]])))) (false,(false,[],[]),([],[])) fun _ _ (i,a,b)=>((((),i,()),(((a,b,()),()),())),xd1 i a b none)
def xda (a b:LA):=(Iter xa8 (0,a,b)).getD (false,(false,[],[]),[],[])
def xgH (a b:LA):=(↑(((xda a b).snd).snd.fst).length:Int)
def xme {T:Type} (a b:LA) (δ:T) (κ:Bool->T):T:=br ((Iter xa8 (0,a,b)).isSome) (br ((xda a b).fst) (κ (((xda a b).snd).fst.fst)) (br (decide (xgH a b>0)) (br (decide (xgH a b<=48)) (br ((xlF (((xda a b).snd).snd.fst)).isSome) (κ ((xlF (((xda a b).snd).snd.fst)).getD false)) δ) (κ (false))) (κ (false)))) δ
def xfc (a b:LA):=xme a b none some
def xz8:EO:=xz7.f Tryz.func57 46 0 [] [(2,xmo.lp)] (lk1 xmo.ok) (u1 (xIW (u2 (uL 1) (uL 3)))) (fun ((a,b,_),_) _=>xme a b) (fun _ p=>AV.bool p) false
def xe0 {T:Type} (a b:LA) (i:Int) (δ:T) (κl:(Int)->T) (κr:(Bool×(Bool)×(Unit))->T):T:=br (decide (i<a.length)) (br (ixI a i) (br (ixS a i (Sh.int .i64) 0) (br (ixI b i) (br (ixS b i (Sh.int .i64) 0) (br ((gC a i 0).toInt != (gC b i 0).toInt) (κr (true,(false),())) (κl (i64.wrap (i+1)))) δ) δ) δ) δ) (κr (false,false,()))
def xbg (a b:LA):StT (Int) (Bool×(Bool)×(Unit)):=fun (i)=>xe0 a b i none inL inR
def xj2:=xz8.l 26 0 [] [] Tryz.f39 0 lk0 [0,1,5] [4] [] (q3 (qL 1) (qL 1) qI) xIH (fun (a,b,i,_) _=>(xbg a b,(i),fun p=>(.node p.1 (.leaf .ret [AV.bool p.2.1] []) (.leaf (.exit 0) [.top] [])))) (false,false,()) fun (a,b,_,_) _ (i)=>(((a,b,i,()),()),xe0 a b i none)
def xi8 {T:Type} (a b:LA) (δ:T) (κ:Bool->T):T:=br ((↑a.length:Int) != (↑b.length:Int)) (κ (false)) (br ((Iter (xbg a b) 0).isSome) (br (((Iter (xbg a b) 0).getD (false,false,())).fst) (κ (((Iter (xbg a b) 0).getD (false,false,())).snd.fst)) (κ (true))) δ)
def xfU (a b:LA):=xi8 a b none some
def xEE:EO:=xz8.f Tryz.func39 26 0 [] [(4,xj2.lp)] (lk1 xj2.ok) (u2 (uL 1) (uL 1)) (fun (a,b,_) _=>xi8 a b) (fun _ p=>AV.bool p) false
def xmd {T:Type} (a b c d:LA) (δ:T) (κ:Bool->T):T:=br ((xfU a c).isSome) (br ((xfU a c).getD false) (br ((xbm b d).isSome) (κ ((xbm b d).getD false)) δ) (κ (false))) δ
def xjr (a b c d:LA):=xmd a b c d none some
def xz9:EO:=xEE.f Tryz.func12 17 0 [] [] lk0 (u2 (xIW (u2 (uL 1) (uL 3))) (xIW (u2 (uL 1) (uL 3)))) (fun ((a,b,_),(c,d,_),_) _=>xmd a b c d) (fun _ p=>AV.bool p) false
def xfo {T:Type} (l a:LA) (n i:Int) (δ:T) (κl:(Int×Int)->T) (κr:(Int)->T):T:=br (decide (i<l.length)) (br (ixI l i) (br (ixS l i (Sh.list 3) 0) (br ((xcr (gC l i 0).toList a).isSome) (br ((xcr (gC l i 0).toList a).getD 0==0) (κl (i64.wrap (n+1),i64.wrap (i+1))) (κl (n,i64.wrap (i+1)))) δ) δ) δ) (κr (n))
def xbv (l a:LA):StT (Int×Int) (Int):=fun (n,i)=>xfo l a n i none inL inR
def xmn:=xz9.l 23 0 [] [] Tryz.f37 0 lk0 [0,1,5,6] [5] [] (q4 (qL 1) (qL 3) qI qI) xIH (fun (l,a,n,i,_) _=>(xbv l a,(n,i),fun p=>(.leaf (.exit 0) [AV.int .i64 p] []))) 0 fun (l,a,_,_,_) _ (n,i)=>(((l,a,n,i,()),()),xfo l a n i none)
def xmc {T:Type} (l a:LA) (δ:T) (κ:Int->T):T:=br ((Iter (xbv l a) (0,0)).isSome) (κ ((Iter (xbv l a) (0,0)).getD 0)) δ
def xhi (l a:LA):=xmc l a none some
def xC5:EO:=xz9.f Tryz.func37 23 0 [] [(3,xmn.lp)] (lk1 xmn.ok) (u2 (uL 1) (uL 3)) (fun (l,a,_) _=>xmc l a) (fun _ p=>AV.int .i64 p) 0
def xci (a b:LA):=i64.wrap ((↑a.length:Int) - (↑b.length:Int))
def xfV (a b:LA):=xfU (List.take (a.length - (xci a b).toNat) (List.drop (xci a b).toNat a)) b
def xja {T:Type} (a c b d:LA) (δ:T) (κ:Bool->T):T:=br (decide (xci a b>0)) (br ((xfc a c).isSome) (br ((xfc a c).getD false) (br ((xfc b d).isSome) (br ((xfc b d).getD false) (br (decide (0<=xci a b)&&decide (xci a b<=a.length)) (br ((xfV a b).isSome) (κ ((xfV a b).getD false)) δ) δ) (κ (false))) δ) (κ (false))) δ) (κ (false))
def xhS (a b c d:LA):=xja a b c d none some
def xEF:EO:=xC5.f Tryz.func22 32 0 [] [] lk0 (u2 (xIW (u2 (uL 1) (uL 3))) (xIW (u2 (uL 1) (uL 3)))) (fun ((a,b,_),(c,d,_),_) _=>xja a b c d) (fun _ p=>AV.bool p) false
def xhp {T:Type} (a b:LA) (n:Int) (d:Nat) (i:Int) (c:LA) (δ:T) (κl:(Nat×Int×LA)->T) (κr:(Nat×LA)->T):T:=br (decide (i<a.length)) (br (ixI a i) (br (ixS a i (Sh.list 3) 0) (br (decide (0<=n)&&decide (n<=(↑(gC a i 0).toList.length:Int))&&true) (br (rmB d c 1 24) (κl (d+1,i64.wrap (i+1),c++[AV.list 3 (List.take (n.toNat - 0) (List.drop 0 (gC a i 0).toList))])) δ) δ) δ) δ) (κr (d,c))
def xcW (a b:LA) (n:Int):StT (Nat×Int×LA) (Nat×LA):=fun (d,i,c)=>xhp a b n d i c none inL inR
def xfz {T:Type} (a b c:LA) (f:Nat) (i:Int) (e:Bool) (k:Int) (d:LA) (δ:T) (κl:(Bool×Int×LA)->T) (κr:(Bool×LA)->T):T:=br (decide (k<b.length)) (br (e) (br (ixI c i) (br (ixS c i (Sh.list 3) 0) (br (ixI b k) (br (ixS b k (Sh.list 3) 0) (br ((xed (gC c i 0).toList (gC b k 0).toList).isSome) (br ((xhi a ((xed (gC c i 0).toList (gC b k 0).toList).getD [])).isSome) (κl (decide ((xhi a ((xed (gC c i 0).toList (gC b k 0).toList).getD [])).getD 0>0),i64.wrap (k+1),d)) δ) δ) δ) δ) δ) δ) (κl (false,i64.wrap (k+1),d))) (κr (e,d))
def xbp (a b d:LA) (e:Nat) (i:Int):StT (Bool×Int×LA) (Bool×LA):=fun (f,k,c)=>xfz a b d e i f k c none inL inR
def xcw (a b d:LA) (e:Nat) (i:Int) (c:LA):=(Iter (xbp a b d e i) (true,0,c)).getD (false,[])
def xfy {T:Type} (a b d:LA) (c:Nat) (i:Int) (e:LA) (δ:T) (κl:(Nat×Int×LA)->T) (κr:(Nat×LA)->T):T:=br (decide (i<d.length)) (br ((Iter (xbp a b d c i) (true,0,e)).isSome) (br ((xcw a b d c i e).fst) (br (ixI d i) (br (ixS d i (Sh.list 3) 0) (br (c==((xcw a b d c i e).snd).length&&(decide ((c+1)*24<=140737488355328)&&decide (c+1<=4611686018427387904))) (κl (c+1,i64.wrap (i+1),((xcw a b d c i e).snd)++[AV.list 3 (gC d i 0).toList])) δ) δ) δ) (κl (c,i64.wrap (i+1),((xcw a b d c i e).snd)))) δ) (κr (c,e))
def xcX (a b d:LA):StT (Nat×Int×LA) (Nat×LA):=fun (e,i,c)=>xfy a b d e i c none inL inR
def xeR (a b:LA) (n:Int):=(Iter (xcW a b n) (0,0,[])).getD (0,[])
def xjb (a b:LA) (n:Int):=xlm (List.take ((xeR a b n).fst) (List.drop 0 ((xeR a b n).snd)))
def xdB (a b:LA) (n:Int):=Iter (xcX a b ((xjb a b n).getD [])) (0,0,[])
def xng {T:Type} (a b:LA) (n:Int) (δ:T) (κ:LA->T):T:=br ((Iter (xcW a b n) (0,0,[])).isSome) (br (decide (0+((xeR a b n).fst)<=((xeR a b n).snd).length)&&true) (br ((xjb a b n).isSome) (br ((xdB a b n).isSome) (br (decide (0+(((xdB a b n).getD (0,[])).fst)<=(((xdB a b n).getD (0,[])).snd).length)&&true) (κ (List.take (((xdB a b n).getD (0,[])).fst) (List.drop 0 (((xdB a b n).getD (0,[])).snd)))) δ) δ) δ) δ) δ
def xlp (a b:LA) (n:Int):=xng a b n none some
def xn3 {T:Type} (a b:LA) (δ:T) (κ:Bool->T):T:=br (decide ((↑b.length:Int)<=16)) (br (decide ((↑a.length:Int)<=48)) (br ((xfc a b).isSome) (κ ((xfc a b).getD false)) δ) (κ (false))) (κ (false))
def xjZ (a b:LA):=xn3 a b none some
def xzZ:EO:=xEF.f Tryz.func21 17 0 [] [] lk0 (u1 (xIW (u2 (uL 1) (uL 3)))) (fun ((a,b,_),_) _=>xn3 a b) (fun _ p=>AV.bool p) false
end Go.Sim.M
