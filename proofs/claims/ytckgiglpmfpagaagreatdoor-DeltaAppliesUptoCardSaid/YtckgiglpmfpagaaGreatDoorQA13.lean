/- Part 13 of the proof of the law. -/
import Derived.Test.YtckgiglpmfpagaaGreatDoorQA12
import Derived.StillTailTactics
set_option linter.unusedVariables false
set_option linter.unusedSimpArgs false
set_option maxRecDepth 100000
noncomputable section
namespace Go.Sim.M
def cmpI (x y:Int):Int:=if x<y then -1 else if y<x then 1 else 0
def orI (x y:Int):Int:=if x=0 then y else x
end Go.Sim.M
namespace Go.Proofs
open Go.RowKit Go.Sim Go.Sim.M Go.Sort Go.Lib
theorem Tryz.cmp_walk (x y:Int) (w:World):Calls Tryz.prog 51 #[.int .i64 x,.int .i64 y] w fun e w'=>e=.returned (.int .i64 (cmpI x y))/\w'=w:=by
 unfold cmpI
 go_enter Tryz.func51,Tryz.ntmps51
 go_wp2
 all_goals (go_ret;exact ⟨rfl,rfl⟩)
theorem Tryz.or_walk (x y:Int) (b off c:Nat) (w:World) (h0:w.cell? ⟨b,off,none⟩=some (.int .i64 x)) (h1:w.cell? ⟨b,off+1,none⟩=some (.int .i64 y)):Calls Tryz.prog 73 #[.slice (some ⟨b,off,none⟩) 2 c] w fun e w'=>e=.returned (.int .i64 (orI x y))/\w'=w:=by
 unfold orI;by_cases hx:x=0
 . subst hx;rw [if_pos rfl];by_cases hy:y=0
   . subst hy
     go_enter Tryz.func73,Tryz.ntmps73
     go_wp2
     refine wp_loop_rounds 3 ?_;rw [rounds_succ]
     go_wp2
     rw [rounds_succ]
     go_wp2
     rw [rounds_succ]
     go_wp2
     go_ret
     exact ⟨rfl,rfl⟩
   . have hy':(y != 0)=true:=by simpa using hy
     go_enter Tryz.func73,Tryz.ntmps73
     go_wp2
     refine wp_loop_rounds 3 ?_;rw [rounds_succ]
     go_wp2
     rw [rounds_succ]
     go_wp2
     go_ret
     exact ⟨rfl,rfl⟩
 . have hx':(x != 0)=true:=by simpa using hx
   rw [if_neg hx]
   go_enter Tryz.func73,Tryz.ntmps73
   go_wp2
   refine wp_loop_rounds 3 ?_;rw [rounds_succ]
   go_wp2
   go_ret
   exact ⟨rfl,rfl⟩
theorem fill2I (u1 u2:Int):Instr.fill (fun i=>some (i*1,1)) ((Array.range (2*1)).map (fun x=>(Value.int .i64 0).cells[x % (Value.int .i64 0).cells.size]!)) [(0,.int .i64 u1),(1,.int .i64 u2)]=some #[.int .i64 u1,.int .i64 u2]:=by
 simp [Instr.fill,Array.range,Value.cells];apply Array.ext
 . simp
 . intro i h1 h2;rcases i with _|_|i
   . simp
   . simp
   . simp at h2;omega
set_option maxHeartbeats 2000000 in
theorem Tryz.levels2_walk (a b c d:Int) (w:World):Calls Tryz.prog 91 #[.agg #[.int .i64 a,.int .i64 b],.agg #[.int .i64 c,.int .i64 d]] w fun e w'=>e=.returned (.int .i64 (orI (cmpI a c) (cmpI b d)))/\∃ q J,w'=Sort.grow (w.drewN q) J:=by
 go_enter Tryz.func91,Tryz.ntmps91
 go_wp2_with (go_at_call 51;skip)
 have g0:(w.alloc (.cells #[.int .i64 a,.int .i64 b] 56)).heap[w.heap.size]?=some (.cells #[.int .i64 a,.int .i64 b] 56 (0,0)):=heap_alloc_new w _;have g1:((w.alloc (.cells #[.int .i64 a,.int .i64 b] 56)).alloc (.cells #[.int .i64 c,.int .i64 d] 56)).heap[w.heap.size+1]?=some (.cells #[.int .i64 c,.int .i64 d] 56 (0,0)):=by
  have:=heap_alloc_new (w.alloc (.cells #[.int .i64 a,.int .i64 b] 56)) (.cells #[.int .i64 c,.int .i64 d] 56);have e:(w.alloc (.cells #[.int .i64 a,.int .i64 b] 56)).heap.size=w.heap.size+1:=by simp
  rwa [e] at this
 have f0:((w.alloc (.cells #[.int .i64 a,.int .i64 b] 56)).alloc (.cells #[.int .i64 c,.int .i64 d] 56)).cell? ⟨w.heap.size,0,none⟩=some (.int .i64 a):=by
  rw [World.cell?_alloc_past _ _ _ (by simp)];simp only [World.cell?,g0];rfl
 have f1:((w.alloc (.cells #[.int .i64 a,.int .i64 b] 56)).alloc (.cells #[.int .i64 c,.int .i64 d] 56)).cell? ⟨w.heap.size,1,none⟩=some (.int .i64 b):=by
  rw [World.cell?_alloc_past _ _ _ (by simp)];simp only [World.cell?,g0];rfl
 have f2:((w.alloc (.cells #[.int .i64 a,.int .i64 b] 56)).alloc (.cells #[.int .i64 c,.int .i64 d] 56)).cell? ⟨w.heap.size+1,0,none⟩=some (.int .i64 c):=by
  simp only [World.cell?,g1];rfl
 have f3:((w.alloc (.cells #[.int .i64 a,.int .i64 b] 56)).alloc (.cells #[.int .i64 c,.int .i64 d] 56)).cell? ⟨w.heap.size+1,1,none⟩=some (.int .i64 d):=by
  simp only [World.cell?,g1];rfl
 have f4:∃ q J,((w.alloc (.cells #[.int .i64 a,.int .i64 b] 56)).alloc (.cells #[.int .i64 c,.int .i64 d] 56))=Sort.grow (w.drewN q) J:=⟨0,_,by rw [alloc_eq_grow,alloc_eq_grow,grow_grow];rfl⟩
 generalize ((w.alloc (.cells #[.int .i64 a,.int .i64 b] 56)).alloc (.cells #[.int .i64 c,.int .i64 d] 56))=W2 at f0 f1 f2 f3 f4 |-;refine wp_region_still_tail 10 (by kernel_rfl) (by kernel_rfl) ?_
 simp only [List.take_succ_cons,List.take_zero,List.drop_succ_cons,List.drop_zero];change wpStill _ _ (World.drew W2) _ _ _;have f0':W2.drew.cell? ⟨w.heap.size,0,none⟩=some (.int .i64 a):=f0;have f1':W2.drew.cell? ⟨w.heap.size,1,none⟩=some (.int .i64 b):=f1;have f2':W2.drew.cell? ⟨w.heap.size+1,0,none⟩=some (.int .i64 c):=f2;have f3':W2.drew.cell? ⟨w.heap.size+1,1,none⟩=some (.int .i64 d):=f3;have f4':∃ q J,W2.drew=Sort.grow (w.drewN q) J:=by obtain ⟨q,J,e⟩:=f4;exact ⟨q+1,J,by rw [e];rfl⟩
 iterate 4 still_step
 still_call (Tryz.cmp_walk _ _ _)
 iterate 4 still_step
 still_call (Tryz.cmp_walk _ _ _)
 refine wpStill_nil ?_;change wpList _ _ _ _ _ (World.drew W2);generalize World.drew W2=W at f0' f1' f2' f3' f4' |-;generalize O:cmpI a c=u1;generalize Q:cmpI b d=u2;obtain ⟨ie,q1,q2,q3⟩:∃ ie,Tryz.prog.info? 3=some ie/\ie.zero=some (.int .i64 0)/\ie.size=1:=⟨(Tryz.prog.info? 3).get (by kernel_rfl),(Option.some_get _).symm,by kernel_rfl,by kernel_rfl⟩
 refine wpList_buildSlice rfl 31 3 2 _ rfl #[.int .i64 u1,.int .i64 u2] ie (.int .i64 0) (by kernel_rfl) q1 q2 (by rw [q3];decide) (by rw [q3];decide) (by rw [q3];refine Eq.trans (congrArg _ ?_) (fill2I u1 u2);simp [Act.eval]) ?_
 simp only [Act.put]
 go_wp2_with fail
 have g2:(W.alloc (.cells #[.int .i64 u1,.int .i64 u2] 3)).heap[W.heap.size]?=some (.cells #[.int .i64 u1,.int .i64 u2] 3 (0,0)):=heap_alloc_new W _;refine (Tryz.or_walk u1 u2 W.heap.size 0 2 (W.alloc (.cells #[.int .i64 u1,.int .i64 u2] 3)) (by simp only [World.cell?,g2];rfl) (by simp only [World.cell?,g2];rfl)).mono ?_
 rintro e w' ⟨rfl,rfl⟩
 go_wp2
 go_ret
 obtain ⟨q,J,hq⟩:=f4';exact ⟨by rw [O,Q];rfl,q,_,by rw [hq,alloc_eq_grow,grow_grow]⟩
end Go.Proofs
namespace Go.Sim.M
abbrev TyS:Type:=Fin 1099511627777×Int
def intsS (x:TyS):List Int:=[(x.1.val:Int),x.2]
def cmpS (x y:TyS):Int:=(x.1.val:Int) - (y.1.val:Int)
end Go.Sim.M
namespace Go.Proofs
open Go.RowKit Go.Sim Go.Sim.M Go.Sort
set_option maxHeartbeats 1000000 in
theorem Tryz.walkS (a b a' b' r:Int) (hr:IntKind.i64.wrap (a - a')=r) (W:World):Calls Tryz.prog 115 #[.agg #[.int .i64 a,.int .i64 b],.agg #[.int .i64 a',.int .i64 b']] W fun e w'=>e=.returned (.int .i64 r)/\∃ q os',w'=Sort.grow (W.drewN q) os':=by
 go_enter Tryz.func115,Tryz.ntmps115
 go_wp2
 go_ret
 subst hr;exact ⟨rfl,0,_,by rw [alloc_eq_grow,alloc_eq_grow,grow_grow];rfl⟩
end Go.Proofs
namespace Go.Sim.M
open Go.RowKit Go.Proofs Go.Sort
def isS:AV->Bool
 | .agg [.int .i64 a,.int .i64 _]=>decide (0<=a)&&decide (a<=1099511627776)
 | _=>false
def decS:AV->TyS
 | .agg [.int _ a,.int _ b]=>(Fin.ofNat 1099511627777 a.toNat,b)
 | _=>default
noncomputable def srtS (xs:List AV):List AV:=(pdqL cmpS (xs.map decS)).map (encI intsS)
theorem xoO {x:AV} (h:isS x=true):encI intsS (decS x)=x:=by
 unfold isS at h;split at h
 . rename_i a b;simp only [Bool.and_eq_true,decide_eq_true_eq] at h;have:a.toNat % 1099511627777=a.toNat:=Nat.mod_eq_of_lt (by omega)
   simp only [decS,encI,intsS,List.map_cons,List.map_nil,Fin.ofNat,this,Int.toNat_of_nonneg h.1]
 . simp at h
theorem xnZ {xs:List AV} (h:xs.all isS=true):(xs.map decS).map (encI intsS)=xs:=by
 rw [List.map_map]
 conv=>rhs;rw [<-List.map_id xs]
 refine List.map_congr_left fun x hx=>?_
 exact xoO (List.all_eq_true.1 h x hx)
theorem ltS (x y:TyS):ltOf cmpS x y=decide (x.1.val<y.1.val):=by
 unfold ltOf cmpS;by_cases h:x.1.val<y.1.val
 . rw [decide_eq_true h,decide_eq_true (by omega)]
 . rw [decide_eq_false h,decide_eq_false (by omega)]
theorem swoS:SWO (ltOf cmpS) where
 irrefl x:=by rw [ltS];simp
 trans x y z h1 h2:=by rw [ltS] at *;simp at *;omega
 ntrans x y z h1 h2:=by rw [ltS] at *;simp at *;omega
noncomputable def xj7:List AV->List Box->Option (Bool×AV×List Box)
 | [.osl (.b 0) ver 0 n,.func g []],[⟨ver',2,ty,xs,false,true⟩]=>match Nat.beq g 115&&Nat.beq ty 131 with
  | true=>some (Nat.beq ver ver'&&(Nat.beq n xs.length&&(decide (n<4611686018427387904)&&xs.all isS)),.tuple [],[⟨ver',2,131,srtS xs,false,true⟩])
  | false=>none
 | _,_=>none
theorem xqa:OmOk Tryz.prog xsv 114 xj7:=fun Q H r H' h=>by
 unfold xj7 at h;split at h
 . rename_i ver n g O ty xs;split at h
   case h_2=>simp at h
   rename_i hg;simp only [Bool.and_eq_true] at hg;obtain rfl:=Nat.eq_of_beq_eq_true hg.1;obtain rfl:=Nat.eq_of_beq_eq_true hg.2;simp only [Option.some.injEq,Prod.mk.injEq,Bool.and_eq_true,decide_eq_true_eq] at h;obtain ⟨⟨h1,h2,h3,h4⟩,rfl,rfl⟩:=h;obtain rfl:=Nat.eq_of_beq_eq_true h1;obtain rfl:=Nat.eq_of_beq_eq_true h2;have q:∃ ti,xrO Tryz.prog 131=some ti/\ti.sz=2/\ti.agg=true:=by
    have h:(match xrO Tryz.prog 131 with|some ti=>(ti.sz==2)&&ti.agg|none=>false)=true:=by kernel_rfl
    split at h
    . rename_i ti q;simp only [Bool.and_eq_true,beq_iff_eq] at h;exact ⟨ti,q,h.1,h.2⟩
    . simp at h
   obtain ⟨ti,q,hz,ha⟩:=q;have J:=xht (P:=Tryz.prog) (Inv:=xsv) Tryz.srl114 2 (by decide) (fun w=>by rw [<-ha];exact xec q w) (fun w=>by rw [<-hz];exact xa3 q w)
    intsS (fun _=>rfl) cmpS swoS 115 (xbH Tryz.func114 rfl (by kernel_rfl)) (xef (xbH Tryz.func115 rfl (by kernel_rfl)))
    (fun x y W=>Tryz.walkS _ _ _ _ (cmpS x y) (by
     have:=x.1.isLt;have:=y.1.isLt;unfold cmpS;exact xd7 (by omega) (by omega)) W)
    ver 131 rfl (xs.map decS) (by simpa using h3)
   rw [List.length_map,xnZ h4] at J;exact J
 . simp at h
end Go.Sim.M
namespace Go.Sim.M
abbrev TyP:Type:=Int×Int
def intsP (x:TyP):List Int:=[x.1,x.2]
def cmpP (x y:TyP):Int:=orI (cmpI x.1 y.1) (cmpI x.2 y.2)
end Go.Sim.M
namespace Go.Sim.M
open Go.RowKit Go.Proofs Go.Sort
def isP:AV->Bool
 | .agg [.int .i64 _,.int .i64 _]=>true
 | _=>false
def decP:AV->TyP
 | .agg [.int _ a,.int _ b]=>(a,b)
 | _=>default
noncomputable def srtP (xs:List AV):List AV:=(pdqL cmpP (xs.map decP)).map (encI intsP)
theorem xoN {x:AV} (h:isP x=true):encI intsP (decP x)=x:=by
 unfold isP at h;split at h
 . rfl
 . simp at h
theorem xnY {xs:List AV} (h:xs.all isP=true):(xs.map decP).map (encI intsP)=xs:=by
 rw [List.map_map]
 conv=>rhs;rw [<-List.map_id xs]
 refine List.map_congr_left fun x hx=>?_
 exact xoN (List.all_eq_true.1 h x hx)
theorem ltP (x y:TyP):ltOf cmpP x y=decide (x.1<y.1\/x.1=y.1/\x.2<y.2):=by
 unfold ltOf cmpP orI cmpI;by_cases h:x.1<y.1\/x.1=y.1/\x.2<y.2
 . rw [decide_eq_true h];simp only [decide_eq_true_eq];rcases h with h|⟨h,h'⟩
   . simp [h]
   . simp [h,h']
 . rw [decide_eq_false h];simp only [decide_eq_false_iff_not];have h1:¬ x.1<y.1:=fun e=>h (.inl e)
   by_cases h2:y.1<x.1
   . simp [h1,h2]
   . have h3:x.1=y.1:=by omega
     have h4:¬ x.2<y.2:=fun e=>h (.inr ⟨h3,e⟩)
     by_cases h5:y.2<x.2
     . simp [h1,h2,h4,h5]
     . simp [h1,h2,h4,h5]
theorem swoP:SWO (ltOf cmpP) where
 irrefl x:=by rw [ltP];simp
 trans x y z h1 h2:=by rw [ltP] at *;simp only [decide_eq_true_eq] at *;omega
 ntrans x y z h1 h2:=by rw [ltP] at *;simp only [decide_eq_true_eq,decide_eq_false_iff_not] at *;omega
noncomputable def xj6:List AV->List Box->Option (Bool×AV×List Box)
 | [.osl (.b 0) ver 0 n,.func g []],[⟨ver',2,ty,xs,false,true⟩]=>match Nat.beq g 91&&Nat.beq ty 56 with
  | true=>some (Nat.beq ver ver'&&(Nat.beq n xs.length&&(decide (n<4611686018427387904)&&xs.all isP)),.tuple [],[⟨ver',2,56,srtP xs,false,true⟩])
  | false=>none
 | _,_=>none
theorem xp9:OmOk Tryz.prog xsv 90 xj6:=fun Q H r H' h=>by
 unfold xj6 at h;split at h
 . rename_i ver n g O ty xs;split at h
   case h_2=>simp at h
   rename_i hg;simp only [Bool.and_eq_true] at hg;obtain rfl:=Nat.eq_of_beq_eq_true hg.1;obtain rfl:=Nat.eq_of_beq_eq_true hg.2;simp only [Option.some.injEq,Prod.mk.injEq,Bool.and_eq_true,decide_eq_true_eq] at h;obtain ⟨⟨h1,h2,h3,h4⟩,rfl,rfl⟩:=h;obtain rfl:=Nat.eq_of_beq_eq_true h1;obtain rfl:=Nat.eq_of_beq_eq_true h2;have q:∃ ti,xrO Tryz.prog 56=some ti/\ti.sz=2/\ti.agg=true:=by
    have h:(match xrO Tryz.prog 56 with|some ti=>(ti.sz==2)&&ti.agg|none=>false)=true:=by kernel_rfl
    split at h
    . rename_i ti q;simp only [Bool.and_eq_true,beq_iff_eq] at h;exact ⟨ti,q,h.1,h.2⟩
    . simp at h
   obtain ⟨ti,q,hz,ha⟩:=q;have J:=xht (P:=Tryz.prog) (Inv:=xsv) Tryz.srl90 2 (by decide) (fun w=>by rw [<-ha];exact xec q w) (fun w=>by rw [<-hz];exact xa3 q w)
    intsP (fun _=>rfl) cmpP swoP 91 (xbH Tryz.func90 rfl (by kernel_rfl)) (xef (xbH Tryz.func91 rfl (by kernel_rfl)))
    (fun x y W=>Tryz.levels2_walk _ _ _ _ W)
    ver 56 rfl (xs.map decP) (by simpa using h3)
   rw [List.length_map,xnY h4] at J;exact J
 . simp at h
end Go.Sim.M
namespace Go.Sim.M
open Go.RowKit Go.Proofs
noncomputable def E1:Env:=(xpm.E.withM 114 xj7).withM 90 xj6
theorem xmR:xrP Tryz.prog xsv E1:=(xpm.ok.withM xqa).withM xp9
noncomputable def xpl:EO:=EO.mk E1 xmR
end Go.Sim.M
namespace Go.Sim.M
open Go.IntKind (i64 u64 u8)
open Go.RowKit Go.Proofs
def xgf {T:Type} (o n:Int) (e f:Nat) (k p m j:Int) (h l i g a:Nat) (b:LA) (d:Nat) (c:LA) (δ:T) (κl:(Int×Int×Nat×Nat×Nat×Nat×Nat×LA×Nat×LA)->T) (κr:(Int×Nat×Nat×Nat×Nat×LA×Nat×LA×Nat)->T):T:=br (decide (m<p)) (br (a==e) (br (a==e) (br (a==e&&(decide (f<b.length)&&xrN (Sh.int .i64) ((b.getD f .top).cells.getD 0 .top))) (br (d==g&&(rmB i c 1 16)) (κl (i64.wrap (m+1),j,h,l,i+1,g+1,a,List.take h b,g+1,c++[AV.agg [AV.int .i64 ((b.getD f .top).cells.getD 0 .top).toInt,AV.int .i64 o]])) δ) δ) δ) δ) (κr (j,l,h,g,i,b,a,c,d))
def xfm (m n:Int) (e f:Nat) (k o:Int):StT (Int×Int×Nat×Nat×Nat×Nat×Nat×LA×Nat×LA) (Int×Nat×Nat×Nat×Nat×LA×Nat×LA×Nat):=fun (p,g,h,i,j,l,a,b,c,d)=>xgf m n e f k o p g h i j l a b c d none inL inR
def xcy:=xpl.l 71 5 [] [] Tryz.f89 1 lk0 [0,1,2,3,4,7,8,37,38] [0,1,2,3,4,7,8] [(3,0,0)] (q9 qI qI (xsK 0 0 0 0) (xsK 1 0 0 0) (xsK 2 0 0 0) (pOwnV 3 0) qI qI qI) (q5 (qB 0 1 3 (q1 qI)) (xsM 0 1 125 false false (q1 (pOslV 3 0))) (xsM 0 1 97 false false (q1 (pOslV 4 0))) (pBoxV 2 127 false true xsB) (pBoxV 2 56 false true xsB)) (fun (o,n,_,_,_,(e,f),k,q,r,_) ((g,_),((h,i),_),((j,m),_),(a,b),(c,d),_)=>(xfm o n e f k q,(r,g,i,h,m,j,a,b,c,d),fun p=>(.leaf (.exit 2) [AV.int .i64 o,AV.int .i64 n,AV.own 0 0 0 0,AV.own 1 0 0 0,AV.own 2 0 0 0,AV.own 3 e f 0,AV.int .i64 k] [bF 0 1 3 [AV.int .i64 p.1],⟨0,1,125,[AV.osl 3 p.2.1 0 p.2.2.1],false,false⟩,⟨0,1,97,[AV.osl 4 p.2.2.2.1 0 p.2.2.2.2.1],false,false⟩,bF p.2.2.2.2.2.2.1 2 127 p.2.2.2.2.2.1,bF p.2.2.2.2.2.2.2.2 2 56 p.2.2.2.2.2.2.2.1]))) (0,0,0,0,0,[],0,[],0) fun (o,n,_,_,_,(e,f),k,q,_,_) _ (r,g,i,h,m,j,a,b,c,d)=>(((o,n,(),(),(),(e,f),k,q,r,()),((g,()),((h,i),()),((j,m),()),(a,b),(c,d),())),xgf o n e f k q r g i h m j a b c d none)
def xao (a:Nat):Nat:=0+(i64.wrap ((↑a:Int) - 1)).toNat
def xbC (n b:Int) (c d:Nat) (a:LA):Int:=if i64.wrap (b - n)<((a.getD (xao c) .top).cells.getD 1 .top).toInt then i64.wrap (b - n) else ((a.getD (xao c) .top).cells.getD 1 .top).toInt
def xfC (j n d:Int) (c g h i a:Nat) (b:LA) (e:Nat) (f:LA):=Iter (xfm j n g (xao c) (xbC n d c a b) (xbC n d c a b)) (0,d,c,g,h,i,a,List.take c b,e,f)
def xdB (j n e:Int) (f g h i a:Nat) (b:LA) (c:Nat) (d:LA):=(xfC j n e f g h i a b c d).getD (0,0,0,0,0,[],0,[],0)
def xfB (j n e:Int) (f g h i a:Nat) (b:LA) (c:Nat) (d:LA):=(xdB j n e f g h i a b c d).snd
def xcv (j n e:Int) (f g h i a:Nat) (b:LA) (c:Nat) (d:LA):=(xfB j n e f g h i a b c d).fst
def xfA (j n e:Int) (f g h i a:Nat) (b:LA) (c:Nat) (d:LA):=(xfB j n e f g h i a b c d).snd
def xcu (j n e:Int) (f g h i a:Nat) (b:LA) (c:Nat) (d:LA):=(xfA j n e f g h i a b c d).fst
def xdA (j n e:Int) (f g h i a:Nat) (b:LA) (c:Nat) (d:LA):=(xfA j n e f g h i a b c d).snd
def xct (j n e:Int) (f g h i a:Nat) (b:LA) (c:Nat) (d:LA):=i64.wrap ((↑(xcu j n e f g h i a b c d):Int) - 1)
def xdz (j n e:Int) (f g h i a:Nat) (b:LA) (c:Nat) (d:LA):=(xdA j n e f g h i a b c d).snd
def xfz (j n e:Int) (f g h i a:Nat) (b:LA) (c:Nat) (d:LA):=(xdz j n e f g h i a b c d).snd
def xd1 (j n e:Int) (f g h i a:Nat) (b:LA) (c:Nat) (d:LA):=(xfz j n e f g h i a b c d).fst
def xf0 (j n e:Int) (f g h i a:Nat) (b:LA) (c:Nat) (d:LA):=(xfz j n e f g h i a b c d).snd
def xbq (j n f:Int) (g e h i a:Nat) (b:LA) (c:Nat) (d:LA):=(xf0 j n f g e h i a b c d).fst==e
def xfx (j n f:Int) (e g h i a:Nat) (b:LA) (c:Nat) (d:LA):=decide (xao e<(xd1 j n f e g h i a b c d).length)
def xcs (j n f:Int) (e g h i a:Nat) (b:LA) (c:Nat) (d:LA):=((xd1 j n f e g h i a b c d).getD (xao e) .top).cells
def xcw (j n e:Int) (f g h i a:Nat) (b:LA) (c:Nat) (d:LA):=(xf0 j n e f g h i a b c d).snd
def xbQ (j n f:Int) (e g h i a:Nat) (b:LA) (c:Nat) (d:LA):=(xd1 j n f e g h i a b c d).set (xao e) (AV.agg (List.take 1 (xcs j n f e g h i a b c d)++[AV.int .i64 (i64.wrap (((xcs j n f e g h i a b c d).getD 1 .top).toInt - xbC n f e a b))]++List.drop 2 (xcs j n f e g h i a b c d)))
def xge {T:Type} (j n g:Int) (f e h i a:Nat) (b:LA) (c:Nat) (d:LA) (δ:T) (κl:(Int×Nat×Nat×Nat×Nat×Nat×LA×Nat×LA)->T) (κr:(Int×Nat×Nat×Nat×Nat×LA×Nat×LA×Nat)->T):T:=br (decide (g>n)) (br (a==e) (br (a==e&&(decide (0<=i64.wrap ((↑f:Int) - 1))&&decide (i64.wrap ((↑f:Int) - 1)<(↑f:Int)))) (br (a==e) (br (a==e) (br (a==e&&(decide (xao f<b.length)&&xrN (Sh.int .i64) ((b.getD (xao f) .top).cells.getD 1 .top))) (br ((xfC j n g f e h i a b c d).isSome) (br (xbq j n g f e h i a b c d) (br (xbq j n g f e h i a b c d) (br (xbq j n g f e h i a b c d&&(xfx j n g f e h i a b c d&&xrN (Sh.int .i64) ((xcs j n g f e h i a b c d).getD 1 .top))) (br (xbq j n g f e h i a b c d) (br (xbq j n g f e h i a b c d) (br (xbq j n g f e h i a b c d&&xfx j n g f e h i a b c d) (br (e==e) (br (e==e) (br (e==e&&(decide (xao f<(xbQ j n g f e h i a b c d).length)&&xrN (Sh.int .i64) (((xbQ j n g f e h i a b c d).getD (xao f) .top).cells.getD 1 .top))) (br ((((xbQ j n g f e h i a b c d).getD (xao f) .top).cells.getD 1 .top).toInt==0) (br (e==xcv j n g f e h i a b c d) (br (e==xcv j n g f e h i a b c d&&(decide (0<=xct j n g f e h i a b c d)&&decide (xct j n g f e h i a b c d<=(↑(xcu j n g f e h i a b c d):Int))&&true)) (κl (i64.wrap ((xdB j n g f e h i a b c d).fst - xbC n g f a b),(xct j n g f e h i a b c d).toNat - 0,xcv j n g f e h i a b c d,(xdz j n g f e h i a b c d).fst,(xdA j n g f e h i a b c d).fst,e,List.take ((xct j n g f e h i a b c d).toNat - 0) (xbQ j n g f e h i a b c d),(xcw j n g f e h i a b c d).snd,(xcw j n g f e h i a b c d).fst)) δ) δ) (κl (i64.wrap ((xdB j n g f e h i a b c d).fst - xbC n g f a b),xcu j n g f e h i a b c d,xcv j n g f e h i a b c d,(xdz j n g f e h i a b c d).fst,(xdA j n g f e h i a b c d).fst,e,List.take (xcu j n g f e h i a b c d) (xbQ j n g f e h i a b c d),(xcw j n g f e h i a b c d).snd,(xcw j n g f e h i a b c d).fst))) δ) δ) δ) δ) δ) δ) δ) δ) δ) δ) δ) δ) δ) δ) δ) (κr (g,e,f,i,h,b,a,d,c))
def xc6 (j n:Int):StT (Int×Nat×Nat×Nat×Nat×Nat×LA×Nat×LA) (Int×Nat×Nat×Nat×Nat×LA×Nat×LA×Nat):=fun (e,f,g,h,i,a,b,c,d)=>xge j n e f g h i a b c d none inL inR
def xfZ:=xpl.l 71 5 [] [(7,xcy.lp)] Tryz.f89 0 (lk1 xcy.ok) [0,1,2,3,4] [] [(3,0,0)] (q5 qI qI (xsK 0 0 0 0) (xsK 1 0 0 0) (xsK 2 0 0 0)) (q5 (qB 0 1 3 (q1 qI)) (xsM 0 1 125 false false (q1 (pOslV 3 0))) (xsM 0 1 97 false false (q1 (pOslV 4 0))) (pBoxV 2 127 false true xsB) (pBoxV 2 56 false true xsB)) (fun (j,n,_,_,_,_) ((e,_),((f,g),_),((h,i),_),(a,b),(c,d),_)=>(xc6 j n,(e,g,f,i,h,a,b,c,d),fun p=>(.leaf (.exit 0) [] [bF 0 1 3 [AV.int .i64 p.1],⟨0,1,125,[AV.osl 3 p.2.1 0 p.2.2.1],false,false⟩,⟨0,1,97,[AV.osl 4 p.2.2.2.1 0 p.2.2.2.2.1],false,false⟩,bF p.2.2.2.2.2.2.1 2 127 p.2.2.2.2.2.1,bF p.2.2.2.2.2.2.2.2 2 56 p.2.2.2.2.2.2.2.1]))) (0,0,0,0,0,[],0,[],0) fun (j,n,_,_,_,_) _ (e,g,f,i,h,a,b,c,d)=>(((j,n,(),(),(),()),((e,()),((f,g),()),((h,i),()),(a,b),(c,d),())),xge j n e g f i h a b c d none)
def xbX:Env:=E1.fn 71 5 (lsOf []) (xsa [(7,xcy.lp),(3,xfZ.lp)])
theorem xix:xrP P0 (xsv.at 5) xbX:=xmR.fn
theorem xhU:LoOk P0 (xsv.at xbX.pin) xbX (Tryz.f89.body.getD .skip):=xd2 (ls:=[xrT Tryz.f89 0,xrT Tryz.f89 1]) (by kernel_rfl) (lkC xfZ.ok (lkC xcy.ok lkN))
def xgL (a n h:Int) (b c:Nat) (d e:LA):=Iter (xc6 a n) (n,b+1,1,c,0,1,List.take (b+1) (d++[AV.agg [AV.int .i64 a,AV.int .i64 (i64.wrap (n - h))]]),0,e)
def xgM (a n h:Int) (b c:Nat) (d e:LA):=Iter (xc6 a n) (h,b,0,c,0,0,List.take b d,0,e)
def xgG (a n h:Int) (b c:Nat) (d e:LA):=(xgL a n h b c d e).getD (0,0,0,0,0,[],0,[],0)
def xgK (a n h:Int) (b c:Nat) (d e:LA):=(xgM a n h b c d e).getD (0,0,0,0,0,[],0,[],0)
def xhn (a n h:Int) (b c:Nat) (d e:LA):=(xgG a n h b c d e).snd
def xgJ (a n h:Int) (b c:Nat) (d e:LA):=(xgK a n h b c d e).snd
def xhk (a n h:Int) (b c:Nat) (d e:LA):=(xhn a n h b c d e).snd
def xgI (a n h:Int) (b c:Nat) (d e:LA):=(xgJ a n h b c d e).snd
def xhj (a n h:Int) (b c:Nat) (d e:LA):=(xhk a n h b c d e).snd
def xgH (a n h:Int) (b c:Nat) (d e:LA):=(xgI a n h b c d e).snd
def xhi (a n h:Int) (b c:Nat) (d e:LA):=(xhj a n h b c d e).snd
def xgF (a n h:Int) (b c:Nat) (d e:LA):=(xgH a n h b c d e).snd
def xhh (a n h:Int) (b c:Nat) (d e:LA):=(xhi a n h b c d e).snd
def xho (a n h:Int) (b c:Nat) (d e:LA):=(xgF a n h b c d e).snd
def xhg (a n h:Int) (b c:Nat) (d e:LA):=(xhh a n h b c d e).snd
def xhm (a n h:Int) (b c:Nat) (d e:LA):=(xho a n h b c d e).snd
def xhf (a n h:Int) (b c:Nat) (d e:LA):=(xhg a n h b c d e).snd
def xhl (a n h:Int) (b c:Nat) (d e:LA):=(xhm a n h b c d e).snd
def xf1 {T:Type} (a n h:Int) (b d:Nat) (c e:LA) (δ:T) (κ:Int×Nat×Nat×Nat×Nat×LA×Nat×LA×Nat->T):T:=br (decide (n>h)) (br (rmB b c 1 16) (br ((xgL a n h b d c e).isSome) (κ ((xgG a n h b d c e).fst,(xhn a n h b d c e).fst,(xhk a n h b d c e).fst,(xhj a n h b d c e).fst,(xhi a n h b d c e).fst,(xhh a n h b d c e).fst,(xhg a n h b d c e).fst,(xhf a n h b d c e).fst,(xhf a n h b d c e).snd)) δ) δ) (br ((xgM a n h b d c e).isSome) (κ ((xgK a n h b d c e).fst,(xgJ a n h b d c e).fst,(xgI a n h b d c e).fst,(xgH a n h b d c e).fst,(xgF a n h b d c e).fst,(xho a n h b d c e).fst,(xhm a n h b d c e).fst,(xhl a n h b d c e).fst,(xhl a n h b d c e).snd)) δ)
def xfK (a n h:Int) (b c:Nat) (d e:LA):=xf1 a n h b c d e none some
theorem xly (a n h:Int) (b c:Nat) (d e:LA):Enc (fun (p:Int×Nat×Nat×Nat×Nat×LA×Nat×LA×Nat)=>(((AV.tuple [],([⟨0,1,3,[AV.int .i64 p.1],false,true⟩,⟨0,1,125,[AV.osl 3 p.2.1 0 p.2.2.1],false,false⟩,⟨0,1,97,[AV.osl 4 p.2.2.2.1 0 p.2.2.2.2.1],false,false⟩,⟨p.2.2.2.2.2.2.1,2,127,p.2.2.2.2.2.1,false,true⟩,⟨p.2.2.2.2.2.2.2.2,2,56,p.2.2.2.2.2.2.2.1,false,true⟩]:List Box))):(AV×List Box))) (xfK a n h b c d e) (XFM P0 xbX Tryz.f89 (Tryz.f89.body.getD .skip) [AV.int .i64 a,AV.int .i64 n,AV.own (0:Id) 0 0 0,AV.own (1:Id) 0 0 0,AV.own (2:Id) 0 0 0] [{ ver:=0,sz:=1,ty:=(3:TypeId),xs:=[AV.int .i64 h],frz:=false,pm:=true },{ ver:=0,sz:=1,ty:=(125:TypeId),xs:=[AV.osl (3:Id) 0 0 b],frz:=false,pm:=false },{ ver:=0,sz:=1,ty:=(97:TypeId),xs:=[AV.osl (4:Id) 0 0 c],frz:=false,pm:=false },{ ver:=0,sz:=2,ty:=(127:TypeId),xs:=d,frz:=false,pm:=true },{ ver:=0,sz:=2,ty:=(56:TypeId),xs:=e,frz:=false,pm:=true }]):=by
 have h:XFM P0 xbX Tryz.f89 (Tryz.f89.body.getD .skip) [AV.int .i64 a,AV.int .i64 n,AV.own (0:Id) 0 0 0,AV.own (1:Id) 0 0 0,AV.own (2:Id) 0 0 0] [{ ver:=0,sz:=1,ty:=(3:TypeId),xs:=[AV.int .i64 h],frz:=false,pm:=true },{ ver:=0,sz:=1,ty:=(125:TypeId),xs:=[AV.osl (3:Id) 0 0 b],frz:=false,pm:=false },{ ver:=0,sz:=1,ty:=(97:TypeId),xs:=[AV.osl (4:Id) 0 0 c],frz:=false,pm:=false },{ ver:=0,sz:=2,ty:=(127:TypeId),xs:=d,frz:=false,pm:=true },{ ver:=0,sz:=2,ty:=(56:TypeId),xs:=e,frz:=false,pm:=true }]=xf1 a n h b c d e none (fun (p:Int×Nat×Nat×Nat×Nat×LA×Nat×LA×Nat)=>some (((AV.tuple [],([⟨0,1,3,[AV.int .i64 p.1],false,true⟩,⟨0,1,125,[AV.osl 3 p.2.1 0 p.2.2.1],false,false⟩,⟨0,1,97,[AV.osl 4 p.2.2.2.1 0 p.2.2.2.2.1],false,false⟩,⟨p.2.2.2.2.2.2.1,2,127,p.2.2.2.2.2.1,false,true⟩,⟨p.2.2.2.2.2.2.2.2,2,56,p.2.2.2.2.2.2.2.1,false,true⟩]:List Box))):(AV×List Box))):=by kernel_rfl
 rw [h];unfold xfK xf1;repeat' (first|refine Enc.br ?_ ?_|exact Enc.none|exact Enc.some rfl)
end Go.Sim.M
namespace Go.Sim
open Go.RowKit
theorem GoodM.aged {P:Program} {Inv:IV} {f:FuncId} {args:List AV} {H E:List Box} {p q v k t s y:Nat} {xs:List AV}
  (h:GoodM P Inv f args H (.tuple []) E) (hz:∀ bx,H[q]?=some bx->bx.ver=0)
  (ep:E[p]?=some ⟨0,1,t,[.osl (.b q) v 0 k],false,false⟩) (eq:E[q]?=some ⟨v,s,y,xs,false,true⟩) (pt:isC t=false) (py:isC y=false)
  (ho:∀ n bx,E[n]?=some bx->isC bx.ty=false/\(n=p\/n=q\/bx.pm=true\/∃ n' v' k',n'≠q/\bx.xs=[.osl (.b n') v' 0 k'])) :
  GoodM P Inv f args H (.tuple []) ((E.set p ⟨0,1,t,[.osl (.b q) 1 0 k],false,false⟩).set q ⟨1,s,y,xs,false,true⟩):=by
 have pq:p≠q:=fun e=>by
  subst e;rw [ep] at eq;simp at eq
 refine ⟨h.1,fun w0 w A M vs hI hB hR aa=>(h.2 w0 w A M vs hI hB hR aa).mono ?_⟩
 rintro e w' ⟨u,A',M',rfl,h1,h2,h3,h4,h5⟩;let M'':Id->Option MB:=fun id=>if id=.b q then (M' id).map fun m=>⟨m.b,1,m.sz,m.cap,m.ty⟩ else M' id
 have eo:∀ id,id≠.b q->M'' id=M' id:=fun id g1=>if_neg g1
 have e4:∀ m,M' (.b q)=some m->M'' (.b q)=some ⟨m.b,1,m.sz,m.cap,m.ty⟩:=fun m hm=>(if_pos rfl).trans (by rw [hm];rfl)
 have O:∀ id m1,M'' id=some m1->∃ m0,M' id=some m0/\m1.b=m0.b/\m1.cap=m0.cap:=fun id m1 J=>by
  by_cases g3:id=.b q
  . subst g3;cases hm:M' (.b q) with
    | none=>simp [M'',hm] at J
    | some m=>rw [e4 m hm] at J;simp only [z1] at J;subst J;exact ⟨m,rfl,rfl,rfl⟩
  . exact ⟨m1,eo id g3▸J,rfl,rfl⟩
 have Q:∀ n bx m,E[n]?=some bx->M' (.b n)=some m->BoxAt w' A' M' w0.heap.size (.b n) m bx:=fun n bx m hn hm=>by
  obtain ⟨bx',g1,g2⟩:=h4.box _ m hm;rw [xaP,hn] at g1;cases g1;exact g2
 have hv:∀ m,M' (.b q)=some m->v=m.ver:=fun m hm=>(Q q _ m eq hm).ver
 have hx:∀ c n' v' k',n'≠q->Rel w' A' M' c (.osl (.b n') v' 0 k')->Rel w' A' M'' c (.osl (.b n') v' 0 k'):=fun c n' v' k' hn hr=>by
  obtain ⟨m0,g1,g2,g3,g4⟩:=Rel.osl_inv hr;exact .osl c _ v' 0 k' m0 ((eo _ fun e=>hn (by cases e;rfl)).trans g1) g2 g3 g4
 have hy:∀ c,Rel w' A' M' c (.osl (.b q) v 0 k)->Rel w' A' M'' c (.osl (.b q) 1 0 k):=fun c hr=>by
  obtain ⟨m0,g1,g2,g3,g4⟩:=Rel.osl_inv hr;exact .osl c _ 1 0 k _ (e4 m0 g1) (zb _) g3 fun _=>g4 (hv m0 g1)
 have hb:∀ id (bx bx':Box) (m m':MB),isC bx.ty=false->bx'=⟨m'.ver,bx.sz,bx.ty,bx'.xs,bx.frz,bx.pm⟩->m'=⟨m.b,m'.ver,m.sz,m.cap,m.ty⟩->bx'.xs.length=bx.xs.length->(∀ x,x∈bx'.xs->x.okElem m.sz=true) ->
   (∀ c i j,Rel w' A' (MP M' bx.pm) c ((bx.xs.getD i .top).cells.getD j .top)->Rel w' A' (MP M'' bx.pm) c ((bx'.xs.getD i .top).cells.getD j .top))->BoxAt w' A' M' w0.heap.size id m bx->BoxAt w' A' M'' w0.heap.size id m' bx':=fun id bx bx' m m' U Y ad hl ab hc g=>by
  rw [Y,ad];have V:xrR m.ty=false:=g.nomap (xai U);refine ⟨rfl,g.sz,g.ty,g.capm,hl▸g.fits,ab,g.low,g.lt,fun h0=>?_,g.guard⟩
  obtain ⟨c,c1,c2,c3⟩:=g.cells h0;refine ⟨c,.of V (c1.plain V),c2,fun i j hi hj=>?_⟩
  have:=c3 i j (hl▸hi) hj;rw [xad U,xaw U] at this;rw [xad U,xaw (bx:=⟨m'.ver,bx.sz,bx.ty,bx'.xs,bx.frz,bx.pm⟩) U];exact hc _ i j this
 have ht:∀ a v1 v2 d,(∀ c,Rel w' A' M' c (.osl a v1 0 d)->Rel w' A' M'' c (.osl a v2 0 d))->∀ c i j,Rel w' A' M' c ((([.osl a v1 0 d]:List AV).getD i .top).cells.getD j .top)->Rel w' A' M'' c ((([.osl a v2 0 d]:List AV).getD i .top).cells.getD j .top):=fun a v1 v2 d hh c i j hr=>by
  match i,j with
  | 0,0=>exact hh c hr
  | 0,j+1=>exact .top _
  | i+1,0=>exact .top _
  | i+1,j+1=>exact .top _
 have hg:∀ n bx,E[n]?=some bx->∃ bx',((E.set p ⟨0,1,t,[.osl (.b q) 1 0 k],false,false⟩).set q ⟨1,s,y,xs,false,true⟩)[n]?=some bx'/\isC bx'.ty=false/\(∀ m m1,M' (.b n)=some m->M'' (.b n)=some m1->BoxAt w' A' M'' w0.heap.size (.b n) m1 bx'):=fun n bx hn=>by
  have hn':=xa5 hn;obtain ⟨hC,hc⟩:=ho n bx hn;by_cases g1:n=q
  . subst g1;rw [hn] at eq;cases eq;refine ⟨_,zK (by simpa using hn'),py,fun m m1 e1 e2=>?_⟩
    rw [e4 m e1] at e2;cases e2;have g:=Q n _ m hn e1;exact hb _ ⟨v,s,y,xs,false,true⟩ ⟨1,s,y,xs,false,true⟩ m _ py rfl rfl rfl g.ok (fun c i j hr=>hr) g
  . have ge:∀ m m1,M' (.b n)=some m->M'' (.b n)=some m1->m1=m:=fun m m1 e1 e2=>by
     rw [eo _ fun e=>g1 (by cases e;rfl),e1] at e2;cases e2;rfl
    by_cases g2:n=p
    . subst g2;rw [hn] at ep;cases ep;refine ⟨_,(zW (Ne.symm g1)).trans (zK hn'),pt,fun m m1 e1 e2=>?_⟩
      cases ge m m1 e1 e2;have g:=Q n _ m hn e1;have hv:0=m.ver:=g.ver;have hz:m.sz=1:=g.sz.symm;exact hb _ ⟨0,1,t,[.osl (.b q) v 0 k],false,false⟩ ⟨0,1,t,[.osl (.b q) 1 0 k],false,false⟩ m m pt (by rw [<-hv]) rfl rfl (fun x hx=>by simp only [zu] at hx;subst hx;rw [hz];rfl) (ht _ _ _ _ hy) g
    . refine ⟨bx,(zW (Ne.symm g1)).trans ((zW (Ne.symm g2)).trans hn),hC,fun m m1 e1 e2=>?_⟩
      cases ge m m1 e1 e2;have g:=Q n _ m hn e1;refine hb _ bx bx m m hC (by rw [<-g.ver]) rfl rfl g.ok ?_ g
      rcases hc with hc|hc|hc|⟨n',v',k',hc,hd⟩
      . exact absurd hc g2
      . exact absurd hc g1
      . rw [hc];exact fun c i j hr=>hr
      . cases ae:bx.pm with
        | true=>exact fun c i j hr=>hr
        | false=>rw [hd];exact ht _ _ _ _ fun c=>hx c n' v' k' hc
 have hR':HR w' A' M'' w0.heap.size ((E.set p ⟨0,1,t,[.osl (.b q) 1 0 k],false,false⟩).set q ⟨1,s,y,xs,false,true⟩):=by
  refine ⟨fun id m1 J=>?_,fun id id' m1 m2 k1 k2 c1 c2 he=>?_,h4.lt⟩
  . obtain ⟨m0,g1,_⟩:=O id m1 J;obtain ⟨bx,q1,q2⟩:=h4.box _ m0 g1;cases id with
    | r n i j =>
     rw [eo _ (fun e=>by cases e),g1] at J
     cases J;obtain ⟨c0,r1,_⟩:=xfk q1;obtain ⟨bx',r2,r3,_⟩:=hg n c0 r1;rw [xbu r1 (ho n c0 r1).1] at q1;cases q1;exact ⟨_,xbu r2 r3,hb _ tombB tombB m1 m1 rfl (by rw [<-q2.ver]) rfl rfl q2.ok (fun c i j hr=>hr) q2⟩
    | b n =>
     obtain ⟨bx',r2,_,r3⟩:=hg n bx q1;exact ⟨bx',r2,r3 _ _ g1 J⟩
  . obtain ⟨n1,a1,a2,a3⟩:=O id m1 k1;obtain ⟨n2,b1,b2,b3⟩:=O id' m2 k2;exact h4.inj id id' n1 n2 a1 b1 (a3▸c1) (b3▸c2) (by rw [<-a2,<-b2,he])
 refine ⟨u,A',M'',rfl,h1,h2,⟨h3.size,h3.keep,h3.less,h3.more,fun id m ac hm=>?_,fun id m1 J h0=>?_⟩,hR',?_⟩
 . obtain ⟨m',g1,g2⟩:=h3.ids id m ac hm;by_cases q4:id=.b q
   . subst q4;obtain ⟨bx,r1,r2⟩:=hR.box _ m hm;exact ⟨_,e4 m' g1,.inr (by rw [<-r2.ver,hz bx r1];exact Nat.zero_lt_one)⟩
   . exact ⟨m',(eo id q4).trans g1,g2⟩
 . obtain ⟨m0,g1,g2,g3⟩:=O id m1 J;rw [g2];exact h3.src id m0 g1 (g3▸h0)
 . obtain ⟨Z,rfl,q1,_⟩:=h5.tuple_inv;exact .tuple Z [] q1 (by simp)
namespace M
open Go.Proofs
noncomputable def set2 (q n h:Int) (ns no:Nat) (sx ox:List AV):Option (Int×Nat×Nat×List AV×List AV):=(xfK q n h ns no sx ox).bind fun p =>
 br (Nat.beq p.2.1 p.2.2.2.2.2.2.1&&Nat.beq p.2.2.2.1 p.2.2.2.2.2.2.2.2) (some (p.1,p.2.2.1,p.2.2.2.2.1,p.2.2.2.2.2.1,p.2.2.2.2.2.2.2.1)) none
noncomputable def xoB:List AV->List Box->Option (Bool×AV×List Box):=omOf (xsy (sEq (pInt IntKind.i64)) (xsy (sEq (pInt IntKind.i64)) (xsy (sEq (xsK 0 0 0 0)) (xsy (sEq (xsK 1 0 0 0)) (xsy (sEq (xsK 2 0 0 0)) xsA)))))
 (xsw (xsM 0 1 3 false true (xsw (pInt IntKind.i64) xsz)) (xsw (xsM 0 1 125 false false (xsw (xsJ 3 0 0) xsz)) (xsw (xsM 0 1 97 false false (xsw (xsJ 4 0 0) xsz)) (xsw (xsM 0 2 127 false true xsB) (xsw (xsM 0 2 56 false true xsB) xsz)))))
 fun (q,(n,(_,(_,(_,_))))) ((h,_),((ns,_),((no,_),(sx,(ox,_)))))=>((set2 q n h ns no sx ox).isSome,(.tuple [],[⟨0,1,3,[.int .i64 ((set2 q n h ns no sx ox).getD (0,0,0,[],[])).1],false,true⟩,⟨0,1,125,[.osl (.b 3) 1 0 ((set2 q n h ns no sx ox).getD (0,0,0,[],[])).2.1],false,false⟩,⟨0,1,97,[.osl (.b 4) 1 0 ((set2 q n h ns no sx ox).getD (0,0,0,[],[])).2.2.1],false,false⟩,⟨1,2,127,((set2 q n h ns no sx ox).getD (0,0,0,[],[])).2.2.2.1,false,true⟩,⟨1,2,56,((set2 q n h ns no sx ox).getD (0,0,0,[],[])).2.2.2.2,false,true⟩]))
theorem xqR:OmOk P0 xsv 89 xoB:=xmF fun vv bb rr Z hh=>by
 obtain ⟨J,⟨n,⟨_,⟨_,⟨_,_⟩⟩⟩⟩⟩:=vv;obtain ⟨⟨h,_⟩,⟨⟨ns,_⟩,⟨⟨no,_⟩,⟨sx,⟨ox,_⟩⟩⟩⟩⟩:=bb;obtain ⟨O,Q⟩:=Prod.mk.inj hh;cases hs:xfK J n h ns no sx ox with
 | none=>rw [show set2 J n h ns no sx ox=none by unfold set2;rw [hs];rfl] at O;simp at O
 | some p =>
  have U:set2 J n h ns no sx ox=br (Nat.beq p.2.1 p.2.2.2.2.2.2.1&&Nat.beq p.2.2.2.1 p.2.2.2.2.2.2.2.2) (some (p.1,p.2.2.1,p.2.2.2.2.1,p.2.2.2.2.2.1,p.2.2.2.2.2.2.2.1)) none:=by unfold set2;rw [hs];rfl
  cases ht:Nat.beq p.2.1 p.2.2.2.2.2.2.1&&Nat.beq p.2.2.2.1 p.2.2.2.2.2.2.2.2 with
  | false=>rw [U,ht] at O;simp [br] at O
  | true =>
   rw [ht] at U;have Y:set2 J n h ns no sx ox=some (p.1,p.2.2.1,p.2.2.2.2.1,p.2.2.2.2.2.1,p.2.2.2.2.2.2.2.1):=U;rw [Y] at Q;simp only [zg] at Q;simp only [ze] at ht;have e1:=zf ht.1;have e2:=zf ht.2;have hx:=xly J n h ns no sx ox p hs;have hg:GoodM P0 xsv 89 _ _ _ _:=xgc (p:=xbX.pin) (xhQ xrY (xrZ P0 _) rfl xix rfl Tryz.func89 rfl (by kernel_rfl) xhU hx)
   rw [<-e1,<-e2] at hg;have V:=GoodM.aged (p:=1) (q:=3) hg (fun bx hb=>by cases hb;rfl) rfl rfl rfl rfl (fun n bx hn=>by
    match n with
    | 0=>cases hn;exact ⟨rfl,.inr (.inr (.inl rfl))⟩
    | 1=>cases hn;exact ⟨rfl,.inl rfl⟩
    | 2=>cases hn;exact ⟨rfl,.inr (.inr (.inr ⟨_,_,_,by decide,rfl⟩))⟩
    | 3=>cases hn;exact ⟨rfl,.inr (.inl rfl)⟩
    | 4=>cases hn;exact ⟨rfl,.inr (.inr (.inl rfl))⟩
    | n+5=>simp at hn)
   have V:=GoodM.aged (p:=2) (q:=4) V (fun bx hb=>by cases hb;rfl) rfl rfl rfl rfl (fun n bx hn=>by
    match n with
    | 0=>cases hn;exact ⟨rfl,.inr (.inr (.inl rfl))⟩
    | 1=>cases hn;exact ⟨rfl,.inr (.inr (.inr ⟨_,_,_,by decide,rfl⟩))⟩
    | 2=>cases hn;exact ⟨rfl,.inl rfl⟩
    | 3=>cases hn;exact ⟨rfl,.inr (.inr (.inl rfl))⟩
    | 4=>cases hn;exact ⟨rfl,.inr (.inl rfl)⟩
    | n+5=>simp at hn)
   obtain ⟨rfl,rfl⟩:=Prod.mk.inj Q;exact V
noncomputable def ESet:Env:=E1.withM 89 xoB
theorem xpv:xrP P0 xsv ESet:=xmR.withM xqR
noncomputable def xpu:EO:=EO.mk ESet xpv
end M
end Go.Sim
namespace Go.Sim.M
open Go.IntKind (i64 u64 u8)
open Go.RowKit Go.Proofs
def xb2 (b a:Bool):Int:=(br (b) (((-1))) (br (a) ((1)) ((0))))
def xlH {T:Type} (b a:Bool) (δ:T) (κ:Int->T):T:=br (b) (κ ((-1))) (br (a) (κ (1)) (κ (0)))
def xqr:EO:=xpu.fT Tryz.func81 7 0 [] [] lk0 (fun (b,a,_)=>xlH b a none) (u2 (sEq pBool) (sEq pBool)) (fun (b,a,_)=>xb2 b a) (fun _ p=>(AV.int .i64 p))
def xcK (a b:Int) (c:List UInt8) (d e:Int) (f:List UInt8):Int:=(br (a != d) ((xb2 (decide (a<d)) (decide (a>d)))) (br (b != e) ((xb2 (decide (b<e)) (decide (b>e)))) ((xb2 (Op.bytesLess c f) !(Op.bytesLess c f || c==f)))))
def xjI {T:Type} (a b:Int) (c:List UInt8) (d e:Int) (f:List UInt8) (δ:T) (κ:Int->T):T:=br (a != d) (κ (xb2 (decide (a<d)) (decide (a>d)))) (br (b != e) (κ (xb2 (decide (b<e)) (decide (b>e)))) (κ (xb2 (Op.bytesLess c f) !(Op.bytesLess c f || c==f))))
def xnL:EO:=xqr.fT Tryz.func61 48 0 [] [] lk0 (fun ((a,b,c,_),(d,e,f,_),_)=>xjI a b c d e f none) (u2 (xsO (u3 uI uI (sEq pStr))) (xsO (u3 uI uI (sEq pStr)))) (fun ((a,b,c,_),(d,e,f,_),_)=>xcK a b c d e f) (fun _ p=>(AV.int .i64 p))
def xaW (a b:LA) (i:Int):=xcK (gC a i 0).toInt (gC a i 1).toInt (gC a i 2).toStr (gC b i 0).toInt (gC b i 1).toInt (gC b i 2).toStr
def xa6 {T:Type} (a b:LA) (i:Int) (δ:T) (κl:(Int)->T) (κr:(Bool×(Int)×(Unit))->T):T:=br (decide (i<a.length)) (br (decide (i<b.length)) (br (ixI a i) (br (ixT a i 3 [Sh.int .i64,Sh.int .i64,Sh.str] 0) (br (ixI b i) (br (ixT b i 3 [Sh.int .i64,Sh.int .i64,Sh.str] 0) (br (xaW a b i != 0) (κr (true,(xaW a b i),())) (κl (i64.wrap (i+1)))) δ) δ) δ) δ) (κr (false,0,()))) (κr (false,0,()))
def xal (a b:LA):StT (Int) (Bool×(Int)×(Unit)):=fun (i)=>xa6 a b i none inL inR
def xeM:=xnL.l 41 0 [] [] Tryz.f29 0 lk0 [0,1,5] [0,1,4] [] (q3 (qL 3) (qL 3) qI) xsz (fun (a,b,i,_) _=>(xal a b,(i),fun p=>(.node p.1 (.leaf .ret [AV.list 3 a,AV.list 3 b,AV.int .i64 p.2.1] []) (.leaf (.exit 0) [AV.list 3 a,AV.list 3 b,.top] [])))) (false,0,()) fun (a,b,_,_) _ (i)=>(((a,b,i,()),()),xa6 a b i none)
def xez {T:Type} (a b:LA) (δ:T) (κ:Int->T):T:=br ((Iter (xal a b) 0).isSome) (br (((Iter (xal a b) 0).getD (false,0,())).fst) (κ (((Iter (xal a b) 0).getD (false,0,())).snd.fst)) (br (decide ((↑a.length:Int)<(↑b.length:Int))) (κ ((-1))) (br (decide ((↑a.length:Int)>(↑b.length:Int))) (κ (1)) (κ (0))))) δ
def xdW (a b:LA):=xez a b none some
def xqs:EO:=xnL.f Tryz.func29 41 0 [] [(2,xeM.lp)] (lk1 xeM.ok) (u2 (uL 3) (uL 3)) (fun (a,b,_) _=>xez a b) (fun _ p=>AV.int .i64 p) 0
def xcN (a b:Int):Bool:=(br (decide (a>=0)) (br (decide (a<b)) ((decide (b<=1099511627776))) ((false))) ((false)))
def xkY {T:Type} (a b:Int) (δ:T) (κ:Bool->T):T:=br (decide (a>=0)) (br (decide (a<b)) (κ (decide (b<=1099511627776))) (κ (false))) (κ (false))
def xnM:EO:=xqs.fT Tryz.func59 18 0 [] [] lk0 (fun ((a,b,_),_)=>xkY a b none) (u1 (xsO (u2 uI uI))) (fun ((a,b,_),_)=>xcN a b) (fun _ p=>(AV.bool p))
def xdq {T:Type} (l:LA) (i:Int) (δ:T) (κl:(Int)->T) (κr:(Bool×(Bool)×(Unit))->T):T:=br (decide (i<l.length)) (br (ixI l i) (br (ixS l i (Sh.list 3) 0) (br (decide ((↑(gC l i 0).toList.length:Int)>60)) (κr (true,(false),())) (κl (i64.wrap (i+1)))) δ) δ) (κr (false,false,()))
def xaI (l:LA):StT (Int) (Bool×(Bool)×(Unit)):=fun (i)=>xdq l i none inL inR
def xgi:=xnM.l 23 0 [] [] Tryz.f16 0 lk0 [0,5] [4] [] (q2 (qL 3) qI) xsz (fun (l,i,_) _=>(xaI l,(i),fun p=>(.node p.1 (.leaf .ret [AV.bool p.2.1] []) (.leaf (.exit 0) [.top] [])))) (false,false,()) fun (l,_,_) _ (i)=>(((l,i,()),()),xdq l i none)
def xgt {T:Type} (l:LA) (a:Int) (δ:T) (κ:Bool->T):T:=br (decide ((↑l.length:Int)>a)) (κ (false)) (br ((Iter (xaI l) 0).isSome) (br (((Iter (xaI l) 0).getD (false,false,())).fst) (κ (((Iter (xaI l) 0).getD (false,false,())).snd.fst)) (κ (true))) δ)
def xeb (l:LA) (a:Int):=xgt l a none some
def xqt:EO:=xnM.f Tryz.func16 23 0 [] [(4,xgi.lp)] (lk1 xgi.ok) (u2 (uL 3) uI) (fun (l,a,_) _=>xgt l a) (fun _ p=>AV.bool p) false
def xcQ {T:Type} (c d:Int) (a:LA) (o p e f g h i j:Int) (b:LA) (q r k l m n:Int) (δ:T) (κ:Bool->T):T:=br (c==i) (br (d==j) (br (o==q&&(p==r&&true)) (br (e==k&&(f==l&&true)) (br (g==m) (br (h==n) (br ((xdW a b).isSome) (κ ((xdW a b).getD 0==0)) δ) (κ (false))) (κ (false))) (κ (false))) (κ (false))) (κ (false))) (κ (false))
def xdC (a b:Int) (m:LA) (n o c d e f g h:Int) (p:LA) (q r i j k l:Int):=xcQ a b m n o c d e f g h p q r i j k l none some
def xnN:EO:=xqt.f Tryz.func60 53 0 [] [] lk0 (u2 (xsO (xsy uI (xsy uI (u7 (uL 3) uI uI uI uI uI uI)))) (xsO (xsy uI (xsy uI (u7 (uL 3) uI uI uI uI uI uI))))) (fun ((a,b,n,o,q,c,d,e,g,_),(h,i,r,s,t,j,k,l,m,_),_) _=>xcQ a b n o q c d e g h i r s t j k l m) (fun _ p=>AV.bool p) false
def xbh (a b:LA) (i:Int):=xdC (gC a i 0).toInt (gC a i 1).toInt (gC a i 2).toList (gC a i 3).toInt (gC a i 4).toInt (gC a i 5).toInt (gC a i 6).toInt (gC a i 7).toInt (gC a i 8).toInt (gC b i 0).toInt (gC b i 1).toInt (gC b i 2).toList (gC b i 3).toInt (gC b i 4).toInt (gC b i 5).toInt (gC b i 6).toInt (gC b i 7).toInt (gC b i 8).toInt
def xbn {T:Type} (a b:LA) (i:Int) (δ:T) (κl:(Int)->T) (κr:(Bool×(Bool)×(Unit))->T):T:=br (decide (i<a.length)) (br (ixI a i) (br (ixT a i 9 [Sh.int .i64,Sh.int .i64,Sh.list 3,Sh.int .i64,Sh.int .i64,Sh.int .i64,Sh.int .i64,Sh.int .i64,Sh.int .i64] 0) (br (ixI b i) (br (ixT b i 9 [Sh.int .i64,Sh.int .i64,Sh.list 3,Sh.int .i64,Sh.int .i64,Sh.int .i64,Sh.int .i64,Sh.int .i64,Sh.int .i64] 0) (br ((xbh a b i).isSome) (br (!(xbh a b i).getD false) (κr (true,(false),())) (κl (i64.wrap (i+1)))) δ) δ) δ) δ) δ) (κr (false,false,()))
def xan (a b:LA):StT (Int) (Bool×(Bool)×(Unit)):=fun (i)=>xbn a b i none inL inR
def xdc:=xnN.l 27 0 [] [] Tryz.f24 0 lk0 [0,1,5] [4] [] (q3 (qL 9) (qL 9) qI) xsz (fun (a,b,i,_) _=>(xan a b,(i),fun p=>(.node p.1 (.leaf .ret [AV.bool p.2.1] []) (.leaf (.exit 0) [.top] [])))) (false,false,()) fun (a,b,_,_) _ (i)=>(((a,b,i,()),()),xbn a b i none)
def xcB {T:Type} (a b:LA) (δ:T) (κ:Bool->T):T:=br ((↑a.length:Int) != (↑b.length:Int)) (κ (false)) (br ((Iter (xan a b) 0).isSome) (br (((Iter (xan a b) 0).getD (false,false,())).fst) (κ (((Iter (xan a b) 0).getD (false,false,())).snd.fst)) (κ (true))) δ)
def xb3 (a b:LA):=xcB a b none some
def xnO:EO:=xnN.f Tryz.func24 27 0 [] [(4,xdc.lp)] (lk1 xdc.ok) (u2 (uL 9) (uL 9)) (fun (a,b,_) _=>xcB a b) (fun _ p=>AV.bool p) false
def xcA {T:Type} (l:LA) (b:Nat) (i:Int) (a:LA) (δ:T) (κl:(Nat×Int×LA)->T) (κr:(Nat×LA)->T):T:=br (decide (i<l.length)) (br (ixI l i) (br (ixS l i (Sh.list 3) 2) (br (ixI l i) (br (ixT l i 9 [Sh.int .i64,Sh.int .i64] 3) (br (rmB b a 1 40) (κl (b+1,i64.wrap (i+1),a++[AV.agg [AV.list 3 (gC l i 2).toList,AV.int .i64 (gC l i 3).toInt,AV.int .i64 (gC l i 4).toInt]])) δ) δ) δ) δ) δ) (κr (b,a))
def xaX (l:LA):StT (Nat×Int×LA) (Nat×LA):=fun (b,i,a)=>xcA l b i a none inL inR
def xfD:=xnO.l 26 0 [] [] Tryz.f34 0 lk0 [0,3,4] [3] [(3,3,60)] (q3 (qL 9) (xsJ 0 0 0) qI) (q1 (qB 0 3 60 xsB)) (fun (l,b,i,_) (a,_)=>(xaX l,(b,i,a),fun p=>(.leaf (.exit 0) [AV.osl 0 0 0 p.1] [bF 0 3 60 p.2]))) (0,[]) fun (l,_,_,_) _ (b,i,a)=>(((l,b,i,()),(a,())),xcA l b i a none)
def xeY (l:LA):=(Iter (xaX l) (0,0,[])).getD (0,[])
def xeW (l:LA):=(xeY l).snd
def xeX (l:LA):=(xeY l).fst
def xft {T:Type} (l:LA) (δ:T) (κ:LA->T):T:=br ((Iter (xaX l) (0,0,[])).isSome) (br (decide (0+xeX l<=(xeW l).length)&&true) (κ (List.take (xeX l) (List.drop 0 (xeW l)))) δ) δ
def xdT (l:LA):=xft l none some
def xqu:EO:=xnO.f Tryz.func34 26 0 [] [(3,xfD.lp)] (lk1 xfD.ok) (u1 (uL 9)) (fun (l,_) _=>xft l) (fun _ p=>AV.list 3 p) []
def xcF (c d:Int) (g:LA) (h i b a e f:Int):Bool:=(br (xcN b a) ((a==1099511627776)) ((false)))
def xlI {T:Type} (c d:Int) (g:LA) (h i b a e f:Int) (δ:T) (κ:Bool->T):T:=br (xcN b a) (κ (a==1099511627776)) (κ (false))
def xk7:EO:=xqu.fT Tryz.func28 12 0 [] [] lk0 (fun ((a,b,g,h,i,c,d,e,f,_),_)=>xlI a b g h i c d e f none) (u1 (xsO (xsy uI (xsy uI (u7 (uL 3) uI uI uI uI uI uI))))) (fun ((a,b,g,h,i,c,d,e,f,_),_)=>xcF a b g h i c d e f) (fun _ p=>(AV.bool p))
def xcH {T:Type} (l:LA) (i k:Int) (δ:T) (κl:(Int)->T) (κr:(Bool×(Bool)×(Unit))->T):T:=br (decide (k<i)) (br (ixI l i) (br (ixT l i 9 [Sh.int .i64,Sh.int .i64,Sh.list 3,Sh.int .i64,Sh.int .i64,Sh.int .i64,Sh.int .i64,Sh.int .i64,Sh.int .i64] 0) (br (xcF (gC l i 0).toInt (gC l i 1).toInt (gC l i 2).toList (gC l i 3).toInt (gC l i 4).toInt (gC l i 5).toInt (gC l i 6).toInt (gC l i 7).toInt (gC l i 8).toInt) (br (ixI l k) (br (ixT l k 9 [Sh.int .i64,Sh.int .i64,Sh.list 3,Sh.int .i64,Sh.int .i64,Sh.int .i64,Sh.int .i64,Sh.int .i64,Sh.int .i64] 0) (br (xcF (gC l k 0).toInt (gC l k 1).toInt (gC l k 2).toList (gC l k 3).toInt (gC l k 4).toInt (gC l k 5).toInt (gC l k 6).toInt (gC l k 7).toInt (gC l k 8).toInt) (br (ixI l i) (br (ixS l i (Sh.int .i64) 0) (br (ixI l k) (br (ixS l k (Sh.int .i64) 0) (br ((gC l i 0).toInt==(gC l k 0).toInt) (κr (true,(false),())) (κl (i64.wrap (k+1)))) δ) δ) δ) δ) (κl (i64.wrap (k+1)))) δ) δ) (κl (i64.wrap (k+1)))) δ) δ) (κr (false,false,()))
def xaB (l:LA) (i:Int):StT (Int) (Bool×(Bool)×(Unit)):=fun (k)=>xcH l i k none inL inR
def xcd:=xk7.l 41 0 [] [] Tryz.f17 1 lk0 [0,3,4] [0,2,3] [] (q3 (qL 9) qI qI) xsz (fun (l,i,k,_) _=>(xaB l i,(k),fun p=>(.node p.1 (.leaf .ret [AV.list 9 l,AV.bool p.2.1,AV.int .i64 i] []) (.leaf (.exit 2) [AV.list 9 l,.top,AV.int .i64 i] [])))) (false,false,()) fun (l,i,_,_) _ (k)=>(((l,i,k,()),()),xcH l i k none)
def xcG {T:Type} (l:LA) (i:Int) (δ:T) (κl:(Int)->T) (κr:(Bool×(Bool)×(Unit))->T):T:=br (decide (i<l.length)) (br ((Iter (xaB l i) 0).isSome) (br (((Iter (xaB l i) 0).getD (false,false,())).fst) (κr (true,(((Iter (xaB l i) 0).getD (false,false,())).snd.fst),())) (κl (i64.wrap (i+1)))) δ) (κr (false,false,()))
def xaL (l:LA):StT (Int) (Bool×(Bool)×(Unit)):=fun (i)=>xcG l i none inL inR
def xfF:=xk7.l 41 0 [] [(5,xcd.lp)] Tryz.f17 0 (lk1 xcd.ok) [0,3] [2] [] (q2 (qL 9) qI) xsz (fun (l,i,_) _=>(xaL l,(i),fun p=>(.node p.1 (.leaf .ret [AV.bool p.2.1] []) (.leaf (.exit 0) [.top] [])))) (false,false,()) fun (l,_,_) _ (i)=>(((l,i,()),()),xcG l i none)
def xfv {T:Type} (l:LA) (δ:T) (κ:Bool->T):T:=br ((Iter (xaL l) 0).isSome) (br (((Iter (xaL l) 0).getD (false,false,())).fst) (κ (((Iter (xaL l) 0).getD (false,false,())).snd.fst)) (κ (true))) δ
def xfg (l:LA):=xfv l none some
def xmr:EO:=xk7.f Tryz.func17 41 0 [] [(5,xcd.lp),(2,xfF.lp)] (lks (lkC xfF.ok (lkC xcd.ok lkN))) (u1 (uL 9)) (fun (l,_) _=>xfv l) (fun _ p=>AV.bool p) false
def xcT {T:Type} (l:LA) (a i:Int) (δ:T) (κl:(Int)->T) (κr:(Bool×(Int)×(Unit))->T):T:=br (decide (i<l.length)) (br (ixI l i) (br (ixT l i 9 [Sh.int .i64,Sh.int .i64,Sh.list 3,Sh.int .i64,Sh.int .i64,Sh.int .i64,Sh.int .i64,Sh.int .i64,Sh.int .i64] 0) (br (xcF (gC l i 0).toInt (gC l i 1).toInt (gC l i 2).toList (gC l i 3).toInt (gC l i 4).toInt (gC l i 5).toInt (gC l i 6).toInt (gC l i 7).toInt (gC l i 8).toInt) (br (ixI l i) (br (ixS l i (Sh.int .i64) 0) (br ((gC l i 0).toInt==a) (κr (true,(i),())) (κl (i64.wrap (i+1)))) δ) δ) (κl (i64.wrap (i+1)))) δ) δ) (κr (false,0,()))
def xaR (l:LA) (a:Int):StT (Int) (Bool×(Int)×(Unit)):=fun (i)=>xcT l a i none inL inR
def xf6:=xmr.l 27 0 [] [] Tryz.f58 0 lk0 [0,1,5] [4] [] (q3 (qL 9) qI qI) xsz (fun (l,a,i,_) _=>(xaR l a,(i),fun p=>(.node p.1 (.leaf .ret [AV.int .i64 p.2.1] []) (.leaf (.exit 0) [.top] [])))) (false,0,()) fun (l,a,_,_) _ (i)=>(((l,a,i,()),()),xcT l a i none)
def xf7 {T:Type} (l:LA) (a:Int) (δ:T) (κ:Int->T):T:=br ((Iter (xaR l a) 0).isSome) (br (((Iter (xaR l a) 0).getD (false,0,())).fst) (κ (((Iter (xaR l a) 0).getD (false,0,())).snd.fst)) (κ ((-1)))) δ
def xbi (l:LA) (a:Int):=xf7 l a none some
def xeN:EO:=xmr.f Tryz.func58 27 0 [] [(2,xf6.lp)] (lk1 xf6.ok) (u2 (uL 9) uI) (fun (l,a,_) _=>xf7 l a) (fun _ p=>AV.int .i64 p) 0
def xaJ (l a:LA) (i:Int):=(xbi l (gC a i 0).toInt).getD 0
def xby {T:Type} (l a:LA) (i c b d e:Int) (δ:T) (κl:(Int×Int×Int×Int×Int)->T) (κr:(Bool×(Int×Int×Int×Int×Int)×(Int×Int×Int×Int))->T):T:=br (ixI a i) (br (ixS a i (Sh.int .i64) 0) (br ((xbi l (gC a i 0).toInt).isSome) (br (decide (xaJ l a i<0)) (κr (true,(11,c,b,d,e),(0,0,0,0))) (br (decide (0<=xaJ l a i)&&decide (xaJ l a i<l.length)) (br (decide ((xaJ l a i).toNat<l.length)&&xrN (Sh.int .i64) ((l.getD (xaJ l a i).toNat .top).cells.getD 5 .top)) (br (decide (((l.getD (xaJ l a i).toNat .top).cells.getD 5 .top).toInt>=b)) (κr (true,(6,c,b,d,e),(0,0,0,0))) (κl (i64.wrap (i+1),c,b,d,e))) δ) δ)) δ) δ) δ
def xbS {T:Type} (l a g:LA) (first f i b c d e:Int) (δ:T) (κl:(Int×Int×Int×Int×Int)->T) (κr:(Bool×(Int×Int×Int×Int×Int)×(Int×Int×Int×Int))->T):T:=br (decide (i<a.length)) (br (decide (i>0)) (br (ixI a i) (br (ixS a i (Sh.int .i64) 0) (br (decide (0<=i64.wrap (i - 1))&&decide (i64.wrap (i - 1)<(↑a.length:Int))) (br (decide ((i64.wrap (i - 1)).toNat<a.length)&&xrN (Sh.int .i64) ((a.getD (i64.wrap (i - 1)).toNat .top).cells.getD 0 .top)) (br (decide ((gC a i 0).toInt<=((a.getD (i64.wrap (i - 1)).toNat .top).cells.getD 0 .top).toInt)) (κr (true,(9,b,c,d,e),(0,0,0,0))) (xby l a i b c d e δ κl κr)) δ) δ) δ) δ) (xby l a i b c d e δ κl κr)) (κr (false,(0,0,0,0,0),(b,c,d,e)))
def xaK (l c b:LA) (first a:Int):StT (Int×Int×Int×Int×Int) (Bool×(Int×Int×Int×Int×Int)×(Int×Int×Int×Int)):=fun (i,d,e,f,g)=>xbS l c b first a i d e f g none inL inR
def xbD:=xeN.l 144 0 [] [] Tryz.f23 0 lk0 [0,1,2,4,5,9,14] [0,1,2,4,5,9,12,13] [] (q7 (qL 9) (qL 1) (qL 3) qI qI (xsK 0 0 0 0) qI) (q1 (qB 0 10 46 (q1 (xsL (q10 qI qI qI qI pNils pNils pNils pNils pNils pNils))))) (fun (l,c,b,first,a,_,i,_) (((d,e,f,g,_,_,_,_,_,_,_),_),_)=>(xaK l c b first a,(i,d,e,f,g),fun p=>(.node p.1 (.leaf .ret [AV.list 9 l,AV.list 1 c,AV.list 3 b,AV.int .i64 first,AV.int .i64 a,AV.own 0 0 0 0,AV.nils,AV.int .i64 p.2.1.1] [bF 0 10 46 [AV.agg [AV.int .i64 p.2.1.2.1,AV.int .i64 p.2.1.2.2.1,AV.int .i64 p.2.1.2.2.2.1,AV.int .i64 p.2.1.2.2.2.2,AV.nils,AV.nils,AV.nils,AV.nils,AV.nils,AV.nils]]]) (.leaf (.exit 0) [AV.list 9 l,AV.list 1 c,AV.list 3 b,AV.int .i64 first,AV.int .i64 a,AV.own 0 0 0 0,.top,.top] [bF 0 10 46 [AV.agg [AV.int .i64 p.2.2.1,AV.int .i64 p.2.2.2.1,AV.int .i64 p.2.2.2.2.1,AV.int .i64 p.2.2.2.2.2,AV.nils,AV.nils,AV.nils,AV.nils,AV.nils,AV.nils]]])))) (false,(0,0,0,0,0),(0,0,0,0)) fun (l,c,b,first,a,_,_,_) _ (i,d,e,f,g)=>(((l,c,b,first,a,(),i,()),(((d,e,f,g,(),(),(),(),(),(),()),()),())),xbS l c b first a i d e f g none)
def xcD {T:Type} (l e t:LA) (first s:Int) (u:Nat) (i k b c f g:Int) (a:LA) (d h:Int) (j:LA) (m n o q p r:Int) (δ:T) (κl:(Int×Int×Int×Int×Int×LA×Int×Int×LA×Int×Int×Int×Int×Int×Int)->T) (κr:(Int×Int×Int×Int×LA×Int×Int×LA×Int×Int×Int×Int×Int×Int)->T):T:=br (decide (k<e.length)) (br (ixI l i) (br (ixT l i 9 [Sh.int .i64,Sh.int .i64,Sh.list 3,Sh.int .i64,Sh.int .i64,Sh.int .i64,Sh.int .i64,Sh.int .i64,Sh.int .i64] 0) (br (xcF (gC l i 0).toInt (gC l i 1).toInt (gC l i 2).toList (gC l i 3).toInt (gC l i 4).toInt (gC l i 5).toInt (gC l i 6).toInt (gC l i 7).toInt (gC l i 8).toInt) (br (ixI e k) (br (ixS e k (Sh.int .i64) 0) (br ((gC e k 0).toInt==d) (κl (i64.wrap (k+1),b,c,f,g,a,d,h,j,m,n,o,c,p,b)) (κl (i64.wrap (k+1),b,c,f,g,a,d,h,j,m,n,o,q,p,r))) δ) δ) (κl (i64.wrap (k+1),b,c,f,g,a,d,h,j,m,n,o,q,p,r))) δ) δ) (κr (b,c,f,g,a,d,h,j,m,n,o,q,p,r))
def xaZ (l e c:LA) (first a:Int) (d:Nat) (i:Int):StT (Int×Int×Int×Int×Int×LA×Int×Int×LA×Int×Int×Int×Int×Int×Int) (Int×Int×Int×Int×LA×Int×Int×LA×Int×Int×Int×Int×Int×Int):=fun (k,f,g,h,j,b,m,n,o,p,q,r,s,t,u)=>xcD l e c first a d i k f g h j b m n o p q r s t u none inL inR
def xbE:=xeN.l 144 0 [] [(4,xbD.lp)] Tryz.f23 2 lk0 [0,1,2,4,5,9,16,17,18,19] [0,1,2,4,5,9,16,17,18] [(16,9,58)] (q10 (qL 9) (qL 1) (qL 3) qI qI (xsK 0 0 0 0) (xsJ 1 0 0) qI (xsK 2 0 0 0) qI) (q3 (qB 0 10 46 (q1 (xsL (q10 qI qI qI qI pNils pNils pNils pNils pNils pNils)))) (qB 0 9 58 xsB) (qB 0 9 58 (q1 (xsL (q9 qI qI (qL 3) qI qI qI qI qI qI))))) (fun (l,e,b,first,a,_,c,i,_,k,_) (((f,g,h,j,_,_,_,_,_,_,_),_),d,((m,n,o,q,r,s,t,u,v,_),_),_)=>(xaZ l e b first a c i,(k,f,g,h,j,d,m,n,o,q,r,s,t,u,v),fun p=>(.leaf (.exit 4) [AV.list 9 l,AV.list 1 e,AV.list 3 b,AV.int .i64 first,AV.int .i64 a,AV.own 0 0 0 0,AV.osl 1 0 0 c,AV.int .i64 i,AV.own 2 0 0 0] [bF 0 10 46 [AV.agg [AV.int .i64 p.1,AV.int .i64 p.2.1,AV.int .i64 p.2.2.1,AV.int .i64 p.2.2.2.1,AV.nils,AV.nils,AV.nils,AV.nils,AV.nils,AV.nils]],bF 0 9 58 p.2.2.2.2.1,bF 0 9 58 [AV.agg [AV.int .i64 p.2.2.2.2.2.1,AV.int .i64 p.2.2.2.2.2.2.1,AV.list 3 p.2.2.2.2.2.2.2.1,AV.int .i64 p.2.2.2.2.2.2.2.2.1,AV.int .i64 p.2.2.2.2.2.2.2.2.2.1,AV.int .i64 p.2.2.2.2.2.2.2.2.2.2.1,AV.int .i64 p.2.2.2.2.2.2.2.2.2.2.2.1,AV.int .i64 p.2.2.2.2.2.2.2.2.2.2.2.2.1,AV.int .i64 p.2.2.2.2.2.2.2.2.2.2.2.2.2]]]))) (0,0,0,0,[],0,0,[],0,0,0,0,0,0) fun (l,e,b,first,a,_,c,i,_,_,_) _ (k,f,g,h,j,d,m,n,o,q,r,s,t,u,v)=>(((l,e,b,first,a,(),c,i,(),k,()),(((f,g,h,j,(),(),(),(),(),(),()),()),d,((m,n,o,q,r,s,t,u,v,()),()),())),xcD l e b first a c i k f g h j d m n o q r s t u v none)
def xdh (l e c:LA) (first a:Int) (d:Nat) (i f g h j:Int) (b:LA):=Iter (xaZ l e c first a d i) (0,f,g,h,j,b,(gC l i 0).toInt,(gC l i 1).toInt,(gC l i 2).toList,(gC l i 3).toInt,(gC l i 4).toInt,(gC l i 5).toInt,(gC l i 6).toInt,(gC l i 7).toInt,(gC l i 8).toInt)
def xdg (l e c:LA) (first a:Int) (d:Nat) (i f g h j:Int) (b:LA):=(xdh l e c first a d i f g h j b).getD (0,0,0,0,[],0,0,[],0,0,0,0,0,0)
def xdf (l e c:LA) (first a:Int) (d:Nat) (i f g h j:Int) (b:LA):=(xdg l e c first a d i f g h j b).snd
def xde (l e c:LA) (first a:Int) (d:Nat) (i f g h j:Int) (b:LA):=(xdf l e c first a d i f g h j b).snd
def xdd (l e c:LA) (first a:Int) (d:Nat) (i f g h j:Int) (b:LA):=(xde l e c first a d i f g h j b).snd
def xdN (l e c:LA) (first a:Int) (d:Nat) (i f g h j:Int) (b:LA):=(xdd l e c first a d i f g h j b).snd
def xdL (l e c:LA) (first a:Int) (d:Nat) (i f g h j:Int) (b:LA):=(xdN l e c first a d i f g h j b).snd
def xdM (l e c:LA) (first a:Int) (d:Nat) (i f g h j:Int) (b:LA):=(xdN l e c first a d i f g h j b).fst
def xdK (l e c:LA) (first a:Int) (d:Nat) (i f g h j:Int) (b:LA):=(xdL l e c first a d i f g h j b).snd
def xdJ (l e c:LA) (first a:Int) (d:Nat) (i f g h j:Int) (b:LA):=(xdK l e c first a d i f g h j b).snd
def xdI (l e c:LA) (first a:Int) (d:Nat) (i f g h j:Int) (b:LA):=(xdJ l e c first a d i f g h j b).snd
def xdH (l e c:LA) (first a:Int) (d:Nat) (i f g h j:Int) (b:LA):=(xdI l e c first a d i f g h j b).snd
def xdG (l e c:LA) (first a:Int) (d:Nat) (i f g h j:Int) (b:LA):=(xdH l e c first a d i f g h j b).snd
def xdF (l e c:LA) (first a:Int) (d:Nat) (i f g h j:Int) (b:LA):=(xdG l e c first a d i f g h j b).snd
def xdE (l e c:LA) (first a:Int) (d:Nat) (i f g h j:Int) (b:LA):=(xdF l e c first a d i f g h j b).snd
def xcC {T:Type} (l j d:LA) (first c:Int) (a:Nat) (i e f g h:Int) (b:LA) (δ:T) (κl:(Nat×Int×Int×Int×Int×Int×LA)->T) (κr:(Nat×Int×Int×Int×Int×LA)->T):T:=br (decide (i<l.length)) (br (ixI l i) (br (ixT l i 9 [Sh.int .i64,Sh.int .i64,Sh.list 3,Sh.int .i64,Sh.int .i64,Sh.int .i64,Sh.int .i64,Sh.int .i64,Sh.int .i64] 0) (br ((xdh l j d first c a i e f g h b).isSome) (br (a==(xdM l j d first c a i e f g h b).length&&(decide ((a+1)*88<=140737488355328)&&decide (a+1<=4611686018427387904))) (κl (a+1,i64.wrap (i+1),(xdg l j d first c a i e f g h b).fst,(xdf l j d first c a i e f g h b).fst,(xde l j d first c a i e f g h b).fst,(xdd l j d first c a i e f g h b).fst,xdM l j d first c a i e f g h b++[AV.agg [AV.int .i64 (xdL l j d first c a i e f g h b).fst,AV.int .i64 (xdK l j d first c a i e f g h b).fst,AV.list 3 (xdJ l j d first c a i e f g h b).fst,AV.int .i64 (xdI l j d first c a i e f g h b).fst,AV.int .i64 (xdH l j d first c a i e f g h b).fst,AV.int .i64 (xdG l j d first c a i e f g h b).fst,AV.int .i64 (xdF l j d first c a i e f g h b).fst,AV.int .i64 (xdE l j d first c a i e f g h b).fst,AV.int .i64 (xdE l j d first c a i e f g h b).snd]])) δ) δ) δ) δ) (κr (a,e,f,g,h,b))
def xaY (l e c:LA) (first a:Int):StT (Nat×Int×Int×Int×Int×Int×LA) (Nat×Int×Int×Int×Int×LA):=fun (d,i,f,g,h,j,b)=>xcC l e c first a d i f g h j b none inL inR
def xdD:=xeN.l 144 0 [] [(4,xbD.lp),(19,xbE.lp)] Tryz.f23 1 (lk1 xbE.ok) [0,1,2,4,5,9,16,17] [2,4,5,9,16] [(16,9,58)] (q8 (qL 9) (qL 1) (qL 3) qI qI (xsK 0 0 0 0) (xsJ 1 0 0) qI) (q2 (qB 0 10 46 (q1 (xsL (q10 qI qI qI qI pNils pNils pNils pNils pNils pNils)))) (qB 0 9 58 xsB)) (fun (l,e,b,first,a,_,d,i,_) (((f,g,h,j,_,_,_,_,_,_,_),_),c,_)=>(xaY l e b first a,(d,i,f,g,h,j,c),fun p=>(.leaf (.exit 2) [AV.list 3 b,AV.int .i64 first,AV.int .i64 a,AV.own 0 0 0 0,AV.osl 1 0 0 p.1] [bF 0 10 46 [AV.agg [AV.int .i64 p.2.1,AV.int .i64 p.2.2.1,AV.int .i64 p.2.2.2.1,AV.int .i64 p.2.2.2.2.1,AV.nils,AV.nils,AV.nils,AV.nils,AV.nils,AV.nils]],bF 0 9 58 p.2.2.2.2.2]))) (0,0,0,0,0,[]) fun (l,e,b,first,a,_,_,_,_) _ (d,i,f,g,h,j,c)=>(((l,e,b,first,a,(),d,i,()),(((f,g,h,j,(),(),(),(),(),(),()),()),c,())),xcC l e b first a d i f g h j c none)
def xcc (a:LA) (i:Int):=ixI a i
def xdO (a:LA) (i:Int):=decide (i.toNat<a.length)&&((a.getD i.toNat .top).cells.length==3&&xrU [Sh.int .i64,Sh.int .i64] (a.getD i.toNat .top).cells 1)
def xcE {T:Type} (a:LA) (first d:Int) (c:Nat) (i e f g h:Int) (b:LA) (δ:T) (κl:(Nat×Int×Int×Int×Int×Int×LA)->T) (κr:(Bool×(Int×Nat×LA)×(Nat×LA))->T):T:=br (decide (i<a.length)) (br (xcc a i) (br (xdO a i) (br (!xcN (gC a i 1).toInt (gC a i 2).toInt) (κr (true,(8,c,b),(0,[]))) (br (xcc a i) (br (ixS a i (Sh.list 3) 0) (br (xcc a i) (br (xdO a i) (br (rmB c b 1 88) (κl (c+1,i64.wrap (i+1),e,f,g,h,b++[AV.agg [AV.int .i64 (i64.wrap (first+i)),AV.int .i64 d,AV.list 3 (gC a i 0).toList,AV.int .i64 (gC a i 1).toInt,AV.int .i64 (gC a i 2).toInt,AV.int .i64 f,AV.int .i64 1099511627776,AV.int .i64 e,AV.int .i64 0]])) δ) δ) δ) δ) δ)) δ) δ) (κr (false,(0,0,[]),(c,b)))
def xax (c:LA) (first a:Int):StT (Nat×Int×Int×Int×Int×Int×LA) (Bool×(Int×Nat×LA)×(Nat×LA)):=fun (d,i,e,f,g,h,b)=>xcE c first a d i e f g h b none inL inR
def xfE:=xeN.l 144 0 [] [(4,xbD.lp),(19,xbE.lp),(15,xdD.lp)] Tryz.f23 3 lk0 [2,4,5,9,16,20] [12,13,16] [(16,9,58)] (q6 (qL 3) qI qI (xsK 0 0 0 0) (xsJ 1 0 0) qI) (q2 (qB 0 10 46 (q1 (xsL (q10 qI qI qI qI pNils pNils pNils pNils pNils pNils)))) (qB 0 9 58 xsB)) (fun (c,first,a,_,d,i,_) (((e,f,g,h,_,_,_,_,_,_,_),_),b,_)=>(xax c first a,(d,i,e,f,g,h,b),fun p=>(.node p.1 (.leaf .ret [AV.nils,AV.int .i64 p.2.1.1,AV.osl 0 0 0 p.2.1.2.1] [bF 0 9 58 p.2.1.2.2]) (.leaf (.exit 6) [.top,.top,AV.osl 0 0 0 p.2.2.1] [bF 0 9 58 p.2.2.2])))) (false,(0,0,[]),(0,[])) fun (c,first,a,_,_,_,_) _ (d,i,e,f,g,h,b)=>(((c,first,a,(),d,i,()),(((e,f,g,h,(),(),(),(),(),(),()),()),b,())),xcE c first a d i e f g h b none)
def xbL:Env:=xeN.E.fn 144 0 (lsOf []) (xsa [(4,xbD.lp),(19,xbE.lp),(15,xdD.lp),(26,xfE.lp)])
theorem xin:xrP P0 (xsv.at 0) xbL:=xeN.ok.fn
theorem xhE:LoOk P0 (xsv.at xbL.pin) xbL (Tryz.f23.body.getD .skip):=xd2 (ls:=[xrT Tryz.f23 0,xrT Tryz.f23 1,xrT Tryz.f23 2,xrT Tryz.f23 3]) (by kernel_rfl) (lkC xbD.ok (lkC xdD.ok (lkC xbE.ok (lkC xfE.ok lkN))))
def xeH (l g d:LA) (f a b e first c:Int):=Iter (xaK l g d first c) (0,f,a,b,e)
def xeG (l g d:LA) (f a b e first c:Int):=(xeH l g d f a b e first c).getD (false,(0,0,0,0,0),0,0,0,0)
def xeF (l g d:LA) (f a b e first c:Int):=(xeG l g d f a b e first c).snd
def xeE (l g d:LA) (f a b e first c:Int):=(xeF l g d f a b e first c).snd
def xeD (l g d:LA) (f a b e first c:Int):=(xeE l g d f a b e first c).snd
def xeC (l g d:LA) (f a b e first c:Int):=(xeD l g d f a b e first c).snd
def xeB (l g b:LA) (f c d e first a:Int):=Iter (xaY l g b first a) (0,0,(xeE l g b f c d e first a).fst,(xeD l g b f c d e first a).fst,(xeC l g b f c d e first a).fst,(xeC l g b f c d e first a).snd,[])
def xeA (l g d:LA) (f a b e first c:Int):=(xeB l g d f a b e first c).getD (0,0,0,0,0,[])
def xe7 (l g d:LA) (f a b e first c:Int):=(xeA l g d f a b e first c).snd
def xe6 (l g d:LA) (f a b e first c:Int):=(xe7 l g d f a b e first c).snd
def xe5 (l g d:LA) (f a b e first c:Int):=(xe6 l g d f a b e first c).snd
def xe4 (l g d:LA) (f a b e first c:Int):=(xe5 l g d f a b e first c).snd
def xe3 (l g d:LA) (f b c e first a:Int):=Iter (xax d first a) ((xeA l g d f b c e first a).fst,0,(xe7 l g d f b c e first a).fst,(xe6 l g d f b c e first a).fst,(xe5 l g d f b c e first a).fst,(xe4 l g d f b c e first a).fst,(xe4 l g d f b c e first a).snd)
def xe2 (l g d:LA) (f a b e first c:Int):=(xe3 l g d f a b e first c).getD (false,(0,0,[]),0,[])
def xe1 (l g d:LA) (f a b e first c:Int):=(xe2 l g d f a b e first c).snd
def xe0 (l g d:LA) (f a b e first c:Int):=(xe1 l g d f a b e first c).snd
def xeZ (l g d:LA) (f a b e first c:Int):=(xe0 l g d f a b e first c).fst
def xex (l g d:LA) (f a b e first c:Int):=(xe0 l g d f a b e first c).snd
def xdX {T:Type} (l g d:LA) (f a b e first c:Int) (δ:T) (κ:Bool×(Int)×(LA×Int)->T):T:=br (decide (a<0)) (κ (true,(6),([],0))) (br (decide (a>=1099511627776)) (κ (true,(6),([],0))) (br ((xeH l g d f a b e first c).isSome) (br ((xeG l g d f a b e first c).fst) (κ (true,((xeF l g d f a b e first c).fst.fst),([],0))) (br ((xeB l g d f a b e first c).isSome) (br ((xe3 l g d f a b e first c).isSome) (br ((xe2 l g d f a b e first c).fst) (κ (true,((xe1 l g d f a b e first c).fst.fst),([],0))) (br (decide (0+xeZ l g d f a b e first c<=(xex l g d f a b e first c).length)&&true) (κ (false,0,(List.take (xeZ l g d f a b e first c) (List.drop 0 (xex l g d f a b e first c)),0))) δ)) δ) δ)) δ))
def xba (l g d:LA) (f a b e first c:Int):Option (LA×Int):=xdX l g d f a b e first c none (fun (p:Bool×(Int)×(LA×Int))=>some (br p.1 (([],p.2.1)) p.2.2))
theorem xk0 (l g d:LA) (f a b e first c:Int):EncS (fun (p:LA×Int)=>(AV.tuple [AV.list 9 p.1,AV.int .i64 p.2]:AV)) (xba l g d f a b e first c) (XF P0 xbL Tryz.f23 (Tryz.f23.body.getD .skip) [AV.list 9 l,AV.list 1 g,AV.list 3 d,AV.agg [AV.int .i64 f,AV.int .i64 a,AV.int .i64 b,AV.int .i64 e,AV.nils,AV.nils,AV.nils,AV.nils,AV.nils,AV.nils],AV.int .i64 first,AV.int .i64 c]):=by
 have h:XF P0 xbL Tryz.f23 (Tryz.f23.body.getD .skip) [AV.list 9 l,AV.list 1 g,AV.list 3 d,AV.agg [AV.int .i64 f,AV.int .i64 a,AV.int .i64 b,AV.int .i64 e,AV.nils,AV.nils,AV.nils,AV.nils,AV.nils,AV.nils],AV.int .i64 first,AV.int .i64 c]=xdX l g d f a b e first c none (fun (p:Bool×(Int)×(LA×Int))=>some ((br p.1 (AV.tuple [AV.nils,AV.int .i64 p.2.1]) (AV.tuple [AV.list 9 p.2.2.1,AV.int .i64 p.2.2.2])):AV)):=by kernel_rfl
 rw [h];unfold xba xdX;repeat' (first|exact EncS.none|exact EncS.some (Sub.refl _)|exact EncS.some (xf9 _)|exact EncS.some (xhv _ _)|refine EncS.br ?_ ?_)
def xkx:LA->Option (Bool×AV):=ocOf (xsy (xsN 9 xsB) (xsy (xsN 1 xsB) (xsy (xsN 3 xsB) (xsy (xsO (xsy (sEq (pInt .i64)) (xsy (sEq (pInt .i64)) (xsy (sEq (pInt .i64)) (xsy (sEq (pInt .i64)) (xsy (sEq pNils) (xsy (sEq pNils) (xsy (sEq pNils) (xsy (sEq pNils) (xsy (sEq pNils) (xsy (sEq pNils) xsA))))))))))) (xsy (sEq (pInt .i64)) (xsy (sEq (pInt .i64)) xsA)))))) fun (l,(g,(d,((f,(a,(b,(e,(_,(_,(_,(_,(_,(_,_)))))))))),(first,(c,_))))))=>((xba l g d f a b e first c).isSome,(AV.tuple [AV.list 9 ((xba l g d f a b e first c).getD ([],0)).1,AV.int .i64 ((xba l g d f a b e first c).getD ([],0)).2]))
theorem xkZ:OcOk P0 xsv 23 (xkx):=xfM fun i q j=>by
 obtain ⟨l,⟨o,⟨g,⟨⟨k,⟨a,⟨b,⟨h,⟨_,⟨_,⟨_,⟨_,⟨_,⟨_,_⟩⟩⟩⟩⟩⟩⟩⟩⟩⟩,⟨first,⟨c,_⟩⟩⟩⟩⟩⟩:=i
 obtain ⟨e,f⟩:=Prod.mk.inj j;obtain ⟨y,m,n⟩:=xk0 _ _ _ _ _ _ _ _ _ _ (xbJ (d:=([],0)) e);have hg:Good P0 xsv 23 _ _:=xcq (p:=xbL.pin) (xd9 xrY (xrZ P0 _) rfl xin Tryz.func23 rfl (by kernel_rfl) xhE m)
 rw [<-f];exact Good.sub hg n
def xpt:EO:=xeN.w xkZ
def xaM (c d:Int) (g:LA) (h i b a e f:Int):Bool:=(br (xcg b a) ((a==1099511627776)) ((false)))
def xln {T:Type} (c d:Int) (g:LA) (h i b a e f:Int) (δ:T) (κ:Bool->T):T:=br (xcg b a) (κ (a==1099511627776)) (κ (false))
def xqY:EO:=xpt.fT Tryz.func57 12 0 [] [] lk0 (fun ((a,b,g,h,i,c,d,e,f,_),_)=>xln a b g h i c d e f none) (u1 (xsO (xsy uI (xsy uI (u7 (uL 3) uI uI uI uI uI uI))))) (fun ((a,b,g,h,i,c,d,e,f,_),_)=>xaM a b g h i c d e f) (fun _ p=>(AV.bool p))
def xaz (l:LA):LA:=((l))
def xj1 {T:Type} (l:LA) (δ:T) (κ:LA->T):T:=κ (l)
def xcR:EO:=xqY.fT Tryz.func37 4 0 [] [] lk0 (fun (l,_)=>xj1 l none) (u1 (uL 9)) (fun (l,_)=>xaz l) (fun _ p=>(AV.func 67 [AV.eptr 1 [AV.list 9 p] 0 0]))
end Go.Sim.M
