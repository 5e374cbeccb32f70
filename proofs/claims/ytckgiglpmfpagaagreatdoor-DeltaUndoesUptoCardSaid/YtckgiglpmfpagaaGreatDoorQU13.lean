/- Part 13 of the proof of the law. -/
import Derived.Test.YtckgiglpmfpagaaGreatDoorQU12
import Derived.StillTailTactics
set_option linter.unusedVariables false
set_option linter.unusedSimpArgs false
set_option maxRecDepth 100000
noncomputable section
namespace Go.Sim.M
def cmpI (x y:Int):Int:=if x<y then -1 else if y<x then 1 else 0
def orI (x y:Int):Int:=if x=0 then y else x
end Go.Sim.M
namespace Go.Proofs
open Go.RowKit Go.Sim Go.Sim.M Go.Sort Go.Lib
theorem Tryz.cmp_walk (x y:Int) (w:World):Calls Tryz.prog 51 #[.int .i64 x,.int .i64 y] w fun e w'=>e=.returned (.int .i64 (cmpI x y))/\w'=w:=by
 unfold cmpI
 go_enter Tryz.func51,Tryz.ntmps51
 go_wp2
 all_goals (go_ret;exact ⟨rfl,rfl⟩)
theorem Tryz.or_walk (x y:Int) (b off c:Nat) (w:World) (h0:w.cell? ⟨b,off,none⟩=some (.int .i64 x)) (h1:w.cell? ⟨b,off+1,none⟩=some (.int .i64 y)):Calls Tryz.prog 73 #[.slice (some ⟨b,off,none⟩) 2 c] w fun e w'=>e=.returned (.int .i64 (orI x y))/\w'=w:=by
 unfold orI;by_cases hx:x=0
 . subst hx;rw [if_pos rfl];by_cases hy:y=0
   . subst hy
     go_enter Tryz.func73,Tryz.ntmps73
     go_wp2
     refine wp_loop_rounds 3 ?_;rw [rounds_succ]
     go_wp2
     rw [rounds_succ]
     go_wp2
     rw [rounds_succ]
     go_wp2
     go_ret
     exact ⟨rfl,rfl⟩
   . have hy':(y != 0)=true:=by simpa using hy
     go_enter Tryz.func73,Tryz.ntmps73
     go_wp2
     refine wp_loop_rounds 3 ?_;rw [rounds_succ]
     go_wp2
     rw [rounds_succ]
     go_wp2
     go_ret
     exact ⟨rfl,rfl⟩
 . have hx':(x != 0)=true:=by simpa using hx
   rw [if_neg hx]
   go_enter Tryz.func73,Tryz.ntmps73
   go_wp2
   refine wp_loop_rounds 3 ?_;rw [rounds_succ]
   go_wp2
   go_ret
   exact ⟨rfl,rfl⟩
theorem fill2I (u1 u2:Int):Instr.fill (fun i=>some (i*1,1)) ((Array.range (2*1)).map (fun x=>(Value.int .i64 0).cells[x % (Value.int .i64 0).cells.size]!)) [(0,.int .i64 u1),(1,.int .i64 u2)]=some #[.int .i64 u1,.int .i64 u2]:=by
 simp [Instr.fill,Array.range,Value.cells];apply Array.ext
 . simp
 . intro i h1 h2;rcases i with _|_|i
   . simp
   . simp
   . simp at h2;omega
set_option maxHeartbeats 2000000 in
theorem Tryz.levels2_walk (a b c d:Int) (w:World):Calls Tryz.prog 91 #[.agg #[.int .i64 a,.int .i64 b],.agg #[.int .i64 c,.int .i64 d]] w fun e w'=>e=.returned (.int .i64 (orI (cmpI a c) (cmpI b d)))/\∃ q J,w'=Sort.grow (w.drewN q) J:=by
 go_enter Tryz.func91,Tryz.ntmps91
 go_wp2_with (go_at_call 51;skip)
 have g0:(w.alloc (.cells #[.int .i64 a,.int .i64 b] 56)).heap[w.heap.size]?=some (.cells #[.int .i64 a,.int .i64 b] 56 (0,0)):=heap_alloc_new w _;have g1:((w.alloc (.cells #[.int .i64 a,.int .i64 b] 56)).alloc (.cells #[.int .i64 c,.int .i64 d] 56)).heap[w.heap.size+1]?=some (.cells #[.int .i64 c,.int .i64 d] 56 (0,0)):=by
  have:=heap_alloc_new (w.alloc (.cells #[.int .i64 a,.int .i64 b] 56)) (.cells #[.int .i64 c,.int .i64 d] 56);have e:(w.alloc (.cells #[.int .i64 a,.int .i64 b] 56)).heap.size=w.heap.size+1:=by simp
  rwa [e] at this
 have f0:((w.alloc (.cells #[.int .i64 a,.int .i64 b] 56)).alloc (.cells #[.int .i64 c,.int .i64 d] 56)).cell? ⟨w.heap.size,0,none⟩=some (.int .i64 a):=by
  rw [World.cell?_alloc_past _ _ _ (by simp)];simp only [World.cell?,g0];rfl
 have f1:((w.alloc (.cells #[.int .i64 a,.int .i64 b] 56)).alloc (.cells #[.int .i64 c,.int .i64 d] 56)).cell? ⟨w.heap.size,1,none⟩=some (.int .i64 b):=by
  rw [World.cell?_alloc_past _ _ _ (by simp)];simp only [World.cell?,g0];rfl
 have f2:((w.alloc (.cells #[.int .i64 a,.int .i64 b] 56)).alloc (.cells #[.int .i64 c,.int .i64 d] 56)).cell? ⟨w.heap.size+1,0,none⟩=some (.int .i64 c):=by
  simp only [World.cell?,g1];rfl
 have f3:((w.alloc (.cells #[.int .i64 a,.int .i64 b] 56)).alloc (.cells #[.int .i64 c,.int .i64 d] 56)).cell? ⟨w.heap.size+1,1,none⟩=some (.int .i64 d):=by
  simp only [World.cell?,g1];rfl
 have f4:∃ q J,((w.alloc (.cells #[.int .i64 a,.int .i64 b] 56)).alloc (.cells #[.int .i64 c,.int .i64 d] 56))=Sort.grow (w.drewN q) J:=⟨0,_,by rw [alloc_eq_grow,alloc_eq_grow,grow_grow];rfl⟩
 generalize ((w.alloc (.cells #[.int .i64 a,.int .i64 b] 56)).alloc (.cells #[.int .i64 c,.int .i64 d] 56))=W2 at f0 f1 f2 f3 f4 |-;refine wp_region_still_tail 10 (by kernel_rfl) (by kernel_rfl) ?_
 simp only [List.take_succ_cons,List.take_zero,List.drop_succ_cons,List.drop_zero];change wpStill _ _ (World.drew W2) _ _ _;have f0':W2.drew.cell? ⟨w.heap.size,0,none⟩=some (.int .i64 a):=f0;have f1':W2.drew.cell? ⟨w.heap.size,1,none⟩=some (.int .i64 b):=f1;have f2':W2.drew.cell? ⟨w.heap.size+1,0,none⟩=some (.int .i64 c):=f2;have f3':W2.drew.cell? ⟨w.heap.size+1,1,none⟩=some (.int .i64 d):=f3;have f4':∃ q J,W2.drew=Sort.grow (w.drewN q) J:=by obtain ⟨q,J,e⟩:=f4;exact ⟨q+1,J,by rw [e];rfl⟩
 iterate 4 still_step
 still_call (Tryz.cmp_walk _ _ _)
 iterate 4 still_step
 still_call (Tryz.cmp_walk _ _ _)
 refine wpStill_nil ?_;change wpList _ _ _ _ _ (World.drew W2);generalize World.drew W2=W at f0' f1' f2' f3' f4' |-;generalize O:cmpI a c=u1;generalize Q:cmpI b d=u2;obtain ⟨ie,q1,q2,q3⟩:∃ ie,Tryz.prog.info? 3=some ie/\ie.zero=some (.int .i64 0)/\ie.size=1:=⟨(Tryz.prog.info? 3).get (by kernel_rfl),(Option.some_get _).symm,by kernel_rfl,by kernel_rfl⟩
 refine wpList_buildSlice rfl 31 3 2 _ rfl #[.int .i64 u1,.int .i64 u2] ie (.int .i64 0) (by kernel_rfl) q1 q2 (by rw [q3];decide) (by rw [q3];decide) (by rw [q3];refine Eq.trans (congrArg _ ?_) (fill2I u1 u2);simp [Act.eval]) ?_
 simp only [Act.put]
 go_wp2_with fail
 have g2:(W.alloc (.cells #[.int .i64 u1,.int .i64 u2] 3)).heap[W.heap.size]?=some (.cells #[.int .i64 u1,.int .i64 u2] 3 (0,0)):=heap_alloc_new W _;refine (Tryz.or_walk u1 u2 W.heap.size 0 2 (W.alloc (.cells #[.int .i64 u1,.int .i64 u2] 3)) (by simp only [World.cell?,g2];rfl) (by simp only [World.cell?,g2];rfl)).mono ?_
 rintro e w' ⟨rfl,rfl⟩
 go_wp2
 go_ret
 obtain ⟨q,J,hq⟩:=f4';exact ⟨by rw [O,Q];rfl,q,_,by rw [hq,alloc_eq_grow,grow_grow]⟩
end Go.Proofs
namespace Go.Sim.M
abbrev TyS:Type:=Fin 1099511627777×Int
def intsS (x:TyS):List Int:=[(x.1.val:Int),x.2]
def cmpS (x y:TyS):Int:=(x.1.val:Int) - (y.1.val:Int)
end Go.Sim.M
namespace Go.Proofs
open Go.RowKit Go.Sim Go.Sim.M Go.Sort
set_option maxHeartbeats 1000000 in
theorem Tryz.walkS (a b a' b' r:Int) (hr:IntKind.i64.wrap (a - a')=r) (W:World):Calls Tryz.prog 115 #[.agg #[.int .i64 a,.int .i64 b],.agg #[.int .i64 a',.int .i64 b']] W fun e w'=>e=.returned (.int .i64 r)/\∃ q os',w'=Sort.grow (W.drewN q) os':=by
 go_enter Tryz.func115,Tryz.ntmps115
 go_wp2
 go_ret
 subst hr;exact ⟨rfl,0,_,by rw [alloc_eq_grow,alloc_eq_grow,grow_grow];rfl⟩
end Go.Proofs
namespace Go.Sim.M
open Go.RowKit Go.Proofs Go.Sort
def isS:AV->Bool
 | .agg [.int .i64 a,.int .i64 _]=>decide (0<=a)&&decide (a<=1099511627776)
 | _=>false
def decS:AV->TyS
 | .agg [.int _ a,.int _ b]=>(Fin.ofNat 1099511627777 a.toNat,b)
 | _=>default
noncomputable def srtS (xs:List AV):List AV:=(pdqL cmpS (xs.map decS)).map (encI intsS)
theorem xmV {x:AV} (h:isS x=true):encI intsS (decS x)=x:=by
 unfold isS at h;split at h
 . rename_i a b;simp only [Bool.and_eq_true,decide_eq_true_eq] at h;have:a.toNat % 1099511627777=a.toNat:=Nat.mod_eq_of_lt (by omega)
   simp only [decS,encI,intsS,List.map_cons,List.map_nil,Fin.ofNat,this,Int.toNat_of_nonneg h.1]
 . simp at h
theorem xl8 {xs:List AV} (h:xs.all isS=true):(xs.map decS).map (encI intsS)=xs:=by
 rw [List.map_map]
 conv=>rhs;rw [<-List.map_id xs]
 refine List.map_congr_left fun x hx=>?_
 exact xmV (List.all_eq_true.1 h x hx)
theorem ltS (x y:TyS):ltOf cmpS x y=decide (x.1.val<y.1.val):=by
 unfold ltOf cmpS;by_cases h:x.1.val<y.1.val
 . rw [decide_eq_true h,decide_eq_true (by omega)]
 . rw [decide_eq_false h,decide_eq_false (by omega)]
theorem swoS:SWO (ltOf cmpS) where
 irrefl x:=by rw [ltS];simp
 trans x y z h1 h2:=by rw [ltS] at *;simp at *;omega
 ntrans x y z h1 h2:=by rw [ltS] at *;simp at *;omega
noncomputable def xiF:List AV->List Box->Option (Bool×AV×List Box)
 | [.osl (.b 0) ver 0 n,.func g []],[⟨ver',2,ty,xs,false,true⟩]=>match Nat.beq g 115&&Nat.beq ty 131 with
  | true=>some (Nat.beq ver ver'&&(Nat.beq n xs.length&&(decide (n<4611686018427387904)&&xs.all isS)),.tuple [],[⟨ver',2,131,srtS xs,false,true⟩])
  | false=>none
 | _,_=>none
theorem xog:OmOk Tryz.prog xqB 114 xiF:=fun Q H r H' h=>by
 unfold xiF at h;split at h
 . rename_i ver n g O ty xs;split at h
   case h_2=>simp at h
   rename_i hg;simp only [Bool.and_eq_true] at hg;obtain rfl:=Nat.eq_of_beq_eq_true hg.1;obtain rfl:=Nat.eq_of_beq_eq_true hg.2;simp only [Option.some.injEq,Prod.mk.injEq,Bool.and_eq_true,decide_eq_true_eq] at h;obtain ⟨⟨h1,h2,h3,h4⟩,rfl,rfl⟩:=h;obtain rfl:=Nat.eq_of_beq_eq_true h1;obtain rfl:=Nat.eq_of_beq_eq_true h2;have q:∃ ti,xpT Tryz.prog 131=some ti/\ti.sz=2/\ti.agg=true:=by
    have h:(match xpT Tryz.prog 131 with|some ti=>(ti.sz==2)&&ti.agg|none=>false)=true:=by kernel_rfl
    split at h
    . rename_i ti q;simp only [Bool.and_eq_true,beq_iff_eq] at h;exact ⟨ti,q,h.1,h.2⟩
    . simp at h
   obtain ⟨ti,q,hz,ha⟩:=q;have J:=xf6 (P:=Tryz.prog) (Inv:=xqB) Tryz.srl114 2 (by decide) (fun w=>by rw [<-ha];exact xc7 q w) (fun w=>by rw [<-hz];exact xaP q w)
    intsS (fun _=>rfl) cmpS swoS 115 (xbi Tryz.func114 rfl (by kernel_rfl)) (xda (xbi Tryz.func115 rfl (by kernel_rfl)))
    (fun x y W=>Tryz.walkS _ _ _ _ (cmpS x y) (by
     have:=x.1.isLt;have:=y.1.isLt;unfold cmpS;exact xeR (by omega) (by omega)) W)
    ver 131 rfl (xs.map decS) (by simpa using h3)
   rw [List.length_map,xl8 h4] at J;exact J
 . simp at h
end Go.Sim.M
namespace Go.Sim.M
abbrev TyP:Type:=Int×Int
def intsP (x:TyP):List Int:=[x.1,x.2]
def cmpP (x y:TyP):Int:=orI (cmpI x.1 y.1) (cmpI x.2 y.2)
end Go.Sim.M
namespace Go.Sim.M
open Go.RowKit Go.Proofs Go.Sort
def isP:AV->Bool
 | .agg [.int .i64 _,.int .i64 _]=>true
 | _=>false
def decP:AV->TyP
 | .agg [.int _ a,.int _ b]=>(a,b)
 | _=>default
noncomputable def srtP (xs:List AV):List AV:=(pdqL cmpP (xs.map decP)).map (encI intsP)
theorem xmU {x:AV} (h:isP x=true):encI intsP (decP x)=x:=by
 unfold isP at h;split at h
 . rfl
 . simp at h
theorem xl7 {xs:List AV} (h:xs.all isP=true):(xs.map decP).map (encI intsP)=xs:=by
 rw [List.map_map]
 conv=>rhs;rw [<-List.map_id xs]
 refine List.map_congr_left fun x hx=>?_
 exact xmU (List.all_eq_true.1 h x hx)
theorem ltP (x y:TyP):ltOf cmpP x y=decide (x.1<y.1\/x.1=y.1/\x.2<y.2):=by
 unfold ltOf cmpP orI cmpI;by_cases h:x.1<y.1\/x.1=y.1/\x.2<y.2
 . rw [decide_eq_true h];simp only [decide_eq_true_eq];rcases h with h|⟨h,h'⟩
   . simp [h]
   . simp [h,h']
 . rw [decide_eq_false h];simp only [decide_eq_false_iff_not];have h1:¬ x.1<y.1:=fun e=>h (.inl e)
   by_cases h2:y.1<x.1
   . simp [h1,h2]
   . have h3:x.1=y.1:=by omega
     have h4:¬ x.2<y.2:=fun e=>h (.inr ⟨h3,e⟩)
     by_cases h5:y.2<x.2
     . simp [h1,h2,h4,h5]
     . simp [h1,h2,h4,h5]
theorem swoP:SWO (ltOf cmpP) where
 irrefl x:=by rw [ltP];simp
 trans x y z h1 h2:=by rw [ltP] at *;simp only [decide_eq_true_eq] at *;omega
 ntrans x y z h1 h2:=by rw [ltP] at *;simp only [decide_eq_true_eq,decide_eq_false_iff_not] at *;omega
noncomputable def xiE:List AV->List Box->Option (Bool×AV×List Box)
 | [.osl (.b 0) ver 0 n,.func g []],[⟨ver',2,ty,xs,false,true⟩]=>match Nat.beq g 91&&Nat.beq ty 56 with
  | true=>some (Nat.beq ver ver'&&(Nat.beq n xs.length&&(decide (n<4611686018427387904)&&xs.all isP)),.tuple [],[⟨ver',2,56,srtP xs,false,true⟩])
  | false=>none
 | _,_=>none
theorem xof:OmOk Tryz.prog xqB 90 xiE:=fun Q H r H' h=>by
 unfold xiE at h;split at h
 . rename_i ver n g O ty xs;split at h
   case h_2=>simp at h
   rename_i hg;simp only [Bool.and_eq_true] at hg;obtain rfl:=Nat.eq_of_beq_eq_true hg.1;obtain rfl:=Nat.eq_of_beq_eq_true hg.2;simp only [Option.some.injEq,Prod.mk.injEq,Bool.and_eq_true,decide_eq_true_eq] at h;obtain ⟨⟨h1,h2,h3,h4⟩,rfl,rfl⟩:=h;obtain rfl:=Nat.eq_of_beq_eq_true h1;obtain rfl:=Nat.eq_of_beq_eq_true h2;have q:∃ ti,xpT Tryz.prog 56=some ti/\ti.sz=2/\ti.agg=true:=by
    have h:(match xpT Tryz.prog 56 with|some ti=>(ti.sz==2)&&ti.agg|none=>false)=true:=by kernel_rfl
    split at h
    . rename_i ti q;simp only [Bool.and_eq_true,beq_iff_eq] at h;exact ⟨ti,q,h.1,h.2⟩
    . simp at h
   obtain ⟨ti,q,hz,ha⟩:=q;have J:=xf6 (P:=Tryz.prog) (Inv:=xqB) Tryz.srl90 2 (by decide) (fun w=>by rw [<-ha];exact xc7 q w) (fun w=>by rw [<-hz];exact xaP q w)
    intsP (fun _=>rfl) cmpP swoP 91 (xbi Tryz.func90 rfl (by kernel_rfl)) (xda (xbi Tryz.func91 rfl (by kernel_rfl)))
    (fun x y W=>Tryz.levels2_walk _ _ _ _ W)
    ver 56 rfl (xs.map decP) (by simpa using h3)
   rw [List.length_map,xl7 h4] at J;exact J
 . simp at h
end Go.Sim.M
namespace Go.Sim.M
open Go.RowKit Go.Proofs
noncomputable def E1:Env:=(xns.E.withM 114 xiF).withM 90 xiE
theorem xk3:xpU Tryz.prog xqB E1:=(xns.ok.withM xog).withM xof
noncomputable def xnr:EO:=EO.mk E1 xk3
end Go.Sim.M
namespace Go.Sim.M
open Go.IntKind (i64 u64 u8)
open Go.RowKit Go.Proofs
def xeY {T:Type} (o n:Int) (e f:Nat) (k p m j:Int) (h l i g a:Nat) (b:LA) (d:Nat) (c:LA) (δ:T) (κl:(Int×Int×Nat×Nat×Nat×Nat×Nat×LA×Nat×LA)->T) (κr:(Int×Nat×Nat×Nat×Nat×LA×Nat×LA×Nat)->T):T:=br (decide (m<p)) (br (a==e) (br (a==e) (br (a==e&&(decide (f<b.length)&&xpS (Sh.int .i64) ((b.getD f .top).cells.getD 0 .top))) (br (d==g&&(rmB i c 1 16)) (κl (i64.wrap (m+1),j,h,l,i+1,g+1,a,List.take h b,g+1,c++[AV.agg [AV.int .i64 ((b.getD f .top).cells.getD 0 .top).toInt,AV.int .i64 o]])) δ) δ) δ) δ) (κr (j,l,h,g,i,b,a,c,d))
def xdU (m n:Int) (e f:Nat) (k o:Int):StT (Int×Int×Nat×Nat×Nat×Nat×Nat×LA×Nat×LA) (Int×Nat×Nat×Nat×Nat×LA×Nat×LA×Nat):=fun (p,g,h,i,j,l,a,b,c,d)=>xeY m n e f k o p g h i j l a b c d none inL inR
def xb5:=xnr.l 71 5 [] [] Tryz.f89 1 lk0 [0,1,2,3,4,7,8,37,38] [0,1,2,3,4,7,8] [(3,0,0)] (q9 qI qI (xqP 0 0 0 0) (xqP 1 0 0 0) (xqP 2 0 0 0) (pOwnV 3 0) qI qI qI) (q5 (qB 0 1 3 (q1 qI)) (xqQ 0 1 125 false false (q1 (pOslV 3 0))) (xqQ 0 1 97 false false (q1 (pOslV 4 0))) (pBoxV 2 127 false true xqG) (pBoxV 2 56 false true xqG)) (fun (o,n,_,_,_,(e,f),k,q,r,_) ((g,_),((h,i),_),((j,m),_),(a,b),(c,d),_)=>(xdU o n e f k q,(r,g,i,h,m,j,a,b,c,d),fun p=>(.leaf (.exit 2) [AV.int .i64 o,AV.int .i64 n,AV.own 0 0 0 0,AV.own 1 0 0 0,AV.own 2 0 0 0,AV.own 3 e f 0,AV.int .i64 k] [bF 0 1 3 [AV.int .i64 p.1],⟨0,1,125,[AV.osl 3 p.2.1 0 p.2.2.1],false,false⟩,⟨0,1,97,[AV.osl 4 p.2.2.2.1 0 p.2.2.2.2.1],false,false⟩,bF p.2.2.2.2.2.2.1 2 127 p.2.2.2.2.2.1,bF p.2.2.2.2.2.2.2.2 2 56 p.2.2.2.2.2.2.2.1]))) (0,0,0,0,0,[],0,[],0) fun (o,n,_,_,_,(e,f),k,q,_,_) _ (r,g,i,h,m,j,a,b,c,d)=>(((o,n,(),(),(),(e,f),k,q,r,()),((g,()),((h,i),()),((j,m),()),(a,b),(c,d),())),xeY o n e f k q r g i h m j a b c d none)
def xak (a:Nat):Nat:=0+(i64.wrap ((↑a:Int) - 1)).toNat
def xbg (n b:Int) (c d:Nat) (a:LA):Int:=if i64.wrap (b - n)<((a.getD (xak c) .top).cells.getD 1 .top).toInt then i64.wrap (b - n) else ((a.getD (xak c) .top).cells.getD 1 .top).toInt
def xeh (j n d:Int) (c g h i a:Nat) (b:LA) (e:Nat) (f:LA):=Iter (xdU j n g (xak c) (xbg n d c a b) (xbg n d c a b)) (0,d,c,g,h,i,a,List.take c b,e,f)
def xcQ (j n e:Int) (f g h i a:Nat) (b:LA) (c:Nat) (d:LA):=(xeh j n e f g h i a b c d).getD (0,0,0,0,0,[],0,[],0)
def xeg (j n e:Int) (f g h i a:Nat) (b:LA) (c:Nat) (d:LA):=(xcQ j n e f g h i a b c d).snd
def xb3 (j n e:Int) (f g h i a:Nat) (b:LA) (c:Nat) (d:LA):=(xeg j n e f g h i a b c d).fst
def xef (j n e:Int) (f g h i a:Nat) (b:LA) (c:Nat) (d:LA):=(xeg j n e f g h i a b c d).snd
def xb2 (j n e:Int) (f g h i a:Nat) (b:LA) (c:Nat) (d:LA):=(xef j n e f g h i a b c d).fst
def xcP (j n e:Int) (f g h i a:Nat) (b:LA) (c:Nat) (d:LA):=(xef j n e f g h i a b c d).snd
def xb1 (j n e:Int) (f g h i a:Nat) (b:LA) (c:Nat) (d:LA):=i64.wrap ((↑(xb2 j n e f g h i a b c d):Int) - 1)
def xcO (j n e:Int) (f g h i a:Nat) (b:LA) (c:Nat) (d:LA):=(xcP j n e f g h i a b c d).snd
def xee (j n e:Int) (f g h i a:Nat) (b:LA) (c:Nat) (d:LA):=(xcO j n e f g h i a b c d).snd
def xc0 (j n e:Int) (f g h i a:Nat) (b:LA) (c:Nat) (d:LA):=(xee j n e f g h i a b c d).fst
def xeG (j n e:Int) (f g h i a:Nat) (b:LA) (c:Nat) (d:LA):=(xee j n e f g h i a b c d).snd
def xa5 (j n f:Int) (g e h i a:Nat) (b:LA) (c:Nat) (d:LA):=(xeG j n f g e h i a b c d).fst==e
def xeF (j n f:Int) (e g h i a:Nat) (b:LA) (c:Nat) (d:LA):=decide (xak e<(xc0 j n f e g h i a b c d).length)
def xb0 (j n f:Int) (e g h i a:Nat) (b:LA) (c:Nat) (d:LA):=((xc0 j n f e g h i a b c d).getD (xak e) .top).cells
def xb4 (j n e:Int) (f g h i a:Nat) (b:LA) (c:Nat) (d:LA):=(xeG j n e f g h i a b c d).snd
def xbo (j n f:Int) (e g h i a:Nat) (b:LA) (c:Nat) (d:LA):=(xc0 j n f e g h i a b c d).set (xak e) (AV.agg (List.take 1 (xb0 j n f e g h i a b c d)++[AV.int .i64 (i64.wrap (((xb0 j n f e g h i a b c d).getD 1 .top).toInt - xbg n f e a b))]++List.drop 2 (xb0 j n f e g h i a b c d)))
def xeX {T:Type} (j n g:Int) (f e h i a:Nat) (b:LA) (c:Nat) (d:LA) (δ:T) (κl:(Int×Nat×Nat×Nat×Nat×Nat×LA×Nat×LA)->T) (κr:(Int×Nat×Nat×Nat×Nat×LA×Nat×LA×Nat)->T):T:=br (decide (g>n)) (br (a==e) (br (a==e&&(decide (0<=i64.wrap ((↑f:Int) - 1))&&decide (i64.wrap ((↑f:Int) - 1)<(↑f:Int)))) (br (a==e) (br (a==e) (br (a==e&&(decide (xak f<b.length)&&xpS (Sh.int .i64) ((b.getD (xak f) .top).cells.getD 1 .top))) (br ((xeh j n g f e h i a b c d).isSome) (br (xa5 j n g f e h i a b c d) (br (xa5 j n g f e h i a b c d) (br (xa5 j n g f e h i a b c d&&(xeF j n g f e h i a b c d&&xpS (Sh.int .i64) ((xb0 j n g f e h i a b c d).getD 1 .top))) (br (xa5 j n g f e h i a b c d) (br (xa5 j n g f e h i a b c d) (br (xa5 j n g f e h i a b c d&&xeF j n g f e h i a b c d) (br (e==e) (br (e==e) (br (e==e&&(decide (xak f<(xbo j n g f e h i a b c d).length)&&xpS (Sh.int .i64) (((xbo j n g f e h i a b c d).getD (xak f) .top).cells.getD 1 .top))) (br ((((xbo j n g f e h i a b c d).getD (xak f) .top).cells.getD 1 .top).toInt==0) (br (e==xb3 j n g f e h i a b c d) (br (e==xb3 j n g f e h i a b c d&&(decide (0<=xb1 j n g f e h i a b c d)&&decide (xb1 j n g f e h i a b c d<=(↑(xb2 j n g f e h i a b c d):Int))&&true)) (κl (i64.wrap ((xcQ j n g f e h i a b c d).fst - xbg n g f a b),(xb1 j n g f e h i a b c d).toNat - 0,xb3 j n g f e h i a b c d,(xcO j n g f e h i a b c d).fst,(xcP j n g f e h i a b c d).fst,e,List.take ((xb1 j n g f e h i a b c d).toNat - 0) (xbo j n g f e h i a b c d),(xb4 j n g f e h i a b c d).snd,(xb4 j n g f e h i a b c d).fst)) δ) δ) (κl (i64.wrap ((xcQ j n g f e h i a b c d).fst - xbg n g f a b),xb2 j n g f e h i a b c d,xb3 j n g f e h i a b c d,(xcO j n g f e h i a b c d).fst,(xcP j n g f e h i a b c d).fst,e,List.take (xb2 j n g f e h i a b c d) (xbo j n g f e h i a b c d),(xb4 j n g f e h i a b c d).snd,(xb4 j n g f e h i a b c d).fst))) δ) δ) δ) δ) δ) δ) δ) δ) δ) δ) δ) δ) δ) δ) δ) (κr (g,e,f,i,h,b,a,d,c))
def xct (j n:Int):StT (Int×Nat×Nat×Nat×Nat×Nat×LA×Nat×LA) (Int×Nat×Nat×Nat×Nat×LA×Nat×LA×Nat):=fun (e,f,g,h,i,a,b,c,d)=>xeX j n e f g h i a b c d none inL inR
def xeE:=xnr.l 71 5 [] [(7,xb5.lp)] Tryz.f89 0 (lk1 xb5.ok) [0,1,2,3,4] [] [(3,0,0)] (q5 qI qI (xqP 0 0 0 0) (xqP 1 0 0 0) (xqP 2 0 0 0)) (q5 (qB 0 1 3 (q1 qI)) (xqQ 0 1 125 false false (q1 (pOslV 3 0))) (xqQ 0 1 97 false false (q1 (pOslV 4 0))) (pBoxV 2 127 false true xqG) (pBoxV 2 56 false true xqG)) (fun (j,n,_,_,_,_) ((e,_),((f,g),_),((h,i),_),(a,b),(c,d),_)=>(xct j n,(e,g,f,i,h,a,b,c,d),fun p=>(.leaf (.exit 0) [] [bF 0 1 3 [AV.int .i64 p.1],⟨0,1,125,[AV.osl 3 p.2.1 0 p.2.2.1],false,false⟩,⟨0,1,97,[AV.osl 4 p.2.2.2.1 0 p.2.2.2.2.1],false,false⟩,bF p.2.2.2.2.2.2.1 2 127 p.2.2.2.2.2.1,bF p.2.2.2.2.2.2.2.2 2 56 p.2.2.2.2.2.2.2.1]))) (0,0,0,0,0,[],0,[],0) fun (j,n,_,_,_,_) _ (e,g,f,i,h,a,b,c,d)=>(((j,n,(),(),(),()),((e,()),((f,g),()),((h,i),()),(a,b),(c,d),())),xeX j n e g f i h a b c d none)
def xbu:Env:=E1.fn 71 5 (lsOf []) (xqf [(7,xb5.lp),(3,xeE.lp)])
theorem xhw:xpU P0 (xqB.at 5) xbu:=xk3.fn
theorem xgr:LoOk P0 (xqB.at xbu.pin) xbu (Tryz.f89.body.getD .skip):=xeI (ls:=[xpY Tryz.f89 0,xpY Tryz.f89 1]) (by kernel_rfl) (lkC xeE.ok (lkC xb5.ok lkN))
def xfs (a n h:Int) (b c:Nat) (d e:LA):=Iter (xct a n) (n,b+1,1,c,0,1,List.take (b+1) (d++[AV.agg [AV.int .i64 a,AV.int .i64 (i64.wrap (n - h))]]),0,e)
def xft (a n h:Int) (b c:Nat) (d e:LA):=Iter (xct a n) (h,b,0,c,0,0,List.take b d,0,e)
def xfn (a n h:Int) (b c:Nat) (d e:LA):=(xfs a n h b c d e).getD (0,0,0,0,0,[],0,[],0)
def xfr (a n h:Int) (b c:Nat) (d e:LA):=(xft a n h b c d e).getD (0,0,0,0,0,[],0,[],0)
def xf0 (a n h:Int) (b c:Nat) (d e:LA):=(xfn a n h b c d e).snd
def xfq (a n h:Int) (b c:Nat) (d e:LA):=(xfr a n h b c d e).snd
def xfY (a n h:Int) (b c:Nat) (d e:LA):=(xf0 a n h b c d e).snd
def xfp (a n h:Int) (b c:Nat) (d e:LA):=(xfq a n h b c d e).snd
def xfX (a n h:Int) (b c:Nat) (d e:LA):=(xfY a n h b c d e).snd
def xfo (a n h:Int) (b c:Nat) (d e:LA):=(xfp a n h b c d e).snd
def xfW (a n h:Int) (b c:Nat) (d e:LA):=(xfX a n h b c d e).snd
def xfm (a n h:Int) (b c:Nat) (d e:LA):=(xfo a n h b c d e).snd
def xfV (a n h:Int) (b c:Nat) (d e:LA):=(xfW a n h b c d e).snd
def xf1 (a n h:Int) (b c:Nat) (d e:LA):=(xfm a n h b c d e).snd
def xfU (a n h:Int) (b c:Nat) (d e:LA):=(xfV a n h b c d e).snd
def xfx (a n h:Int) (b c:Nat) (d e:LA):=(xf1 a n h b c d e).snd
def xfT (a n h:Int) (b c:Nat) (d e:LA):=(xfU a n h b c d e).snd
def xfZ (a n h:Int) (b c:Nat) (d e:LA):=(xfx a n h b c d e).snd
def xeH {T:Type} (a n h:Int) (b d:Nat) (c e:LA) (δ:T) (κ:Int×Nat×Nat×Nat×Nat×LA×Nat×LA×Nat->T):T:=br (decide (n>h)) (br (rmB b c 1 16) (br ((xfs a n h b d c e).isSome) (κ ((xfn a n h b d c e).fst,(xf0 a n h b d c e).fst,(xfY a n h b d c e).fst,(xfX a n h b d c e).fst,(xfW a n h b d c e).fst,(xfV a n h b d c e).fst,(xfU a n h b d c e).fst,(xfT a n h b d c e).fst,(xfT a n h b d c e).snd)) δ) δ) (br ((xft a n h b d c e).isSome) (κ ((xfr a n h b d c e).fst,(xfq a n h b d c e).fst,(xfp a n h b d c e).fst,(xfo a n h b d c e).fst,(xfm a n h b d c e).fst,(xf1 a n h b d c e).fst,(xfx a n h b d c e).fst,(xfZ a n h b d c e).fst,(xfZ a n h b d c e).snd)) δ)
def xeo (a n h:Int) (b c:Nat) (d e:LA):=xeH a n h b c d e none some
theorem xjV (a n h:Int) (b c:Nat) (d e:LA):Enc (fun (p:Int×Nat×Nat×Nat×Nat×LA×Nat×LA×Nat)=>(((AV.tuple [],([⟨0,1,3,[AV.int .i64 p.1],false,true⟩,⟨0,1,125,[AV.osl 3 p.2.1 0 p.2.2.1],false,false⟩,⟨0,1,97,[AV.osl 4 p.2.2.2.1 0 p.2.2.2.2.1],false,false⟩,⟨p.2.2.2.2.2.2.1,2,127,p.2.2.2.2.2.1,false,true⟩,⟨p.2.2.2.2.2.2.2.2,2,56,p.2.2.2.2.2.2.2.1,false,true⟩]:List Box))):(AV×List Box))) (xeo a n h b c d e) (XFM P0 xbu Tryz.f89 (Tryz.f89.body.getD .skip) [AV.int .i64 a,AV.int .i64 n,AV.own (0:Id) 0 0 0,AV.own (1:Id) 0 0 0,AV.own (2:Id) 0 0 0] [{ ver:=0,sz:=1,ty:=(3:TypeId),xs:=[AV.int .i64 h],frz:=false,pm:=true },{ ver:=0,sz:=1,ty:=(125:TypeId),xs:=[AV.osl (3:Id) 0 0 b],frz:=false,pm:=false },{ ver:=0,sz:=1,ty:=(97:TypeId),xs:=[AV.osl (4:Id) 0 0 c],frz:=false,pm:=false },{ ver:=0,sz:=2,ty:=(127:TypeId),xs:=d,frz:=false,pm:=true },{ ver:=0,sz:=2,ty:=(56:TypeId),xs:=e,frz:=false,pm:=true }]):=by
 have h:XFM P0 xbu Tryz.f89 (Tryz.f89.body.getD .skip) [AV.int .i64 a,AV.int .i64 n,AV.own (0:Id) 0 0 0,AV.own (1:Id) 0 0 0,AV.own (2:Id) 0 0 0] [{ ver:=0,sz:=1,ty:=(3:TypeId),xs:=[AV.int .i64 h],frz:=false,pm:=true },{ ver:=0,sz:=1,ty:=(125:TypeId),xs:=[AV.osl (3:Id) 0 0 b],frz:=false,pm:=false },{ ver:=0,sz:=1,ty:=(97:TypeId),xs:=[AV.osl (4:Id) 0 0 c],frz:=false,pm:=false },{ ver:=0,sz:=2,ty:=(127:TypeId),xs:=d,frz:=false,pm:=true },{ ver:=0,sz:=2,ty:=(56:TypeId),xs:=e,frz:=false,pm:=true }]=xeH a n h b c d e none (fun (p:Int×Nat×Nat×Nat×Nat×LA×Nat×LA×Nat)=>some (((AV.tuple [],([⟨0,1,3,[AV.int .i64 p.1],false,true⟩,⟨0,1,125,[AV.osl 3 p.2.1 0 p.2.2.1],false,false⟩,⟨0,1,97,[AV.osl 4 p.2.2.2.1 0 p.2.2.2.2.1],false,false⟩,⟨p.2.2.2.2.2.2.1,2,127,p.2.2.2.2.2.1,false,true⟩,⟨p.2.2.2.2.2.2.2.2,2,56,p.2.2.2.2.2.2.2.1,false,true⟩]:List Box))):(AV×List Box))):=by kernel_rfl
 rw [h];unfold xeo xeH;repeat' (first|refine Enc.br ?_ ?_|exact Enc.none|exact Enc.some rfl)
end Go.Sim.M
namespace Go.Sim
open Go.RowKit
theorem GoodM.aged {P:Program} {Inv:IV} {f:FuncId} {args:List AV} {H E:List Box} {p q v k t s y:Nat} {xs:List AV}
  (h:GoodM P Inv f args H (.tuple []) E) (hz:∀ bx,H[q]?=some bx->bx.ver=0)
  (ep:E[p]?=some ⟨0,1,t,[.osl (.b q) v 0 k],false,false⟩) (eq:E[q]?=some ⟨v,s,y,xs,false,true⟩) (pt:isC t=false) (py:isC y=false)
  (ho:∀ n bx,E[n]?=some bx->isC bx.ty=false/\(n=p\/n=q\/bx.pm=true\/∃ n' v' k',n'≠q/\bx.xs=[.osl (.b n') v' 0 k'])) :
  GoodM P Inv f args H (.tuple []) ((E.set p ⟨0,1,t,[.osl (.b q) 1 0 k],false,false⟩).set q ⟨1,s,y,xs,false,true⟩):=by
 have pq:p≠q:=fun e=>by
  subst e;rw [ep] at eq;simp at eq
 refine ⟨h.1,fun w0 w A M vs hI hB hR ab=>(h.2 w0 w A M vs hI hB hR ab).mono ?_⟩
 rintro e w' ⟨u,A',M',rfl,h1,h2,h3,h4,h5⟩;let M'':Id->Option MB:=fun id=>if id=.b q then (M' id).map fun m=>⟨m.b,1,m.sz,m.cap,m.ty⟩ else M' id
 have eo:∀ id,id≠.b q->M'' id=M' id:=fun id g1=>if_neg g1
 have e4:∀ m,M' (.b q)=some m->M'' (.b q)=some ⟨m.b,1,m.sz,m.cap,m.ty⟩:=fun m hm=>(if_pos rfl).trans (by rw [hm];rfl)
 have O:∀ id m1,M'' id=some m1->∃ m0,M' id=some m0/\m1.b=m0.b/\m1.cap=m0.cap:=fun id m1 J=>by
  by_cases g3:id=.b q
  . subst g3;cases hm:M' (.b q) with
    | none=>simp [M'',hm] at J
    | some m=>rw [e4 m hm] at J;simp only [z6] at J;subst J;exact ⟨m,rfl,rfl,rfl⟩
  . exact ⟨m1,eo id g3▸J,rfl,rfl⟩
 have Q:∀ n bx m,E[n]?=some bx->M' (.b n)=some m->BoxAt w' A' M' w0.heap.size (.b n) m bx:=fun n bx m hn hm=>by
  obtain ⟨bx',g1,g2⟩:=h4.box _ m hm;rw [xaF,hn] at g1;cases g1;exact g2
 have hv:∀ m,M' (.b q)=some m->v=m.ver:=fun m hm=>(Q q _ m eq hm).ver
 have hx:∀ c n' v' k',n'≠q->Rel w' A' M' c (.osl (.b n') v' 0 k')->Rel w' A' M'' c (.osl (.b n') v' 0 k'):=fun c n' v' k' hn hr=>by
  obtain ⟨m0,g1,g2,g3,g4⟩:=Rel.osl_inv hr;exact .osl c _ v' 0 k' m0 ((eo _ fun e=>hn (by cases e;rfl)).trans g1) g2 g3 g4
 have hy:∀ c,Rel w' A' M' c (.osl (.b q) v 0 k)->Rel w' A' M'' c (.osl (.b q) 1 0 k):=fun c hr=>by
  obtain ⟨m0,g1,g2,g3,g4⟩:=Rel.osl_inv hr;exact .osl c _ 1 0 k _ (e4 m0 g1) (zd _) g3 fun _=>g4 (hv m0 g1)
 have hb:∀ id (bx bx':Box) (m m':MB),isC bx.ty=false->bx'=⟨m'.ver,bx.sz,bx.ty,bx'.xs,bx.frz,bx.pm⟩->m'=⟨m.b,m'.ver,m.sz,m.cap,m.ty⟩->bx'.xs.length=bx.xs.length->(∀ x,x∈bx'.xs->x.okElem m.sz=true) ->
   (∀ c i j,Rel w' A' (MP M' bx.pm) c ((bx.xs.getD i .top).cells.getD j .top)->Rel w' A' (MP M'' bx.pm) c ((bx'.xs.getD i .top).cells.getD j .top))->BoxAt w' A' M' w0.heap.size id m bx->BoxAt w' A' M'' w0.heap.size id m' bx':=fun id bx bx' m m' U ad aa hl Z hc g=>by
  rw [ad,aa];have V:xpW m.ty=false:=g.nomap (xaf U);refine ⟨rfl,g.sz,g.ty,g.capm,hl▸g.fits,Z,g.low,g.lt,fun h0=>?_,g.guard⟩
  obtain ⟨c,c1,c2,c3⟩:=g.cells h0;refine ⟨c,.of V (c1.plain V),c2,fun i j hi hj=>?_⟩
  have:=c3 i j (hl▸hi) hj;rw [xac U,xaq U] at this;rw [xac U,xaq (bx:=⟨m'.ver,bx.sz,bx.ty,bx'.xs,bx.frz,bx.pm⟩) U];exact hc _ i j this
 have ht:∀ a v1 v2 d,(∀ c,Rel w' A' M' c (.osl a v1 0 d)->Rel w' A' M'' c (.osl a v2 0 d))->∀ c i j,Rel w' A' M' c ((([.osl a v1 0 d]:List AV).getD i .top).cells.getD j .top)->Rel w' A' M'' c ((([.osl a v2 0 d]:List AV).getD i .top).cells.getD j .top):=fun a v1 v2 d hh c i j hr=>by
  match i,j with
  | 0,0=>exact hh c hr
  | 0,j+1=>exact .top _
  | i+1,0=>exact .top _
  | i+1,j+1=>exact .top _
 have hg:∀ n bx,E[n]?=some bx->∃ bx',((E.set p ⟨0,1,t,[.osl (.b q) 1 0 k],false,false⟩).set q ⟨1,s,y,xs,false,true⟩)[n]?=some bx'/\isC bx'.ty=false/\(∀ m m1,M' (.b n)=some m->M'' (.b n)=some m1->BoxAt w' A' M'' w0.heap.size (.b n) m1 bx'):=fun n bx hn=>by
  have hn':=xaS hn;obtain ⟨hC,hc⟩:=ho n bx hn;by_cases g1:n=q
  . subst g1;rw [hn] at eq;cases eq;refine ⟨_,zL (by simpa using hn'),py,fun m m1 e1 e2=>?_⟩
    rw [e4 m e1] at e2;cases e2;have g:=Q n _ m hn e1;exact hb _ ⟨v,s,y,xs,false,true⟩ ⟨1,s,y,xs,false,true⟩ m _ py rfl rfl rfl g.ok (fun c i j hr=>hr) g
  . have ge:∀ m m1,M' (.b n)=some m->M'' (.b n)=some m1->m1=m:=fun m m1 e1 e2=>by
     rw [eo _ fun e=>g1 (by cases e;rfl),e1] at e2;cases e2;rfl
    by_cases g2:n=p
    . subst g2;rw [hn] at ep;cases ep;refine ⟨_,(zX (Ne.symm g1)).trans (zL hn'),pt,fun m m1 e1 e2=>?_⟩
      cases ge m m1 e1 e2;have g:=Q n _ m hn e1;have hv:0=m.ver:=g.ver;have hz:m.sz=1:=g.sz.symm;exact hb _ ⟨0,1,t,[.osl (.b q) v 0 k],false,false⟩ ⟨0,1,t,[.osl (.b q) 1 0 k],false,false⟩ m m pt (by rw [<-hv]) rfl rfl (fun x hx=>by simp only [zv] at hx;subst hx;rw [hz];rfl) (ht _ _ _ _ hy) g
    . refine ⟨bx,(zX (Ne.symm g1)).trans ((zX (Ne.symm g2)).trans hn),hC,fun m m1 e1 e2=>?_⟩
      cases ge m m1 e1 e2;have g:=Q n _ m hn e1;refine hb _ bx bx m m hC (by rw [<-g.ver]) rfl rfl g.ok ?_ g
      rcases hc with hc|hc|hc|⟨n',v',k',hc,hd⟩
      . exact absurd hc g2
      . exact absurd hc g1
      . rw [hc];exact fun c i j hr=>hr
      . cases ae:bx.pm with
        | true=>exact fun c i j hr=>hr
        | false=>rw [hd];exact ht _ _ _ _ fun c=>hx c n' v' k' hc
 have hR':HR w' A' M'' w0.heap.size ((E.set p ⟨0,1,t,[.osl (.b q) 1 0 k],false,false⟩).set q ⟨1,s,y,xs,false,true⟩):=by
  refine ⟨fun id m1 J=>?_,fun id id' m1 m2 k1 k2 c1 c2 he=>?_,h4.lt⟩
  . obtain ⟨m0,g1,_⟩:=O id m1 J;obtain ⟨bx,q1,q2⟩:=h4.box _ m0 g1;cases id with
    | r n i j =>
     rw [eo _ (fun e=>by cases e),g1] at J
     cases J;obtain ⟨c0,r1,_⟩:=xdS q1;obtain ⟨bx',r2,r3,_⟩:=hg n c0 r1;rw [xba r1 (ho n c0 r1).1] at q1;cases q1;exact ⟨_,xba r2 r3,hb _ tombB tombB m1 m1 rfl (by rw [<-q2.ver]) rfl rfl q2.ok (fun c i j hr=>hr) q2⟩
    | b n =>
     obtain ⟨bx',r2,_,r3⟩:=hg n bx q1;exact ⟨bx',r2,r3 _ _ g1 J⟩
  . obtain ⟨n1,a1,a2,a3⟩:=O id m1 k1;obtain ⟨n2,b1,b2,b3⟩:=O id' m2 k2;exact h4.inj id id' n1 n2 a1 b1 (a3▸c1) (b3▸c2) (by rw [<-a2,<-b2,he])
 refine ⟨u,A',M'',rfl,h1,h2,⟨h3.size,h3.keep,h3.less,h3.more,fun id m Y hm=>?_,fun id m1 J h0=>?_⟩,hR',?_⟩
 . obtain ⟨m',g1,g2⟩:=h3.ids id m Y hm;by_cases q4:id=.b q
   . subst q4;obtain ⟨bx,r1,r2⟩:=hR.box _ m hm;exact ⟨_,e4 m' g1,.inr (by rw [<-r2.ver,hz bx r1];exact Nat.zero_lt_one)⟩
   . exact ⟨m',(eo id q4).trans g1,g2⟩
 . obtain ⟨m0,g1,g2,g3⟩:=O id m1 J;rw [g2];exact h3.src id m0 g1 (g3▸h0)
 . obtain ⟨ac,rfl,q1,_⟩:=h5.tuple_inv;exact .tuple ac [] q1 (by simp)
namespace M
open Go.Proofs
noncomputable def set2 (q n h:Int) (ns no:Nat) (sx ox:List AV):Option (Int×Nat×Nat×List AV×List AV):=(xeo q n h ns no sx ox).bind fun p =>
 br (Nat.beq p.2.1 p.2.2.2.2.2.2.1&&Nat.beq p.2.2.2.1 p.2.2.2.2.2.2.2.2) (some (p.1,p.2.2.1,p.2.2.2.2.1,p.2.2.2.2.2.1,p.2.2.2.2.2.2.2.1)) none
noncomputable def xmJ:List AV->List Box->Option (Bool×AV×List Box):=omOf (xqD (sEq (pInt IntKind.i64)) (xqD (sEq (pInt IntKind.i64)) (xqD (sEq (xqP 0 0 0 0)) (xqD (sEq (xqP 1 0 0 0)) (xqD (sEq (xqP 2 0 0 0)) xqF)))))
 (xqC (xqQ 0 1 3 false true (xqC (pInt IntKind.i64) xqE)) (xqC (xqQ 0 1 125 false false (xqC (xqO 3 0 0) xqE)) (xqC (xqQ 0 1 97 false false (xqC (xqO 4 0 0) xqE)) (xqC (xqQ 0 2 127 false true xqG) (xqC (xqQ 0 2 56 false true xqG) xqE)))))
 fun (q,(n,(_,(_,(_,_))))) ((h,_),((ns,_),((no,_),(sx,(ox,_)))))=>((set2 q n h ns no sx ox).isSome,(.tuple [],[⟨0,1,3,[.int .i64 ((set2 q n h ns no sx ox).getD (0,0,0,[],[])).1],false,true⟩,⟨0,1,125,[.osl (.b 3) 1 0 ((set2 q n h ns no sx ox).getD (0,0,0,[],[])).2.1],false,false⟩,⟨0,1,97,[.osl (.b 4) 1 0 ((set2 q n h ns no sx ox).getD (0,0,0,[],[])).2.2.1],false,false⟩,⟨1,2,127,((set2 q n h ns no sx ox).getD (0,0,0,[],[])).2.2.2.1,false,true⟩,⟨1,2,56,((set2 q n h ns no sx ox).getD (0,0,0,[],[])).2.2.2.2,false,true⟩]))
theorem xoV:OmOk P0 xqB 89 xmJ:=xkU fun vv bb rr Z hh=>by
 obtain ⟨J,⟨n,⟨_,⟨_,⟨_,_⟩⟩⟩⟩⟩:=vv;obtain ⟨⟨h,_⟩,⟨⟨ns,_⟩,⟨⟨no,_⟩,⟨sx,⟨ox,_⟩⟩⟩⟩⟩:=bb;obtain ⟨O,Q⟩:=Prod.mk.inj hh;cases hs:xeo J n h ns no sx ox with
 | none=>rw [show set2 J n h ns no sx ox=none by unfold set2;rw [hs];rfl] at O;simp at O
 | some p =>
  have V:set2 J n h ns no sx ox=br (Nat.beq p.2.1 p.2.2.2.2.2.2.1&&Nat.beq p.2.2.2.1 p.2.2.2.2.2.2.2.2) (some (p.1,p.2.2.1,p.2.2.2.2.1,p.2.2.2.2.2.1,p.2.2.2.2.2.2.2.1)) none:=by unfold set2;rw [hs];rfl
  cases ht:Nat.beq p.2.1 p.2.2.2.2.2.2.1&&Nat.beq p.2.2.2.1 p.2.2.2.2.2.2.2.2 with
  | false=>rw [V,ht] at O;simp [br] at O
  | true =>
   rw [ht] at V;have Y:set2 J n h ns no sx ox=some (p.1,p.2.2.1,p.2.2.2.2.1,p.2.2.2.2.2.1,p.2.2.2.2.2.2.2.1):=V;rw [Y] at Q;simp only [zh] at Q;simp only [zf] at ht;have e1:=zg ht.1;have e2:=zg ht.2;have hx:=xjV J n h ns no sx ox p hs;have hg:GoodM P0 xqB 89 _ _ _ _:=xeV (p:=xbu.pin) (xgn xp2 (xp3 P0 _) rfl xhw rfl Tryz.func89 rfl (by kernel_rfl) xgr hx)
   rw [<-e1,<-e2] at hg;have U:=GoodM.aged (p:=1) (q:=3) hg (fun bx hb=>by cases hb;rfl) rfl rfl rfl rfl (fun n bx hn=>by
    match n with
    | 0=>cases hn;exact ⟨rfl,.inr (.inr (.inl rfl))⟩
    | 1=>cases hn;exact ⟨rfl,.inl rfl⟩
    | 2=>cases hn;exact ⟨rfl,.inr (.inr (.inr ⟨_,_,_,by decide,rfl⟩))⟩
    | 3=>cases hn;exact ⟨rfl,.inr (.inl rfl)⟩
    | 4=>cases hn;exact ⟨rfl,.inr (.inr (.inl rfl))⟩
    | n+5=>simp at hn)
   have U:=GoodM.aged (p:=2) (q:=4) U (fun bx hb=>by cases hb;rfl) rfl rfl rfl rfl (fun n bx hn=>by
    match n with
    | 0=>cases hn;exact ⟨rfl,.inr (.inr (.inl rfl))⟩
    | 1=>cases hn;exact ⟨rfl,.inr (.inr (.inr ⟨_,_,_,by decide,rfl⟩))⟩
    | 2=>cases hn;exact ⟨rfl,.inl rfl⟩
    | 3=>cases hn;exact ⟨rfl,.inr (.inr (.inl rfl))⟩
    | 4=>cases hn;exact ⟨rfl,.inr (.inl rfl)⟩
    | n+5=>simp at hn)
   obtain ⟨rfl,rfl⟩:=Prod.mk.inj Q;exact U
noncomputable def ESet:Env:=E1.withM 89 xmJ
theorem xnD:xpU P0 xqB ESet:=xk3.withM xoV
noncomputable def xnC:EO:=EO.mk ESet xnD
end M
end Go.Sim
namespace Go.Sim.M
open Go.IntKind (i64 u64 u8)
open Go.RowKit Go.Proofs
def xbB (b a:Bool):Int:=(br (b) (((-1))) (br (a) ((1)) ((0))))
def xj2 {T:Type} (b a:Bool) (δ:T) (κ:Int->T):T:=br (b) (κ ((-1))) (br (a) (κ (1)) (κ (0)))
def xow:EO:=xnC.fT Tryz.func81 7 0 [] [] lk0 (fun (b,a,_)=>xj2 b a none) (u2 (sEq pBool) (sEq pBool)) (fun (b,a,_)=>xbB b a) (fun _ p=>(AV.int .i64 p))
def xcb (a b:Int) (c:List UInt8) (d e:Int) (f:List UInt8):Int:=(br (a != d) ((xbB (decide (a<d)) (decide (a>d)))) (br (b != e) ((xbB (decide (b<e)) (decide (b>e)))) ((xbB (Op.bytesLess c f) !(Op.bytesLess c f || c==f)))))
def xic {T:Type} (a b:Int) (c:List UInt8) (d e:Int) (f:List UInt8) (δ:T) (κ:Int->T):T:=br (a != d) (κ (xbB (decide (a<d)) (decide (a>d)))) (br (b != e) (κ (xbB (decide (b<e)) (decide (b>e)))) (κ (xbB (Op.bytesLess c f) !(Op.bytesLess c f || c==f))))
def xlV:EO:=xow.fT Tryz.func61 48 0 [] [] lk0 (fun ((a,b,c,_),(d,e,f,_),_)=>xic a b c d e f none) (u2 (xqS (u3 uI uI (sEq pStr))) (xqS (u3 uI uI (sEq pStr)))) (fun ((a,b,c,_),(d,e,f,_),_)=>xcb a b c d e f) (fun _ p=>(AV.int .i64 p))
def xaJ (a b:LA) (i:Int):=xcb (gC a i 0).toInt (gC a i 1).toInt (gC a i 2).toStr (gC b i 0).toInt (gC b i 1).toInt (gC b i 2).toStr
def xaT {T:Type} (a b:LA) (i:Int) (δ:T) (κl:(Int)->T) (κr:(Bool×(Int)×(Unit))->T):T:=br (decide (i<a.length)) (br (decide (i<b.length)) (br (ixI a i) (br (ixT a i 3 [Sh.int .i64,Sh.int .i64,Sh.str] 0) (br (ixI b i) (br (ixT b i 3 [Sh.int .i64,Sh.int .i64,Sh.str] 0) (br (xaJ a b i != 0) (κr (true,(xaJ a b i),())) (κl (i64.wrap (i+1)))) δ) δ) δ) δ) (κr (false,0,()))) (κr (false,0,()))
def xah (a b:LA):StT (Int) (Bool×(Int)×(Unit)):=fun (i)=>xaT a b i none inL inR
def xdz:=xlV.l 41 0 [] [] Tryz.f29 0 lk0 [0,1,5] [0,1,4] [] (q3 (qL 3) (qL 3) qI) xqE (fun (a,b,i,_) _=>(xah a b,(i),fun p=>(.node p.1 (.leaf .ret [AV.list 3 a,AV.list 3 b,AV.int .i64 p.2.1] []) (.leaf (.exit 0) [AV.list 3 a,AV.list 3 b,.top] [])))) (false,0,()) fun (a,b,_,_) _ (i)=>(((a,b,i,()),()),xaT a b i none)
def xds {T:Type} (a b:LA) (δ:T) (κ:Int->T):T:=br ((Iter (xah a b) 0).isSome) (br (((Iter (xah a b) 0).getD (false,0,())).fst) (κ (((Iter (xah a b) 0).getD (false,0,())).snd.fst)) (br (decide ((↑a.length:Int)<(↑b.length:Int))) (κ ((-1))) (br (decide ((↑a.length:Int)>(↑b.length:Int))) (κ (1)) (κ (0))))) δ
def xbv (a b:LA):=xds a b none some
def xoy:EO:=xlV.f Tryz.func29 41 0 [] [(2,xdz.lp)] (lk1 xdz.ok) (u2 (uL 3) (uL 3)) (fun (a,b,_) _=>xds a b) (fun _ p=>AV.int .i64 p) 0
def xaM (a b:Int):Bool:=(br (decide (a>=0)) (br (decide (a<b)) ((decide (b<=1099511627776))) ((false))) ((false)))
def xjp {T:Type} (a b:Int) (δ:T) (κ:Bool->T):T:=br (decide (a>=0)) (br (decide (a<b)) (κ (decide (b<=1099511627776))) (κ (false))) (κ (false))
def xlW:EO:=xoy.fT Tryz.func59 18 0 [] [] lk0 (fun ((a,b,_),_)=>xjp a b none) (u1 (xqS (u2 uI uI))) (fun ((a,b,_),_)=>xaM a b) (fun _ p=>(AV.bool p))
def xcI {T:Type} (l:LA) (i:Int) (δ:T) (κl:(Int)->T) (κr:(Bool×(Bool)×(Unit))->T):T:=br (decide (i<l.length)) (br (ixI l i) (br (ixS l i (Sh.list 3) 0) (br (decide ((↑(gC l i 0).toList.length:Int)>60)) (κr (true,(false),())) (κl (i64.wrap (i+1)))) δ) δ) (κr (false,false,()))
def xaD (l:LA):StT (Int) (Bool×(Bool)×(Unit)):=fun (i)=>xcI l i none inL inR
def xe0:=xlW.l 23 0 [] [] Tryz.f16 0 lk0 [0,5] [4] [] (q2 (qL 3) qI) xqE (fun (l,i,_) _=>(xaD l,(i),fun p=>(.node p.1 (.leaf .ret [AV.bool p.2.1] []) (.leaf (.exit 0) [.top] [])))) (false,false,()) fun (l,_,_) _ (i)=>(((l,i,()),()),xcI l i none)
def xfb {T:Type} (l:LA) (a:Int) (δ:T) (κ:Bool->T):T:=br (decide ((↑l.length:Int)>a)) (κ (false)) (br ((Iter (xaD l) 0).isSome) (br (((Iter (xaD l) 0).getD (false,false,())).fst) (κ (((Iter (xaD l) 0).getD (false,false,())).snd.fst)) (κ (true))) δ)
def xex (l:LA) (a:Int):=xfb l a none some
def xoz:EO:=xlW.f Tryz.func16 23 0 [] [(4,xe0.lp)] (lk1 xe0.ok) (u2 (uL 3) uI) (fun (l,a,_) _=>xfb l a) (fun _ p=>AV.bool p) false
def xcf {T:Type} (c d:Int) (a:LA) (o p e f g h i j:Int) (b:LA) (q r k l m n:Int) (δ:T) (κ:Bool->T):T:=br (c==i) (br (d==j) (br (o==q&&(p==r&&true)) (br (e==k&&(f==l&&true)) (br (g==m) (br (h==n) (br ((xbv a b).isSome) (κ ((xbv a b).getD 0==0)) δ) (κ (false))) (κ (false))) (κ (false))) (κ (false))) (κ (false))) (κ (false))
def xcR (a b:Int) (m:LA) (n o c d e f g h:Int) (p:LA) (q r i j k l:Int):=xcf a b m n o c d e f g h p q r i j k l none some
def xlX:EO:=xoz.f Tryz.func60 53 0 [] [] lk0 (u2 (xqS (xqD uI (xqD uI (u7 (uL 3) uI uI uI uI uI uI)))) (xqS (xqD uI (xqD uI (u7 (uL 3) uI uI uI uI uI uI))))) (fun ((a,b,n,o,q,c,d,e,g,_),(h,i,r,s,t,j,k,l,m,_),_) _=>xcf a b n o q c d e g h i r s t j k l m) (fun _ p=>AV.bool p) false
def xax (a b:LA) (i:Int):=xcR (gC a i 0).toInt (gC a i 1).toInt (gC a i 2).toList (gC a i 3).toInt (gC a i 4).toInt (gC a i 5).toInt (gC a i 6).toInt (gC a i 7).toInt (gC a i 8).toInt (gC b i 0).toInt (gC b i 1).toInt (gC b i 2).toList (gC b i 3).toInt (gC b i 4).toInt (gC b i 5).toInt (gC b i 6).toInt (gC b i 7).toInt (gC b i 8).toInt
def xa3 {T:Type} (a b:LA) (i:Int) (δ:T) (κl:(Int)->T) (κr:(Bool×(Bool)×(Unit))->T):T:=br (decide (i<a.length)) (br (ixI a i) (br (ixT a i 9 [Sh.int .i64,Sh.int .i64,Sh.list 3,Sh.int .i64,Sh.int .i64,Sh.int .i64,Sh.int .i64,Sh.int .i64,Sh.int .i64] 0) (br (ixI b i) (br (ixT b i 9 [Sh.int .i64,Sh.int .i64,Sh.list 3,Sh.int .i64,Sh.int .i64,Sh.int .i64,Sh.int .i64,Sh.int .i64,Sh.int .i64] 0) (br ((xax a b i).isSome) (br (!(xax a b i).getD false) (κr (true,(false),())) (κl (i64.wrap (i+1)))) δ) δ) δ) δ) δ) (κr (false,false,()))
def xaj (a b:LA):StT (Int) (Bool×(Bool)×(Unit)):=fun (i)=>xa3 a b i none inL inR
def xcy:=xlX.l 27 0 [] [] Tryz.f24 0 lk0 [0,1,5] [4] [] (q3 (qL 9) (qL 9) qI) xqE (fun (a,b,i,_) _=>(xaj a b,(i),fun p=>(.node p.1 (.leaf .ret [AV.bool p.2.1] []) (.leaf (.exit 0) [.top] [])))) (false,false,()) fun (a,b,_,_) _ (i)=>(((a,b,i,()),()),xa3 a b i none)
def xb8 {T:Type} (a b:LA) (δ:T) (κ:Bool->T):T:=br ((↑a.length:Int) != (↑b.length:Int)) (κ (false)) (br ((Iter (xaj a b) 0).isSome) (br (((Iter (xaj a b) 0).getD (false,false,())).fst) (κ (((Iter (xaj a b) 0).getD (false,false,())).snd.fst)) (κ (true))) δ)
def xbC (a b:LA):=xb8 a b none some
def xlY:EO:=xlX.f Tryz.func24 27 0 [] [(4,xcy.lp)] (lk1 xcy.ok) (u2 (uL 9) (uL 9)) (fun (a,b,_) _=>xb8 a b) (fun _ p=>AV.bool p) false
def xb7 {T:Type} (l:LA) (b:Nat) (i:Int) (a:LA) (δ:T) (κl:(Nat×Int×LA)->T) (κr:(Nat×LA)->T):T:=br (decide (i<l.length)) (br (ixI l i) (br (ixS l i (Sh.list 3) 2) (br (ixI l i) (br (ixT l i 9 [Sh.int .i64,Sh.int .i64] 3) (br (rmB b a 1 40) (κl (b+1,i64.wrap (i+1),a++[AV.agg [AV.list 3 (gC l i 2).toList,AV.int .i64 (gC l i 3).toInt,AV.int .i64 (gC l i 4).toInt]])) δ) δ) δ) δ) δ) (κr (b,a))
def xaK (l:LA):StT (Nat×Int×LA) (Nat×LA):=fun (b,i,a)=>xb7 l b i a none inL inR
def xei:=xlY.l 26 0 [] [] Tryz.f34 0 lk0 [0,3,4] [3] [(3,3,60)] (q3 (qL 9) (xqO 0 0 0) qI) (q1 (qB 0 3 60 xqG)) (fun (l,b,i,_) (a,_)=>(xaK l,(b,i,a),fun p=>(.leaf (.exit 0) [AV.osl 0 0 0 p.1] [bF 0 3 60 p.2]))) (0,[]) fun (l,_,_,_) _ (b,i,a)=>(((l,b,i,()),(a,())),xb7 l b i a none)
def xdF (l:LA):=(Iter (xaK l) (0,0,[])).getD (0,[])
def xdD (l:LA):=(xdF l).snd
def xdE (l:LA):=(xdF l).fst
def xd7 {T:Type} (l:LA) (δ:T) (κ:LA->T):T:=br ((Iter (xaK l) (0,0,[])).isSome) (br (decide (0+xdE l<=(xdD l).length)&&true) (κ (List.take (xdE l) (List.drop 0 (xdD l)))) δ) δ
def xcW (l:LA):=xd7 l none some
def xoA:EO:=xlY.f Tryz.func34 26 0 [] [(3,xei.lp)] (lk1 xei.ok) (u1 (uL 9)) (fun (l,_) _=>xd7 l) (fun _ p=>AV.list 3 p) []
def xcY (d e:Int) (i:LA) (g h f b c a:Int):Bool:=(br (decide (d<1)) ((true)) (br (decide (c<1)) ((true)) (br (decide (e<0)) ((true)) (br (decide (a<0)) ((true)) (br (!xaM g h) ((true)) (br (!xaM f b) ((true)) (br (a != 0) (br (decide (a<=c)) ((true)) ((b==1099511627776))) ((false)))))))))
def xid {T:Type} (d e:Int) (i:LA) (g h f b c a:Int) (δ:T) (κ:Bool->T):T:=br (decide (d<1)) (κ (true)) (br (decide (c<1)) (κ (true)) (br (decide (e<0)) (κ (true)) (br (decide (a<0)) (κ (true)) (br (!xaM g h) (κ (true)) (br (!xaM f b) (κ (true)) (br (a != 0) (br (decide (a<=c)) (κ (true)) (κ (b==1099511627776))) (κ (false))))))))
def xou:EO:=xoA.fT Tryz.func44 49 0 [] [] lk0 (fun ((a,b,g,h,i,c,d,e,f,_),_)=>xid a b g h i c d e f none) (u1 (xqS (xqD uI (xqD uI (u7 (uL 3) uI uI uI uI uI uI))))) (fun ((a,b,g,h,i,c,d,e,f,_),_)=>xcY a b g h i c d e f) (fun _ p=>(AV.bool p))
def xfc (a g:Int) (o:LA) (e p b h i j c k:Int) (q:LA) (f r d l m n:Int):Bool:=(br (a != c) ((decide (a<c))) (br (b != d) ((decide (b<d))) ((decide (e<f)))))
def xjq {T:Type} (a g:Int) (o:LA) (e p b h i j c k:Int) (q:LA) (f r d l m n:Int) (δ:T) (κ:Bool->T):T:=br (a != c) (κ (decide (a<c))) (br (b != d) (κ (decide (b<d))) (κ (decide (e<f))))
def xov:EO:=xou.fT Tryz.func45 36 0 [] [] lk0 (fun ((a,b,m,n,o,c,d,e,f,_),(g,h,q,r,s,i,j,k,l,_),_)=>xjq a b m n o c d e f g h q r s i j k l none) (u2 (xqS (xqD uI (xqD uI (u7 (uL 3) uI uI uI uI uI uI)))) (xqS (xqD uI (xqD uI (u7 (uL 3) uI uI uI uI uI uI))))) (fun ((a,b,m,n,o,c,d,e,f,_),(g,h,q,r,s,i,j,k,l,_),_)=>xfc a b m n o c d e f g h q r s i j k l) (fun _ p=>(AV.bool p))
def xbS (a b c d:Int):Bool:=(br (xaM a b) (br (xaM c d) (br (decide (a<d)) ((decide (c<b))) ((false))) ((false))) ((false)))
def xhF {T:Type} (a b c d:Int) (δ:T) (κ:Bool->T):T:=br (xaM a b) (br (xaM c d) (br (decide (a<d)) (κ (decide (c<b))) (κ (false))) (κ (false))) (κ (false))
def xhK:EO:=xov.fT Tryz.func46 25 0 [] [] lk0 (fun ((a,b,_),(c,d,_),_)=>xhF a b c d none) (u2 (xqS (u2 uI uI)) (xqS (u2 uI uI))) (fun ((a,b,_),(c,d,_),_)=>xbS a b c d) (fun _ p=>(AV.bool p))
def xaa (l:LA) (i:Int):=(l.getD (i64.wrap (i - 1)).toNat .top).cells
def xbL (l:LA) (i:Int):=decide (i.toNat<l.length)&&((l.getD i.toNat .top).cells.length==9&&xpZ [Sh.int .i64,Sh.int .i64,Sh.list 3,Sh.int .i64,Sh.int .i64,Sh.int .i64,Sh.int .i64,Sh.int .i64,Sh.int .i64] (l.getD i.toNat .top).cells 0)
def xbq {T:Type} (l:LA) (i:Int) (δ:T) (κl:(Int)->T) (κr:(Bool×(Int)×(Unit))->T):T:=br (decide (i<l.length)) (br (ixI l i) (br (xbL l i) (br (xcY (gC l i 0).toInt (gC l i 1).toInt (gC l i 2).toList (gC l i 3).toInt (gC l i 4).toInt (gC l i 5).toInt (gC l i 6).toInt (gC l i 7).toInt (gC l i 8).toInt) (κr (true,(8),())) (br (i==0) (κl (i64.wrap (i+1))) (br (decide (0<=i64.wrap (i - 1))&&decide (i64.wrap (i - 1)<(↑l.length:Int))) (br (decide ((i64.wrap (i - 1)).toNat<l.length)&&((xaa l i).length==9&&xpZ [Sh.int .i64,Sh.int .i64,Sh.list 3,Sh.int .i64,Sh.int .i64,Sh.int .i64,Sh.int .i64,Sh.int .i64,Sh.int .i64] (xaa l i) 0)) (br (ixI l i) (br (xbL l i) (br (!xfc ((xaa l i).getD 0 .top).toInt ((xaa l i).getD 1 .top).toInt ((xaa l i).getD 2 .top).toList ((xaa l i).getD 3 .top).toInt ((xaa l i).getD 4 .top).toInt ((xaa l i).getD 5 .top).toInt ((xaa l i).getD 6 .top).toInt ((xaa l i).getD 7 .top).toInt ((xaa l i).getD 8 .top).toInt (gC l i 0).toInt (gC l i 1).toInt (gC l i 2).toList (gC l i 3).toInt (gC l i 4).toInt (gC l i 5).toInt (gC l i 6).toInt (gC l i 7).toInt (gC l i 8).toInt) (κr (true,(9),())) (br (decide (((xaa l i).getD 7 .top).toInt>(gC l i 7).toInt)) (κr (true,(24),())) (br (((xaa l i).getD 0 .top).toInt==(gC l i 0).toInt) (br (((xaa l i).getD 1 .top).toInt != (gC l i 1).toInt) (κr (true,(24),())) (br (((xaa l i).getD 7 .top).toInt != (gC l i 7).toInt) (κr (true,(24),())) (br (((xaa l i).getD 8 .top).toInt != (gC l i 8).toInt) (κr (true,(24),())) (br ((xbv ((xaa l i).getD 2 .top).toList (gC l i 2).toList).isSome) (br ((xbv ((xaa l i).getD 2 .top).toList (gC l i 2).toList).getD 0 != 0) (κr (true,(24),())) (κl (i64.wrap (i+1)))) δ)))) (κl (i64.wrap (i+1)))))) δ) δ) δ) δ))) δ) δ) (κr (false,0,()))
def xan (l:LA):StT (Int) (Bool×(Int)×(Unit)):=fun (i)=>xbq l i none inL inR
def xbK:=xhK.l 123 0 [] [] Tryz.f15 0 lk0 [0,3] [0,2] [] (q2 (qL 9) qI) xqE (fun (l,i,_) _=>(xan l,(i),fun p=>(.node p.1 (.leaf .ret [AV.list 9 l,AV.int .i64 p.2.1] []) (.leaf (.exit 0) [AV.list 9 l,.top] [])))) (false,0,()) fun (l,_,_) _ (i)=>(((l,i,()),()),xbq l i none)
def xbN (l:LA) (i:Int):=ixI l i
def xbO (l:LA) (k:Int):=ixI l k
def xca {T:Type} (l:LA) (i k:Int) (δ:T) (κl:(Int)->T) (κr:(Bool×(Int)×(Unit))->T):T:=br (decide (k<i)) (br (xbN l i) (br (ixS l i (Sh.int .i64) 0) (br (xbO l k) (br (ixS l k (Sh.int .i64) 0) (br ((gC l i 0).toInt==(gC l k 0).toInt) (br (xbN l i) (br (ixT l i 9 [Sh.int .i64,Sh.int .i64] 3) (br (xbO l k) (br (ixT l k 9 [Sh.int .i64,Sh.int .i64] 3) (br (xbS (gC l i 3).toInt (gC l i 4).toInt (gC l k 3).toInt (gC l k 4).toInt) (br (xbN l i) (br (ixT l i 9 [Sh.int .i64,Sh.int .i64] 5) (br (xbO l k) (br (ixT l k 9 [Sh.int .i64,Sh.int .i64] 5) (br (xbS (gC l i 5).toInt (gC l i 6).toInt (gC l k 5).toInt (gC l k 6).toInt) (κr (true,(24),())) (κl (i64.wrap (k+1)))) δ) δ) δ) δ) (κl (i64.wrap (k+1)))) δ) δ) δ) δ) (κl (i64.wrap (k+1)))) δ) δ) δ) δ) (κr (false,0,()))
def xav (l:LA) (i:Int):StT (Int) (Bool×(Int)×(Unit)):=fun (k)=>xca l i k none inL inR
def xbM:=xhK.l 123 0 [] [(2,xbK.lp)] Tryz.f15 2 lk0 [0,6,7] [0,2,6] [] (q3 (qL 9) qI qI) xqE (fun (l,i,k,_) _=>(xav l i,(k),fun p=>(.node p.1 (.leaf .ret [AV.list 9 l,AV.int .i64 p.2.1,AV.int .i64 i] []) (.leaf (.exit 4) [AV.list 9 l,.top,AV.int .i64 i] [])))) (false,0,()) fun (l,i,_,_) _ (k)=>(((l,i,k,()),()),xca l i k none)
def xb9 {T:Type} (l:LA) (i:Int) (δ:T) (κl:(Int)->T) (κr:(Bool×(Int)×(Unit))->T):T:=br (decide (i<l.length)) (br ((Iter (xav l i) 0).isSome) (br (((Iter (xav l i) 0).getD (false,0,())).fst) (κr (true,(((Iter (xav l i) 0).getD (false,0,())).snd.fst),())) (κl (i64.wrap (i+1)))) δ) (κr (false,0,()))
def xau (l:LA):StT (Int) (Bool×(Int)×(Unit)):=fun (i)=>xb9 l i none inL inR
def xej:=xhK.l 123 0 [] [(2,xbK.lp),(16,xbM.lp)] Tryz.f15 1 (lk1 xbM.ok) [0,6] [2] [] (q2 (qL 9) qI) xqE (fun (l,i,_) _=>(xau l,(i),fun p=>(.node p.1 (.leaf .ret [AV.int .i64 p.2.1] []) (.leaf (.exit 2) [.top] [])))) (false,0,()) fun (l,_,_) _ (i)=>(((l,i,()),()),xb9 l i none)
def xd9 {T:Type} (l:LA) (δ:T) (κ:Int->T):T:=br ((Iter (xan l) 0).isSome) (br (((Iter (xan l) 0).getD (false,0,())).fst) (κ (((Iter (xan l) 0).getD (false,0,())).snd.fst)) (br ((Iter (xau l) 0).isSome) (br (((Iter (xau l) 0).getD (false,0,())).fst) (κ (((Iter (xau l) 0).getD (false,0,())).snd.fst)) (κ (0))) δ)) δ
def xdP (l:LA):=xd9 l none some
def xjw:EO:=xhK.f Tryz.func15 123 0 [] [(2,xbK.lp),(16,xbM.lp),(13,xej.lp)] (lks (lkC xbK.ok (lkC xej.ok (lkC xbM.ok lkN)))) (u1 (uL 9)) (fun (l,_) _=>xd9 l) (fun _ p=>AV.int .i64 p) 0
def xbQ {T:Type} (l:LA) (i k:Int) (δ:T) (κl:(Int)->T) (κr:(Bool×(Bool)×(Unit))->T):T:=br (decide (k<i)) (br (ixI l i) (br (ixS l i (Sh.int .i64) 0) (br (ixI l k) (br (ixS l k (Sh.int .i64) 0) (br ((gC l i 0).toInt==(gC l k 0).toInt) (κr (true,(false),())) (κl (i64.wrap (k+1)))) δ) δ) δ) δ) (κr (false,false,()))
def xas (l:LA) (i:Int):StT (Int) (Bool×(Bool)×(Unit)):=fun (k)=>xbQ l i k none inL inR
def xbD:=xjw.l 27 0 [] [] Tryz.f25 1 lk0 [0,3,4] [0,2,3] [] (q3 (qL 9) qI qI) xqE (fun (l,i,k,_) _=>(xas l i,(k),fun p=>(.node p.1 (.leaf .ret [AV.list 9 l,AV.bool p.2.1,AV.int .i64 i] []) (.leaf (.exit 2) [AV.list 9 l,.top,AV.int .i64 i] [])))) (false,false,()) fun (l,i,_,_) _ (k)=>(((l,i,k,()),()),xbQ l i k none)
def xbP {T:Type} (l:LA) (i:Int) (δ:T) (κl:(Int)->T) (κr:(Bool×(Bool)×(Unit))->T):T:=br (decide (i<l.length)) (br ((Iter (xas l i) 0).isSome) (br (((Iter (xas l i) 0).getD (false,false,())).fst) (κr (true,(((Iter (xas l i) 0).getD (false,false,())).snd.fst),())) (κl (i64.wrap (i+1)))) δ) (κr (false,false,()))
def xaB (l:LA):StT (Int) (Bool×(Bool)×(Unit)):=fun (i)=>xbP l i none inL inR
def xdY:=xjw.l 27 0 [] [(5,xbD.lp)] Tryz.f25 0 (lk1 xbD.ok) [0,3] [2] [] (q2 (qL 9) qI) xqE (fun (l,i,_) _=>(xaB l,(i),fun p=>(.node p.1 (.leaf .ret [AV.bool p.2.1] []) (.leaf (.exit 0) [.top] [])))) (false,false,()) fun (l,_,_) _ (i)=>(((l,i,()),()),xbP l i none)
def xdG {T:Type} (l:LA) (δ:T) (κ:Bool->T):T:=br ((Iter (xaB l) 0).isSome) (br (((Iter (xaB l) 0).getD (false,false,())).fst) (κ (((Iter (xaB l) 0).getD (false,false,())).snd.fst)) (κ (true))) δ
def xdt (l:LA):=xdG l none some
def xkI:EO:=xjw.f Tryz.func25 27 0 [] [(5,xbD.lp),(2,xdY.lp)] (lks (lkC xdY.ok (lkC xbD.ok lkN))) (u1 (uL 9)) (fun (l,_) _=>xdG l) (fun _ p=>AV.bool p) false
def xch {T:Type} (l:LA) (c:Int) (b:Nat) (i:Int) (a:LA) (δ:T) (κl:(Nat×Int×LA)->T) (κr:(Nat×LA)->T):T:=br (decide (i<l.length)) (br (ixI l i) (br (ixT l i 9 [Sh.int .i64,Sh.int .i64,Sh.list 3,Sh.int .i64,Sh.int .i64,Sh.int .i64,Sh.int .i64,Sh.int .i64,Sh.int .i64] 0) (br (decide ((gC l i 7).toInt>=c)) (κl (b,i64.wrap (i+1),a)) (br (decide ((gC l i 8).toInt>=c)) (br (rmB b a 1 88) (κl (b+1,i64.wrap (i+1),a++[AV.agg [AV.int .i64 (gC l i 0).toInt,AV.int .i64 (gC l i 1).toInt,AV.list 3 (gC l i 2).toList,AV.int .i64 (gC l i 3).toInt,AV.int .i64 (gC l i 4).toInt,AV.int .i64 (gC l i 5).toInt,AV.int .i64 1099511627776,AV.int .i64 (gC l i 7).toInt,AV.int .i64 0]])) δ) (br (rmB b a 1 88) (κl (b+1,i64.wrap (i+1),a++[AV.agg [AV.int .i64 (gC l i 0).toInt,AV.int .i64 (gC l i 1).toInt,AV.list 3 (gC l i 2).toList,AV.int .i64 (gC l i 3).toInt,AV.int .i64 (gC l i 4).toInt,AV.int .i64 (gC l i 5).toInt,AV.int .i64 (gC l i 6).toInt,AV.int .i64 (gC l i 7).toInt,AV.int .i64 (gC l i 8).toInt]])) δ))) δ) δ) (κr (b,a))
def xaU (l:LA) (c:Int):StT (Nat×Int×LA) (Nat×LA):=fun (b,i,a)=>xch l c b i a none inL inR
def xeO:=xkI.l 34 0 [] [] Tryz.f27 0 lk0 [0,1,5,6] [5] [(5,9,58)] (q4 (qL 9) qI (xqO 0 0 0) qI) (q1 (qB 0 9 58 xqG)) (fun (l,c,b,i,_) (a,_)=>(xaU l c,(b,i,a),fun p=>(.leaf (.exit 0) [AV.osl 0 0 0 p.1] [bF 0 9 58 p.2]))) (0,[]) fun (l,c,_,_,_) _ (b,i,a)=>(((l,c,b,i,()),(a,())),xch l c b i a none)
def xec (l:LA) (a:Int):=(Iter (xaU l a) (0,0,[])).getD (0,[])
def xea (l:LA) (a:Int):=(xec l a).snd
def xeb (l:LA) (a:Int):=(xec l a).fst
def xeP {T:Type} (l:LA) (a:Int) (δ:T) (κ:LA->T):T:=br ((Iter (xaU l a) (0,0,[])).isSome) (br (decide (0+xeb l a<=(xea l a).length)&&true) (κ (List.take (xeb l a) (List.drop 0 (xea l a)))) δ) δ
def xdu (l:LA) (a:Int):=xeP l a none some
def xnA:EO:=xkI.f Tryz.func27 34 0 [] [(3,xeO.lp)] (lk1 xeO.ok) (u2 (uL 9) uI) (fun (l,a,_) _=>xeP l a) (fun _ p=>AV.list 9 p) []
def xa8 (c d:Int) (g:LA) (h i b a e f:Int):Bool:=(br (xeL b a) ((a==1099511627776)) ((false)))
def xjK {T:Type} (c d:Int) (g:LA) (h i b a e f:Int) (δ:T) (κ:Bool->T):T:=br (xeL b a) (κ (a==1099511627776)) (κ (false))
def xo0:EO:=xnA.fT Tryz.func57 12 0 [] [] lk0 (fun ((a,b,g,h,i,c,d,e,f,_),_)=>xjK a b g h i c d e f none) (u1 (xqS (xqD uI (xqD uI (u7 (uL 3) uI uI uI uI uI uI))))) (fun ((a,b,g,h,i,c,d,e,f,_),_)=>xa8 a b g h i c d e f) (fun _ p=>(AV.bool p))
def xjL (l:LA):LA:=((l))
def xiz {T:Type} (l:LA) (δ:T) (κ:LA->T):T:=κ (l)
def xcC:EO:=xo0.fT Tryz.func37 4 0 [] [] lk0 (fun (l,_)=>xiz l none) (u1 (uL 9)) (fun (l,_)=>xjL l) (fun _ p=>(AV.func 67 [AV.eptr 1 [AV.list 9 p] 0 0]))
end Go.Sim.M
