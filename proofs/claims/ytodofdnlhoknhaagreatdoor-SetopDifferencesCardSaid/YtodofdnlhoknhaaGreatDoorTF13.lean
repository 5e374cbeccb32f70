/- Part 13 of the proof of the law. -/
import Derived.Test.YtodofdnlhoknhaaGreatDoorTF12
import Derived.StillTailTactics
set_option linter.defProp false
set_option linter.unusedVariables false
set_option linter.unusedSimpArgs false
set_option maxRecDepth 100000
noncomputable section
namespace Go.Sim.M
def cmpI(x y:Int):Int:=if x<y then -1 else if y<x then 1 else 0
def orI(x y:Int):Int:=if x=0 then y else x
end Go.Sim.M
namespace Go.Proofs
open Go.RowKit Go.Sim Go.Sim.M Go.Sort Go.Lib
def Tryz.cmp_walk(x y:Int)(w:World):Calls Tryz.prog 110 #[.int .i64 x,.int .i64 y] w λ e w'=>e=.returned (.int .i64 (cmpI x y))/\w'=w:=by unfold cmpI;go_enter Tryz.func110,Tryz.ntmps110;go_wp2;all_goals (go_ret;exact⟨rfl,rfl⟩)
def Tryz.or_walk(x y:Int)(b off c:Nat)(w:World)(h0:w.cell? ⟨b,off,none⟩=some (.int .i64 x))(h1:w.cell? ⟨b,off+1,none⟩=some (.int .i64 y)):Calls Tryz.prog 109 #[.slice (some ⟨b,off,none⟩) 2 c] w λ e w'=>e=.returned (.int .i64 (orI x y))/\w'=w:=by
 unfold orI;by_cases hx:x=0
 . subst hx;rw[if_pos rfl];by_cases hy:y=0
   . subst hy
     go_enter Tryz.func109,Tryz.ntmps109
     go_wp2
     refine wp_loop_rounds 3 ?_;rw[rounds_succ]
     go_wp2
     rw[rounds_succ]
     go_wp2
     rw[rounds_succ]
     go_wp2
     go_ret
     exact⟨rfl,rfl⟩
   . have hy':(y !=0)=true:=by simpa using hy
     go_enter Tryz.func109,Tryz.ntmps109
     go_wp2
     refine wp_loop_rounds 3 ?_;rw[rounds_succ]
     go_wp2
     rw[rounds_succ]
     go_wp2
     go_ret
     exact⟨rfl,rfl⟩
 . have hx':(x !=0)=true:=by simpa using hx
   rw[if_neg hx]
   go_enter Tryz.func109,Tryz.ntmps109
   go_wp2
   refine wp_loop_rounds 3 ?_;rw[rounds_succ]
   go_wp2
   go_ret
   exact⟨rfl,rfl⟩
def fill2I(u1 u2:Int):Instr.fill (λ i=>some (i*1,1)) ((Array.range (2*1)).map (λ x=>(Value.int .i64 0).cells[x % (Value.int .i64 0).cells.size]!)) [(0,.int .i64 u1),(1,.int .i64 u2)]=some #[.int .i64 u1,.int .i64 u2]:=by simp[Instr.fill,Array.range,Value.cells];apply Array.ext;simp;intro i h1 h2;rcases i with _|_|i;simp;simp;simp at h2;omega
set_option maxHeartbeats 2000000 in
def Tryz.levels2_walk(a b c d:Int)(w:World):Calls Tryz.prog 108 #[.agg #[.int .i64 a,.int .i64 b],.agg #[.int .i64 c,.int .i64 d]] w λ e w'=>e=.returned (.int .i64 (orI (cmpI a c) (cmpI b d)))/\∃q J,w'=Sort.grow (w.drewN q) J:=by
 go_enter Tryz.func108,Tryz.ntmps108;go_wp2_with (go_at_call 110;skip);have g0:(w.alloc (.cells #[.int .i64 a,.int .i64 b] 52)).heap[w.heap.size]?=some (.cells #[.int .i64 a,.int .i64 b] 52 (0,0)):=heap_alloc_new w _;have g1:((w.alloc (.cells #[.int .i64 a,.int .i64 b] 52)).alloc (.cells #[.int .i64 c,.int .i64 d] 52)).heap[w.heap.size+1]?=some (.cells #[.int .i64 c,.int .i64 d] 52 (0,0)):=by(have:=heap_alloc_new (w.alloc (.cells #[.int .i64 a,.int .i64 b] 52)) (.cells #[.int .i64 c,.int .i64 d] 52);have e:(w.alloc (.cells #[.int .i64 a,.int .i64 b] 52)).heap.size=w.heap.size+1:=by simp);rwa [e]at this
 have f0:((w.alloc (.cells #[.int .i64 a,.int .i64 b] 52)).alloc (.cells #[.int .i64 c,.int .i64 d] 52)).cell? ⟨w.heap.size,0,none⟩=some (.int .i64 a):=by rw[World.cell?_alloc_past _ _ _ (by simp)];simp only[World.cell?,g0];rfl
 have f1:((w.alloc (.cells #[.int .i64 a,.int .i64 b] 52)).alloc (.cells #[.int .i64 c,.int .i64 d] 52)).cell? ⟨w.heap.size,1,none⟩=some (.int .i64 b):=by rw[World.cell?_alloc_past _ _ _ (by simp)];simp only[World.cell?,g0];rfl
 have f2:((w.alloc (.cells #[.int .i64 a,.int .i64 b] 52)).alloc (.cells #[.int .i64 c,.int .i64 d] 52)).cell? ⟨w.heap.size+1,0,none⟩=some (.int .i64 c):=by simp only[World.cell?,g1];rfl
 have f3:((w.alloc (.cells #[.int .i64 a,.int .i64 b] 52)).alloc (.cells #[.int .i64 c,.int .i64 d] 52)).cell? ⟨w.heap.size+1,1,none⟩=some (.int .i64 d):=by simp only[World.cell?,g1];rfl
 have f4:∃q J,((w.alloc (.cells #[.int .i64 a,.int .i64 b] 52)).alloc (.cells #[.int .i64 c,.int .i64 d] 52))=Sort.grow (w.drewN q) J:=⟨0,_,by rw[alloc_eq_grow,alloc_eq_grow,grow_grow];rfl⟩;generalize ((w.alloc (.cells #[.int .i64 a,.int .i64 b] 52)).alloc (.cells #[.int .i64 c,.int .i64 d] 52))=W2 at f0 f1 f2 f3 f4|-;refine wp_region_still_tail 10 (by kernel_rfl) (by kernel_rfl) ?_;simp only[List.take_succ_cons,List.take_zero,List.drop_succ_cons,List.drop_zero];change wpStill _ _ (World.drew W2) _ _ _;have f0':W2.drew.cell? ⟨w.heap.size,0,none⟩=some (.int .i64 a):=f0;have f1':W2.drew.cell? ⟨w.heap.size,1,none⟩=some (.int .i64 b):=f1;have f2':W2.drew.cell? ⟨w.heap.size+1,0,none⟩=some (.int .i64 c):=f2;have f3':W2.drew.cell? ⟨w.heap.size+1,1,none⟩=some (.int .i64 d):=f3;have f4':∃q J,W2.drew=Sort.grow (w.drewN q) J:=by obtain⟨q,J,e⟩:=f4;exact⟨q+1,J,by rw[e];rfl⟩
 iterate 4 still_step
 still_call (Tryz.cmp_walk _ _ _);iterate 4 still_step
 still_call (Tryz.cmp_walk _ _ _);refine wpStill_nil ?_;change wpList _ _ _ _ _ (World.drew W2);generalize World.drew W2=W at f0' f1' f2' f3' f4'|-;generalize O:cmpI a c=u1;generalize Q:cmpI b d=u2;obtain⟨ie,q1,q2,q3⟩:∃ie,Tryz.prog.info? 3=some ie/\ie.zero=some (.int .i64 0)/\ie.size=1:=⟨(Tryz.prog.info? 3).get (by kernel_rfl),(Option.some_get _).symm,by kernel_rfl,by kernel_rfl⟩;refine wpList_buildSlice rfl 22 3 2 _ rfl #[.int .i64 u1,.int .i64 u2] ie (.int .i64 0) (by kernel_rfl) q1 q2 (by rw[q3];decide) (by rw[q3];decide) (by rw[q3];refine Eq.trans (congrArg _ ?_) (fill2I u1 u2);simp[Act.eval]) ?_;simp only[Act.put];go_wp2_with fail;have g2:(W.alloc (.cells #[.int .i64 u1,.int .i64 u2] 3)).heap[W.heap.size]?=some (.cells #[.int .i64 u1,.int .i64 u2] 3 (0,0)):=heap_alloc_new W _;refine(Tryz.or_walk u1 u2 W.heap.size 0 2 (W.alloc (.cells #[.int .i64 u1,.int .i64 u2] 3)) (by simp only[World.cell?,g2];rfl) (by simp only[World.cell?,g2];rfl)).mono ?_;rintro e w' ⟨rfl,rfl⟩;go_wp2;go_ret;obtain⟨q,J,hq⟩:=f4';exact⟨by rw[O,Q];rfl,q,_,by rw[hq,alloc_eq_grow,grow_grow]⟩
end Go.Proofs
namespace Go.Sim.M
abbrev TyE:Type:=Fin 1099511627777×Int×Int
def intsE(x:TyE):List Int:=[(x.1.val:Int),x.2.1,x.2.2]
def cmpE(x y:TyE):Int:=(x.1.val:Int) - (y.1.val:Int)
end Go.Sim.M
namespace Go.Proofs
open Go.RowKit Go.Sim Go.Sim.M Go.Sort
set_option maxHeartbeats 1000000 in
def Tryz.walkE(a b c a' b' c' r:Int)(hr:IntKind.i64.wrap (a - a')=r)(W:World):Calls Tryz.prog 147 #[.agg #[.int .i64 a,.int .i64 b,.int .i64 c],.agg #[.int .i64 a',.int .i64 b',.int .i64 c']] W λ e w'=>e=.returned (.int .i64 r)/\∃q os',w'=Sort.grow (W.drewN q) os':=by go_enter Tryz.func147,Tryz.ntmps147;go_wp2;go_ret;subst hr;exact⟨rfl,0,_,by rw[alloc_eq_grow,alloc_eq_grow,grow_grow];rfl⟩
end Go.Proofs
namespace Go.Sim.M
open Go.RowKit Go.Proofs Go.Sort
def isE:AV->Bool|.agg [.int .i64 a,.int .i64 _,.int .i64 _]=>decide (0<=a)&&decide (a<=1099511627776)|_=>false
def decE:AV->TyE|.agg [.int _ a,.int _ b,.int _ c]=>(Fin.ofNat 1099511627777 a.toNat,b,c)|_=>default
noncomputable def srtE(xs:List AV):List AV:=(pdqL cmpE (xs.map decE)).map (encI intsE)
def xGr{x:AV}(h:isE x):encI intsE (decE x)=x:=by unfold isE at h;split at h;rename_i a b c;simp only[Bool.and_eq_true,decide_eq_true_eq]at h;have:a.toNat % 1099511627777=a.toNat:=Nat.mod_eq_of_lt Ω;simp only[decE,encI,intsE,List.map_cons,List.map_nil,Fin.ofNat,this,Int.toNat_of_nonneg h.1];simp at h
def xET{xs:List AV}(h:xs.all isE):(xs.map decE).map (encI intsE)=xs:=by rw[List.map_map];(conv=>rhs;rw[<-List.map_id xs]);refine List.map_congr_left λ x hx=>?_;exact xGr (List.all_eq_true.1 h x hx)
def ltE(x y:TyE):ltOf cmpE x y=decide (x.1.val<y.1.val):=by unfold ltOf cmpE;by_cases h:x.1.val<y.1.val;rw[decide_eq_true h,decide_eq_true Ω];rw[decide_eq_false h,decide_eq_false Ω]
def swoE:SWO (ltOf cmpE) where
 irrefl x:=by rw[ltE];simp
 trans x y z h1 h2:=by rw[ltE]at *;simp at *;omega
 ntrans x y z h1 h2:=by rw[ltE]at *;simp at *;omega
noncomputable def xyq:List AV->List Box->Option (Bool×AV×List Box)|[.osl (.b 0) ver 0 n,.func g []],[⟨ver',3,ty,xs,false,true⟩]=>(match Nat.beq g 147&&Nat.beq ty 154 with|true=>some (Nat.beq ver ver'&&(Nat.beq n xs.length&&(decide (n<4611686018427387904)&&xs.all isE)),.tuple [],[⟨ver',3,154,srtE xs,false,true⟩])|false=>none)|_,_=>none
def xIH:OmOk Tryz.prog xNJ 146 xyq:=λ Q H r H' h=>by
 unfold xyq at h;split at h;rename_i ver n g O ty xs;split at h;case h_2=>simp at h
 rename_i hg;simp only[Bool.and_eq_true]at hg;obtain rfl:=Nat.eq_of_beq_eq_true hg.1;obtain rfl:=Nat.eq_of_beq_eq_true hg.2;simp only[Option.some.injEq,Prod.mk.injEq,Bool.and_eq_true,decide_eq_true_eq]at h;obtain⟨⟨h1,h2,h3,h4⟩,rfl,rfl⟩:=h;obtain rfl:=Nat.eq_of_beq_eq_true h1;obtain rfl:=Nat.eq_of_beq_eq_true h2;have q:∃ti,xM0 Tryz.prog 154=some ti/\ti.sz=3/\ti.agg=true:=by(have h:(match xM0 Tryz.prog 154 with|some ti=>(ti.sz==3)&&ti.agg|none=>false)=true:=by kernel_rfl);split at h;rename_i ti q;simp only[Bool.and_eq_true,beq_iff_eq]at h;exact⟨ti,q,h.1,h.2⟩;simp at h
 obtain⟨ti,q,hz,ha⟩:=q;have J:=xp0 (P:=Tryz.prog) (Inv:=xNJ) Tryz.srl146 3 (by decide) (λ w=>by rw[<-ha];exact xl0 q w) (λ w=>by rw[<-hz];exact xek q w)
  intsE (λ _=>rfl) cmpE swoE 147 rfl (xeH Tryz.func146 rfl (by kernel_rfl)) (xnE (xeH Tryz.func147 rfl (by kernel_rfl)))
  (fun x y W=>Tryz.walkE _ _ _ _ _ _ (cmpE x y) (by
   have:=x.1.isLt;have:=y.1.isLt;unfold cmpE;exact xaO (by omega) (by omega)) W)
  ver 154 rfl (xs.map decE) (by simpa using h3)
 rw[List.length_map,xET h4]at J;exact J;simp at h
end Go.Sim.M
namespace Go.Sim.M
abbrev TyS:Type:=Fin 1099511627777×Int
def intsS(x:TyS):List Int:=[(x.1.val:Int),x.2]
def cmpS(x y:TyS):Int:=(x.1.val:Int) - (y.1.val:Int)
end Go.Sim.M
namespace Go.Proofs
open Go.RowKit Go.Sim Go.Sim.M Go.Sort
set_option maxHeartbeats 1000000 in
def Tryz.walkS(a b a' b' r:Int)(hr:IntKind.i64.wrap (a - a')=r)(W:World):Calls Tryz.prog 113 #[.agg #[.int .i64 a,.int .i64 b],.agg #[.int .i64 a',.int .i64 b']] W λ e w'=>e=.returned (.int .i64 r)/\∃q os',w'=Sort.grow (W.drewN q) os':=by go_enter Tryz.func113,Tryz.ntmps113;go_wp2;go_ret;subst hr;exact⟨rfl,0,_,by rw[alloc_eq_grow,alloc_eq_grow,grow_grow];rfl⟩
end Go.Proofs
namespace Go.Sim.M
open Go.RowKit Go.Proofs Go.Sort
def isS:AV->Bool|.agg [.int .i64 a,.int .i64 _]=>decide (0<=a)&&decide (a<=1099511627776)|_=>false
def decS:AV->TyS|.agg [.int _ a,.int _ b]=>(Fin.ofNat 1099511627777 a.toNat,b)|_=>default
noncomputable def srtS(xs:List AV):List AV:=(pdqL cmpS (xs.map decS)).map (encI intsS)
def xGt{x:AV}(h:isS x):encI intsS (decS x)=x:=by unfold isS at h;split at h;rename_i a b;simp only[Bool.and_eq_true,decide_eq_true_eq]at h;have:a.toNat % 1099511627777=a.toNat:=Nat.mod_eq_of_lt Ω;simp only[decS,encI,intsS,List.map_cons,List.map_nil,Fin.ofNat,this,Int.toNat_of_nonneg h.1];simp at h
def xEV{xs:List AV}(h:xs.all isS):(xs.map decS).map (encI intsS)=xs:=by rw[List.map_map];(conv=>rhs;rw[<-List.map_id xs]);refine List.map_congr_left λ x hx=>?_;exact xGt (List.all_eq_true.1 h x hx)
def ltS(x y:TyS):ltOf cmpS x y=decide (x.1.val<y.1.val):=by unfold ltOf cmpS;by_cases h:x.1.val<y.1.val;rw[decide_eq_true h,decide_eq_true Ω];rw[decide_eq_false h,decide_eq_false Ω]
def swoS:SWO (ltOf cmpS) where
 irrefl x:=by rw[ltS];simp
 trans x y z h1 h2:=by rw[ltS]at *;simp at *;omega
 ntrans x y z h1 h2:=by rw[ltS]at *;simp at *;omega
noncomputable def xys:List AV->List Box->Option (Bool×AV×List Box)|[.osl (.b 0) ver 0 n,.func g []],[⟨ver',2,ty,xs,false,true⟩]=>(match Nat.beq g 113&&Nat.beq ty 132 with|true=>some (Nat.beq ver ver'&&(Nat.beq n xs.length&&(decide (n<4611686018427387904)&&xs.all isS)),.tuple [],[⟨ver',2,132,srtS xs,false,true⟩])|false=>none)|_,_=>none
def xIJ:OmOk Tryz.prog xNJ 112 xys:=λ Q H r H' h=>by
 unfold xys at h;split at h;rename_i ver n g O ty xs;split at h;case h_2=>simp at h
 rename_i hg;simp only[Bool.and_eq_true]at hg;obtain rfl:=Nat.eq_of_beq_eq_true hg.1;obtain rfl:=Nat.eq_of_beq_eq_true hg.2;simp only[Option.some.injEq,Prod.mk.injEq,Bool.and_eq_true,decide_eq_true_eq]at h;obtain⟨⟨h1,h2,h3,h4⟩,rfl,rfl⟩:=h;obtain rfl:=Nat.eq_of_beq_eq_true h1;obtain rfl:=Nat.eq_of_beq_eq_true h2;have q:∃ti,xM0 Tryz.prog 132=some ti/\ti.sz=2/\ti.agg=true:=by(have h:(match xM0 Tryz.prog 132 with|some ti=>(ti.sz==2)&&ti.agg|none=>false)=true:=by kernel_rfl);split at h;rename_i ti q;simp only[Bool.and_eq_true,beq_iff_eq]at h;exact⟨ti,q,h.1,h.2⟩;simp at h
 obtain⟨ti,q,hz,ha⟩:=q;have J:=xp0 (P:=Tryz.prog) (Inv:=xNJ) Tryz.srl112 2 (by decide) (λ w=>by rw[<-ha];exact xl0 q w) (λ w=>by rw[<-hz];exact xek q w)
  intsS (λ _=>rfl) cmpS swoS 113 rfl (xeH Tryz.func112 rfl (by kernel_rfl)) (xnE (xeH Tryz.func113 rfl (by kernel_rfl)))
  (fun x y W=>Tryz.walkS _ _ _ _ (cmpS x y) (by
   have:=x.1.isLt;have:=y.1.isLt;unfold cmpS;exact xaO (by omega) (by omega)) W)
  ver 132 rfl (xs.map decS) (by simpa using h3)
 rw[List.length_map,xEV h4]at J;exact J;simp at h
end Go.Sim.M
namespace Go.Sim.M
abbrev TyP:Type:=Int×Int
def intsP(x:TyP):List Int:=[x.1,x.2]
def cmpP(x y:TyP):Int:=orI (cmpI x.1 y.1) (cmpI x.2 y.2)
open Go.RowKit Go.Proofs Go.Sort
def isP:AV->Bool|.agg [.int .i64 _,.int .i64 _]=>true|_=>false
def decP:AV->TyP|.agg [.int _ a,.int _ b]=>(a,b)|_=>default
noncomputable def srtP(xs:List AV):List AV:=(pdqL cmpP (xs.map decP)).map (encI intsP)
def xGs{x:AV}(h:isP x):encI intsP (decP x)=x:=by unfold isP at h;split at h;rfl;simp at h
def xEU{xs:List AV}(h:xs.all isP):(xs.map decP).map (encI intsP)=xs:=by rw[List.map_map];(conv=>rhs;rw[<-List.map_id xs]);refine List.map_congr_left λ x hx=>?_;exact xGs (List.all_eq_true.1 h x hx)
def ltP(x y:TyP):ltOf cmpP x y=decide (x.1<y.1\/x.1=y.1/\x.2<y.2):=by unfold ltOf cmpP orI cmpI;by_cases h:x.1<y.1\/x.1=y.1/\x.2<y.2;rw[decide_eq_true h];simp only[decide_eq_true_eq];rcases h with h|⟨h,h'⟩;simp[h];simp[h,h'];rw[decide_eq_false h];simp only[decide_eq_false_iff_not];have h1:¬ x.1<y.1:=λ e=>h (.inl e);by_cases h2:y.1<x.1;simp[h1,h2];(have h3:x.1=y.1:=Ω);have h4:¬ x.2<y.2:=λ e=>h (.inr ⟨h3,e⟩);by_cases h5:y.2<x.2;simp[h1,h2,h4,h5];simp[h1,h2,h4,h5]
def swoP:SWO (ltOf cmpP) where
 irrefl x:=by rw[ltP];simp
 trans x y z h1 h2:=by rw[ltP]at *;simp only[decide_eq_true_eq]at *;omega
 ntrans x y z h1 h2:=by rw[ltP]at *;simp only[decide_eq_true_eq,decide_eq_false_iff_not]at *;omega
noncomputable def xyr:List AV->List Box->Option (Bool×AV×List Box)|[.osl (.b 0) ver 0 n,.func g []],[⟨ver',2,ty,xs,false,true⟩]=>(match Nat.beq g 108&&Nat.beq ty 52 with|true=>some (Nat.beq ver ver'&&(Nat.beq n xs.length&&(decide (n<4611686018427387904)&&xs.all isP)),.tuple [],[⟨ver',2,52,srtP xs,false,true⟩])|false=>none)|_,_=>none
def xII:OmOk Tryz.prog xNJ 107 xyr:=λ Q H r H' h=>by
 unfold xyr at h;split at h;rename_i ver n g O ty xs;split at h;case h_2=>simp at h
 rename_i hg;simp only[Bool.and_eq_true]at hg;obtain rfl:=Nat.eq_of_beq_eq_true hg.1;obtain rfl:=Nat.eq_of_beq_eq_true hg.2;simp only[Option.some.injEq,Prod.mk.injEq,Bool.and_eq_true,decide_eq_true_eq]at h;obtain⟨⟨h1,h2,h3,h4⟩,rfl,rfl⟩:=h;obtain rfl:=Nat.eq_of_beq_eq_true h1;obtain rfl:=Nat.eq_of_beq_eq_true h2;have q:∃ti,xM0 Tryz.prog 52=some ti/\ti.sz=2/\ti.agg=true:=by(have h:(match xM0 Tryz.prog 52 with|some ti=>(ti.sz==2)&&ti.agg|none=>false)=true:=by kernel_rfl);split at h;rename_i ti q;simp only[Bool.and_eq_true,beq_iff_eq]at h;exact⟨ti,q,h.1,h.2⟩;simp at h
 obtain⟨ti,q,hz,ha⟩:=q;have J:=xp0 (P:=Tryz.prog) (Inv:=xNJ) Tryz.srl107 2 (by decide) (λ w=>by rw[<-ha];exact xl0 q w) (λ w=>by rw[<-hz];exact xek q w) intsP (λ _=>rfl) cmpP swoP 108 rfl (xeH Tryz.func107 rfl (by kernel_rfl)) (xnE (xeH Tryz.func108 rfl (by kernel_rfl))) (λ x y W=>Tryz.levels2_walk _ _ _ _ W) ver 52 rfl (xs.map decP) (by simpa using h3);rw[List.length_map,xEU h4]at J;exact J;simp at h
end Go.Sim.M
namespace Go.Sim.M
open Go.RowKit Go.Proofs
noncomputable def E1:Env:=((xHy.E.withM 112 xys).withM 146 xyq).withM 107 xyr
def xHr:xM1 Tryz.prog xNJ E1:=((xHy.ok.withM xIJ).withM xIH).withM xII
noncomputable def xKL:EO:=EO.mk E1 xHr
open Go.IntKind (i64 u64 u8)
def xjC:Env:=E1.fn 29 1 (lsOf []) (xNn [])
def xwN:xM1 P0 (xNJ.at 1) xjC:=xHr.fn
def xuh:LoOk P0 (xNJ.at xjC.pin) xjC (Tryz.f114.body.getD .skip):=xgz Θ
def xp2{T:Type}(k:Nat)(a n:Int)(b:LA)(δ:T)(κ:Bool×(Nat×LA)×(Nat×LA)->T):T:=br (rmB k b 1 16) (κ (false,(0,[]),(k+1,b++[AV.agg [AV.int .i64 a,AV.int .i64 n]]))) δ
def xr8{T:Type}(k:Nat)(b n:Int)(a:LA)(δ:T)(κ:Bool×(Nat×LA)×(Nat×LA)->T):T:=br (decide ((↑k:Int)>0)) (br (decide (0<=i64.wrap ((↑k:Int) - 1))&&decide (i64.wrap ((↑k:Int) - 1)<(↑k:Int))) (br (decide (0+(i64.wrap ((↑k:Int) - 1)).toNat<a.length)&&xMx (Sh.int .i64) ((a.getD (0+(i64.wrap ((↑k:Int) - 1)).toNat) .top).cells.getD 1 .top)) (br (((a.getD (0+(i64.wrap ((↑k:Int) - 1)).toNat) .top).cells.getD 1 .top).toInt==n) (κ (true,(k,a),(0,[]))) (xp2 k b n a δ κ)) δ) δ) (xp2 k b n a δ κ)
def xbA(k:Nat)(a n:Int)(b:LA):=xr8 k a n b none some
def xBW(k:Nat)(a n:Int)(xs:LA):Enc (λ(p:Bool×(Nat×LA)×(Nat×LA))=>((br p.1 ((AV.osl 0 0 0 p.2.1.1,([⟨0,2,132,p.2.1.2,false,true⟩]:List Box))) ((AV.osl 0 1 0 p.2.2.1,([⟨1,2,132,p.2.2.2,false,true⟩]:List Box)))):(AV×List Box))) (xbA k a n xs) (XFM P0 xjC Tryz.f114 (Tryz.f114.body.getD .skip) [AV.osl (0:Id) 0 0 k,AV.int .i64 a,AV.int .i64 n] [{ver:=0,sz:=2,ty:=(132:TypeId),xs:=xs,frz:=false,pm:=true}]):=by(have h:XFM P0 xjC Tryz.f114 (Tryz.f114.body.getD .skip) [AV.osl (0:Id) 0 0 k,AV.int .i64 a,AV.int .i64 n] [{ver:=0,sz:=2,ty:=(132:TypeId),xs:=xs,frz:=false,pm:=true}]=xr8 k a n xs none (λ(p:Bool×(Nat×LA)×(Nat×LA))=>some ((br p.1 ((AV.osl 0 0 0 p.2.1.1,([⟨0,2,132,p.2.1.2,false,true⟩]:List Box))) ((AV.osl 0 1 0 p.2.2.1,([⟨1,2,132,p.2.2.2,false,true⟩]:List Box)))):(AV×List Box))):=by kernel_rfl);rw[h];unfold xbA xr8 xp2;repeat' (first|refine Enc.br ?_ ?_|exact Enc.none|exact Enc.some rfl)
def xBV:LA->List Box->Option (Bool×AV×List Box):=omOf (xNL (sEq (xNW 0 0 0)) (xNL (sEq (pInt .i64)) (xNL (sEq (pInt .i64)) xNN))) (xNK (xNZ 0 2 (132:TypeId) false true xNO) xNM) λ(k,(a,(n,_))) (b,_)=>((xbA k a n b).isSome,(AV.osl 0 1 0 (br ((xbA k a n b).getD (false,(0,[]),(0,[]))).1 ((xbA k a n b).getD (false,(0,[]),(0,[]))).2.1.1 ((xbA k a n b).getD (false,(0,[]),(0,[]))).2.2.1),([⟨1,2,132,(br ((xbA k a n b).getD (false,(0,[]),(0,[]))).1 ((xbA k a n b).getD (false,(0,[]),(0,[]))).2.1.2 ((xbA k a n b).getD (false,(0,[]),(0,[]))).2.2.2),false,true⟩]:List Box)))
def xBU:OmOk P0 xNJ 114 (xBV):=xjb λ e f j i g=>by obtain⟨k,⟨b,⟨n,_⟩⟩⟩:=e;obtain⟨h,_⟩:=f;obtain⟨c,a⟩:=Prod.mk.inj g;have hx:=xBW _ _ _ _ _ (xcB (d:=(false,(0,[]),(0,[]))) c);revert hx a;generalize ((xbA k b n h).getD (false,(0,[]),(0,[])))=p;intro a hx;obtain⟨rfl,rfl⟩:=Prod.mk.inj a;obtain⟨t,⟨l,m⟩,o,q⟩:=p;have hg:GoodM P0 xNJ 114 _ _ _ _:=xk6 (p:=xjC.pin) (xk5 xNa (xNb P0 _) rfl xwN rfl Tryz.func114 rfl Θ xuh hx);cases t;exact hg;exact GoodM.bump1 rfl (by decide) hg
def xtz:EO:=xKL.wM xBU
def xmK{T:Type}(d:LA)(e:Int)(b:Nat)(c:Int)(a:LA)(δ:T)(κl:(Nat×Int×LA)->T)(κr:(Nat×LA)->T):T:=br (decide (c<e)) (br (ixI d c) (br (ixT d c 3 [Sh.int .i64,Sh.int .i64,Sh.int .i64] 0) (br (xhk (gC d c 0).toInt (gC d c 1).toInt) (br (rmB b a 2 16) (κl (b+2,i64.wrap (c+1),a++[AV.agg [AV.int .i64 (gC d c 0).toInt,AV.int .i64 (gC d c 2).toInt],AV.agg [AV.int .i64 (gC d c 1).toInt,AV.int .i64 (i64.wrap (0 - (gC d c 2).toInt))]])) δ) (κl (b,i64.wrap (c+1),a))) δ) δ) (κr (b,a))
def xfN(c:LA)(d:Int):StT (Nat×Int×LA) (Nat×LA):=λ(b,e,a)=>xmK c d b e a none inL inR
def xjt:=xtz.l 106 0 [] [] Tryz.f77 0 lk0 [3,10,11,12] [3] [(3,2,132)] (q4 (xNW 0 0 0) (qL 3) qI qI) (q1 (qB 0 2 132 xNO)) (λ(b,c,d,e,_) (a,_)=>(xfN c d,(b,e,a),λ p=>(.leaf (.exit 0) [AV.osl 0 0 0 p.1] [bF 0 2 132 p.2]))) (0,[]) λ(_,c,d,_,_) _ (b,e,a)=>(((b,c,d,e,()),(a,())),xmK c d b e a none)
def xsr(i:Int)(a:LA):=decide (0+i.toNat<a.length)
def xtp{T:Type}(b e:Nat)(d i:Int)(a c:LA)(δ:T)(κl:(Int×Int×LA×LA)->T)(κr:(Int×Int×LA×LA)->T):T:=br (decide (i<(↑b:Int))) (br (decide (0<=i)&&decide (i<(↑b:Int))) (br (xsr i a&&xMx (Sh.int .i64) ((a.getD (0+i.toNat) .top).cells.getD 0 .top)) (br (((a.getD (0+i.toNat) .top).cells.getD 0 .top).toInt==0) (br (decide (0<=i)&&decide (i<(↑b:Int))) (br (xsr i a&&xMx (Sh.int .i64) ((a.getD (0+i.toNat) .top).cells.getD 1 .top)) (κl (i64.wrap (d+((a.getD (0+i.toNat) .top).cells.getD 1 .top).toInt),i64.wrap (i+1),a,c)) δ) δ) (κr (d,i,a,c))) δ) δ) (κr (d,i,a,c))
def xjW(b d:Nat):StT (Int×Int×LA×LA) (Int×Int×LA×LA):=λ(e,i,a,c)=>xtp b d e i a c none inL inR
def xl4:=xtz.l 106 0 [] [(3,xjt.lp)] Tryz.f77 1 lk0 [3,6,7,8] [3,6,7,8] [(3,2,132),(6,2,132)] (q4 (xNW 0 0 0) (xNW 1 0 0) qI qI) (q2 (qB 0 2 132 xNO) (qB 0 2 132 xNO)) (λ(a,c,e,i,_) (b,d,_)=>(xjW a c,(e,i,b,d),λ p=>(.leaf (.exit 2) [AV.osl 0 0 0 a,AV.osl 1 0 0 c,AV.int .i64 p.1,AV.int .i64 p.2.1] [bF 0 2 132 p.2.2.1,bF 0 2 132 p.2.2.2]))) (0,0,[],[]) λ(a,c,_,_,_) _ (e,i,b,d)=>(((a,c,e,i,()),(b,d,())),xtp a c e i b d none)
def xjv(i:Int)(a:LA):=decide (0+i.toNat<a.length)
def xj2{T:Type}(b f:Nat)(e d i:Int)(a c:LA)(δ:T)(κl:(Int×Int×LA×LA)->T)(κr:(Int×Int×LA×LA)->T):T:=br (decide (i<(↑b:Int))) (br (decide (0<=i)&&decide (i<(↑b:Int))) (br (xjv i a&&xMx (Sh.int .i64) ((a.getD (0+i.toNat) .top).cells.getD 0 .top)) (br (((a.getD (0+i.toNat) .top).cells.getD 0 .top).toInt==e) (br (decide (0<=i)&&decide (i<(↑b:Int))) (br (xjv i a&&xMx (Sh.int .i64) ((a.getD (0+i.toNat) .top).cells.getD 1 .top)) (κl (i64.wrap (d+((a.getD (0+i.toNat) .top).cells.getD 1 .top).toInt),i64.wrap (i+1),a,c)) δ) δ) (κr (d,i,a,c))) δ) δ) (κr (d,i,a,c))
def xeE(b d:Nat)(e:Int):StT (Int×Int×LA×LA) (Int×Int×LA×LA):=λ(f,i,a,c)=>xj2 b d e f i a c none inL inR
def xl5:=xtz.l 106 0 [] [(3,xjt.lp),(11,xl4.lp)] Tryz.f77 3 lk0 [3,6,7,8,9] [3,6,7,8,9] [(3,2,132),(6,2,132)] (q5 (xNW 0 0 0) (xNW 1 0 0) qI qI qI) (q2 (qB 0 2 132 xNO) (qB 0 2 132 xNO)) (λ(a,c,f,i,e,_) (b,d,_)=>(xeE a c e,(f,i,b,d),λ p=>(.leaf (.exit 6) [AV.osl 0 0 0 a,AV.osl 1 0 0 c,AV.int .i64 p.1,AV.int .i64 p.2.1,AV.int .i64 e] [bF 0 2 132 p.2.2.1,bF 0 2 132 p.2.2.2]))) (0,0,[],[]) λ(a,c,_,_,e,_) _ (f,i,b,d)=>(((a,c,f,i,e,()),(b,d,())),xj2 a c e f i b d none)
def xiu(i:Int)(a:LA):=decide (0+i.toNat<a.length)&&xMx (Sh.int .i64) ((a.getD (0+i.toNat) .top).cells.getD 0 .top)
def xgr(i:Int)(a:LA):=((a.getD (0+i.toNat) .top).cells.getD 0 .top).toInt
def xiv(b d:Nat)(e i:Int)(a c:LA):=Iter (xeE b d (xgr i a)) (e,i,a,c)
def xeV(b d:Nat)(e i:Int)(a c:LA):=(xiv b d e i a c).getD (0,0,[],[])
def xju(b c:Nat)(e i:Int)(a d:LA):=xbA c (xgr i a) ((xeV b c e i a d).fst) (((xeV b c e i a d).snd).snd).snd
def xee(b d:Nat)(e i:Int)(a c:LA):=(xju b d e i a c).getD (false,(0,[]),0,[])
def xj1{T:Type}(b d:Nat)(e i:Int)(a c:LA)(δ:T)(κl:(Nat×Int×Int×LA×LA)->T)(κr:(Nat×LA)->T):T:=br (decide (i<(↑b:Int))) (br (decide (0<=i)&&decide (i<(↑b:Int))) (br (xiu i a) (br (decide (xgr i a<1099511627776)) (br (decide (0<=i)&&decide (i<(↑b:Int))) (br (xiu i a) (br ((xiv b d e i a c).isSome) (br ((xju b d e i a c).isSome) (κl (br ((xee b d e i a c).fst) (((xee b d e i a c).snd).fst).fst (((xee b d e i a c).snd).snd).fst,((xeV b d e i a c).fst),((xeV b d e i a c).snd).fst,(((xeV b d e i a c).snd).snd).fst,br ((xee b d e i a c).fst) (((xee b d e i a c).snd).fst).snd (((xee b d e i a c).snd).snd).snd)) δ) δ) δ) δ) (κr (d,c))) δ) δ) (κr (d,c))
def xfO(b:Nat):StT (Nat×Int×Int×LA×LA) (Nat×LA):=λ(d,e,i,a,c)=>xj1 b d e i a c none inL inR
def xss:=xtz.l 106 0 [] [(3,xjt.lp),(11,xl4.lp),(17,xl5.lp)] Tryz.f77 2 (lk1 xl5.ok) [3,6,7,8] [6] [(3,2,132),(6,2,132)] (q4 (xNW 0 0 0) (xNW 1 0 0) qI qI) (q2 (qB 0 2 132 xNO) (qB 0 2 132 xNO)) (λ(b,d,e,i,_) (a,c,_)=>(xfO b,(d,e,i,a,c),λ p=>(.leaf (.exit 4) [AV.osl 0 0 0 p.1] [bF 0 2 132 p.2]))) (0,[]) λ(b,_,_,_,_) _ (d,e,i,a,c)=>(((b,d,e,i,()),(a,c,())),xj1 b d e i a c none)
def xfY(l:LA):=(Iter (xfN l (↑l.length:Int)) (0,0,[])).getD (0,[])
def xrm(l:LA):=Iter (xjW ((xfY l).fst) 0) (0,0,srtS ((xfY l).snd),[])
def xjw(l:LA):=(xrm l).getD (0,0,[],[])
def xr6(l:LA):=xbA 0 0 ((xjw l).fst) (((xjw l).snd).snd).snd
def xiD(l:LA):=(xr6 l).getD (false,(0,[]),0,[])
def xr5(l:LA):=Iter (xfO ((xfY l).fst)) (br ((xiD l).fst) (((xiD l).snd).fst).fst (((xiD l).snd).snd).fst,((xjw l).fst),((xjw l).snd).fst,(((xjw l).snd).snd).fst,br ((xiD l).fst) (((xiD l).snd).fst).snd (((xiD l).snd).snd).snd)
def xmv(l:LA):=(xr5 l).getD (0,[])
def xs9{T:Type}(l:LA)(δ:T)(κ:LA->T):T:=br ((Iter (xfN l (↑l.length:Int)) (0,0,[])).isSome) (br (((xfY l).fst).beq ((xfY l).snd).length&&(decide (((xfY l).fst)<4611686018427387904)&&((xfY l).snd).all isS)) (br ((xrm l).isSome) (br ((xr6 l).isSome) (br ((xr5 l).isSome) (br (decide (0+((xmv l).fst)<=((xmv l).snd).length)&&true) (κ (List.take ((xmv l).fst) (List.drop 0 ((xmv l).snd)))) δ) δ) δ) δ) δ) δ
def xan(l:LA):=xs9 l none some
def xEf:EO:=xtz.f Tryz.func77 106 0 [] [(3,xjt.lp),(11,xl4.lp),(17,xl5.lp),(15,xss.lp)] (lks (lkC xjt.ok (lkC xl4.ok (lkC xss.ok (lkC xl5.ok lkN))))) (u1 (uL 3)) (λ(l,_) _=>xs9 l) (λ _ p=>AV.list 2 p) []
def xgc{T:Type}(d:LA)(e:Int)(c:Nat)(b:Int)(a:LA)(δ:T)(κl:(Nat×Int×LA)->T)(κr:(Nat×LA)->T):T:=br (decide (b<e)) (br (ixI d b) (br (ixT d b 2 [Sh.int .i64,Sh.int .i64] 0) (br (rmB c a 1 24) (κl (c+1,i64.wrap (b+1),a++[AV.agg [AV.int .i64 (gC d b 0).toInt,AV.int .i64 (gC d b 1).toInt,AV.int .i64 1]])) δ) δ) δ) (κr (c,a))
def xcA(c:LA)(d:Int):StT (Nat×Int×LA) (Nat×LA):=λ(b,e,a)=>xgc c d b e a none inL inR
def xmm:=xEf.l 20 0 [] [] Tryz.f116 0 lk0 [3,6,7,8] [3] [(3,3,100)] (q4 (xNW 0 0 0) (qL 2) qI qI) (q1 (qB 0 3 100 xNO)) (λ(b,c,d,e,_) (a,_)=>(xcA c d,(b,e,a),λ p=>(.leaf (.exit 0) [AV.osl 0 0 0 p.1] [bF 0 3 100 p.2]))) (0,[]) λ(_,c,d,_,_) _ (b,e,a)=>(((b,c,d,e,()),(a,())),xgc c d b e a none)
def xfv(l:LA):=(Iter (xcA l (↑l.length:Int)) (0,0,[])).getD (0,[])
def xj9(l:LA):=xan (List.take ((xfv l).fst) (List.drop 0 ((xfv l).snd)))
def xkU{T:Type}(l:LA)(δ:T)(κ:LA->T):T:=br ((Iter (xcA l (↑l.length:Int)) (0,0,[])).isSome) (br (decide (0+((xfv l).fst)<=((xfv l).snd).length)&&true) (br ((xj9 l).isSome) (κ ((xj9 l).getD [])) δ) δ) δ
def xfB(l:LA):=xkU l none some
def xsa:EO:=xEf.f Tryz.func116 20 0 [] [(3,xmm.lp)] (lk1 xmm.ok) (u1 (uL 2)) (λ(l,_) _=>xkU l) (λ _ p=>AV.list 2 p) []
def xkz{T:Type}(o n:Int)(e f:Nat)(k p m j:Int)(h l i g a:Nat)(b:LA)(d:Nat)(c:LA)(δ:T)(κl:(Int×Int×Nat×Nat×Nat×Nat×Nat×LA×Nat×LA)->T)(κr:(Int×Nat×Nat×Nat×Nat×LA×Nat×LA×Nat)->T):T:=br (decide (m<p)) (br (a==e) (br (a==e) (br (a==e&&(decide (f<b.length)&&xMx (Sh.int .i64) ((b.getD f .top).cells.getD 0 .top))) (br (d==g&&(rmB i c 1 16)) (κl (i64.wrap (m+1),j,h,l,i+1,g+1,a,List.take h b,g+1,c++[AV.agg [AV.int .i64 ((b.getD f .top).cells.getD 0 .top).toInt,AV.int .i64 o]])) δ) δ) δ) δ) (κr (j,l,h,g,i,b,a,c,d))
def xdH(m n:Int)(e f:Nat)(k o:Int):StT (Int×Int×Nat×Nat×Nat×Nat×Nat×LA×Nat×LA) (Int×Nat×Nat×Nat×Nat×LA×Nat×LA×Nat):=λ(p,g,h,i,j,l,a,b,c,d)=>xkz m n e f k o p g h i j l a b c d none inL inR
def xjN:=xsa.l 71 5 [] [] Tryz.f106 1 lk0 [0,1,2,3,4,7,8,37,38] [0,1,2,3,4,7,8] [(3,0,0)] (q9 qI qI (xNX 0 0 0 0) (xNX 1 0 0 0) (xNX 2 0 0 0) (pOwnV 3 0) qI qI qI) (q5 (qB 0 1 3 (q1 qI)) (xNZ 0 1 126 false false (q1 (pOslV 3 0))) (xNZ 0 1 64 false false (q1 (pOslV 4 0))) (pBoxV 2 128 false true xNO) (pBoxV 2 52 false true xNO)) (λ(o,n,_,_,_,(e,f),k,q,r,_) ((g,_),((h,i),_),((j,m),_),(a,b),(c,d),_)=>(xdH o n e f k q,(r,g,i,h,m,j,a,b,c,d),λ p=>(.leaf (.exit 2) [AV.int .i64 o,AV.int .i64 n,AV.own 0 0 0 0,AV.own 1 0 0 0,AV.own 2 0 0 0,AV.own 3 e f 0,AV.int .i64 k] [bF 0 1 3 [AV.int .i64 p.1],⟨0,1,126,[AV.osl 3 p.2.1 0 p.2.2.1],false,false⟩,⟨0,1,64,[AV.osl 4 p.2.2.2.1 0 p.2.2.2.2.1],false,false⟩,bF p.2.2.2.2.2.2.1 2 128 p.2.2.2.2.2.1,bF p.2.2.2.2.2.2.2.2 2 52 p.2.2.2.2.2.2.2.1]))) (0,0,0,0,0,[],0,[],0) λ(o,n,_,_,_,(e,f),k,q,_,_) _ (r,g,i,h,m,j,a,b,c,d)=>(((o,n,(),(),(),(e,f),k,q,r,()),((g,()),((h,i),()),((j,m),()),(a,b),(c,d),())),xkz o n e f k q r g i h m j a b c d none)
def xaT(a:Nat):Nat:=0+(i64.wrap ((↑a:Int) - 1)).toNat
def xeh(n b:Int)(c d:Nat)(a:LA):Int:=if i64.wrap (b - n)<((a.getD (xaT c) .top).cells.getD 1 .top).toInt then i64.wrap (b - n)else((a.getD (xaT c) .top).cells.getD 1 .top).toInt
def xiR(j n d:Int)(c g h i a:Nat)(b:LA)(e:Nat)(f:LA):=Iter (xdH j n g (xaT c) (xeh n d c a b) (xeh n d c a b)) (0,d,c,g,h,i,a,List.take c b,e,f)
def xaj(j n e:Int)(f g h i a:Nat)(b:LA)(c:Nat)(d:LA):=(xiR j n e f g h i a b c d).getD (0,0,0,0,0,[],0,[],0)
def xfE(j n e:Int)(f g h i a:Nat)(b:LA)(c:Nat)(d:LA):=i64.wrap ((↑((((xaj j n e f g h i a b c d).snd).snd).fst):Int) - 1)
def xdG(j n f:Int)(g e h i a:Nat)(b:LA)(c:Nat)(d:LA):=(((((((xaj j n f g e h i a b c d).snd).snd).snd).snd).snd).snd).fst==e
def xfD(j n f:Int)(e g h i a:Nat)(b:LA)(c:Nat)(d:LA):=((((((((xaj j n f e g h i a b c d).snd).snd).snd).snd).snd).fst).getD (xaT e) .top).cells
def xeA(j n f:Int)(e g h i a:Nat)(b:LA)(c:Nat)(d:LA):=(((((((xaj j n f e g h i a b c d).snd).snd).snd).snd).snd).fst).set (xaT e) (AV.agg (List.take 1 (xfD j n f e g h i a b c d)++[AV.int .i64 (i64.wrap (((xfD j n f e g h i a b c d).getD 1 .top).toInt - xeh n f e a b))]++List.drop 2 (xfD j n f e g h i a b c d)))
def xgf{T:Type}(j n g:Int)(f e h i a:Nat)(b:LA)(c:Nat)(d:LA)(δ:T)(κl:(Int×Nat×Nat×Nat×Nat×Nat×LA×Nat×LA)->T)(κr:(Int×Nat×Nat×Nat×Nat×LA×Nat×LA×Nat)->T):T:=br (decide (g>n)) (br (a==e) (br (a==e&&(decide (0<=i64.wrap ((↑f:Int) - 1))&&decide (i64.wrap ((↑f:Int) - 1)<(↑f:Int)))) (br (a==e) (br (a==e) (br (a==e&&(decide (xaT f<b.length)&&xMx (Sh.int .i64) ((b.getD (xaT f) .top).cells.getD 1 .top))) (br ((xiR j n g f e h i a b c d).isSome) (br (xdG j n g f e h i a b c d) (br (xdG j n g f e h i a b c d) (br (xdG j n g f e h i a b c d&&((decide (xaT f<(((((((xaj j n g f e h i a b c d).snd).snd).snd).snd).snd).fst).length))&&xMx (Sh.int .i64) ((xfD j n g f e h i a b c d).getD 1 .top))) (br (xdG j n g f e h i a b c d) (br (xdG j n g f e h i a b c d) (br (xdG j n g f e h i a b c d&&(decide (xaT f<(((((((xaj j n g f e h i a b c d).snd).snd).snd).snd).snd).fst).length))) (br (e==e) (br (e==e) (br (e==e&&(decide (xaT f<(xeA j n g f e h i a b c d).length)&&xMx (Sh.int .i64) (((xeA j n g f e h i a b c d).getD (xaT f) .top).cells.getD 1 .top))) (br ((((xeA j n g f e h i a b c d).getD (xaT f) .top).cells.getD 1 .top).toInt==0) (br (e==(((xaj j n g f e h i a b c d).snd).fst)) (br (e==(((xaj j n g f e h i a b c d).snd).fst)&&(decide (0<=xfE j n g f e h i a b c d)&&decide (xfE j n g f e h i a b c d<=(↑((((xaj j n g f e h i a b c d).snd).snd).fst):Int))&&true)) (κl (i64.wrap ((xaj j n g f e h i a b c d).fst - xeh n g f a b),(xfE j n g f e h i a b c d).toNat - 0,(((xaj j n g f e h i a b c d).snd).fst),(((((xaj j n g f e h i a b c d).snd).snd).snd).snd).fst,((((xaj j n g f e h i a b c d).snd).snd).snd).fst,e,List.take ((xfE j n g f e h i a b c d).toNat - 0) (xeA j n g f e h i a b c d),((((((((xaj j n g f e h i a b c d).snd).snd).snd).snd).snd).snd).snd).snd,((((((((xaj j n g f e h i a b c d).snd).snd).snd).snd).snd).snd).snd).fst)) δ) δ) (κl (i64.wrap ((xaj j n g f e h i a b c d).fst - xeh n g f a b),((((xaj j n g f e h i a b c d).snd).snd).fst),(((xaj j n g f e h i a b c d).snd).fst),(((((xaj j n g f e h i a b c d).snd).snd).snd).snd).fst,((((xaj j n g f e h i a b c d).snd).snd).snd).fst,e,List.take ((((xaj j n g f e h i a b c d).snd).snd).fst) (xeA j n g f e h i a b c d),((((((((xaj j n g f e h i a b c d).snd).snd).snd).snd).snd).snd).snd).snd,((((((((xaj j n g f e h i a b c d).snd).snd).snd).snd).snd).snd).snd).fst))) δ) δ) δ) δ) δ) δ) δ) δ) δ) δ) δ) δ) δ) δ) δ) (κr (g,e,f,i,h,b,a,d,c))
def xcN(j n:Int):StT (Int×Nat×Nat×Nat×Nat×Nat×LA×Nat×LA) (Int×Nat×Nat×Nat×Nat×LA×Nat×LA×Nat):=λ(e,f,g,h,i,a,b,c,d)=>xgf j n e f g h i a b c d none inL inR
def xqT:=xsa.l 71 5 [] [(7,xjN.lp)] Tryz.f106 0 (lk1 xjN.ok) [0,1,2,3,4] [] [(3,0,0)] (q5 qI qI (xNX 0 0 0 0) (xNX 1 0 0 0) (xNX 2 0 0 0)) (q5 (qB 0 1 3 (q1 qI)) (xNZ 0 1 126 false false (q1 (pOslV 3 0))) (xNZ 0 1 64 false false (q1 (pOslV 4 0))) (pBoxV 2 128 false true xNO) (pBoxV 2 52 false true xNO)) (λ(j,n,_,_,_,_) ((e,_),((f,g),_),((h,i),_),(a,b),(c,d),_)=>(xcN j n,(e,g,f,i,h,a,b,c,d),λ p=>(.leaf (.exit 0) [] [bF 0 1 3 [AV.int .i64 p.1],⟨0,1,126,[AV.osl 3 p.2.1 0 p.2.2.1],false,false⟩,⟨0,1,64,[AV.osl 4 p.2.2.2.1 0 p.2.2.2.2.1],false,false⟩,bF p.2.2.2.2.2.2.1 2 128 p.2.2.2.2.2.1,bF p.2.2.2.2.2.2.2.2 2 52 p.2.2.2.2.2.2.2.1]))) (0,0,0,0,0,[],0,[],0) λ(j,n,_,_,_,_) _ (e,g,f,i,h,a,b,c,d)=>(((j,n,(),(),(),()),((e,()),((f,g),()),((h,i),()),(a,b),(c,d),())),xgf j n e g f i h a b c d none)
def xhI:Env:=xsa.E.fn 71 5 (lsOf []) (xNn [(7,xjN.lp),(3,xqT.lp)])
def xvr:xM1 P0 (xNJ.at 5) xhI:=xsa.ok.fn
def xtu:LoOk P0 (xNJ.at xhI.pin) xhI (Tryz.f106.body.getD .skip):=xmW (ls:=[xM5 Tryz.f106 0,xM5 Tryz.f106 1]) Θ (lkC xqT.ok (lkC xjN.ok lkN))
def xlR(a n h:Int)(b c:Nat)(d e:LA):=Iter (xcN a n) (n,b+1,1,c,0,1,List.take (b+1) (d++[AV.agg [AV.int .i64 a,AV.int .i64 (i64.wrap (n - h))]]),0,e)
def xlS(a n h:Int)(b c:Nat)(d e:LA):=Iter (xcN a n) (h,b,0,c,0,0,List.take b d,0,e)
def xcC(a n h:Int)(b c:Nat)(d e:LA):=(xlR a n h b c d e).getD (0,0,0,0,0,[],0,[],0)
def xcD(a n h:Int)(b c:Nat)(d e:LA):=(xlS a n h b c d e).getD (0,0,0,0,0,[],0,[],0)
def xk8{T:Type}(a n h:Int)(b d:Nat)(c e:LA)(δ:T)(κ:Int×Nat×Nat×Nat×Nat×LA×Nat×LA×Nat->T):T:=br (decide (n>h)) (br (rmB b c 1 16) (br ((xlR a n h b d c e).isSome) (κ ((xcC a n h b d c e).fst,((xcC a n h b d c e).snd).fst,(((xcC a n h b d c e).snd).snd).fst,((((xcC a n h b d c e).snd).snd).snd).fst,(((((xcC a n h b d c e).snd).snd).snd).snd).fst,((((((xcC a n h b d c e).snd).snd).snd).snd).snd).fst,(((((((xcC a n h b d c e).snd).snd).snd).snd).snd).snd).fst,((((((((xcC a n h b d c e).snd).snd).snd).snd).snd).snd).snd).fst,((((((((xcC a n h b d c e).snd).snd).snd).snd).snd).snd).snd).snd)) δ) δ) (br ((xlS a n h b d c e).isSome) (κ ((xcD a n h b d c e).fst,((xcD a n h b d c e).snd).fst,(((xcD a n h b d c e).snd).snd).fst,((((xcD a n h b d c e).snd).snd).snd).fst,(((((xcD a n h b d c e).snd).snd).snd).snd).fst,((((((xcD a n h b d c e).snd).snd).snd).snd).snd).fst,(((((((xcD a n h b d c e).snd).snd).snd).snd).snd).snd).fst,((((((((xcD a n h b d c e).snd).snd).snd).snd).snd).snd).snd).fst,((((((((xcD a n h b d c e).snd).snd).snd).snd).snd).snd).snd).snd)) δ)
def xlQ(a n h:Int)(b c:Nat)(d e:LA):=xk8 a n h b c d e none some
def xAt(a n h:Int)(b c:Nat)(d e:LA):Enc (λ(p:Int×Nat×Nat×Nat×Nat×LA×Nat×LA×Nat)=>(((AV.tuple [],([⟨0,1,3,[AV.int .i64 p.1],false,true⟩,⟨0,1,126,[AV.osl 3 p.2.1 0 p.2.2.1],false,false⟩,⟨0,1,64,[AV.osl 4 p.2.2.2.1 0 p.2.2.2.2.1],false,false⟩,⟨p.2.2.2.2.2.2.1,2,128,p.2.2.2.2.2.1,false,true⟩,⟨p.2.2.2.2.2.2.2.2,2,52,p.2.2.2.2.2.2.2.1,false,true⟩]:List Box))):(AV×List Box))) (xlQ a n h b c d e) (XFM P0 xhI Tryz.f106 (Tryz.f106.body.getD .skip) [AV.int .i64 a,AV.int .i64 n,AV.own (0:Id) 0 0 0,AV.own (1:Id) 0 0 0,AV.own (2:Id) 0 0 0] [{ver:=0,sz:=1,ty:=(3:TypeId),xs:=[AV.int .i64 h],frz:=false,pm:=true},{ver:=0,sz:=1,ty:=(126:TypeId),xs:=[AV.osl (3:Id) 0 0 b],frz:=false,pm:=false},{ver:=0,sz:=1,ty:=(64:TypeId),xs:=[AV.osl (4:Id) 0 0 c],frz:=false,pm:=false},{ver:=0,sz:=2,ty:=(128:TypeId),xs:=d,frz:=false,pm:=true},{ver:=0,sz:=2,ty:=(52:TypeId),xs:=e,frz:=false,pm:=true}]):=by(have h:XFM P0 xhI Tryz.f106 (Tryz.f106.body.getD .skip) [AV.int .i64 a,AV.int .i64 n,AV.own (0:Id) 0 0 0,AV.own (1:Id) 0 0 0,AV.own (2:Id) 0 0 0] [{ver:=0,sz:=1,ty:=(3:TypeId),xs:=[AV.int .i64 h],frz:=false,pm:=true},{ver:=0,sz:=1,ty:=(126:TypeId),xs:=[AV.osl (3:Id) 0 0 b],frz:=false,pm:=false},{ver:=0,sz:=1,ty:=(64:TypeId),xs:=[AV.osl (4:Id) 0 0 c],frz:=false,pm:=false},{ver:=0,sz:=2,ty:=(128:TypeId),xs:=d,frz:=false,pm:=true},{ver:=0,sz:=2,ty:=(52:TypeId),xs:=e,frz:=false,pm:=true}]=xk8 a n h b c d e none (λ(p:Int×Nat×Nat×Nat×Nat×LA×Nat×LA×Nat)=>some (((AV.tuple [],([⟨0,1,3,[AV.int .i64 p.1],false,true⟩,⟨0,1,126,[AV.osl 3 p.2.1 0 p.2.2.1],false,false⟩,⟨0,1,64,[AV.osl 4 p.2.2.2.1 0 p.2.2.2.2.1],false,false⟩,⟨p.2.2.2.2.2.2.1,2,128,p.2.2.2.2.2.1,false,true⟩,⟨p.2.2.2.2.2.2.2.2,2,52,p.2.2.2.2.2.2.2.1,false,true⟩]:List Box))):(AV×List Box))):=by kernel_rfl);rw[h];unfold xlQ xk8;repeat' (first|refine Enc.br ?_ ?_|exact Enc.none|exact Enc.some rfl)
end Go.Sim.M
namespace Go.Sim
open Go.RowKit
def GoodM.aged{P:Program}{Inv:IV}{f:FuncId}{args:List AV}{H E:List Box}{p q v k t s y:Nat}{xs:List AV}(h:GoodM P Inv f args H (.tuple []) E)(hz:∀bx,H[q]?=some bx->bx.ver=0)(ep:E[p]?=some ⟨0,1,t,[.osl (.b q) v 0 k],false,false⟩)(eq:E[q]?=some ⟨v,s,y,xs,false,true⟩)(pt:isC t=false)(py:isC y=false)(ho:∀n bx,E[n]?=some bx->isC bx.ty=false/\(n=p\/n=q\/bx.pm\/∃n' v' k',n'≠q/\bx.xs=[.osl (.b n') v' 0 k'])):GoodM P Inv f args H (.tuple []) ((E.set p ⟨0,1,t,[.osl (.b q) 1 0 k],false,false⟩).set q ⟨1,s,y,xs,false,true⟩):=by
 have pq:p≠q:=λ e=>by subst e;rw[ep]at eq;simp at eq
 refine⟨h.1,λ w0 w A M vs hI hB hR ab=>(h.2 w0 w A M vs hI hB hR ab).mono ?_⟩;rintro e w' ⟨u,A',M',rfl,h1,h2,h3,h4,h5⟩;let M'':Id->Option MB:=λ id=>if id=.b q then(M' id).map λ m=>⟨m.b,1,m.sz,m.cap,m.ty⟩else M' id;have eo:∀id,id≠.b q->M'' id=M' id:=λ id g1=>if_neg g1;have e4:∀m,M' (.b q)=some m->M'' (.b q)=some ⟨m.b,1,m.sz,m.cap,m.ty⟩:=λ m hm=>(if_pos rfl).trans (by rw[hm];rfl);have Q:∀id m1,M'' id=some m1->∃m0,M' id=some m0/\m1.b=m0.b/\m1.cap=m0.cap:=λ id m1 J=>by by_cases g3:id=.b q;(subst g3;cases hm:M' (.b q)with|none=>simp[M'',hm]at J|some m=>rw[e4 m hm]at J;simp only[z6]at J;subst J;exact⟨m,rfl,rfl,rfl⟩);exact⟨m1,eo id g3▸J,rfl,rfl⟩
 have O:∀n bx m,E[n]?=some bx->M' (.b n)=some m->BoxAt w' A' M' w0.heap.size (.b n) m bx:=λ n bx m hn hm=>by obtain⟨bx',g1,g2⟩:=h4.box _ m hm;rw[xbV,hn]at g1;cases g1;exact g2
 have hv:∀m,M' (.b q)=some m->v=m.ver:=λ m hm=>(O q _ m eq hm).ver;have hx:∀c n' v' k',n'≠q->Rel w' A' M' c (.osl (.b n') v' 0 k')->Rel w' A' M'' c (.osl (.b n') v' 0 k'):=λ c n' v' k' hn hr=>by obtain⟨m0,g1,g2,g3,g4⟩:=Rel.osl_inv hr;exact .osl c _ v' 0 k' m0 ((eo _ λ e=>hn (by cases e;rfl)).trans g1) g2 g3 g4
 have hy:∀c,Rel w' A' M' c (.osl (.b q) v 0 k)->Rel w' A' M'' c (.osl (.b q) 1 0 k):=λ c hr=>by obtain⟨m0,g1,g2,g3,g4⟩:=Rel.osl_inv hr;exact .osl c _ 1 0 k _ (e4 m0 g1) (zd _) g3 λ _=>g4 (hv m0 g1)
 have hb:∀id(bx bx':Box)(m m':MB),isC bx.ty=false->bx'=⟨m'.ver,bx.sz,bx.ty,bx'.xs,bx.frz,bx.pm⟩->m'=⟨m.b,m'.ver,m.sz,m.cap,m.ty⟩->bx'.xs.length=bx.xs.length->(∀x,x∈bx'.xs->x.okElem m.sz)->
   (∀c i j,Rel w' A' (MP M' bx.pm) c ((bx.xs.getD i .top).cells.getD j .top)->Rel w' A' (MP M'' bx.pm) c ((bx'.xs.getD i .top).cells.getD j .top))->BoxAt w' A' M' w0.heap.size id m bx->BoxAt w' A' M'' w0.heap.size id m' bx':=λ id bx bx' m m' V ad Y hl aa hc g=>by
  rw[ad,Y];have W:xM3 m.ty=false:=g.nomap (xaV V);refine⟨rfl,g.sz,g.ty,g.capm,hl▸g.fits,aa,g.low,g.lt,λ h0=>?_,g.guard⟩
  obtain⟨c,c1,c2,c3⟩:=g.cells h0;refine⟨c,.of W (c1.plain W),c2,λ i j hi hj=>?_⟩
  have:=c3 i j (hl▸hi) hj;rw[xaF V,xbD V]at this;rw[xaF V,xbD (bx:=⟨m'.ver,bx.sz,bx.ty,bx'.xs,bx.frz,bx.pm⟩) V];exact hc _ i j this
 have ht:∀a v1 v2 d,(∀c,Rel w' A' M' c (.osl a v1 0 d)->Rel w' A' M'' c (.osl a v2 0 d))->∀c i j,Rel w' A' M' c ((([.osl a v1 0 d]:List AV).getD i .top).cells.getD j .top)->Rel w' A' M'' c ((([.osl a v2 0 d]:List AV).getD i .top).cells.getD j .top):=λ a v1 v2 d hh c i j hr=>by match i,j with|0,0=>exact hh c hr|0,j+1=>exact .top _|i+1,0=>exact .top _|i+1,j+1=>exact .top _
 have hg:∀n bx,E[n]?=some bx->∃bx',((E.set p ⟨0,1,t,[.osl (.b q) 1 0 k],false,false⟩).set q ⟨1,s,y,xs,false,true⟩)[n]?=some bx'/\isC bx'.ty=false/\(∀m m1,M' (.b n)=some m->M'' (.b n)=some m1->BoxAt w' A' M'' w0.heap.size (.b n) m1 bx'):=λ n bx hn=>by have hn':=xdk hn;obtain⟨hC,hc⟩:=ho n bx hn;by_cases g1:n=q;subst g1;rw[hn]at eq;cases eq;refine⟨_,zL (by simpa using hn'),py,λ m m1 e1 e2=>?_⟩;rw[e4 m e1]at e2;cases e2;have g:=O n _ m hn e1;exact hb _ ⟨v,s,y,xs,false,true⟩ ⟨1,s,y,xs,false,true⟩ m _ py rfl rfl rfl g.ok (λ c i j hr=>hr) g;(have ge:∀m m1,M' (.b n)=some m->M'' (.b n)=some m1->m1=m:=λ m m1 e1 e2=>by rw[eo _ λ e=>g1 (by cases e;rfl),e1]at e2;cases e2;rfl);by_cases g2:n=p;subst g2;rw[hn]at ep;cases ep;refine⟨_,(zX (Ne.symm g1)).trans (zL hn'),pt,λ m m1 e1 e2=>?_⟩;cases ge m m1 e1 e2;have g:=O n _ m hn e1;have hv:0=m.ver:=g.ver;have hz:m.sz=1:=g.sz.symm;exact hb _ ⟨0,1,t,[.osl (.b q) v 0 k],false,false⟩ ⟨0,1,t,[.osl (.b q) 1 0 k],false,false⟩ m m pt (by rw[<-hv]) rfl rfl (λ x hx=>by simp only[zv]at hx;subst hx;rw[hz];rfl) (ht _ _ _ _ hy) g;refine⟨bx,(zX (Ne.symm g1)).trans ((zX (Ne.symm g2)).trans hn),hC,λ m m1 e1 e2=>?_⟩;cases ge m m1 e1 e2;have g:=O n _ m hn e1;refine hb _ bx bx m m hC (by rw[<-g.ver]) rfl rfl g.ok ?_ g;rcases hc with hc|hc|hc|⟨n',v',k',hc,hd⟩;exact absurd hc g2;exact absurd hc g1;rw[hc];exact λ c i j hr=>hr;cases ae:bx.pm with|true=>exact λ c i j hr=>hr|false=>rw[hd];exact ht _ _ _ _ λ c=>hx c n' v' k' hc
 have hR':HR w' A' M'' w0.heap.size ((E.set p ⟨0,1,t,[.osl (.b q) 1 0 k],false,false⟩).set q ⟨1,s,y,xs,false,true⟩):=by refine⟨λ id m1 J=>?_,λ id id' m1 m2 k1 k2 c1 c2 he=>?_,h4.lt⟩;(obtain⟨m0,g1,_⟩:=Q id m1 J;obtain⟨bx,q1,q2⟩:=h4.box _ m0 g1;cases id with|r n i j=>(rw[eo _ (λ e=>by cases e),g1]at J;cases J;obtain⟨c0,r1,_⟩:=xnP q1;obtain⟨bx',r2,r3,_⟩:=hg n c0 r1;rw[xeI r1 (ho n c0 r1).1]at q1;cases q1;exact⟨_,xeI r2 r3,hb _ tombB tombB m1 m1 rfl (by rw[<-q2.ver]) rfl rfl q2.ok (λ c i j hr=>hr) q2⟩)|b n=>obtain⟨bx',r2,_,r3⟩:=hg n bx q1;exact⟨bx',r2,r3 _ _ g1 J⟩);obtain⟨n1,a1,a2,a3⟩:=Q id m1 k1;obtain⟨n2,b1,b2,b3⟩:=Q id' m2 k2;exact h4.inj id id' n1 n2 a1 b1 (a3▸c1) (b3▸c2) (by rw[<-a2,<-b2,he])
 refine⟨u,A',M'',rfl,h1,h2,⟨h3.size,h3.keep,h3.less,h3.more,λ id m ac hm=>?_,λ id m1 J h0=>?_⟩,hR',?_⟩;obtain⟨m',g1,g2⟩:=h3.ids id m ac hm;by_cases q4:id=.b q;subst q4;obtain⟨bx,r1,r2⟩:=hR.box _ m hm;exact⟨_,e4 m' g1,.inr (by rw[<-r2.ver,hz bx r1];exact Nat.zero_lt_one)⟩;exact⟨m',(eo id q4).trans g1,g2⟩;obtain⟨m0,g1,g2,g3⟩:=Q id m1 J;rw[g2];exact h3.src id m0 g1 (g3▸h0);obtain⟨Z,rfl,q1,_⟩:=h5.tuple_inv;exact .tuple Z [] q1 Ψ
namespace M
open Go.Proofs
noncomputable def set2(q n h:Int)(ns no:Nat)(sx ox:List AV):Option (Int×Nat×Nat×List AV×List AV):=(xlQ q n h ns no sx ox).bind λ p=>
 br (Nat.beq p.2.1 p.2.2.2.2.2.2.1&&Nat.beq p.2.2.2.1 p.2.2.2.2.2.2.2.2) (some (p.1,p.2.2.1,p.2.2.2.2.1,p.2.2.2.2.2.1,p.2.2.2.2.2.2.2.1)) none
noncomputable def xFS:List AV->List Box->Option (Bool×AV×List Box):=omOf (xNL (sEq (pInt IntKind.i64)) (xNL (sEq (pInt IntKind.i64)) (xNL (sEq (xNX 0 0 0 0)) (xNL (sEq (xNX 1 0 0 0)) (xNL (sEq (xNX 2 0 0 0)) xNN))))) (xNK (xNZ 0 1 3 false true (xNK (pInt IntKind.i64) xNM)) (xNK (xNZ 0 1 126 false false (xNK (xNW 3 0 0) xNM)) (xNK (xNZ 0 1 64 false false (xNK (xNW 4 0 0) xNM)) (xNK (xNZ 0 2 128 false true xNO) (xNK (xNZ 0 2 52 false true xNO) xNM))))) λ(q,(n,(_,(_,(_,_))))) ((h,_),((ns,_),((no,_),(sx,(ox,_)))))=>((set2 q n h ns no sx ox).isSome,(.tuple [],[⟨0,1,3,[.int .i64 ((set2 q n h ns no sx ox).getD (0,0,0,[],[])).1],false,true⟩,⟨0,1,126,[.osl (.b 3) 1 0 ((set2 q n h ns no sx ox).getD (0,0,0,[],[])).2.1],false,false⟩,⟨0,1,64,[.osl (.b 4) 1 0 ((set2 q n h ns no sx ox).getD (0,0,0,[],[])).2.2.1],false,false⟩,⟨1,2,128,((set2 q n h ns no sx ox).getD (0,0,0,[],[])).2.2.2.1,false,true⟩,⟨1,2,52,((set2 q n h ns no sx ox).getD (0,0,0,[],[])).2.2.2.2,false,true⟩]))
def xKz:OmOk P0 xNJ 106 xFS:=xjb λ vv bb rr Z hh=>by obtain⟨J,⟨n,⟨_,⟨_,⟨_,_⟩⟩⟩⟩⟩:=vv;obtain⟨⟨h,_⟩,⟨⟨ns,_⟩,⟨⟨no,_⟩,⟨sx,⟨ox,_⟩⟩⟩⟩⟩:=bb;obtain⟨O,Q⟩:=Prod.mk.inj hh;cases hs:xlQ J n h ns no sx ox with|none=>rw[show set2 J n h ns no sx ox=none by unfold set2;rw[hs];rfl]at O;simp at O|some p=>(have W:set2 J n h ns no sx ox=br (Nat.beq p.2.1 p.2.2.2.2.2.2.1&&Nat.beq p.2.2.2.1 p.2.2.2.2.2.2.2.2) (some (p.1,p.2.2.1,p.2.2.2.2.1,p.2.2.2.2.2.1,p.2.2.2.2.2.2.2.1)) none:=by unfold set2;rw[hs];rfl);cases ht:Nat.beq p.2.1 p.2.2.2.2.2.2.1&&Nat.beq p.2.2.2.1 p.2.2.2.2.2.2.2.2 with|false=>rw[W,ht]at O;simp[br]at O|true=>
 rw[ht]at W;have Y:set2 J n h ns no sx ox=some (p.1,p.2.2.1,p.2.2.2.2.1,p.2.2.2.2.2.1,p.2.2.2.2.2.2.2.1):=W;rw[Y]at Q;simp only[zh]at Q;simp only[zf]at ht;have e1:=zg ht.1;have e2:=zg ht.2;have hx:=xAt J n h ns no sx ox p hs;have hg:GoodM P0 xNJ 106 _ _ _ _:=xk6 (p:=xhI.pin) (xk5 xNa (xNb P0 _) rfl xvr rfl Tryz.func106 rfl Θ xtu hx);rw [<-e1,<-e2] at hg;have V:=GoodM.aged (p:=1) (q:=3) hg (fun bx hb=>by cases hb;rfl) rfl rfl rfl rfl (fun n bx hn=>by
  match n with
  | 0=>cases hn;exact⟨rfl,.inr (.inr (.inl rfl))⟩
  | 1=>cases hn;exact⟨rfl,.inl rfl⟩
  | 2=>cases hn;exact⟨rfl,.inr (.inr (.inr ⟨_,_,_,by decide,rfl⟩))⟩
  | 3=>cases hn;exact⟨rfl,.inr (.inl rfl)⟩
  | 4=>cases hn;exact⟨rfl,.inr (.inr (.inl rfl))⟩
  | n+5=>simp at hn)
 have V:=GoodM.aged (p:=2) (q:=4) V (fun bx hb=>by cases hb;rfl) rfl rfl rfl rfl (fun n bx hn=>by
  match n with
  | 0=>cases hn;exact⟨rfl,.inr (.inr (.inl rfl))⟩
  | 1=>cases hn;exact⟨rfl,.inr (.inr (.inr ⟨_,_,_,by decide,rfl⟩))⟩
  | 2=>cases hn;exact⟨rfl,.inl rfl⟩
  | 3=>cases hn;exact⟨rfl,.inr (.inr (.inl rfl))⟩
  | 4=>cases hn;exact⟨rfl,.inr (.inl rfl)⟩
  | n+5=>simp at hn)
 obtain⟨rfl,rfl⟩:=Prod.mk.inj Q;exact V
noncomputable def ESet:Env:=xsa.E.withM 106 xFS
def xHN:xM1 P0 xNJ ESet:=xsa.ok.withM xKz
noncomputable def xB7:EO:=EO.mk ESet xHN
end M
end Go.Sim
namespace Go.Sim.M
open Go.RowKit Go.Proofs
open Go.IntKind (i64 u64 u8)
def xlu(a:LA)(h b:Int)(f c:Nat)(g:Int)(d e:LA):Int:=if 0>(gC a b 1).toInt then 0 else(gC a b 1).toInt
def xlt(f:LA)(h g:Int)(d a:Nat)(e:Int)(b c:LA):=set2 (gC f g 0).toInt (if 1048576<xlu f h g d a e b c then 1048576 else xlu f h g d a e b c) e a d c b
def xdO(f:LA)(g h:Int)(d a:Nat)(e:Int)(b c:LA):=(xlt f g h d a e b c).getD (0,0,0,[],[])
def xi2{T:Type}(g:LA)(h e:Int)(d a:Nat)(f:Int)(b c:LA)(δ:T)(κl:(Int×Nat×Nat×Int×LA×LA)->T)(κr:(Nat×Int×Nat×LA×LA)->T):T:=br (decide (e<h)) (br (ixI g e) (br (ixT g e 2 [Sh.int .i64,Sh.int .i64] 0) (br ((xlt g h e d a f b c).isSome) (κl (i64.wrap (e+1),(((xdO g h e d a f b c).snd).snd).fst,(((xdO g h e d a f b c).snd).fst),(xdO g h e d a f b c).fst,((((xdO g h e d a f b c).snd).snd).snd).snd,List.take (((xdO g h e d a f b c).snd).fst) ((((xdO g h e d a f b c).snd).snd).snd).fst)) δ) δ) δ) (κr (d,f,a,b,c))
def xed(f:LA)(g:Int):StT (Int×Nat×Nat×Int×LA×LA) (Nat×Int×Nat×LA×LA):=λ(h,d,a,e,b,c)=>xi2 f g h d a e b c none inL inR
def xpF:=xB7.l 30 0 [] [] Tryz.f76 0 lk0 [3,4,6,10,11,12] [3,6] [(3,2,52),(4,2,128),(4,0,0)] (q6 (xNX 0 0 0 0) (xNX 1 0 0 0) (xNo 106 (q3 (xNX 2 0 0 0) (xNX 1 0 0 0) (xNX 0 0 0 0))) (qL 2) qI qI) (q5 (xNZ 0 1 64 false false (q1 (xNW 3 0 0))) (xNZ 0 1 126 false false (q1 (xNW 4 0 0))) (qB 0 1 3 (q1 qI)) (qB 0 2 52 xNO) (qB 0 2 128 xNO)) (λ(_,_,(_,_,_,_),f,g,h,_) ((d,_),(a,_),(e,_),b,c,_)=>(xed f g,(h,d,a,e,b,c),λ p=>(.leaf (.exit 0) [AV.own 0 0 0 0,AV.func 106 [AV.own 1 0 0 0,AV.own 2 0 0 0,AV.own 0 0 0 0]] [⟨0,1,64,[AV.osl 3 0 0 p.1],false,false⟩,bF 0 1 3 [AV.int .i64 p.2.1],⟨0,1,126,[AV.osl 4 0 0 p.2.2.1],false,false⟩,bF 0 2 52 p.2.2.2.1,bF 0 2 128 p.2.2.2.2]))) (0,0,0,[],[]) λ(_,_,(_,_,_,_),f,g,_,_) _ (h,d,a,e,b,c)=>((((),(),((),(),(),()),f,g,h,()),((d,()),(a,()),(e,()),b,c,())),xi2 f g h d a e b c none)
def xot(l:LA):=Iter (xed l (↑l.length:Int)) (0,0,0,0,[],[])
def xgq(l:LA):=(xot l).getD (0,0,0,[],[])
def xos(l:LA):=set2 1099511627776 0 ((xgq l).snd).fst (((xgq l).snd).snd).fst (xgq l).fst ((((xgq l).snd).snd).snd).snd ((((xgq l).snd).snd).snd).fst
def xdz(l:LA):=((xos l).getD (0,0,0,[],[])).snd.snd
def xo0{T:Type}(l:LA)(δ:T)(κ:LA->T):T:=br ((xot l).isSome) (br ((xos l).isSome) (br (((xdz l).fst).beq ((xdz l).snd.snd).length&&(decide (((xdz l).fst)<4611686018427387904)&&((xdz l).snd.snd).all isP)) (br (decide (0+((xdz l).fst)<=(srtP ((xdz l).snd.snd)).length)&&true) (κ (List.take ((xdz l).fst) (List.drop 0 (srtP ((xdz l).snd.snd))))) δ) δ) δ) δ
def xaI(l:LA):=xo0 l none some
def xI3:EO:=xB7.f Tryz.func76 30 0 [] [(6,xpF.lp)] (lk1 xpF.ok) (u1 (uL 2)) (λ(l,_) _=>xo0 l) (λ _ p=>AV.list 2 p) []
def xnG{T:Type}(a:LA)(δ:T)(κ:LA->T):T:=br ((↑a.length:Int)==1) (κ (a)) (br ((xfB a).isSome) (br ((xaI ((xfB a).getD [])).isSome) (κ ((xaI ((xfB a).getD [])).getD [])) δ) δ)
def xgs(a:LA):=xnG a none some
def xzJ:EO:=xI3.f Tryz.func115 10 0 [] [] lk0 (u1 (uL 2)) (λ(a,_) _=>xnG a) (λ _ p=>AV.list 2 p) []
def xkI{T:Type}(b e:LA)(f:Int)(c:Nat)(a:Int)(d:LA)(δ:T)(κl:(Nat×Int×LA)->T)(κr:(Nat×LA)->T):T:=br (decide (a<f)) (br (decide (0<=a)&&decide (a<e.length)) (br (decide (a.toNat<e.length)&&((e.getD a.toNat .top).cells.length==2&&xM6 [Sh.int .i64,Sh.int .i64] (e.getD a.toNat .top).cells 0)) (br (xhk ((e.getD a.toNat .top).cells.getD 0 .top).toInt ((e.getD a.toNat .top).cells.getD 1 .top).toInt) (br (c==d.length&&(decide ((c+2)*24<=140737488355328)&&decide (c+2<=4611686018427387904))) (κl (c+2,i64.wrap (a+1),d++[AV.agg [AV.int .i64 ((e.getD a.toNat .top).cells.getD 0 .top).toInt,AV.int .i64 1,AV.int .i64 0],AV.agg [AV.int .i64 ((e.getD a.toNat .top).cells.getD 1 .top).toInt,AV.int .i64 (-1),AV.int .i64 0]])) δ) (κl (c,i64.wrap (a+1),d))) δ) δ) (κr (c,d))
def xcQ(b d:LA)(e:Int):StT (Nat×Int×LA) (Nat×LA):=λ(c,f,a)=>xkI b d e c f a none inL inR
def xm6:=xzJ.l 49 0 [] [] Tryz.f129 0 lk0 [1,5,10,11,12] [1,5] [(5,3,154)] (q5 (qL 2) (xNW 0 0 0) (qL 2) qI qI) (q1 (qB 0 3 154 xNO)) (λ(b,c,d,e,f,_) (a,_)=>(xcQ b d e,(c,f,a),λ p=>(.leaf (.exit 0) [AV.list 2 b,AV.osl 0 0 0 p.1] [bF 0 3 154 p.2]))) (0,[]) λ(b,_,d,e,_,_) _ (c,f,a)=>(((b,c,d,e,f,()),(a,())),xkI b d e c f a none)
def xkJ{T:Type}(d:LA)(e:Int)(b:Nat)(a:Int)(c:LA)(δ:T)(κl:(Nat×Int×LA)->T)(κr:(Nat×LA)->T):T:=br (decide (a<e)) (br (decide (0<=a)&&decide (a<d.length)) (br (decide (a.toNat<d.length)&&((d.getD a.toNat .top).cells.length==2&&xM6 [Sh.int .i64,Sh.int .i64] (d.getD a.toNat .top).cells 0)) (br (xhk ((d.getD a.toNat .top).cells.getD 0 .top).toInt ((d.getD a.toNat .top).cells.getD 1 .top).toInt) (br (b==c.length&&(decide ((b+2)*24<=140737488355328)&&decide (b+2<=4611686018427387904))) (κl (b+2,i64.wrap (a+1),c++[AV.agg [AV.int .i64 ((d.getD a.toNat .top).cells.getD 0 .top).toInt,AV.int .i64 0,AV.int .i64 1],AV.agg [AV.int .i64 ((d.getD a.toNat .top).cells.getD 1 .top).toInt,AV.int .i64 0,AV.int .i64 (-1)]])) δ) (κl (b,i64.wrap (a+1),c))) δ) δ) (κr (b,c))
def xeU(c:LA)(d:Int):StT (Nat×Int×LA) (Nat×LA):=λ(b,e,a)=>xkJ c d b e a none inL inR
def xrh:=xzJ.l 49 0 [] [(3,xm6.lp)] Tryz.f129 1 lk0 [5,28,29,30] [5] [(5,3,154)] (q4 (xNW 0 0 0) (qL 2) qI qI) (q1 (qB 0 3 154 xNO)) (λ(b,c,d,e,_) (a,_)=>(xeU c d,(b,e,a),λ p=>(.leaf (.exit 2) [AV.osl 0 0 0 p.1] [bF 0 3 154 p.2]))) (0,[]) λ(_,c,d,_,_) _ (b,e,a)=>(((b,c,d,e,()),(a,())),xkJ c d b e a none)
def xmI(a b:LA):=(Iter (xcQ b a (↑a.length:Int)) (0,0,[])).getD (0,[])
def xmH(a b:LA):=Iter (xeU b (↑b.length:Int)) ((xmI a b).fst,0,(xmI a b).snd)
def xmG(a b:LA):=(xmH a b).getD (0,[])
def xhN(a b:LA):=(xmG a b).fst
def xhO(a b:LA):=(xmG a b).snd
def xri{T:Type}(a b:LA)(δ:T)(κ:LA->T):T:=br ((Iter (xcQ b a (↑a.length:Int)) (0,0,[])).isSome) (br ((xmH a b).isSome) (br ((xhN a b).beq (xhO a b).length&&(decide (xhN a b<4611686018427387904)&&(xhO a b).all isE)) (br (decide (0+xhN a b<=(srtE (xhO a b)).length)&&true) (κ (List.take (xhN a b) (List.drop 0 (srtE (xhO a b))))) δ) δ) δ) δ
def xin(a b:LA):=xri a b none some
def xI4:EO:=xzJ.f Tryz.func129 49 0 [] [(3,xm6.lp),(9,xrh.lp)] (lks (lkC xm6.ok (lkC xrh.ok lkN))) (u2 (uL 2) (uL 2)) (λ(a,b,_) _=>xri a b) (λ _ p=>AV.list 3 p) []
def xns(a b:Bool):Bool:=((a))
def xBR{T:Type}(a b:Bool)(δ:T)(κ:Bool->T):T:=κ (a)
def xI5:EO:=xI4.fT Tryz.func93 6 0 [] [] lk0 (λ(a,b,_)=>xBR a b none) (u2 (sEq pBool) (sEq pBool)) (λ(a,b,_)=>xns a b) (λ _ p=>(AV.bool p))
def xgp(a b:Bool):Bool:=(br (a) ((!b)) ((false)))
def xuC{T:Type}(a b:Bool)(δ:T)(κ:Bool->T):T:=br (a) (κ (!b)) (κ (false))
def xzK:EO:=xI5.fT Tryz.func98 10 0 [] [] lk0 (λ(a,b,_)=>xuC a b none) (u2 (sEq pBool) (sEq pBool)) (λ(a,b,_)=>xgp a b) (λ _ p=>(AV.bool p))
def xp8{T:Type}(l:LA)(e:Nat)(d b c i:Int)(a:LA)(δ:T)(κl:(Int×Int×Int×LA)->T)(κr:(Int×Int×Int×LA)->T):T:=br (decide (i<l.length)) (br (decide (0<=i)&&decide (i<l.length)) (br (decide (i.toNat<l.length)&&xMx (Sh.int .i64) ((l.getD i.toNat .top).cells.getD 0 .top)) (br (((l.getD i.toNat .top).cells.getD 0 .top).toInt==d) (br (decide (0<=i)&&decide (i<l.length)) (br (decide (i.toNat<l.length)&&xMx (Sh.int .i64) ((l.getD i.toNat .top).cells.getD 1 .top)) (br (decide (0<=i)&&decide (i<l.length)) (br (decide (i.toNat<l.length)&&xMx (Sh.int .i64) ((l.getD i.toNat .top).cells.getD 2 .top)) (κl (i64.wrap (b+((l.getD i.toNat .top).cells.getD 1 .top).toInt),i64.wrap (c+((l.getD i.toNat .top).cells.getD 2 .top).toInt),i64.wrap (i+1),a)) δ) δ) δ) δ) (κr (b,c,i,a))) δ) δ) (κr (b,c,i,a))
def xjU(l:LA)(b:Nat)(c:Int):StT (Int×Int×Int×LA) (Int×Int×Int×LA):=λ(d,e,i,a)=>xp8 l b c d e i a none inL inR
def xiq:=xzK.l 92 0 [] [] Tryz.f92 1 lk0 [2,7,8,9,10,11,12] [2,7,8,9,10,11,12] [(8,2,52)] (q7 (xNo 93 xNM) (qL 3) (xNW 0 0 0) qI qI qI qI) (q1 (qB 0 2 52 xNO)) (λ(_,l,a,d,e,i,c,_) (b,_)=>(xjU l a c,(d,e,i,b),λ p=>(.leaf (.exit 2) [AV.func 93 [],AV.list 3 l,AV.osl 0 0 0 a,AV.int .i64 p.1,AV.int .i64 p.2.1,AV.int .i64 p.2.2.1,AV.int .i64 c] [bF 0 2 52 p.2.2.2]))) (0,0,0,[]) λ(_,l,a,_,_,_,c,_) _ (d,e,i,b)=>((((),l,a,d,e,i,c,()),(b,())),xp8 l a c d e i b none)
def xip(a:Nat):=decide (0<=i64.wrap ((↑a:Int) - 1))&&decide (i64.wrap ((↑a:Int) - 1)<(↑a:Int))
def xao(l:LA)(b:Nat)(d e i c:Int)(a:LA):=(Iter (xjU l b c) (d,e,i,a)).getD (0,0,0,[])
def xa6(a:Nat):Nat:=0+(i64.wrap ((↑a:Int) - 1)).toNat
def xaq(l:LA)(b:Nat)(d e i c:Int)(a:LA):=(((xao l b d e i c a).snd).snd).snd
def xpB(l:LA)(b:Nat)(d e i c:Int)(a:LA):=xns (decide (((xao l b d e i c a).fst)>0)) (decide ((((xao l b d e i c a).snd).fst)>0))
def xas(l:LA)(b:Nat)(d e i c:Int)(a:LA):=(((xao l b d e i c a).snd).snd).fst
def xio(l:LA)(a:Nat)(d e i c:Int)(b:LA):=decide (xa6 a<(xaq l a d e i c b).length)
def xp7{T:Type}(l:LA)(a:Nat)(d e i c:Int)(b:LA)(δ:T)(κl:(Nat×Int×Int×Int×Int×LA)->T)(κr:(Nat×LA)->T):T:=br (decide (c<1099511627776)) (br ((Iter (xjU l a c) (d,e,i,b)).isSome) (br (decide (xas l a d e i c b<l.length)) (br (decide (0<=xas l a d e i c b)&&(decide (xas l a d e i c b<l.length))) (br (decide ((xas l a d e i c b).toNat<l.length)&&xMx (Sh.int .i64) ((l.getD (xas l a d e i c b).toNat .top).cells.getD 0 .top)) (br (xpB l a d e i c b) (br (decide ((↑a:Int)>0)) (br (xip a) (br (xio l a d e i c b&&xMx (Sh.int .i64) (((xaq l a d e i c b).getD (xa6 a) .top).cells.getD 1 .top)) (br ((((xaq l a d e i c b).getD (xa6 a) .top).cells.getD 1 .top).toInt==c) (br (xip a) (br (xio l a d e i c b) (κl (a,((xao l a d e i c b).fst),(((xao l a d e i c b).snd).fst),xas l a d e i c b,((l.getD (xas l a d e i c b).toNat .top).cells.getD 0 .top).toInt,(xaq l a d e i c b).set (xa6 a) (AV.agg (List.take 1 ((xaq l a d e i c b).getD (xa6 a) .top).cells++[AV.int .i64 ((l.getD (xas l a d e i c b).toNat .top).cells.getD 0 .top).toInt]++List.drop 2 ((xaq l a d e i c b).getD (xa6 a) .top).cells)))) δ) δ) (br (a==(xaq l a d e i c b).length&&(decide ((a+1)*16<=140737488355328)&&decide (a+1<=4611686018427387904))) (κl (a+1,((xao l a d e i c b).fst),(((xao l a d e i c b).snd).fst),xas l a d e i c b,((l.getD (xas l a d e i c b).toNat .top).cells.getD 0 .top).toInt,xaq l a d e i c b++[AV.agg [AV.int .i64 c,AV.int .i64 ((l.getD (xas l a d e i c b).toNat .top).cells.getD 0 .top).toInt]])) δ)) δ) δ) (br (a==(xaq l a d e i c b).length&&(decide ((a+1)*16<=140737488355328)&&decide (a+1<=4611686018427387904))) (κl (a+1,((xao l a d e i c b).fst),(((xao l a d e i c b).snd).fst),xas l a d e i c b,((l.getD (xas l a d e i c b).toNat .top).cells.getD 0 .top).toInt,xaq l a d e i c b++[AV.agg [AV.int .i64 c,AV.int .i64 ((l.getD (xas l a d e i c b).toNat .top).cells.getD 0 .top).toInt]])) δ)) (κl (a,((xao l a d e i c b).fst),(((xao l a d e i c b).snd).fst),xas l a d e i c b,((l.getD (xas l a d e i c b).toNat .top).cells.getD 0 .top).toInt,xaq l a d e i c b))) δ) δ) (br (xpB l a d e i c b) (br (decide ((↑a:Int)>0)) (br (xip a) (br (xio l a d e i c b&&xMx (Sh.int .i64) (((xaq l a d e i c b).getD (xa6 a) .top).cells.getD 1 .top)) (br ((((xaq l a d e i c b).getD (xa6 a) .top).cells.getD 1 .top).toInt==c) (br (xip a) (br (xio l a d e i c b) (κl (a,((xao l a d e i c b).fst),(((xao l a d e i c b).snd).fst),xas l a d e i c b,1099511627776,(xaq l a d e i c b).set (xa6 a) (AV.agg (List.take 1 ((xaq l a d e i c b).getD (xa6 a) .top).cells++[AV.int .i64 1099511627776]++List.drop 2 ((xaq l a d e i c b).getD (xa6 a) .top).cells)))) δ) δ) (br (a==(xaq l a d e i c b).length&&(decide ((a+1)*16<=140737488355328)&&decide (a+1<=4611686018427387904))) (κl (a+1,((xao l a d e i c b).fst),(((xao l a d e i c b).snd).fst),xas l a d e i c b,1099511627776,xaq l a d e i c b++[AV.agg [AV.int .i64 c,AV.int .i64 1099511627776]])) δ)) δ) δ) (br (a==(xaq l a d e i c b).length&&(decide ((a+1)*16<=140737488355328)&&decide (a+1<=4611686018427387904))) (κl (a+1,((xao l a d e i c b).fst),(((xao l a d e i c b).snd).fst),xas l a d e i c b,1099511627776,xaq l a d e i c b++[AV.agg [AV.int .i64 c,AV.int .i64 1099511627776]])) δ)) (κl (a,((xao l a d e i c b).fst),(((xao l a d e i c b).snd).fst),xas l a d e i c b,1099511627776,xaq l a d e i c b)))) δ) (κr (a,b))
def xoo(l:LA):StT (Nat×Int×Int×Int×Int×LA) (Nat×LA):=λ(b,d,e,i,c,a)=>xp7 l b d e i c a none inL inR
def xpA:=xzK.l 92 0 [] [(6,xiq.lp)] Tryz.f92 0 (lk1 xiq.ok) [2,7,8,9,10,11,12] [8] [(8,2,52)] (q7 (xNo 93 xNM) (qL 3) (xNW 0 0 0) qI qI qI qI) (q1 (qB 0 2 52 xNO)) (λ(_,l,b,d,e,i,c,_) (a,_)=>(xoo l,(b,d,e,i,c,a),λ p=>(.leaf (.exit 0) [AV.osl 0 0 0 p.1] [bF 0 2 52 p.2]))) (0,[]) λ(_,l,_,_,_,_,_,_) _ (b,d,e,i,c,a)=>((((),l,b,d,e,i,c,()),(a,())),xp7 l b d e i c a none)
def xrF(a b:LA):=Iter (xoo ((xin a b).getD [])) (0,0,0,0,0,[])
def xkK(a b:LA):=(xrF a b).getD (0,[])
def xsp{T:Type}(a b:LA)(δ:T)(κ:LA->T):T:=br ((xin a b).isSome) (br ((xrF a b).isSome) (br (decide (0+((xkK a b).fst)<=((xkK a b).snd).length)&&true) (κ (List.take ((xkK a b).fst) (List.drop 0 ((xkK a b).snd)))) δ) δ) δ
def xrj(a b:LA):=xsp a b none some
def xI6:EO:=xzK.f Tryz.func92 92 0 [] [(6,xiq.lp),(5,xpA.lp)] (lks (lkC xpA.ok (lkC xiq.ok lkN))) (u3 (uL 2) (uL 2) (sEq (xNo (93:FuncId) xNM))) (λ(a,b,_,_) _=>xsp a b) (λ _ p=>AV.list 2 p) []
def xuf{T:Type}(l:LA)(δ:T)(κ:LA->T):T:=br ((xrj l []).isSome) (κ ((xrj l []).getD [])) δ
def xj5(l:LA):=xuf l none some
def xzL:EO:=xI6.f Tryz.func61 5 0 [] [] lk0 (u1 (uL 2)) (λ(l,_) _=>xuf l) (λ _ p=>AV.list 2 p) []
def xqa{T:Type}(l:LA)(e:Nat)(d b c i:Int)(a:LA)(δ:T)(κl:(Int×Int×Int×LA)->T)(κr:(Int×Int×Int×LA)->T):T:=br (decide (i<l.length)) (br (decide (0<=i)&&decide (i<l.length)) (br (decide (i.toNat<l.length)&&xMx (Sh.int .i64) ((l.getD i.toNat .top).cells.getD 0 .top)) (br (((l.getD i.toNat .top).cells.getD 0 .top).toInt==d) (br (decide (0<=i)&&decide (i<l.length)) (br (decide (i.toNat<l.length)&&xMx (Sh.int .i64) ((l.getD i.toNat .top).cells.getD 1 .top)) (br (decide (0<=i)&&decide (i<l.length)) (br (decide (i.toNat<l.length)&&xMx (Sh.int .i64) ((l.getD i.toNat .top).cells.getD 2 .top)) (κl (i64.wrap (b+((l.getD i.toNat .top).cells.getD 1 .top).toInt),i64.wrap (c+((l.getD i.toNat .top).cells.getD 2 .top).toInt),i64.wrap (i+1),a)) δ) δ) δ) δ) (κr (b,c,i,a))) δ) δ) (κr (b,c,i,a))
def xjV(l:LA)(b:Nat)(c:Int):StT (Int×Int×Int×LA) (Int×Int×Int×LA):=λ(d,e,i,a)=>xqa l b c d e i a none inL inR
def xit:=xzL.l 92 0 [] [] Tryz.f92 1 lk0 [2,7,8,9,10,11,12] [2,7,8,9,10,11,12] [(8,2,52)] (q7 (xNo 98 xNM) (qL 3) (xNW 0 0 0) qI qI qI qI) (q1 (qB 0 2 52 xNO)) (λ(_,l,a,d,e,i,c,_) (b,_)=>(xjV l a c,(d,e,i,b),λ p=>(.leaf (.exit 2) [AV.func 98 [],AV.list 3 l,AV.osl 0 0 0 a,AV.int .i64 p.1,AV.int .i64 p.2.1,AV.int .i64 p.2.2.1,AV.int .i64 c] [bF 0 2 52 p.2.2.2]))) (0,0,0,[]) λ(_,l,a,_,_,_,c,_) _ (d,e,i,b)=>((((),l,a,d,e,i,c,()),(b,())),xqa l a c d e i b none)
def xis(a:Nat):=decide (0<=i64.wrap ((↑a:Int) - 1))&&decide (i64.wrap ((↑a:Int) - 1)<(↑a:Int))
def xap(l:LA)(b:Nat)(d e i c:Int)(a:LA):=(Iter (xjV l b c) (d,e,i,a)).getD (0,0,0,[])
def xa7(a:Nat):Nat:=0+(i64.wrap ((↑a:Int) - 1)).toNat
def xar(l:LA)(b:Nat)(d e i c:Int)(a:LA):=(((xap l b d e i c a).snd).snd).snd
def xpD(l:LA)(b:Nat)(d e i c:Int)(a:LA):=xgp (decide (((xap l b d e i c a).fst)>0)) (decide ((((xap l b d e i c a).snd).fst)>0))
def xat(l:LA)(b:Nat)(d e i c:Int)(a:LA):=(((xap l b d e i c a).snd).snd).fst
def xir(l:LA)(a:Nat)(d e i c:Int)(b:LA):=decide (xa7 a<(xar l a d e i c b).length)
def xp9{T:Type}(l:LA)(a:Nat)(d e i c:Int)(b:LA)(δ:T)(κl:(Nat×Int×Int×Int×Int×LA)->T)(κr:(Nat×LA)->T):T:=br (decide (c<1099511627776)) (br ((Iter (xjV l a c) (d,e,i,b)).isSome) (br (decide (xat l a d e i c b<l.length)) (br (decide (0<=xat l a d e i c b)&&(decide (xat l a d e i c b<l.length))) (br (decide ((xat l a d e i c b).toNat<l.length)&&xMx (Sh.int .i64) ((l.getD (xat l a d e i c b).toNat .top).cells.getD 0 .top)) (br (xpD l a d e i c b) (br (decide ((↑a:Int)>0)) (br (xis a) (br (xir l a d e i c b&&xMx (Sh.int .i64) (((xar l a d e i c b).getD (xa7 a) .top).cells.getD 1 .top)) (br ((((xar l a d e i c b).getD (xa7 a) .top).cells.getD 1 .top).toInt==c) (br (xis a) (br (xir l a d e i c b) (κl (a,((xap l a d e i c b).fst),(((xap l a d e i c b).snd).fst),xat l a d e i c b,((l.getD (xat l a d e i c b).toNat .top).cells.getD 0 .top).toInt,(xar l a d e i c b).set (xa7 a) (AV.agg (List.take 1 ((xar l a d e i c b).getD (xa7 a) .top).cells++[AV.int .i64 ((l.getD (xat l a d e i c b).toNat .top).cells.getD 0 .top).toInt]++List.drop 2 ((xar l a d e i c b).getD (xa7 a) .top).cells)))) δ) δ) (br (a==(xar l a d e i c b).length&&(decide ((a+1)*16<=140737488355328)&&decide (a+1<=4611686018427387904))) (κl (a+1,((xap l a d e i c b).fst),(((xap l a d e i c b).snd).fst),xat l a d e i c b,((l.getD (xat l a d e i c b).toNat .top).cells.getD 0 .top).toInt,xar l a d e i c b++[AV.agg [AV.int .i64 c,AV.int .i64 ((l.getD (xat l a d e i c b).toNat .top).cells.getD 0 .top).toInt]])) δ)) δ) δ) (br (a==(xar l a d e i c b).length&&(decide ((a+1)*16<=140737488355328)&&decide (a+1<=4611686018427387904))) (κl (a+1,((xap l a d e i c b).fst),(((xap l a d e i c b).snd).fst),xat l a d e i c b,((l.getD (xat l a d e i c b).toNat .top).cells.getD 0 .top).toInt,xar l a d e i c b++[AV.agg [AV.int .i64 c,AV.int .i64 ((l.getD (xat l a d e i c b).toNat .top).cells.getD 0 .top).toInt]])) δ)) (κl (a,((xap l a d e i c b).fst),(((xap l a d e i c b).snd).fst),xat l a d e i c b,((l.getD (xat l a d e i c b).toNat .top).cells.getD 0 .top).toInt,xar l a d e i c b))) δ) δ) (br (xpD l a d e i c b) (br (decide ((↑a:Int)>0)) (br (xis a) (br (xir l a d e i c b&&xMx (Sh.int .i64) (((xar l a d e i c b).getD (xa7 a) .top).cells.getD 1 .top)) (br ((((xar l a d e i c b).getD (xa7 a) .top).cells.getD 1 .top).toInt==c) (br (xis a) (br (xir l a d e i c b) (κl (a,((xap l a d e i c b).fst),(((xap l a d e i c b).snd).fst),xat l a d e i c b,1099511627776,(xar l a d e i c b).set (xa7 a) (AV.agg (List.take 1 ((xar l a d e i c b).getD (xa7 a) .top).cells++[AV.int .i64 1099511627776]++List.drop 2 ((xar l a d e i c b).getD (xa7 a) .top).cells)))) δ) δ) (br (a==(xar l a d e i c b).length&&(decide ((a+1)*16<=140737488355328)&&decide (a+1<=4611686018427387904))) (κl (a+1,((xap l a d e i c b).fst),(((xap l a d e i c b).snd).fst),xat l a d e i c b,1099511627776,xar l a d e i c b++[AV.agg [AV.int .i64 c,AV.int .i64 1099511627776]])) δ)) δ) δ) (br (a==(xar l a d e i c b).length&&(decide ((a+1)*16<=140737488355328)&&decide (a+1<=4611686018427387904))) (κl (a+1,((xap l a d e i c b).fst),(((xap l a d e i c b).snd).fst),xat l a d e i c b,1099511627776,xar l a d e i c b++[AV.agg [AV.int .i64 c,AV.int .i64 1099511627776]])) δ)) (κl (a,((xap l a d e i c b).fst),(((xap l a d e i c b).snd).fst),xat l a d e i c b,1099511627776,xar l a d e i c b)))) δ) (κr (a,b))
def xoq(l:LA):StT (Nat×Int×Int×Int×Int×LA) (Nat×LA):=λ(b,d,e,i,c,a)=>xp9 l b d e i c a none inL inR
def xpC:=xzL.l 92 0 [] [(6,xit.lp)] Tryz.f92 0 (lk1 xit.ok) [2,7,8,9,10,11,12] [8] [(8,2,52)] (q7 (xNo 98 xNM) (qL 3) (xNW 0 0 0) qI qI qI qI) (q1 (qB 0 2 52 xNO)) (λ(_,l,b,d,e,i,c,_) (a,_)=>(xoq l,(b,d,e,i,c,a),λ p=>(.leaf (.exit 0) [AV.osl 0 0 0 p.1] [bF 0 2 52 p.2]))) (0,[]) λ(_,l,_,_,_,_,_,_) _ (b,d,e,i,c,a)=>((((),l,b,d,e,i,c,()),(a,())),xp9 l b d e i c a none)
def xrG(a b:LA):=Iter (xoq ((xin a b).getD [])) (0,0,0,0,0,[])
def xkL(a b:LA):=(xrG a b).getD (0,[])
def xsq{T:Type}(a b:LA)(δ:T)(κ:LA->T):T:=br ((xin a b).isSome) (br ((xrG a b).isSome) (br (decide (0+((xkL a b).fst)<=((xkL a b).snd).length)&&true) (κ (List.take ((xkL a b).fst) (List.drop 0 ((xkL a b).snd)))) δ) δ) δ
def xrk(a b:LA):=xsq a b none some
def xI7:EO:=xzL.f Tryz.func92 92 0 [] [(6,xit.lp),(5,xpC.lp)] (lks (lkC xpC.ok (lkC xit.ok lkN))) (u3 (uL 2) (uL 2) (sEq (xNo (98:FuncId) xNM))) (λ(a,b,_,_) _=>xsq a b) (λ _ p=>AV.list 2 p) []
def xon{T:Type}(a b:LA)(δ:T)(κ:LA->T):T:=br ((xrk a b).isSome) (κ ((xrk a b).getD [])) δ
def xgA(a b:LA):=xon a b none some
def xzM:EO:=xI7.f Tryz.func63 8 0 [] [] lk0 (u2 (uL 2) (uL 2)) (λ(a,b,_) _=>xon a b) (λ _ p=>AV.list 2 p) []
def xga{T:Type}(h:LA)(i j:Int)(e:LA)(f:Int)(d:Nat)(c:Int)(a b g:LA)(δ:T)(κl:(Nat×Int×LA×LA×LA)->T)(κr:(Nat×LA)->T):T:=br (decide (c<f)) (br (ixI e c) (br (ixT e c 2 [Sh.int .i64,Sh.int .i64] 0) (br (decide (b.length*32<=140737488355328)&&decide (b.length<=4611686018427387904)) (br (decide (0+b.length<=b.length)&&true&&true&&true&&true) (br (rmB d a 1 40) (κl (d+1,i64.wrap (c+1),a++[AV.agg [AV.list 3 (List.take b.length (List.drop 0 b)),AV.int .i64 (gC e c 0).toInt,AV.int .i64 (gC e c 1).toInt]],b,g)) δ) δ) δ) δ) δ) (κr (d,a))
def xcz(c:LA)(d e:Int)(f:LA)(g:Int):StT (Nat×Int×LA×LA×LA) (Nat×LA):=λ(b,h,a,i,j)=>xga c d e f g b h a i j none inL inR
def xfQ:=xzM.l 38 0 [54] [] Tryz.f89 1 lk0 [1,5,7,11,12,13,20,21,22] [1,5,11,12,13] [(5,3,54)] (q9 (xNo 115 xNM) (xNW 0 0 0) (xNX 1 0 0 0) (qL 2) qI qI (qL 2) qI qI) (q2 (qB 0 3 54 xNO) (qB 0 2 148 (q1 (xNY (q2 (qL 3) (qL 2)))))) (λ(_,b,_,c,d,e,f,g,h,_) (a,((i,j,_),_),_)=>(xcz c d e f g,(b,h,a,i,j),λ p=>(.leaf (.exit 2) [AV.func 115 [],AV.osl 0 0 0 p.1,AV.list 2 c,AV.int .i64 d,AV.int .i64 e] [bF 0 3 54 p.2]))) (0,[]) λ(_,_,_,c,d,e,f,g,_,_) _ (b,h,a,i,j)=>((((),b,(),c,d,e,f,g,h,()),(a,((i,j,()),()),())),xga c d e f g b h a i j none)
def xfP(a:LA)(e:Int)(d:Nat)(b:Int)(c:LA):=Iter (xcz a e b ((xgs (gC a b 1).toList).getD []) (↑((xgs (gC a b 1).toList).getD []).length:Int)) (d,0,c,(gC a b 0).toList,(gC a b 1).toList)
def xf9{T:Type}(d:LA)(e:Int)(c:Nat)(b:Int)(a:LA)(δ:T)(κl:(Nat×Int×LA)->T)(κr:(Nat×LA)->T):T:=br (decide (b<e)) (br (ixI d b) (br (ixT d b 2 [Sh.list 3,Sh.list 2] 0) (br ((xgs (gC d b 1).toList).isSome) (br ((xfP d e c b a).isSome) (κl (((xfP d e c b a).getD (0,[])).fst,i64.wrap (b+1),((xfP d e c b a).getD (0,[])).snd)) δ) δ) δ) δ) (κr (c,a))
def xdC(c:LA)(d:Int):StT (Nat×Int×LA) (Nat×LA):=λ(b,e,a)=>xf9 c d b e a none inL inR
def xmk:=xzM.l 38 0 [54] [(6,xfQ.lp)] Tryz.f89 0 (lk1 xfQ.ok) [1,5,11,12,13] [5] [(5,3,54)] (q5 (xNo 115 xNM) (xNW 0 0 0) (qL 2) qI qI) (q1 (qB 0 3 54 xNO)) (λ(_,b,c,d,e,_) (a,_)=>(xdC c d,(b,e,a),λ p=>(.leaf (.exit 0) [AV.osl 0 0 0 p.1] [bF 0 3 54 p.2]))) (0,[]) λ(_,_,c,d,_,_) _ (b,e,a)=>((((),b,c,d,e,()),(a,())),xf9 c d b e a none)
def xj7(l:LA):=Iter (xdC ((xfk l).getD []) (↑((xfk l).getD []).length:Int)) (0,0,[])
def xft(l:LA):=(xj7 l).getD (0,[])
def xkS{T:Type}(l:LA)(δ:T)(κ:LA->T):T:=br ((xfk l).isSome) (br ((xj7 l).isSome) (br (decide (0+((xft l).fst)<=((xft l).snd).length)&&true) (κ (List.take ((xft l).fst) (List.drop 0 ((xft l).snd)))) δ) δ) δ
def xmO(l:LA):=xkS l none some
def xI8:EO:=xzM.f Tryz.func89 38 0 [54] [(6,xfQ.lp),(3,xmk.lp)] (lks (lkC xmk.ok (lkC xfQ.ok lkN))) (u2 (uL 3) (sEq (xNo (115:FuncId) xNM))) (λ(l,_,_) _=>xkS l) (λ _ p=>AV.list 3 p) []
def xoH{T:Type}(l:LA)(δ:T)(κ:LA->T):T:=br ((xmO l).isSome) (κ ((xmO l).getD [])) δ
def xcy(l:LA):=xoH l none some
def xzN:EO:=xI8.f Tryz.func78 5 0 [] [] lk0 (u1 (uL 3)) (λ(l,_) _=>xoH l) (λ _ p=>AV.list 3 p) []
def xnb{T:Type}(h:LA)(i j:Int)(e:LA)(f:Int)(d:Nat)(c:Int)(a b g:LA)(δ:T)(κl:(Nat×Int×LA×LA×LA)->T)(κr:(Nat×LA)->T):T:=br (decide (c<f)) (br (ixI e c) (br (ixT e c 2 [Sh.int .i64,Sh.int .i64] 0) (br (decide (b.length*32<=140737488355328)&&decide (b.length<=4611686018427387904)) (br (decide (0+b.length<=b.length)&&true&&true&&true&&true) (br (rmB d a 1 40) (κl (d+1,i64.wrap (c+1),a++[AV.agg [AV.list 3 (List.take b.length (List.drop 0 b)),AV.int .i64 (gC e c 0).toInt,AV.int .i64 (gC e c 1).toInt]],b,g)) δ) δ) δ) δ) δ) (κr (d,a))
def xhh(c:LA)(d e:Int)(f:LA)(g:Int):StT (Nat×Int×LA×LA×LA) (Nat×LA):=λ(b,h,a,i,j)=>xnb c d e f g b h a i j none inL inR
def xfS:=xzN.l 38 0 [54] [] Tryz.f89 1 lk0 [1,5,7,11,12,13,20,21,22] [1,5,11,12,13] [(5,3,54)] (q9 (xNo 61 xNM) (xNW 0 0 0) (xNX 1 0 0 0) (qL 2) qI qI (qL 2) qI qI) (q2 (qB 0 3 54 xNO) (qB 0 2 148 (q1 (xNY (q2 (qL 3) (qL 2)))))) (λ(_,b,_,c,d,e,f,g,h,_) (a,((i,j,_),_),_)=>(xhh c d e f g,(b,h,a,i,j),λ p=>(.leaf (.exit 2) [AV.func 61 [],AV.osl 0 0 0 p.1,AV.list 2 c,AV.int .i64 d,AV.int .i64 e] [bF 0 3 54 p.2]))) (0,[]) λ(_,_,_,c,d,e,f,g,_,_) _ (b,h,a,i,j)=>((((),b,(),c,d,e,f,g,h,()),(a,((i,j,()),()),())),xnb c d e f g b h a i j none)
def xfR(a:LA)(e:Int)(d:Nat)(b:Int)(c:LA):=Iter (xhh a e b ((xj5 (gC a b 1).toList).getD []) (↑((xj5 (gC a b 1).toList).getD []).length:Int)) (d,0,c,(gC a b 0).toList,(gC a b 1).toList)
def xgb{T:Type}(d:LA)(e:Int)(c:Nat)(b:Int)(a:LA)(δ:T)(κl:(Nat×Int×LA)->T)(κr:(Nat×LA)->T):T:=br (decide (b<e)) (br (ixI d b) (br (ixT d b 2 [Sh.list 3,Sh.list 2] 0) (br ((xj5 (gC d b 1).toList).isSome) (br ((xfR d e c b a).isSome) (κl (((xfR d e c b a).getD (0,[])).fst,i64.wrap (b+1),((xfR d e c b a).getD (0,[])).snd)) δ) δ) δ) δ) (κr (c,a))
def xdD(c:LA)(d:Int):StT (Nat×Int×LA) (Nat×LA):=λ(b,e,a)=>xgb c d b e a none inL inR
def xml:=xzN.l 38 0 [54] [(6,xfS.lp)] Tryz.f89 0 (lk1 xfS.ok) [1,5,11,12,13] [5] [(5,3,54)] (q5 (xNo 61 xNM) (xNW 0 0 0) (qL 2) qI qI) (q1 (qB 0 3 54 xNO)) (λ(_,b,c,d,e,_) (a,_)=>(xdD c d,(b,e,a),λ p=>(.leaf (.exit 0) [AV.osl 0 0 0 p.1] [bF 0 3 54 p.2]))) (0,[]) λ(_,_,c,d,_,_) _ (b,e,a)=>((((),b,c,d,e,()),(a,())),xgb c d b e a none)
def xj8(l:LA):=Iter (xdD ((xfk l).getD []) (↑((xfk l).getD []).length:Int)) (0,0,[])
def xfu(l:LA):=(xj8 l).getD (0,[])
def xkT{T:Type}(l:LA)(δ:T)(κ:LA->T):T:=br ((xfk l).isSome) (br ((xj8 l).isSome) (br (decide (0+((xfu l).fst)<=((xfu l).snd).length)&&true) (κ (List.take ((xfu l).fst) (List.drop 0 ((xfu l).snd)))) δ) δ) δ
def xmP(l:LA):=xkT l none some
def xI9:EO:=xzN.f Tryz.func89 38 0 [54] [(6,xfS.lp),(3,xml.lp)] (lks (lkC xml.ok (lkC xfS.ok lkN))) (u2 (uL 3) (sEq (xNo (61:FuncId) xNM))) (λ(l,_,_) _=>xkT l) (λ _ p=>AV.list 3 p) []
def xoI{T:Type}(l:LA)(δ:T)(κ:LA->T):T:=br ((xmP l).isSome) (κ ((xmP l).getD [])) δ
def xi8(l:LA):=xoI l none some
def xJa:EO:=xI9.f Tryz.func55 5 0 [] [] lk0 (u1 (uL 3)) (λ(l,_) _=>xoI l) (λ _ p=>AV.list 3 p) []
def xoy(a b:Int):Int:=((a))
def xA8{T:Type}(a b:Int)(δ:T)(κ:Int->T):T:=κ (a)
def xD7:EO:=xJa.fT Tryz.func118 5 0 [] [] lk0 (λ((a,b,_),_)=>xA8 a b none) (u1 (xN0 (u2 uI uI))) (λ((a,b,_),_)=>xoy a b) (λ _ p=>(AV.int .i64 p))
def xqc(b:Nat)(a:LA):=decide (0+(i64.wrap ((↑b:Int) - 1)).toNat<a.length)&&xMx (Sh.int .i64) ((a.getD (0+(i64.wrap ((↑b:Int) - 1)).toNat) .top).cells.getD 0 .top)
def xqd(a:Nat):=decide (0<=i64.wrap ((↑a:Int) - 1))&&decide (i64.wrap ((↑a:Int) - 1)<(↑a:Int))
def xi3(b:LA)(k:Int):=decide (k.toNat<b.length)&&((b.getD k.toNat .top).cells.length==2&&xM6 [Sh.int .i64,Sh.int .i64] (b.getD k.toNat .top).cells 0)
def xi4(a:LA)(i:Int):=decide (i.toNat<a.length)&&((a.getD i.toNat .top).cells.length==2&&xM6 [Sh.int .i64,Sh.int .i64] (a.getD i.toNat .top).cells 0)
def xi5(b:LA)(k:Int):=ixI b k
def xi6(a:LA)(i:Int):=ixI a i
def xqe(a:Nat):=(↑a:Int)==0
def xf3(b:LA)(k:Int):=xoy (gC b k 0).toInt (gC b k 1).toInt
def xf4(a:LA)(i:Int):=xoy (gC a i 0).toInt (gC a i 1).toInt
def xmh(a:LA)(c:Nat)(i:Int)(b:LA):=((b.getD (0+(i64.wrap ((↑c:Int) - 1)).toNat) .top).cells.getD 0 .top).toInt !=xf4 a i
def xmi(b:LA)(c:Nat)(k:Int)(a:LA):=((a.getD (0+(i64.wrap ((↑c:Int) - 1)).toNat) .top).cells.getD 0 .top).toInt !=xf3 b k
def xgH(a b:LA)(i k:Int):=decide (xf4 a i<=xf3 b k)
def xf1{T:Type}(a:LA)(c:Nat)(i k:Int)(b:LA)(δ:T)(κl:(Nat×Int×Int×LA)->T):T:=br (rmB c b 1 8) (κl (c+1,i64.wrap (i+1),k,b++[AV.int .i64 (xf4 a i)])) δ
def xfx{T:Type}(a:LA)(b:Nat)(i k:Int)(c:LA)(δ:T)(κl:(Nat×Int×Int×LA)->T):T:=br (xi6 a i) (br (xi4 a i) (br (xqe b) (xf1 a b i k c δ κl) (br (xqd b) (br (xqc b c) (br (xmh a b i c) (xf1 a b i k c δ κl) (κl (b,i64.wrap (i+1),k,c))) δ) δ)) δ) δ
def xf2{T:Type}(b:LA)(c:Nat)(i k:Int)(a:LA)(δ:T)(κl:(Nat×Int×Int×LA)->T):T:=br (rmB c a 1 8) (κl (c+1,i,i64.wrap (k+1),a++[AV.int .i64 (xf3 b k)])) δ
def xf0{T:Type}(b:LA)(a:Nat)(i k:Int)(c:LA)(δ:T)(κl:(Nat×Int×Int×LA)->T):T:=br (xi5 b k) (br (xi3 b k) (br (xqe a) (xf2 b a i k c δ κl) (br (xqd a) (br (xqc a c) (br (xmi b a k c) (xf2 b a i k c δ κl) (κl (a,i,i64.wrap (k+1),c))) δ) δ)) δ) δ
def xfZ{T:Type}(a b:LA)(d:Nat)(i k:Int)(c:LA)(δ:T)(κl:(Nat×Int×Int×LA)->T):T:=br (k==(↑b.length:Int)) (xfx a d i k c δ κl) (br (decide (i<a.length)) (br (xi6 a i) (br (xi4 a i) (br (xi5 b k) (br (xi3 b k) (br (xgH a b i k) (xfx a d i k c δ κl) (xf0 b d i k c δ κl)) δ) δ) δ) δ) (xf0 b d i k c δ κl))
def xhs{T:Type}(a b:LA)(d:Nat)(i k:Int)(c:LA)(δ:T)(κl:(Nat×Int×Int×LA)->T)(κr:(Nat×LA)->T):T:=br (decide (i<a.length)) (xfZ a b d i k c δ κl) (br (decide (k<b.length)) (xfZ a b d i k c δ κl) (κr (d,c)))
def xbx(a b:LA):StT (Nat×Int×Int×LA) (Nat×LA):=λ(d,i,k,c)=>xhs a b d i k c none inL inR
def xqb:=xD7.l 83 0 [] [] Tryz.f117 0 lk0 [0,1,2,3,9,10,11] [9] [(9,1,3)] (q7 (qL 2) (qL 2) (xNo 118 xNM) (xNo 118 xNM) (xNW 0 0 0) qI qI) (q1 (qB 0 1 3 xNO)) (λ(a,b,_,_,d,i,k,_) (c,_)=>(xbx a b,(d,i,k,c),λ p=>(.leaf (.exit 0) [AV.osl 0 0 0 p.1] [bF 0 1 3 p.2]))) (0,[]) λ(a,b,_,_,_,_,_,_) _ (d,i,k,c)=>(((a,b,(),(),d,i,k,()),(c,())),xhs a b d i k c none)
def xhf(a b:LA):=Iter (xbx a b) (0,0,0,[])
def xp1{T:Type}(a b:LA)(δ:T)(κ:LA->T):T:=br ((xhf a b).isSome) (br (decide (0+(((xhf a b).getD (0,[])).fst)<=(((xhf a b).getD (0,[])).snd).length)&&true) (κ (List.take (((xhf a b).getD (0,[])).fst) (List.drop 0 (((xhf a b).getD (0,[])).snd)))) δ) δ
def xcq(a b:LA):=xp1 a b none some
def xIS:EO:=xD7.f Tryz.func117 83 0 [] [(3,xqb.lp)] (lk1 xqb.ok) (u4 (uL 2) (uL 2) (sEq (xNo (118:FuncId) xNM)) (sEq (xNo (118:FuncId) xNM))) (λ(a,b,_,_,_) _=>xp1 a b) (λ _ p=>AV.list 1 p) []
def xiE(a b t:Int):Int:=((xdP a t))
def xzG{T:Type}(a b t:Int)(δ:T)(κ:Int->T):T:=κ (xdP a t)
def xD8:EO:=xIS.fT Tryz.func170 9 0 [] [] lk0 (λ((a,b,_),t,_)=>xzG a b t none) (u2 (xN0 (u2 uI uI)) uI) (λ((a,b,_),t,_)=>xiE a b t) (λ _ p=>(AV.int .i64 p))
def xaQ(i j:Int):=i64.wrap ((u64.wrap (i64.wrap (i+j))).fdiv 2)
def xbB(x:LA)(i j:Int):=(x.getD (xaQ i j).toNat .top).cells
def xbJ{T:Type}(x:LA)(a n i j:Int)(δ:T)(κl:(Int×Int)->T)(κr:(Int)->T):T:=br (decide (i<j)) (br (decide (0<=xaQ i j)&&decide (xaQ i j<x.length)) (br (decide ((xaQ i j).toNat<x.length)&&((xbB x i j).length==2&&xM6 [Sh.int .i64,Sh.int .i64] (xbB x i j) 0)) (br (decide (xiE ((xbB x i j).getD 0 .top).toInt ((xbB x i j).getD 1 .top).toInt a<0)) (κl (i64.wrap (xaQ i j+1),j)) (κl (i,xaQ i j))) δ) δ) (κr (i))
def xay(x:LA)(a n:Int):StT (Int×Int) (Int):=λ(i,j)=>xbJ x a n i j none inL inR
def xiH:=xD8.l 49 0 [] [] Tryz.f169 0 lk0 [0,1,2,8,9,10] [0,1,2,8,9] [] (q6 (qL 2) qI (xNo 170 xNM) qI qI qI) xNM (λ(x,a,_,n,i,j,_) _=>(xay x a n,(i,j),λ p=>(.leaf (.exit 0) [AV.list 2 x,AV.int .i64 a,AV.func 170 [],AV.int .i64 n,AV.int .i64 p] []))) 0 λ(x,a,_,n,_,_,_) _ (i,j)=>(((x,a,(),n,i,j,()),()),xbJ x a n i j none)
def xaR(l:LA)(t:Int):=(Iter (xay l t (↑l.length:Int)) (0,(↑l.length:Int))).getD 0
def xb9(l:LA)(t:Int):=(l.getD (xaR l t).toNat .top).cells
def xex{T:Type}(l:LA)(t:Int)(δ:T)(κ:Int×Bool->T):T:=br ((Iter (xay l t (↑l.length:Int)) (0,(↑l.length:Int))).isSome) (br (decide (xaR l t<l.length)) (br (decide (0<=xaR l t)&&decide (xaR l t<l.length)) (br (decide ((xaR l t).toNat<l.length)&&((xb9 l t).length==2&&xM6 [Sh.int .i64,Sh.int .i64] (xb9 l t) 0)) (κ (xaR l t,xiE ((xb9 l t).getD 0 .top).toInt ((xb9 l t).getD 1 .top).toInt t==0)) δ) δ) (κ (xaR l t,false))) δ
def xcR(l:LA)(t:Int):=xex l t none some
def xIT:EO:=xD8.f Tryz.func169 49 0 [] [(3,xiH.lp)] (lk1 xiH.ok) (u3 (uL 2) uI (sEq (xNo (170:FuncId) xNM))) (λ(l,t,_,_) _=>xex l t) (λ _ p=>AV.tuple [AV.int .i64 p.1,AV.bool p.2]) (0,false)
def xow{T:Type}(l:LA)(t:Int)(δ:T)(κ:Int->T):T:=br ((xcR l t).isSome) (br (((xcR l t).getD (0,false)).snd) (κ (((xcR l t).getD (0,false)).fst)) (κ (i64.wrap (((xcR l t).getD (0,false)).fst - 1)))) δ
def xfe(l:LA)(t:Int):=xow l t none some
def xIU:EO:=xIT.f Tryz.func140 17 0 [] [] lk0 (u2 (uL 2) uI) (λ(l,t,_) _=>xow l t) (λ _ p=>AV.int .i64 p) 0
def xqq{T:Type}(l:LA)(t:Int)(δ:T)(κ:Int->T):T:=br (decide (t<0)) (κ (0)) (br (decide (t>=1099511627776)) (κ (0)) (br ((xfe l t).isSome) (br (decide ((xfe l t).getD 0<0)) (κ (0)) (br (decide (0<=(xfe l t).getD 0)&&decide ((xfe l t).getD 0<(↑l.length:Int))) (br (decide (((xfe l t).getD 0).toNat<l.length)&&xMx (Sh.int .i64) ((l.getD ((xfe l t).getD 0).toNat .top).cells.getD 1 .top)) (κ (((l.getD ((xfe l t).getD 0).toNat .top).cells.getD 1 .top).toInt)) δ) δ)) δ))
def xcp(l:LA)(t:Int):=xqq l t none some
def xIV:EO:=xIU.f Tryz.func119 22 0 [] [] lk0 (u2 (uL 2) uI) (λ(l,t,_) _=>xqq l t) (λ _ p=>AV.int .i64 p) 0
def xor(x y:Int):Int:=((i64.wrap (x+y)))
def xA5{T:Type}(x y:Int)(δ:T)(κ:Int->T):T:=κ (i64.wrap (x+y))
def xIW:EO:=xIV.fT Tryz.func80 8 0 [] [] lk0 (λ(x,y,_)=>xA5 x y none) (u2 uI uI) (λ(x,y,_)=>xor x y) (λ _ p=>(AV.int .i64 p))
def xov(x y:Int):Int:=((i64.wrap (x - y)))
def xA7{T:Type}(x y:Int)(δ:T)(κ:Int->T):T:=κ (i64.wrap (x - y))
def xIX:EO:=xIW.fT Tryz.func82 8 0 [] [] lk0 (λ(x,y,_)=>xA7 x y none) (u2 uI uI) (λ(x,y,_)=>xov x y) (λ _ p=>(AV.int .i64 p))
def xou(x y:Int):Int:=((if y<x then y else x))
def xA6{T:Type}(x y:Int)(δ:T)(κ:Int->T):T:=κ (if y<x then y else x)
def xIY:EO:=xIX.fT Tryz.func88 8 0 [] [] lk0 (λ(x,y,_)=>xA6 x y none) (u2 uI uI) (λ(x,y,_)=>xou x y) (λ _ p=>(AV.int .i64 p))
def xmu(x a:Int):Int:=((if 0>x then 0 else x))
def xzF{T:Type}(x a:Int)(δ:T)(κ:Int->T):T:=κ (if 0>x then 0 else x)
def xD9:EO:=xIY.fT Tryz.func81 7 0 [] [] lk0 (λ(x,a,_)=>xzF x a none) (u2 uI uI) (λ(x,a,_)=>xmu x a) (λ _ p=>(AV.int .i64 p))
def xjy(a b c:LA)(f:Nat)(d:Int)(e:LA):=xbA f (gC c d 0).toInt (xor ((xcp a (gC c d 0).toInt).getD 0) ((xcp b (gC c d 0).toInt).getD 0)) e
def xcF(a b e:LA)(d:Nat)(f:Int)(c:LA):=(xjy a b e d f c).getD (false,(0,[]),0,[])
def xg1{T:Type}(a b f:LA)(g:Int)(d:Nat)(e:Int)(c:LA)(δ:T)(κl:(Nat×Int×LA)->T)(κr:(Nat×LA)->T):T:=br (decide (e<g)) (br (ixI f e) (br (ixS f e (Sh.int .i64) 0) (br ((xcp a (gC f e 0).toInt).isSome) (br ((xcp b (gC f e 0).toInt).isSome) (br ((xjy a b f d e c).isSome) (κl (br ((xcF a b f d e c).fst) (((xcF a b f d e c).snd).fst).fst (((xcF a b f d e c).snd).snd).fst,i64.wrap (e+1),br ((xcF a b f d e c).fst) (((xcF a b f d e c).snd).fst).snd (((xcF a b f d e c).snd).snd).snd)) δ) δ) δ) δ) δ) (κr (d,c))
def xcT(a b e:LA)(f:Int):StT (Nat×Int×LA) (Nat×LA):=λ(d,g,c)=>xg1 a b e f d g c none inL inR
def xnt:=xD9.l 38 0 [] [] Tryz.f79 0 lk0 [0,1,2,7,12,13,14] [2,7] [(7,2,132)] (q7 (qL 2) (qL 2) (xNo 80 xNM) (xNW 0 0 0) (qL 1) qI qI) (q1 (qB 0 2 132 xNO)) (λ(a,b,_,d,e,f,g,_) (c,_)=>(xcT a b e f,(d,g,c),λ p=>(.leaf (.exit 0) [AV.func 80 [],AV.osl 0 0 0 p.1] [bF 0 2 132 p.2]))) (0,[]) λ(a,b,_,_,e,f,_,_) _ (d,g,c)=>(((a,b,(),d,e,f,g,()),(c,())),xg1 a b e f d g c none)
def xlv(a b:LA):=Iter (xcT a b ((xcq a b).getD []) (↑((xcq a b).getD []).length:Int)) (0,0,[])
def xeW(a b:LA):=(xlv a b).getD (0,[])
def xmd{T:Type}(a b:LA)(δ:T)(κ:LA->T):T:=br ((xcq a b).isSome) (br ((xlv a b).isSome) (br ((↑((xeW a b).fst):Int)==0) (κ ([AV.agg [AV.int .i64 0,AV.int .i64 0]])) (br (decide (0+((xeW a b).fst)<=((xeW a b).snd).length)&&true) (κ (List.take ((xeW a b).fst) (List.drop 0 ((xeW a b).snd)))) δ)) δ) δ
def xkM(a b:LA):=xmd a b none some
def xEa:EO:=xD9.f Tryz.func79 38 0 [] [(3,xnt.lp)] (lk1 xnt.ok) (u3 (uL 2) (uL 2) (sEq (xNo (80:FuncId) xNM))) (λ(a,b,_,_) _=>xmd a b) (λ _ p=>AV.list 2 p) []
def xjB(a b c:LA)(f:Nat)(d:Int)(e:LA):=xbA f (gC c d 0).toInt (xov ((xcp a (gC c d 0).toInt).getD 0) ((xcp b (gC c d 0).toInt).getD 0)) e
def xcI(a b e:LA)(d:Nat)(f:Int)(c:LA):=(xjB a b e d f c).getD (false,(0,[]),0,[])
def xg4{T:Type}(a b f:LA)(g:Int)(d:Nat)(e:Int)(c:LA)(δ:T)(κl:(Nat×Int×LA)->T)(κr:(Nat×LA)->T):T:=br (decide (e<g)) (br (ixI f e) (br (ixS f e (Sh.int .i64) 0) (br ((xcp a (gC f e 0).toInt).isSome) (br ((xcp b (gC f e 0).toInt).isSome) (br ((xjB a b f d e c).isSome) (κl (br ((xcI a b f d e c).fst) (((xcI a b f d e c).snd).fst).fst (((xcI a b f d e c).snd).snd).fst,i64.wrap (e+1),br ((xcI a b f d e c).fst) (((xcI a b f d e c).snd).fst).snd (((xcI a b f d e c).snd).snd).snd)) δ) δ) δ) δ) δ) (κr (d,c))
def xcW(a b e:LA)(f:Int):StT (Nat×Int×LA) (Nat×LA):=λ(d,g,c)=>xg4 a b e f d g c none inL inR
def xnw:=xEa.l 38 0 [] [] Tryz.f79 0 lk0 [0,1,2,7,12,13,14] [2,7] [(7,2,132)] (q7 (qL 2) (qL 2) (xNo 82 xNM) (xNW 0 0 0) (qL 1) qI qI) (q1 (qB 0 2 132 xNO)) (λ(a,b,_,d,e,f,g,_) (c,_)=>(xcW a b e f,(d,g,c),λ p=>(.leaf (.exit 0) [AV.func 82 [],AV.osl 0 0 0 p.1] [bF 0 2 132 p.2]))) (0,[]) λ(a,b,_,_,e,f,_,_) _ (d,g,c)=>(((a,b,(),d,e,f,g,()),(c,())),xg4 a b e f d g c none)
def xlz(a b:LA):=Iter (xcW a b ((xcq a b).getD []) (↑((xcq a b).getD []).length:Int)) (0,0,[])
def xeZ(a b:LA):=(xlz a b).getD (0,[])
def xmg{T:Type}(a b:LA)(δ:T)(κ:LA->T):T:=br ((xcq a b).isSome) (br ((xlz a b).isSome) (br ((↑((xeZ a b).fst):Int)==0) (κ ([AV.agg [AV.int .i64 0,AV.int .i64 0]])) (br (decide (0+((xeZ a b).fst)<=((xeZ a b).snd).length)&&true) (κ (List.take ((xeZ a b).fst) (List.drop 0 ((xeZ a b).snd)))) δ)) δ) δ
def xkO(a b:LA):=xmg a b none some
def xEb:EO:=xEa.f Tryz.func79 38 0 [] [(3,xnw.lp)] (lk1 xnw.ok) (u3 (uL 2) (uL 2) (sEq (xNo (82:FuncId) xNM))) (λ(a,b,_,_) _=>xmg a b) (λ _ p=>AV.list 2 p) []
def xjA(a b c:LA)(f:Nat)(d:Int)(e:LA):=xbA f (gC c d 0).toInt (xou ((xcp a (gC c d 0).toInt).getD 0) ((xcp b (gC c d 0).toInt).getD 0)) e
def xcH(a b e:LA)(d:Nat)(f:Int)(c:LA):=(xjA a b e d f c).getD (false,(0,[]),0,[])
def xg3{T:Type}(a b f:LA)(g:Int)(d:Nat)(e:Int)(c:LA)(δ:T)(κl:(Nat×Int×LA)->T)(κr:(Nat×LA)->T):T:=br (decide (e<g)) (br (ixI f e) (br (ixS f e (Sh.int .i64) 0) (br ((xcp a (gC f e 0).toInt).isSome) (br ((xcp b (gC f e 0).toInt).isSome) (br ((xjA a b f d e c).isSome) (κl (br ((xcH a b f d e c).fst) (((xcH a b f d e c).snd).fst).fst (((xcH a b f d e c).snd).snd).fst,i64.wrap (e+1),br ((xcH a b f d e c).fst) (((xcH a b f d e c).snd).fst).snd (((xcH a b f d e c).snd).snd).snd)) δ) δ) δ) δ) δ) (κr (d,c))
def xcV(a b e:LA)(f:Int):StT (Nat×Int×LA) (Nat×LA):=λ(d,g,c)=>xg3 a b e f d g c none inL inR
def xnv:=xEb.l 38 0 [] [] Tryz.f79 0 lk0 [0,1,2,7,12,13,14] [2,7] [(7,2,132)] (q7 (qL 2) (qL 2) (xNo 88 xNM) (xNW 0 0 0) (qL 1) qI qI) (q1 (qB 0 2 132 xNO)) (λ(a,b,_,d,e,f,g,_) (c,_)=>(xcV a b e f,(d,g,c),λ p=>(.leaf (.exit 0) [AV.func 88 [],AV.osl 0 0 0 p.1] [bF 0 2 132 p.2]))) (0,[]) λ(a,b,_,_,e,f,_,_) _ (d,g,c)=>(((a,b,(),d,e,f,g,()),(c,())),xg3 a b e f d g c none)
def xly(a b:LA):=Iter (xcV a b ((xcq a b).getD []) (↑((xcq a b).getD []).length:Int)) (0,0,[])
def xeY(a b:LA):=(xly a b).getD (0,[])
def xmf{T:Type}(a b:LA)(δ:T)(κ:LA->T):T:=br ((xcq a b).isSome) (br ((xly a b).isSome) (br ((↑((xeY a b).fst):Int)==0) (κ ([AV.agg [AV.int .i64 0,AV.int .i64 0]])) (br (decide (0+((xeY a b).fst)<=((xeY a b).snd).length)&&true) (κ (List.take ((xeY a b).fst) (List.drop 0 ((xeY a b).snd)))) δ)) δ) δ
def xkN(a b:LA):=xmf a b none some
def xEc:EO:=xEb.f Tryz.func79 38 0 [] [(3,xnv.lp)] (lk1 xnv.ok) (u3 (uL 2) (uL 2) (sEq (xNo (88:FuncId) xNM))) (λ(a,b,_,_) _=>xmf a b) (λ _ p=>AV.list 2 p) []
def xjz(a b c:LA)(f:Nat)(d:Int)(e:LA):=xbA f (gC c d 0).toInt (xmu ((xcp a (gC c d 0).toInt).getD 0) ((xcp b (gC c d 0).toInt).getD 0)) e
def xcG(a b e:LA)(d:Nat)(f:Int)(c:LA):=(xjz a b e d f c).getD (false,(0,[]),0,[])
def xg2{T:Type}(a b f:LA)(g:Int)(d:Nat)(e:Int)(c:LA)(δ:T)(κl:(Nat×Int×LA)->T)(κr:(Nat×LA)->T):T:=br (decide (e<g)) (br (ixI f e) (br (ixS f e (Sh.int .i64) 0) (br ((xcp a (gC f e 0).toInt).isSome) (br ((xcp b (gC f e 0).toInt).isSome) (br ((xjz a b f d e c).isSome) (κl (br ((xcG a b f d e c).fst) (((xcG a b f d e c).snd).fst).fst (((xcG a b f d e c).snd).snd).fst,i64.wrap (e+1),br ((xcG a b f d e c).fst) (((xcG a b f d e c).snd).fst).snd (((xcG a b f d e c).snd).snd).snd)) δ) δ) δ) δ) δ) (κr (d,c))
def xcU(a b e:LA)(f:Int):StT (Nat×Int×LA) (Nat×LA):=λ(d,g,c)=>xg2 a b e f d g c none inL inR
def xnu:=xEc.l 38 0 [] [] Tryz.f79 0 lk0 [0,1,2,7,12,13,14] [2,7] [(7,2,132)] (q7 (qL 2) (qL 2) (xNo 81 xNM) (xNW 0 0 0) (qL 1) qI qI) (q1 (qB 0 2 132 xNO)) (λ(a,b,_,d,e,f,g,_) (c,_)=>(xcU a b e f,(d,g,c),λ p=>(.leaf (.exit 0) [AV.func 81 [],AV.osl 0 0 0 p.1] [bF 0 2 132 p.2]))) (0,[]) λ(a,b,_,_,e,f,_,_) _ (d,g,c)=>(((a,b,(),d,e,f,g,()),(c,())),xg2 a b e f d g c none)
def xlw(a b:LA):=Iter (xcU a b ((xcq a b).getD []) (↑((xcq a b).getD []).length:Int)) (0,0,[])
def xeX(a b:LA):=(xlw a b).getD (0,[])
def xme{T:Type}(a b:LA)(δ:T)(κ:LA->T):T:=br ((xcq a b).isSome) (br ((xlw a b).isSome) (br ((↑((xeX a b).fst):Int)==0) (κ ([AV.agg [AV.int .i64 0,AV.int .i64 0]])) (br (decide (0+((xeX a b).fst)<=((xeX a b).snd).length)&&true) (κ (List.take ((xeX a b).fst) (List.drop 0 ((xeX a b).snd)))) δ)) δ) δ
def xiw(a b:LA):=xme a b none some
def xIZ:EO:=xEc.f Tryz.func79 38 0 [] [(3,xnu.lp)] (lk1 xnu.ok) (u3 (uL 2) (uL 2) (sEq (xNo (81:FuncId) xNM))) (λ(a,b,_,_) _=>xme a b) (λ _ p=>AV.list 2 p) []
def xr3{T:Type}(a b:LA)(δ:T)(κ:LA->T):T:=br ((xkM a b).isSome) (κ ((xkM a b).getD [])) δ
def xpE(a b:LA):=xr3 a b none some
def xIx:EO:=xIZ.f Tryz.func43 8 0 [] [] lk0 (u2 (uL 2) (uL 2)) (λ(a,b,_) _=>xr3 a b) (λ _ p=>AV.list 2 p) []
def xr7{T:Type}(a b:LA)(δ:T)(κ:LA->T):T:=br ((xkO a b).isSome) (κ ((xkO a b).getD [])) δ
def xpH(a b:LA):=xr7 a b none some
def xHH:EO:=xIx.f Tryz.func47 8 0 [] [] lk0 (u2 (uL 2) (uL 2)) (λ(a,b,_) _=>xr7 a b) (λ _ p=>AV.list 2 p) []
def xr4{T:Type}(a b:LA)(δ:T)(κ:LA->T):T:=br ((xkN a b).isSome) (κ ((xkN a b).getD [])) δ
def xpG(a b:LA):=xr4 a b none some
def xHI:EO:=xHH.f Tryz.func53 8 0 [] [] lk0 (u2 (uL 2) (uL 2)) (λ(a,b,_) _=>xr4 a b) (λ _ p=>AV.list 2 p) []
def xrl{T:Type}(l:LA)(δ:T)(κ:LA->T):T:=br ((xiw l []).isSome) (κ ((xiw l []).getD [])) δ
def xqr(l:LA):=xrl l none some
def xHJ:EO:=xHI.f Tryz.func46 5 0 [] [] lk0 (u1 (uL 2)) (λ(l,_) _=>xrl l) (λ _ p=>AV.list 2 p) []
def xm5{T:Type}(x y:LA)(δ:T)(κ:LA->T):T:=br ((xpH x y).isSome) (br ((xqr ((xpH x y).getD [])).isSome) (κ ((xqr ((xpH x y).getD [])).getD [])) δ) δ
def xjo(x y:LA):=xm5 x y none some
def xw1:EO:=xHJ.f Tryz.func45 9 0 [] [] lk0 (u2 (uL 2) (uL 2)) (λ(x,y,_) _=>xm5 x y) (λ _ p=>AV.list 2 p) []
def xh2(b a:Bool):Int:=(br (b) (((-1))) (br (a) ((1)) ((0))))
def xAR{T:Type}(b a:Bool)(δ:T)(κ:Int->T):T:=br (b) (κ ((-1))) (br (a) (κ (1)) (κ (0)))
def xJb:EO:=xw1.fT Tryz.func134 7 0 [] [] lk0 (λ(b,a,_)=>xAR b a none) (u2 (sEq pBool) (sEq pBool)) (λ(b,a,_)=>xh2 b a) (λ _ p=>(AV.int .i64 p))
def xhL(a b:Int)(c:List UInt8)(d e:Int)(f:List UInt8):Int:=(br (a !=d) ((xh2 (decide (a<d)) (decide (a>d)))) (br (b !=e) ((xh2 (decide (b<e)) (decide (b>e)))) ((xh2 (Op.bytesLess c f) !(Op.bytesLess c f || c==f)))))
def xww{T:Type}(a b:Int)(c:List UInt8)(d e:Int)(f:List UInt8)(δ:T)(κ:Int->T):T:=br (a !=d) (κ (xh2 (decide (a<d)) (decide (a>d)))) (br (b !=e) (κ (xh2 (decide (b<e)) (decide (b>e)))) (κ (xh2 (Op.bytesLess c f) !(Op.bytesLess c f || c==f))))
def xEg:EO:=xJb.fT Tryz.func103 48 0 [] [] lk0 (λ((a,b,c,_),(d,e,f,_),_)=>xww a b c d e f none) (u2 (xN0 (u3 uI uI (sEq pStr))) (xN0 (u3 uI uI (sEq pStr)))) (λ((a,b,c,_),(d,e,f,_),_)=>xhL a b c d e f) (λ _ p=>(AV.int .i64 p))
def xep(a b:LA)(i:Int):=xhL (gC a i 0).toInt (gC a i 1).toInt (gC a i 2).toStr (gC b i 0).toInt (gC b i 1).toInt (gC b i 2).toStr
def xeN{T:Type}(a b:LA)(i:Int)(δ:T)(κl:(Int)->T)(κr:(Bool×(Int)×(Unit))->T):T:=br (decide (i<a.length)) (br (decide (i<b.length)) (br (ixI a i) (br (ixT a i 3 [Sh.int .i64,Sh.int .i64,Sh.str] 0) (br (ixI b i) (br (ixT b i 3 [Sh.int .i64,Sh.int .i64,Sh.str] 0) (br (xep a b i !=0) (κr (true,(xep a b i),())) (κl (i64.wrap (i+1)))) δ) δ) δ) δ) (κr (false,0,()))) (κr (false,0,()))
def xbo(a b:LA):StT (Int) (Bool×(Int)×(Unit)):=λ(i)=>xeN a b i none inL inR
def xoG:=xEg.l 41 0 [] [] Tryz.f73 0 lk0 [0,1,5] [0,1,4] [] (q3 (qL 3) (qL 3) qI) xNM (λ(a,b,i,_) _=>(xbo a b,(i),λ p=>(.node p.1 (.leaf .ret [AV.list 3 a,AV.list 3 b,AV.int .i64 p.2.1] []) (.leaf (.exit 0) [AV.list 3 a,AV.list 3 b,.top] [])))) (false,0,()) λ(a,b,_,_) _ (i)=>(((a,b,i,()),()),xeN a b i none)
def xn2{T:Type}(a b:LA)(δ:T)(κ:Int->T):T:=br ((Iter (xbo a b) 0).isSome) (br (((Iter (xbo a b) 0).getD (false,0,())).fst) (κ (((Iter (xbo a b) 0).getD (false,0,())).snd.fst)) (br (decide ((↑a.length:Int)<(↑b.length:Int))) (κ ((-1))) (br (decide ((↑a.length:Int)>(↑b.length:Int))) (κ (1)) (κ (0))))) δ
def xbT(a b:LA):=xn2 a b none some
def xJc:EO:=xEg.f Tryz.func73 41 0 [] [(2,xoG.lp)] (lk1 xoG.ok) (u2 (uL 3) (uL 3)) (λ(a,b,_) _=>xn2 a b) (λ _ p=>AV.int .i64 p) 0
def xpR{T:Type}(a b:LA)(δ:T)(κ:Bool->T):T:=br ((xbT a b).isSome) (κ ((xbT a b).getD 0==0)) δ
def xrX(a b:LA):=xpR a b none some
def xEh:EO:=xJc.f Tryz.func71 9 0 [] [] lk0 (u2 (uL 3) (uL 3)) (λ(a,b,_) _=>xpR a b) (λ _ p=>AV.bool p) false
def xgW{T:Type}(a b:LA)(i:Int)(δ:T)(κl:(Int)->T)(κr:(Bool×(Bool)×(Unit))->T):T:=br (decide (i<a.length)) (br (ixI a i) (br (ixT a i 3 [Sh.int .i64,Sh.int .i64] 1) (br (ixI b i) (br (ixT b i 3 [Sh.int .i64,Sh.int .i64] 1) (br (!((gC a i 1).toInt==(gC b i 1).toInt&&((gC a i 2).toInt==(gC b i 2).toInt&&true))) (κr (true,(false),())) (br (ixI a i) (br (ixS a i (Sh.list 3) 0) (br (ixI b i) (br (ixS b i (Sh.list 3) 0) (br ((xbT (gC a i 0).toList (gC b i 0).toList).isSome) (br ((xbT (gC a i 0).toList (gC b i 0).toList).getD 0 !=0) (κr (true,(false),())) (κl (i64.wrap (i+1)))) δ) δ) δ) δ) δ)) δ) δ) δ) δ) (κr (false,false,()))
def xb6(a b:LA):StT (Int) (Bool×(Bool)×(Unit)):=λ(i)=>xgW a b i none inL inR
def xnn:=xEh.l 42 0 [] [] Tryz.f35 0 lk0 [0,1,5] [4] [] (q3 (qL 3) (qL 3) qI) xNM (λ(a,b,i,_) _=>(xb6 a b,(i),λ p=>(.node p.1 (.leaf .ret [AV.bool p.2.1] []) (.leaf (.exit 0) [.top] [])))) (false,false,()) λ(a,b,_,_) _ (i)=>(((a,b,i,()),()),xgW a b i none)
def xmb{T:Type}(a b:LA)(δ:T)(κ:Bool->T):T:=br ((↑a.length:Int) !=(↑b.length:Int)) (κ (false)) (br ((Iter (xb6 a b) 0).isSome) (br (((Iter (xb6 a b) 0).getD (false,false,())).fst) (κ (((Iter (xb6 a b) 0).getD (false,false,())).snd.fst)) (κ (true))) δ)
def xbp(a b:LA):=xmb a b none some
def xEi:EO:=xEh.f Tryz.func35 42 0 [] [(4,xnn.lp)] (lk1 xnn.ok) (u2 (uL 3) (uL 3)) (λ(a,b,_) _=>xmb a b) (λ _ p=>AV.bool p) false
def xeR(a b:LA)(i k:Int):=decide ((xbT (gC b k 0).toList (gC a i 0).toList).getD 0<0)
def xeS(a:LA)(i:Int):=decide (i.toNat<a.length)&&((a.getD i.toNat .top).cells.length==3&&xM6 [Sh.list 3,Sh.int .i64,Sh.int .i64] (a.getD i.toNat .top).cells 0)
def xeT(b:LA)(k:Int):=decide (k.toNat<b.length)&&((b.getD k.toNat .top).cells.length==3&&xM6 [Sh.list 3,Sh.int .i64,Sh.int .i64] (b.getD k.toNat .top).cells 0)
def xdh{T:Type}(b:LA)(c:Nat)(i k:Int)(a:LA)(δ:T)(κl:(Nat×Int×Int×LA)->T):T:=br (ixI b k) (br (xeT b k) (br (rmB c a 1 40) (κl (c+1,i,i64.wrap (k+1),a++[AV.agg [AV.list 3 (gC b k 0).toList,AV.int .i64 (gC b k 1).toInt,AV.int .i64 (gC b k 2).toInt]])) δ) δ) δ
def xdi{T:Type}(a:LA)(c:Nat)(i k:Int)(b:LA)(δ:T)(κl:(Nat×Int×Int×LA)->T):T:=br (ixI a i) (br (xeS a i) (br (rmB c b 1 40) (κl (c+1,i64.wrap (i+1),k,b++[AV.agg [AV.list 3 (gC a i 0).toList,AV.int .i64 (gC a i 1).toInt,AV.int .i64 (gC a i 2).toInt]])) δ) δ) δ
def xdg{T:Type}(a b:LA)(d:Nat)(i k:Int)(c:LA)(δ:T)(κl:(Nat×Int×Int×LA)->T):T:=br (i==(↑a.length:Int)) (xdh b d i k c δ κl) (br (decide (k<b.length)) (br (ixI b k) (br (ixS b k (Sh.list 3) 0) (br (ixI a i) (br (ixS a i (Sh.list 3) 0) (br ((xbT (gC b k 0).toList (gC a i 0).toList).isSome) (br (xeR a b i k) (xdh b d i k c δ κl) (xdi a d i k c δ κl)) δ) δ) δ) δ) δ) (xdi a d i k c δ κl))
def xej{T:Type}(a b:LA)(d:Nat)(i k:Int)(c:LA)(δ:T)(κl:(Nat×Int×Int×LA)->T)(κr:(Nat×LA)->T):T:=br (decide (i<a.length)) (xdg a b d i k c δ κl) (br (decide (k<b.length)) (xdg a b d i k c δ κl) (κr (d,c)))
def xbG(a b:LA):StT (Nat×Int×Int×LA) (Nat×LA):=λ(d,i,k,c)=>xej a b d i k c none inL inR
def xpv:=xEi.l 61 0 [] [] Tryz.f135 0 lk0 [0,1,5,6,7] [5] [(5,3,54)] (q5 (qL 3) (qL 3) (xNW 0 0 0) qI qI) (q1 (qB 0 3 54 xNO)) (λ(a,b,d,i,k,_) (c,_)=>(xbG a b,(d,i,k,c),λ p=>(.leaf (.exit 0) [AV.osl 0 0 0 p.1] [bF 0 3 54 p.2]))) (0,[]) λ(a,b,_,_,_,_) _ (d,i,k,c)=>(((a,b,d,i,k,()),(c,())),xej a b d i k c none)
def xn9(a b:LA):=Iter (xbG a b) (0,0,0,[])
def xh8(a b:LA):=(xn9 a b).getD (0,[])
def xoX{T:Type}(a b:LA)(δ:T)(κ:LA->T):T:=br ((xn9 a b).isSome) (br (decide (0+((xh8 a b).fst)<=((xh8 a b).snd).length)&&true) (κ (List.take ((xh8 a b).fst) (List.drop 0 ((xh8 a b).snd)))) δ) δ
def xq6(a b:LA):=xoX a b none some
def xvN:EO:=xEi.f Tryz.func135 61 0 [] [(3,xpv.lp)] (lk1 xpv.ok) (u2 (uL 3) (uL 3)) (λ(a,b,_) _=>xoX a b) (λ _ p=>AV.list 3 p) []
def xlo(R:LA->Option (LA)):LA->Option (Bool×AV):=ocOf (xNL (xNx 3 xNO) xNN) λ(l,_)=>((R l).isSome,AV.list 3 ((R l).getD []))
def xhy(R:LA->Option (LA)):Prop:=OcOk P0 xNJ 104 (xlo R)
def xfM(R:LA->Option (LA)):Env:=(xvN.E.with 104 (xlo R)).fn 20 0 (lsOf []) (xNn [])
def xtw(R:LA->Option (LA))(a:xhy R):xM1 P0 (xNJ.at 0) (xfM R):=(xvN.ok.with a).fn
def xrZ(R:LA->Option (LA))(a:xhy R):LoOk P0 (xNJ.at (xfM R).pin) (xfM R) (Tryz.f104.body.getD .skip):=xgz Θ
def xm2(l:LA):=decide (0<=i64.wrap ((↑l.length:Int).tdiv 2))&&decide (i64.wrap ((↑l.length:Int).tdiv 2)<=(↑l.length:Int))
def xm3(R:LA->Option (LA))(l:LA):Option (LA):=R (List.take (l.length - (i64.wrap ((↑l.length:Int).tdiv 2)).toNat) (List.drop (i64.wrap ((↑l.length:Int).tdiv 2)).toNat l))
def xm1(R:LA->Option (LA))(l:LA):Option (LA):=xq6 ((R (List.take ((i64.wrap ((↑l.length:Int).tdiv 2)).toNat - 0) (List.drop 0 l))).getD []) ((xm3 R l).getD [])
def xgi{T:Type}(R:LA->Option (LA))(l:LA)(δ:T)(κ:LA->T):T:=br (decide ((↑l.length:Int)<2)) (κ (l)) (br (xm2 l&&true) (br ((R (List.take ((i64.wrap ((↑l.length:Int).tdiv 2)).toNat - 0) (List.drop 0 l))).isSome) (br (xm2 l) (br ((xm3 R l).isSome) (br ((xm1 R l).isSome) (κ ((xm1 R l).getD [])) δ) δ) δ) δ) δ)
def xc3(R:LA->Option (LA))(l:LA):=xgi R l none some
def xwB(R:LA->Option (LA))(l:LA):Enc (λ(p:LA)=>((AV.list 3 p):AV)) (xc3 R l) (XF P0 (xfM R) Tryz.f104 (Tryz.f104.body.getD .skip) [AV.list 3 l]):=by(have h:XF P0 (xfM R) Tryz.f104 (Tryz.f104.body.getD .skip) [AV.list 3 l]=xgi R l none (λ(p:LA)=>some ((AV.list 3 p):AV)):=by kernel_rfl);rw[h];unfold xc3 xgi;repeat' (first|refine Enc.br ?_ ?_|exact Enc.none|exact Enc.some rfl)
def xwA(R:LA->Option (LA)):LA->Option (Bool×AV):=ocOf (xNL (xNx 3 xNO) xNN) λ(l,_)=>((xc3 R l).isSome,(AV.list 3 ((xc3 R l).getD [])))
def xwz(R:LA->Option (LA))(a:xhy R):OcOk P0 xNJ 104 (xwA R):=xlV λ e g f=>by obtain⟨l,_⟩:=e;obtain⟨b,c⟩:=Prod.mk.inj f;refine xmS (p:=(xfM R).pin) (xqv xNa (xNb P0 _) rfl (xtw R a) Tryz.func104 rfl Θ (xrZ R a) ((xwB R _ _ (xcB (d:=[]) b)).trans ?_));exact congrArg some c
def xcg:Nat->LA->Option (LA)|0=>λ _=>none|fu_+1=>λ l=>xc3 (xcg fu_) l
def xpw:∀n,xhy (xcg n)|0=>xlV λ _ _ h=>absurd (Prod.mk.inj h).1 Bool.false_ne_true|fu_+1=>λ a r h=>xwz (xcg fu_) (xpw fu_) a r h
def xEj:Env:=xvN.E.with 104 (xlo (xcg 100))
def xEl:xM1 P0 xNJ xEj:=xvN.ok.with (xpw _)
def xEk:EO:=EO.mk xEj xEl
def xg8(a b:Int):Bool:=(br (decide (a>=0)) (br (decide (a<b)) ((decide (b<=1099511627776))) ((false))) ((false)))
def xzz{T:Type}(a b:Int)(δ:T)(κ:Bool->T):T:=br (decide (a>=0)) (br (decide (a<b)) (κ (decide (b<=1099511627776))) (κ (false))) (κ (false))
def xJd:EO:=xEk.fT Tryz.func83 18 0 [] [] lk0 (λ((a,b,_),_)=>xzz a b none) (u1 (xN0 (u2 uI uI))) (λ((a,b,_),_)=>xg8 a b) (λ _ p=>(AV.bool p))
def xlX(a b t:Int):Bool:=(br (xg8 a b) (br (decide (a<=t)) ((decide (t<b))) ((false))) ((false)))
def xvB{T:Type}(a b t:Int)(δ:T)(κ:Bool->T):T:=br (xg8 a b) (br (decide (a<=t)) (κ (decide (t<b))) (κ (false))) (κ (false))
def xJe:EO:=xJd.fT Tryz.func72 19 0 [] [] lk0 (λ((a,b,_),t,_)=>xvB a b t none) (u2 (xN0 (u2 uI uI)) uI) (λ((a,b,_),t,_)=>xlX a b t) (λ _ p=>(AV.bool p))
def xmA(a b c d:Int):Int:=(br (a==c&&(b==d&&true)) ((0)) (br (decide (a<c)) (((-1))) (br (a==c) (br (decide (b<d)) (((-1))) ((1))) ((1)))))
def xwu{T:Type}(a b c d:Int)(δ:T)(κ:Int->T):T:=br (a==c&&(b==d&&true)) (κ (0)) (br (decide (a<c)) (κ ((-1))) (br (a==c) (br (decide (b<d)) (κ ((-1))) (κ (1))) (κ (1))))
def xHK:EO:=xJe.fT Tryz.func125 27 0 [] [] lk0 (λ((a,b,_),(c,d,_),_)=>xwu a b c d none) (u2 (xN0 (u2 uI uI)) (xN0 (u2 uI uI))) (λ((a,b,_),(c,d,_),_)=>xmA a b c d) (λ _ p=>(AV.int .i64 p))
def xDN:Int×Int×List UInt8:=((0,0,[]))
def xAQ{T:Type}(δ:T)(κ:Int×Int×List UInt8->T):T:=κ (0,0,[])
def xHL:EO:=xHK.fT Tryz.func203 2 0 [] [] lk0 (λ _=>xAQ none) xNN (λ _=>xDN) (λ _ p=>(AV.agg [AV.int .i64 p.1,AV.int .i64 p.2.1,AV.str p.2.2]))
def xwy{T:Type}(a:LA)(i:Int)(δ:T)(κ:Int×Int×List UInt8->T):T:=br (decide (i<0)) (κ (0,0,[])) (br (decide (i>=a.length)) (κ (0,0,[])) (br (ixI a i) (br (ixT a i 3 [Sh.int .i64,Sh.int .i64,Sh.str] 0) (κ ((gC a i 0).toInt,(gC a i 1).toInt,(gC a i 2).toStr)) δ) δ))
def xsT(a:LA)(i:Int):=xwy a i none some
def xB1:EO:=xHL.f Tryz.func179 18 0 [] [] lk0 (u2 (uL 3) uI) (λ(a,i,_) _=>xwy a i) (λ _ p=>AV.agg [AV.int .i64 p.1,AV.int .i64 p.2.1,AV.str p.2.2]) (0,0,[])
def xlj(b o:LA)(i:Int):=(xsT b (gC o i 0).toInt).getD (0,0,[])
def xlk(a o:LA)(i:Int):=(xsT a (gC o i 0).toInt).getD (0,0,[])
def xpq(a b o:LA)(i:Int):=xhL (xlk a o i).fst ((xlk a o i).snd).fst ((xlk a o i).snd).snd (xlj b o i).fst ((xlj b o i).snd).fst ((xlj b o i).snd).snd
def xl9{T:Type}(a b o:LA)(i:Int)(δ:T)(κl:(Int)->T)(κr:(Bool×(Bool)×(Unit))->T):T:=br (decide (i<o.length)) (br (ixI o i) (br (ixS o i (Sh.int .i64) 0) (br ((xsT a (gC o i 0).toInt).isSome) (br (ixI o i) (br (ixS o i (Sh.int .i64) 0) (br ((xsT b (gC o i 0).toInt).isSome) (br (xpq a b o i !=0) (br (ixI o i) (br (decide (i.toNat<o.length)&&xMx Sh.bool (gC o i 1)) (κr (true,(!decide (xpq a b o i<0)==(gC o i 1).toBool),())) δ) δ) (κl (i64.wrap (i+1)))) δ) δ) δ) δ) δ) δ) (κr (false,false,()))
def xdx(a b o:LA):StT (Int) (Bool×(Bool)×(Unit)):=λ(i)=>xl9 a b o i none inL inR
def xpp:=xB1.l 44 0 [] [] Tryz.f150 0 lk0 [0,1,2,7] [0,1,6] [] (q4 (qL 3) (qL 3) (qL 2) qI) xNM (λ(a,b,o,i,_) _=>(xdx a b o,(i),λ p=>(.node p.1 (.leaf .ret [AV.list 3 a,AV.list 3 b,AV.bool p.2.1] []) (.leaf (.exit 0) [AV.list 3 a,AV.list 3 b,.top] [])))) (false,false,()) λ(a,b,o,_,_) _ (i)=>(((a,b,o,i,()),()),xl9 a b o i none)
def xoS{T:Type}(a b o:LA)(δ:T)(κ:Bool->T):T:=br ((Iter (xdx a b o) 0).isSome) (br (((Iter (xdx a b o) 0).getD (false,false,())).fst) (κ (((Iter (xdx a b o) 0).getD (false,false,())).snd.fst)) (br ((xbT a b).isSome) (κ (decide ((xbT a b).getD 0<0))) δ)) δ
def xn5(a b o:LA):=xoS a b o none some
def xB2:EO:=xB1.f Tryz.func150 44 0 [] [(2,xpp.lp)] (lk1 xpp.ok) (u3 (uL 3) (uL 3) (uL 2)) (λ(a,b,o,_) _=>xoS a b o) (λ _ p=>AV.bool p) false
def xde{T:Type}(b:LA)(c:Nat)(i k:Int)(a:LA)(δ:T)(κl:(Nat×Int×Int×LA)->T):T:=br (ixI b k) (br (ixS b k (Sh.list 3) 0) (br (rmB c a 1 24) (κl (c+1,i,i64.wrap (k+1),a++[AV.list 3 (gC b k 0).toList])) δ) δ) δ
def xdf{T:Type}(a:LA)(c:Nat)(i k:Int)(b:LA)(δ:T)(κl:(Nat×Int×Int×LA)->T):T:=br (ixI a i) (br (ixS a i (Sh.list 3) 0) (br (rmB c b 1 24) (κl (c+1,i64.wrap (i+1),k,b++[AV.list 3 (gC a i 0).toList])) δ) δ) δ
def xdd{T:Type}(a b o:LA)(d:Nat)(i k:Int)(c:LA)(δ:T)(κl:(Nat×Int×Int×LA)->T):T:=br (i==(↑a.length:Int)) (xde b d i k c δ κl) (br (decide (k<b.length)) (br (ixI b k) (br (ixS b k (Sh.list 3) 0) (br (ixI a i) (br (ixS a i (Sh.list 3) 0) (br ((xn5 (gC b k 0).toList (gC a i 0).toList o).isSome) (br ((xn5 (gC b k 0).toList (gC a i 0).toList o).getD false) (xde b d i k c δ κl) (xdf a d i k c δ κl)) δ) δ) δ) δ) δ) (xdf a d i k c δ κl))
def xei{T:Type}(a b o:LA)(d:Nat)(i k:Int)(c:LA)(δ:T)(κl:(Nat×Int×Int×LA)->T)(κr:(Nat×LA)->T):T:=br (decide (i<a.length)) (xdd a b o d i k c δ κl) (br (decide (k<b.length)) (xdd a b o d i k c δ κl) (κr (d,c)))
def xbF(a b o:LA):StT (Nat×Int×Int×LA) (Nat×LA):=λ(d,i,k,c)=>xei a b o d i k c none inL inR
def xpr:=xB2.l 62 0 [] [] Tryz.f133 0 lk0 [0,1,2,7,8,9] [7] [(7,1,47)] (q6 (qL 1) (qL 1) (qL 2) (xNW 0 0 0) qI qI) (q1 (qB 0 1 47 xNO)) (λ(a,b,o,d,i,k,_) (c,_)=>(xbF a b o,(d,i,k,c),λ p=>(.leaf (.exit 0) [AV.osl 0 0 0 p.1] [bF 0 1 47 p.2]))) (0,[]) λ(a,b,o,_,_,_,_) _ (d,i,k,c)=>(((a,b,o,d,i,k,()),(c,())),xei a b o d i k c none)
def xgg(a b o:LA):=Iter (xbF a b o) (0,0,0,[])
def xoT{T:Type}(a b o:LA)(δ:T)(κ:LA->T):T:=br ((xgg a b o).isSome) (br (decide (0+(((xgg a b o).getD (0,[])).fst)<=(((xgg a b o).getD (0,[])).snd).length)&&true) (κ (List.take (((xgg a b o).getD (0,[])).fst) (List.drop 0 (((xgg a b o).getD (0,[])).snd)))) δ) δ
def xq3(a b o:LA):=xoT a b o none some
def xun:EO:=xB2.f Tryz.func133 62 0 [] [(3,xpr.lp)] (lk1 xpr.ok) (u3 (uL 1) (uL 1) (uL 2)) (λ(a,b,o,_) _=>xoT a b o) (λ _ p=>AV.list 1 p) []
def xm0(R:LA->LA->Option (LA)):LA->Option (Bool×AV):=ocOf (xNL (xNx 1 xNO) (xNL (xNx 2 xNO) xNN)) λ(l,(o,_))=>((R l o).isSome,AV.list 1 ((R l o).getD []))
def xiW(R:LA->LA->Option (LA)):Prop:=OcOk P0 xNJ 101 (xm0 R)
def xhd(R:LA->LA->Option (LA)):Env:=(xun.E.with 101 (xm0 R)).fn 34 0 (lsOf []) (xNn [])
def xuB(R:LA->LA->Option (LA))(a:xiW R):xM1 P0 (xNJ.at 0) (xhd R):=(xun.ok.with a).fn
def xsU(R:LA->LA->Option (LA))(a:xiW R):LoOk P0 (xNJ.at (xhd R).pin) (xhd R) (Tryz.f101.body.getD .skip):=xgz Θ
def xjj(l:LA):=decide (0<=i64.wrap ((↑l.length:Int).tdiv 2))&&decide (i64.wrap ((↑l.length:Int).tdiv 2)<=(↑l.length:Int))
def xfK(l:LA):Nat:=0+((l.getD 0 .top).cells.getD 0 .top).toList.length
def xjk(R:LA->LA->Option (LA))(l o:LA):Option (LA):=R (List.take (l.length - (i64.wrap ((↑l.length:Int).tdiv 2)).toNat) (List.drop (i64.wrap ((↑l.length:Int).tdiv 2)).toNat l)) o
def xji(R:LA->LA->Option (LA))(l o:LA):Option (LA):=xq3 ((R (List.take ((i64.wrap ((↑l.length:Int).tdiv 2)).toNat - 0) (List.drop 0 l)) o).getD []) ((xjk R l o).getD []) o
def xfo{T:Type}(R:LA->LA->Option (LA))(l o:LA)(δ:T)(κ:LA->T):T:=br ((↑l.length:Int)==0) (κ ([])) (br ((↑l.length:Int)==1) (br (decide (0<(↑l.length:Int))) (br (decide (0<l.length)&&xMx (Sh.list 3) ((l.getD 0 .top).cells.getD 0 .top)) (br (decide (xfK l*32<=140737488355328)&&decide (xfK l<=4611686018427387904)) (br (decide (0+xfK l<=([]++((l.getD 0 .top).cells.getD 0 .top).toList).length)&&true&&true&&true) (κ ([AV.list 3 (List.take (xfK l) (List.drop 0 ([]++((l.getD 0 .top).cells.getD 0 .top).toList)))])) δ) δ) δ) δ) (br (xjj l&&true) (br ((R (List.take ((i64.wrap ((↑l.length:Int).tdiv 2)).toNat - 0) (List.drop 0 l)) o).isSome) (br (xjj l) (br ((xjk R l o).isSome) (br ((xji R l o).isSome) (κ ((xji R l o).getD [])) δ) δ) δ) δ) δ))
def xcJ(R:LA->LA->Option (LA))(l o:LA):=xfo R l o none some
def xzC(R:LA->LA->Option (LA))(l o:LA):Enc (λ(p:LA)=>((AV.list 1 p):AV)) (xcJ R l o) (XF P0 (xhd R) Tryz.f101 (Tryz.f101.body.getD .skip) [AV.list 1 l,AV.list 2 o]):=by(have h:XF P0 (xhd R) Tryz.f101 (Tryz.f101.body.getD .skip) [AV.list 1 l,AV.list 2 o]=xfo R l o none (λ(p:LA)=>some ((AV.list 1 p):AV)):=by kernel_rfl);rw[h];unfold xcJ xfo;repeat' (first|refine Enc.br ?_ ?_|exact Enc.none|exact Enc.some rfl)
def xzB(R:LA->LA->Option (LA)):LA->Option (Bool×AV):=ocOf (xNL (xNx 1 xNO) (xNL (xNx 2 xNO) xNN)) λ(l,(o,_))=>((xcJ R l o).isSome,(AV.list 1 ((xcJ R l o).getD [])))
def xzA(R:LA->LA->Option (LA))(a:xiW R):OcOk P0 xNJ 101 (xzB R):=xlV λ e g f=>by obtain⟨l,⟨o,_⟩⟩:=e;obtain⟨b,c⟩:=Prod.mk.inj f;refine xmS (p:=(xhd R).pin) (xqv xNa (xNb P0 _) rfl (xuB R a) Tryz.func101 rfl Θ (xsU R a) ((xzC R _ _ _ (xcB (d:=[]) b)).trans ?_));exact congrArg some c
def xcw:Nat->LA->LA->Option (LA)|0=>λ _ _=>none|fu_+1=>λ l o=>xcJ (xcw fu_) l o
def xq1:∀n,xiW (xcw n)|0=>xlV λ _ _ h=>absurd (Prod.mk.inj h).1 Bool.false_ne_true|fu_+1=>λ a r h=>xzA (xcw fu_) (xq1 fu_) a r h
def xB3:Env:=xun.E.with 101 (xm0 (xcw 1000))
def xC5:xM1 P0 xNJ xB3:=xun.ok.with (xq1 _)
def xC4:EO:=EO.mk xB3 xC5
def xq2{T:Type}(l:LA)(δ:T)(κ:LA->T):T:=br ((xcw 1000 l []).isSome) (κ ((xcw 1000 l []).getD [])) δ
def xn4(l:LA):=xq2 l none some
def xB4:EO:=xC4.f Tryz.func67 5 0 [] [] lk0 (u1 (uL 1)) (λ(l,_) _=>xq2 l) (λ _ p=>AV.list 1 p) []
def xgU(a:LA)(i:Int):=xrX ((a.getD (i64.wrap (i - 1)).toNat .top).cells.getD 0 .top).toList (gC a i 0).toList
def xeO{T:Type}(c:LA)(b:Nat)(i:Int)(a:LA)(δ:T)(κl:(Nat×Int×LA)->T):T:=br (ixI c i) (br (ixS c i (Sh.list 3) 0) (br (rmB b a 1 24) (κl (b+1,i64.wrap (i+1),a++[AV.list 3 (gC c i 0).toList])) δ) δ) δ
def xfA{T:Type}(a:LA)(c:Nat)(i:Int)(b:LA)(δ:T)(κl:(Nat×Int×LA)->T)(κr:(Nat×LA)->T):T:=br (decide (i<a.length)) (br (i==0) (xeO a c i b δ κl) (br (decide (0<=i64.wrap (i - 1))&&decide (i64.wrap (i - 1)<(↑a.length:Int))) (br (decide ((i64.wrap (i - 1)).toNat<a.length)&&xMx (Sh.list 3) ((a.getD (i64.wrap (i - 1)).toNat .top).cells.getD 0 .top)) (br (ixI a i) (br (ixS a i (Sh.list 3) 0) (br ((xgU a i).isSome) (br (!(xgU a i).getD false) (xeO a c i b δ κl) (κl (c,i64.wrap (i+1),b))) δ) δ) δ) δ) δ)) (κr (c,b))
def xcn(c:LA):StT (Nat×Int×LA) (Nat×LA):=λ(b,i,a)=>xfA c b i a none inL inR
def xn3:=xB4.l 38 0 [] [] Tryz.f70 0 lk0 [3,4,5] [4] [(4,1,47)] (q3 (qL 1) (xNW 0 0 0) qI) (q1 (qB 0 1 47 xNO)) (λ(c,b,i,_) (a,_)=>(xcn c,(b,i,a),λ p=>(.leaf (.exit 0) [AV.osl 0 0 0 p.1] [bF 0 1 47 p.2]))) (0,[]) λ(c,_,_,_) _ (b,i,a)=>(((c,b,i,()),(a,())),xfA c b i a none)
def xgC(l:LA):=(Iter (xcn ((xn4 l).getD [])) (0,0,[])).getD (0,[])
def xmx{T:Type}(l:LA)(δ:T)(κ:LA->T):T:=br ((xn4 l).isSome) (br ((Iter (xcn ((xn4 l).getD [])) (0,0,[])).isSome) (br (decide (0+((xgC l).fst)<=((xgC l).snd).length)&&true) (κ (List.take ((xgC l).fst) (List.drop 0 ((xgC l).snd)))) δ) δ) δ
def xoR(l:LA):=xmx l none some
def xB5:EO:=xB4.f Tryz.func70 38 0 [] [(4,xn3.lp)] (lk1 xn3.ok) (u1 (uL 1)) (λ(l,_) _=>xmx l) (λ _ p=>AV.list 1 p) []
def xkD{T:Type}(l:LA)(b:Nat)(i:Int)(a:LA)(δ:T)(κl:(Nat×Int×LA)->T)(κr:(Nat×LA)->T):T:=br (decide (i<l.length)) (br (ixI l i) (br (ixT l i 3 [Sh.int .i64,Sh.int .i64] 1) (br (xg8 (gC l i 1).toInt (gC l i 2).toInt) (br (ixI l i) (br (ixS l i (Sh.list 3) 0) (br (rmB b a 1 24) (κl (b+1,i64.wrap (i+1),a++[AV.list 3 (gC l i 0).toList])) δ) δ) δ) (κl (b,i64.wrap (i+1),a))) δ) δ) (κr (b,a))
def xeP(l:LA):StT (Nat×Int×LA) (Nat×LA):=λ(b,i,a)=>xkD l b i a none inL inR
def xq4:=xB5.l 27 0 [] [] Tryz.f48 0 lk0 [0,3,4] [3] [(3,1,47)] (q3 (qL 3) (xNW 0 0 0) qI) (q1 (qB 0 1 47 xNO)) (λ(l,b,i,_) (a,_)=>(xeP l,(b,i,a),λ p=>(.leaf (.exit 0) [AV.osl 0 0 0 p.1] [bF 0 1 47 p.2]))) (0,[]) λ(l,_,_,_) _ (b,i,a)=>(((l,b,i,()),(a,())),xkD l b i a none)
def xj0(l:LA):=(Iter (xeP l) (0,0,[])).getD (0,[])
def xpU(l:LA):=xoR (List.take ((xj0 l).fst) (List.drop 0 ((xj0 l).snd)))
def xq5{T:Type}(l:LA)(δ:T)(κ:LA->T):T:=br ((Iter (xeP l) (0,0,[])).isSome) (br (decide (0+((xj0 l).fst)<=((xj0 l).snd).length)&&true) (br ((xpU l).isSome) (κ ((xpU l).getD [])) δ) δ) δ
def xqn(l:LA):=xq5 l none some
def xw3:EO:=xB5.f Tryz.func48 27 0 [] [(3,xq4.lp)] (lk1 xq4.ok) (u1 (uL 3)) (λ(l,_) _=>xq5 l) (λ _ p=>AV.list 1 p) []
def xhJ:Env:=xw3.E.fn 51 1 (lsOf []) (xNn [])
def xvC:xM1 P0 (xNJ.at 1) xhJ:=xw3.ok.fn
def xtv:LoOk P0 (xNJ.at xhJ.pin) xhJ (Tryz.f124.body.getD .skip):=xgz Θ
def xez(k:Nat)(a:LA):=(List.take ((i64.wrap ((↑k:Int) - 1)).toNat - 0) (List.drop 0 a)).length
def xmC(k:Nat)(a:LA):=decide (0+(i64.wrap ((↑k:Int) - 1)).toNat<a.length)
def xjZ(k:Nat)(a:LA):=((a.getD (0+(i64.wrap ((↑k:Int) - 1)).toNat) .top).cells.getD 1 .top).toInt
def xmD(k:Nat):=decide (0<=i64.wrap ((↑k:Int) - 1))
def xjY(k:Nat):=xmD k&&decide (i64.wrap ((↑k:Int) - 1)<(↑k:Int))
def xmB(k:Nat)(a:LA):=xmC k a&&xMx (Sh.int .i64) ((a.getD (0+(i64.wrap ((↑k:Int) - 1)).toNat) .top).cells.getD 1 .top)
def xjc{T:Type}(k:Nat)(a b:Int)(c:LA)(δ:T)(κ:Bool×(Nat×LA×LA)×(Nat×LA)->T):T:=br (rmB k c 1 16) (κ (false,(0,[],[]),(k+1,c++[AV.agg [AV.int .i64 a,AV.int .i64 b]]))) δ
def xli{T:Type}(k:Nat)(b c:Int)(a:LA)(δ:T)(κ:Bool×(Nat×LA×LA)×(Nat×LA)->T):T:=br (decide ((↑k:Int)>0)) (br (xjY k) (br (xmB k a) (br (decide (xjZ k a>=b)) (br (xmD k&&decide (i64.wrap ((↑k:Int) - 1)<=(↑k:Int))&&true) (br (decide (0+((i64.wrap ((↑k:Int) - 1)).toNat - 0)<=a.length)&&(decide (xez k a*16<=140737488355328)&&decide (xez k a<=4611686018427387904))) (br (xjY k) (br (xmC k a&&xMx (Sh.int .i64) ((a.getD (0+(i64.wrap ((↑k:Int) - 1)).toNat) .top).cells.getD 0 .top)) (br (xjY k) (br (xmB k a) (br (xez k a==xez k a&&(decide ((xez k a+1)*16<=140737488355328)&&decide (xez k a+1<=4611686018427387904))) (κ (true,(xez k a+1,a,List.take ((i64.wrap ((↑k:Int) - 1)).toNat - 0) (List.drop 0 a)++[AV.agg [AV.int .i64 ((a.getD (0+(i64.wrap ((↑k:Int) - 1)).toNat) .top).cells.getD 0 .top).toInt,AV.int .i64 (if c>xjZ k a then c else xjZ k a)]]),(0,[]))) δ) δ) δ) δ) δ) δ) δ) (xjc k b c a δ κ)) δ) δ) (xjc k b c a δ κ)
def xcu(k:Nat)(a b:Int)(c:LA):=xli k a b c none some
def xAP(k:Nat)(a b:Int)(xs:LA):Enc (λ(p:Bool×(Nat×LA×LA)×(Nat×LA))=>((br p.1 ((AV.osl 1 0 0 p.2.1.1,([⟨0,2,52,p.2.1.2.1,false,true⟩,⟨0,2,52,p.2.1.2.2,false,true⟩]:List Box))) ((AV.osl 0 1 0 p.2.2.1,([⟨1,2,52,p.2.2.2,false,true⟩]:List Box)))):(AV×List Box))) (xcu k a b xs) (XFM P0 xhJ Tryz.f124 (Tryz.f124.body.getD .skip) [AV.osl (0:Id) 0 0 k,AV.agg [AV.int .i64 a,AV.int .i64 b]] [{ver:=0,sz:=2,ty:=(52:TypeId),xs:=xs,frz:=false,pm:=true}]):=by(have h:XFM P0 xhJ Tryz.f124 (Tryz.f124.body.getD .skip) [AV.osl (0:Id) 0 0 k,AV.agg [AV.int .i64 a,AV.int .i64 b]] [{ver:=0,sz:=2,ty:=(52:TypeId),xs:=xs,frz:=false,pm:=true}]=xli k a b xs none (λ(p:Bool×(Nat×LA×LA)×(Nat×LA))=>some ((br p.1 ((AV.osl 1 0 0 p.2.1.1,([⟨0,2,52,p.2.1.2.1,false,true⟩,⟨0,2,52,p.2.1.2.2,false,true⟩]:List Box))) ((AV.osl 0 1 0 p.2.2.1,([⟨1,2,52,p.2.2.2,false,true⟩]:List Box)))):(AV×List Box))):=by kernel_rfl);rw[h];unfold xcu xli xjc;repeat' (first|refine Enc.br ?_ ?_|exact Enc.none|exact Enc.some rfl)
def xAO:LA->List Box->Option (Bool×AV×List Box):=omOf (xNL (sEq (xNW 0 0 0)) (xNL (xN0 (xNL (sEq (pInt .i64)) (xNL (sEq (pInt .i64)) xNN))) xNN)) (xNK (xNZ 0 2 (52:TypeId) false true xNO) xNM) λ(k,((a,(b,_)),_)) (c,_)=>((xcu k a b c).isSome,(AV.osl 1 0 0 (br ((xcu k a b c).getD (false,(0,[],[]),(0,[]))).1 ((xcu k a b c).getD (false,(0,[],[]),(0,[]))).2.1.1 ((xcu k a b c).getD (false,(0,[],[]),(0,[]))).2.2.1),([⟨2,2,52,[],false,true⟩,⟨0,2,52,br ((xcu k a b c).getD (false,(0,[],[]),(0,[]))).1 ((xcu k a b c).getD (false,(0,[],[]),(0,[]))).2.1.2.2 ((xcu k a b c).getD (false,(0,[],[]),(0,[]))).2.2.2,false,true⟩]:List Box)))
def xAN:OmOk P0 xNJ 124 (xAO):=xjb λ e f j h g=>by obtain⟨k,⟨⟨c,⟨i,_⟩⟩,_⟩⟩:=e;obtain⟨l,_⟩:=f;obtain⟨b,a⟩:=Prod.mk.inj g;have hx:=xAP _ _ _ _ _ (xcB (d:=(false,(0,[],[]),(0,[]))) b);revert hx a;generalize ((xcu _ _ _ _).getD (false,(0,[],[]),(0,[])))=p;intro a hx;obtain⟨rfl,rfl⟩:=Prod.mk.inj a;obtain⟨t,⟨m,n,o⟩,q,r⟩:=p;have hg:GoodM P0 xNJ 124 _ _ _ _:=xk6 (p:=xhJ.pin) (xk5 xNa (xNb P0 _) rfl xvC rfl Tryz.func124 rfl Θ xtv hx);cases t;exact GoodM.move0 rfl (by decide) hg;exact GoodM.drop0 rfl (by decide) hg
def xC3:EO:=xw3.wM xAN
def xgB{T:Type}(l:LA)(n:Int)(b:Nat)(i:Int)(a:LA)(δ:T)(κl:(Nat×Int×LA)->T)(κr:(Nat×Int×LA)->T):T:=br (decide (i<l.length)) (br (ixI l i) (br (ixS l i (Sh.int .i64) 0) (br (decide ((gC l i 0).toInt<n)) (br (ixI l i) (br (ixS l i (Sh.int .i64) 0) (br (rmB b a 1 8) (κl (b+1,i64.wrap (i+1),a++[AV.int .i64 (gC l i 0).toInt])) δ) δ) δ) (κr (b,i,a))) δ) δ) (κr (b,i,a))
def xcY(l:LA)(n:Int):StT (Nat×Int×LA) (Nat×Int×LA):=λ(b,i,a)=>xgB l n b i a none inL inR
def xlh:=xC3.l 58 0 [] [] Tryz.f120 0 lk0 [0,1,5,6] [0,1,5,6] [(5,1,3)] (q4 (qL 1) qI (xNW 0 0 0) qI) (q1 (qB 0 1 3 xNO)) (λ(l,n,b,i,_) (a,_)=>(xcY l n,(b,i,a),λ p=>(.leaf (.exit 0) [AV.list 1 l,AV.int .i64 n,AV.osl 0 0 0 p.1,AV.int .i64 p.2.1] [bF 0 1 3 p.2.2]))) (0,0,[]) λ(l,n,_,_,_) _ (b,i,a)=>(((l,n,b,i,()),(a,())),xgB l n b i a none)
def xiS{T:Type}(l:LA)(b:Nat)(i:Int)(a:LA)(δ:T)(κl:(Nat×Int×LA)->T)(κr:(Nat×LA)->T):T:=br (decide (i<l.length)) (br (ixI l i) (br (ixS l i (Sh.int .i64) 0) (br (rmB b a 1 8) (κl (b+1,i64.wrap (i+1),a++[AV.int .i64 (gC l i 0).toInt])) δ) δ) δ) (κr (b,a))
def xcZ(l:LA):StT (Nat×Int×LA) (Nat×LA):=λ(b,i,a)=>xiS l b i a none inL inR
def xpn:=xC3.l 58 0 [] [(3,xlh.lp)] Tryz.f120 1 lk0 [0,5,6] [5] [(5,1,3)] (q3 (qL 1) (xNW 0 0 0) qI) (q1 (qB 0 1 3 xNO)) (λ(l,b,i,_) (a,_)=>(xcZ l,(b,i,a),λ p=>(.leaf (.exit 2) [AV.osl 0 0 0 p.1] [bF 0 1 3 p.2]))) (0,[]) λ(l,_,_,_) _ (b,i,a)=>(((l,b,i,()),(a,())),xiS l b i a none)
def xcm(l:LA)(n:Int):=(Iter (xcY l n) (0,0,[])).getD (0,0,[])
def xcd(l:LA)(n:Int):=((xcm l n).snd).fst
def xfF(l:LA)(n:Int):=((xcm l n).fst)+1
def xhx(l:LA)(n:Int):=Iter (xcZ l) (xfF l n,xcd l n,(((xcm l n).snd).snd)++[AV.int .i64 n])
def xh0(l:LA)(n:Int):=Iter (xcZ l) (((xcm l n).fst),xcd l n,(((xcm l n).snd).snd))
def xjO(l:LA)(n:Int):=((xcm l n).fst)==(((xcm l n).snd).snd).length
def xe7(l:LA)(n:Int):=(xhx l n).getD (0,[])
def xe8(l:LA)(n:Int):=(xh0 l n).getD (0,[])
def xmZ{T:Type}(l:LA)(n:Int)(δ:T)(κ:LA->T):T:=br (xjO l n&&(decide (xfF l n*8<=140737488355328)&&decide (xfF l n<=4611686018427387904))) (br ((xhx l n).isSome) (br (decide (0+((xe7 l n).fst)<=((xe7 l n).snd).length)&&true) (κ (List.take ((xe7 l n).fst) (List.drop 0 ((xe7 l n).snd)))) δ) δ) δ
def xoM{T:Type}(l:LA)(n:Int)(δ:T)(κ:LA->T):T:=br ((Iter (xcY l n) (0,0,[])).isSome) (br (xcd l n==(↑l.length:Int)) (xmZ l n δ κ) (br (decide (0<=xcd l n)&&decide (xcd l n<l.length)) (br (decide ((xcd l n).toNat<l.length)&&xMx (Sh.int .i64) ((l.getD (xcd l n).toNat .top).cells.getD 0 .top)) (br (decide (((l.getD (xcd l n).toNat .top).cells.getD 0 .top).toInt>n)) (xmZ l n δ κ) (br ((xh0 l n).isSome) (br (decide (0+((xe8 l n).fst)<=((xe8 l n).snd).length)&&true) (κ (List.take ((xe8 l n).fst) (List.drop 0 ((xe8 l n).snd)))) δ) δ)) δ) δ)) δ
def xhl(l:LA)(n:Int):=xoM l n none some
def xzO:EO:=xC3.f Tryz.func120 58 0 [] [(3,xlh.lp),(8,xpn.lp)] (lks (lkC xlh.ok (lkC xpn.ok lkN))) (u2 (uL 1) uI) (λ(l,n,_) _=>xoM l n) (λ _ p=>AV.list 1 p) []
def xjh:Env:=xzO.E.fn 28 1 (lsOf []) (xNn [])
def xwv:xM1 P0 (xNJ.at 1) xjh:=xzO.ok.fn
def xt7:LoOk P0 (xNJ.at xjh.pin) xjh (Tryz.f121.body.getD .skip):=xgz Θ
def xhK{T:Type}(k:Nat)(a n:Int)(b:LA)(δ:T)(κ:Bool×(Nat×LA)×(Nat×LA)->T):T:=br (rmB k b 1 16) (κ (false,(0,[]),(k+1,b++[AV.agg [AV.int .i64 a,AV.int .i64 n]]))) δ
def xj4{T:Type}(k:Nat)(a n:Int)(b:LA)(δ:T)(κ:Bool×(Nat×LA)×(Nat×LA)->T):T:=br (decide ((↑k:Int)>0)) (br (decide (0<=i64.wrap ((↑k:Int) - 1))&&decide (i64.wrap ((↑k:Int) - 1)<(↑k:Int))) (br (decide (0+(i64.wrap ((↑k:Int) - 1)).toNat<b.length)&&xMx (Sh.int .i64) ((b.getD (0+(i64.wrap ((↑k:Int) - 1)).toNat) .top).cells.getD 1 .top)) (br (((b.getD (0+(i64.wrap ((↑k:Int) - 1)).toNat) .top).cells.getD 1 .top).toInt==n) (κ (true,(k,b),(0,[]))) (xhK k a n b δ κ)) δ) δ) (xhK k a n b δ κ)
def xdK(k:Nat)(a n:Int)(b:LA):=xj4 k a n b none some
def xBL(k:Nat)(a n:Int)(xs:LA):Enc (λ(p:Bool×(Nat×LA)×(Nat×LA))=>((br p.1 ((AV.osl 0 0 0 p.2.1.1,([⟨0,2,132,p.2.1.2,false,true⟩]:List Box))) ((AV.osl 0 1 0 p.2.2.1,([⟨1,2,132,p.2.2.2,false,true⟩]:List Box)))):(AV×List Box))) (xdK k a n xs) (XFM P0 xjh Tryz.f121 (Tryz.f121.body.getD .skip) [AV.osl (0:Id) 0 0 k,AV.int .i64 a,AV.int .i64 n] [{ver:=0,sz:=2,ty:=(132:TypeId),xs:=xs,frz:=false,pm:=true}]):=by(have h:XFM P0 xjh Tryz.f121 (Tryz.f121.body.getD .skip) [AV.osl (0:Id) 0 0 k,AV.int .i64 a,AV.int .i64 n] [{ver:=0,sz:=2,ty:=(132:TypeId),xs:=xs,frz:=false,pm:=true}]=xj4 k a n xs none (λ(p:Bool×(Nat×LA)×(Nat×LA))=>some ((br p.1 ((AV.osl 0 0 0 p.2.1.1,([⟨0,2,132,p.2.1.2,false,true⟩]:List Box))) ((AV.osl 0 1 0 p.2.2.1,([⟨1,2,132,p.2.2.2,false,true⟩]:List Box)))):(AV×List Box))):=by kernel_rfl);rw[h];unfold xdK xj4 xhK;repeat' (first|refine Enc.br ?_ ?_|exact Enc.none|exact Enc.some rfl)
def xBK:LA->List Box->Option (Bool×AV×List Box):=omOf (xNL (sEq (xNW 0 0 0)) (xNL (sEq (pInt .i64)) (xNL (sEq (pInt .i64)) xNN))) (xNK (xNZ 0 2 (132:TypeId) false true xNO) xNM) λ(k,(a,(n,_))) (b,_)=>((xdK k a n b).isSome,(AV.osl 0 1 0 (br ((xdK k a n b).getD (false,(0,[]),(0,[]))).1 ((xdK k a n b).getD (false,(0,[]),(0,[]))).2.1.1 ((xdK k a n b).getD (false,(0,[]),(0,[]))).2.2.1),([⟨1,2,132,(br ((xdK k a n b).getD (false,(0,[]),(0,[]))).1 ((xdK k a n b).getD (false,(0,[]),(0,[]))).2.1.2 ((xdK k a n b).getD (false,(0,[]),(0,[]))).2.2.2),false,true⟩]:List Box)))
def xBJ:OmOk P0 xNJ 121 (xBK):=xjb λ e f j i g=>by obtain⟨k,⟨b,⟨n,_⟩⟩⟩:=e;obtain⟨h,_⟩:=f;obtain⟨c,a⟩:=Prod.mk.inj g;have hx:=xBL _ _ _ _ _ (xcB (d:=(false,(0,[]),(0,[]))) c);revert hx a;generalize ((xdK k b n h).getD (false,(0,[]),(0,[])))=p;intro a hx;obtain⟨rfl,rfl⟩:=Prod.mk.inj a;obtain⟨t,⟨l,m⟩,o,q⟩:=p;have hg:GoodM P0 xNJ 121 _ _ _ _:=xk6 (p:=xjh.pin) (xk5 xNa (xNb P0 _) rfl xwv rfl Tryz.func121 rfl Θ xt7 hx);cases t;exact hg;exact GoodM.bump1 rfl (by decide) hg
def xvO:EO:=xzO.wM xBJ
def xmE{T:Type}(l a:LA)(i:Int)(δ:T)(κl:(LA×Int)->T)(κr:(LA)->T):T:=br (decide (i<l.length)) (br (ixI l i) (br (ixT l i 3 [Sh.int .i64,Sh.int .i64] 0) (br (xg8 (gC l i 0).toInt (gC l i 1).toInt) (br (ixI l i) (br (ixS l i (Sh.int .i64) 0) (br ((xhl a (gC l i 0).toInt).isSome) (br (ixI l i) (br (ixS l i (Sh.int .i64) 1) (br ((xhl ((xhl a (gC l i 0).toInt).getD []) (gC l i 1).toInt).isSome) (κl ((xhl ((xhl a (gC l i 0).toInt).getD []) (gC l i 1).toInt).getD [],i64.wrap (i+1))) δ) δ) δ) δ) δ) δ) (κl (a,i64.wrap (i+1)))) δ) δ) (κr (a))
def xfG(l:LA):StT (LA×Int) (LA):=λ(a,i)=>xmE l a i none inL inR
def xlY:=xvO.l 82 0 [] [] Tryz.f85 0 lk0 [0,3,4] [0,3] [(3,1,1073741824)] (q3 (qL 3) (qL 1) qI) xNM (λ(l,a,i,_) _=>(xfG l,(a,i),λ p=>(.leaf (.exit 0) [AV.list 3 l,AV.list 1 p] []))) [] λ(l,_,_,_) _ (a,i)=>(((l,a,i,()),()),xmE l a i none)
def xmF{T:Type}(l b:LA)(c:Nat)(k n i:Int)(a:LA)(δ:T)(κl:(Int×Int×LA)->T)(κr:(Int×LA)->T):T:=br (decide (i<l.length)) (br (ixI l i) (br (ixT l i 3 [Sh.int .i64,Sh.int .i64] 0) (br (ixI b k) (br (ixS b k (Sh.int .i64) 0) (br (xlX (gC l i 0).toInt (gC l i 1).toInt (gC b k 0).toInt) (br (ixI l i) (br (ixS l i (Sh.int .i64) 2) (κl (i64.wrap (n+(gC l i 2).toInt),i64.wrap (i+1),a)) δ) δ) (κl (n,i64.wrap (i+1),a))) δ) δ) δ) δ) (κr (n,a))
def xfI(l c:LA)(b:Nat)(k:Int):StT (Int×Int×LA) (Int×LA):=λ(n,i,a)=>xmF l c b k n i a none inL inR
def xlZ:=xvO.l 82 0 [] [(3,xlY.lp)] Tryz.f85 2 lk0 [0,3,5,6,7,8] [0,3,5,6,7] [(5,2,132),(3,1,1073741824)] (q6 (qL 3) (qL 1) (xNW 0 0 0) qI qI qI) (q1 (qB 0 2 132 xNO)) (λ(l,c,a,k,n,i,_) (b,_)=>(xfI l c a k,(n,i,b),λ p=>(.leaf (.exit 4) [AV.list 3 l,AV.list 1 c,AV.osl 0 0 0 a,AV.int .i64 k,AV.int .i64 p.1] [bF 0 2 132 p.2]))) (0,[]) λ(l,c,a,k,_,_,_) _ (n,i,b)=>(((l,c,a,k,n,i,()),(b,())),xmF l c a k n i b none)
def xje(l c:LA)(b:Nat)(k:Int)(a:LA):=(Iter (xfI l c b k) (0,0,a)).getD (0,[])
def xjd(l c:LA)(a:Nat)(k:Int)(b:LA):=xdK a (gC c k 0).toInt (xje l c a k b).fst (xje l c a k b).snd
def xdY(l c:LA)(b:Nat)(k:Int)(a:LA):=(xjd l c b k a).getD (false,(0,[]),0,[])
def xjx{T:Type}(l c:LA)(b:Nat)(k:Int)(a:LA)(δ:T)(κl:(Nat×Int×LA)->T)(κr:(Nat×LA)->T):T:=br (decide (k<c.length)) (br (ixI c k) (br (ixS c k (Sh.int .i64) 0) (br (decide ((gC c k 0).toInt<1099511627776)) (br ((Iter (xfI l c b k) (0,0,a)).isSome) (br (ixI c k) (br (ixS c k (Sh.int .i64) 0) (br ((xjd l c b k a).isSome) (κl (br ((xdY l c b k a).fst) (((xdY l c b k a).snd).fst).fst (((xdY l c b k a).snd).snd).fst,i64.wrap (k+1),br ((xdY l c b k a).fst) (((xdY l c b k a).snd).fst).snd (((xdY l c b k a).snd).snd).snd)) δ) δ) δ) δ) (κr (b,a))) δ) δ) (κr (b,a))
def xfH(l c:LA):StT (Nat×Int×LA) (Nat×LA):=λ(b,k,a)=>xjx l c b k a none inL inR
def xsl:=xvO.l 82 0 [] [(3,xlY.lp),(14,xlZ.lp)] Tryz.f85 1 (lk1 xlZ.ok) [0,3,5,6] [5] [(5,2,132),(3,1,1073741824)] (q4 (qL 3) (qL 1) (xNW 0 0 0) qI) (q1 (qB 0 2 132 xNO)) (λ(l,c,b,k,_) (a,_)=>(xfH l c,(b,k,a),λ p=>(.leaf (.exit 2) [AV.osl 0 0 0 p.1] [bF 0 2 132 p.2]))) (0,[]) λ(l,c,_,_,_) _ (b,k,a)=>(((l,c,b,k,()),(a,())),xjx l c b k a none)
def xrV(l:LA):=Iter (xfH l ((Iter (xfG l) ([AV.int .i64 0],0)).getD [])) (0,0,[])
def xms(l:LA):=(xrV l).getD (0,[])
def xsS{T:Type}(l:LA)(δ:T)(κ:LA->T):T:=br ((Iter (xfG l) ([AV.int .i64 0],0)).isSome) (br ((xrV l).isSome) (br (decide (0+((xms l).fst)<=((xms l).snd).length)&&true) (κ (List.take ((xms l).fst) (List.drop 0 ((xms l).snd)))) δ) δ) δ
def xvD(l:LA):=xsS l none some
def xEm:EO:=xvO.f Tryz.func85 82 0 [] [(3,xlY.lp),(14,xlZ.lp),(10,xsl.lp)] (lks (lkC xlY.ok (lkC xsl.ok (lkC xlZ.ok lkN)))) (u1 (uL 3)) (λ(l,_) _=>xsS l) (λ _ p=>AV.list 2 p) []
def xiX{T:Type}(l c:LA)(b:Nat)(i:Int)(a:LA)(δ:T)(κl:(Nat×Int×LA)->T)(κr:(Nat×LA)->T):T:=br (decide (i<l.length)) (br (ixI l i) (br (ixS l i (Sh.list 3) 0) (br ((xbT (gC l i 0).toList c).isSome) (br ((xbT (gC l i 0).toList c).getD 0==0) (br (ixI l i) (br (ixT l i 3 [Sh.int .i64,Sh.int .i64] 1) (br (rmB b a 1 24) (κl (b+1,i64.wrap (i+1),a++[AV.agg [AV.int .i64 (gC l i 1).toInt,AV.int .i64 (gC l i 2).toInt,AV.int .i64 1]])) δ) δ) δ) (κl (b,i64.wrap (i+1),a))) δ) δ) δ) (κr (b,a))
def xd0(l b:LA):StT (Nat×Int×LA) (Nat×LA):=λ(c,i,a)=>xiX l b c i a none inL inR
def xps:=xEm.l 32 0 [] [] Tryz.f50 0 lk0 [0,1,5,6] [5] [(5,3,100)] (q4 (qL 3) (qL 3) (xNW 0 0 0) qI) (q1 (qB 0 3 100 xNO)) (λ(l,b,c,i,_) (a,_)=>(xd0 l b,(c,i,a),λ p=>(.leaf (.exit 0) [AV.osl 0 0 0 p.1] [bF 0 3 100 p.2]))) (0,[]) λ(l,b,_,_,_) _ (c,i,a)=>(((l,b,c,i,()),(a,())),xiX l b c i a none)
def xh3(l a:LA):=(Iter (xd0 l a) (0,0,[])).getD (0,[])
def xn7(l a:LA):=xvD (List.take ((xh3 l a).fst) (List.drop 0 ((xh3 l a).snd)))
def xoU{T:Type}(l a:LA)(δ:T)(κ:LA->T):T:=br ((Iter (xd0 l a) (0,0,[])).isSome) (br (decide (0+((xh3 l a).fst)<=((xh3 l a).snd).length)&&true) (br ((xn7 l a).isSome) (κ ((xn7 l a).getD [])) δ) δ) δ
def xn6(l a:LA):=xoU l a none some
def xvP:EO:=xEm.f Tryz.func50 32 0 [] [(3,xps.lp)] (lk1 xps.ok) (u2 (uL 3) (uL 3)) (λ(l,a,_) _=>xoU l a) (λ _ p=>AV.list 2 p) []
def xgD{T:Type}(a:LA)(c:Nat)(i k:Int)(b:LA)(δ:T)(κl:(Int×LA)->T)(κr:(Int×LA)->T):T:=br (decide (k<a.length)) (br (ixI a k) (br (ixS a k (Sh.list 3) 0) (br (ixI a i) (br (ixS a i (Sh.list 3) 0) (br ((xbT (gC a k 0).toList (gC a i 0).toList).isSome) (br ((xbT (gC a k 0).toList (gC a i 0).toList).getD 0==0) (κl (i64.wrap (k+1),b)) (κr (k,b))) δ) δ) δ) δ) δ) (κr (k,b))
def xcf(c:LA)(b:Nat)(i:Int):StT (Int×LA) (Int×LA):=λ(k,a)=>xgD c b i k a none inL inR
def xfV:=xvP.l 66 0 [] [] Tryz.f74 1 lk0 [3,4,5,6] [3,4,5,6] [(4,2,85)] (q4 (qL 3) (xNW 0 0 0) qI qI) (q1 (qB 0 2 85 xNO)) (λ(c,a,i,k,_) (b,_)=>(xcf c a i,(k,b),λ p=>(.leaf (.exit 2) [AV.list 3 c,AV.osl 0 0 0 a,AV.int .i64 i,AV.int .i64 p.1] [bF 0 2 85 p.2]))) (0,[]) λ(c,a,i,_,_) _ (k,b)=>(((c,a,i,k,()),(b,())),xgD c a i k b none)
def xgE{T:Type}(d:LA)(i k:Int)(a:LA)(c:Nat)(n:Int)(b:LA)(δ:T)(κl:(Nat×Int×LA)->T)(κr:(Nat×LA)->T):T:=br (decide (n<a.length)) (br (ixI a n) (br (ixS a n (Sh.list 3) 0) (br (decide (0<=k)&&decide (k<=d.length)&&(decide (0<=i)&&decide (i<=(↑k.toNat:Int)))) (br (ixI a n) (br (ixS a n (Sh.list 3) 0) (br ((xn6 (List.take (k.toNat - i.toNat) (List.drop i.toNat d)) (gC a n 0).toList).isSome) (br (rmB c b 1 48) (κl (c+1,i64.wrap (n+1),b++[AV.agg [AV.list 3 (gC a n 0).toList,AV.list 2 ((xn6 (List.take (k.toNat - i.toNat) (List.drop i.toNat d)) (gC a n 0).toList).getD [])]])) δ) δ) δ) δ) δ) δ) δ) (κr (c,b))
def xd2(d:LA)(i k:Int)(c:LA):StT (Nat×Int×LA) (Nat×LA):=λ(b,n,a)=>xgE d i k c b n a none inL inR
def xh6:=xvP.l 66 0 [] [(6,xfV.lp)] Tryz.f74 2 lk0 [3,4,5,6,7,8] [3,4,6] [(4,2,85)] (q6 (qL 3) (xNW 0 0 0) qI qI (qL 1) qI) (q1 (qB 0 2 85 xNO)) (λ(d,b,i,k,c,n,_) (a,_)=>(xd2 d i k c,(b,n,a),λ p=>(.leaf (.exit 4) [AV.list 3 d,AV.osl 0 0 0 p.1,AV.int .i64 k] [bF 0 2 85 p.2]))) (0,[]) λ(d,_,i,k,c,_,_) _ (b,n,a)=>(((d,b,i,k,c,n,()),(a,())),xgE d i k c b n a none)
def xcO(c:LA)(b:Nat)(i:Int)(a:LA):=((Iter (xcf c b i) (i,a)).getD (0,[])).fst
def xh5(c:LA)(a:Nat)(i:Int)(b:LA):=Iter (xd2 c i (xcO c a i b) ((xqn (List.take ((xcO c a i b).toNat - i.toNat) (List.drop i.toNat c))).getD [])) (a,0,((Iter (xcf c a i) (i,b)).getD (0,[])).snd)
def xiZ{T:Type}(c:LA)(b:Nat)(i:Int)(a:LA)(δ:T)(κl:(Nat×Int×LA)->T)(κr:(Nat×LA)->T):T:=br (decide (i<c.length)) (br ((Iter (xcf c b i) (i,a)).isSome) (br (decide (0<=xcO c b i a)&&decide (xcO c b i a<=c.length)&&(decide (0<=i)&&decide (i<=(↑(xcO c b i a).toNat:Int)))) (br ((xqn (List.take ((xcO c b i a).toNat - i.toNat) (List.drop i.toNat c))).isSome) (br ((xh5 c b i a).isSome) (κl (((xh5 c b i a).getD (0,[])).fst,xcO c b i a,((xh5 c b i a).getD (0,[])).snd)) δ) δ) δ) δ) (κr (b,a))
def xd1(c:LA):StT (Nat×Int×LA) (Nat×LA):=λ(b,i,a)=>xiZ c b i a none inL inR
def xpu:=xvP.l 66 0 [] [(6,xfV.lp),(10,xh6.lp)] Tryz.f74 0 (lks (lkC xfV.ok (lkC xh6.ok lkN))) [3,4,5] [4] [(4,2,85)] (q3 (qL 3) (xNW 0 0 0) qI) (q1 (qB 0 2 85 xNO)) (λ(c,b,i,_) (a,_)=>(xd1 c,(b,i,a),λ p=>(.leaf (.exit 0) [AV.osl 0 0 0 p.1] [bF 0 2 85 p.2]))) (0,[]) λ(c,_,_,_) _ (b,i,a)=>(((c,b,i,()),(a,())),xiZ c b i a none)
def xn8(l:LA):=Iter (xd1 ((xcg 100 l).getD [])) (0,0,[])
def xh7(l:LA):=(xn8 l).getD (0,[])
def xoW{T:Type}(l:LA)(δ:T)(κ:LA->T):T:=br ((xcg 100 l).isSome) (br ((xn8 l).isSome) (br (decide (0+((xh7 l).fst)<=((xh7 l).snd).length)&&true) (κ (List.take ((xh7 l).fst) (List.drop 0 ((xh7 l).snd)))) δ) δ) δ
def xln(l:LA):=xoW l none some
def xEn:EO:=xvP.f Tryz.func74 66 0 [] [(6,xfV.lp),(10,xh6.lp),(4,xpu.lp)] (lks (lkC xpu.ok (lkC xfV.ok (lkC xh6.ok lkN)))) (u1 (uL 3)) (λ(l,_) _=>xoW l) (λ _ p=>AV.list 2 p) []
def xeo(l:LA)(n i:Int):=decide ((gC l i 1).toInt>=n)
def xbk(l:LA)(b:Nat)(i:Int)(a:LA):=(xcu b (gC l i 0).toInt 1099511627776 a).getD (false,(0,[],[]),0,[])
def xdW(l:LA)(b:Nat)(i:Int)(a:LA):=xcu b (gC l i 0).toInt ((l.getD (i64.wrap (i+1)).toNat .top).cells.getD 0 .top).toInt a
def xdX(l:LA)(i:Int):=decide (i64.wrap (i+1)<(↑l.length:Int))
def xbv(l:LA)(b:Nat)(i:Int)(a:LA):=(xdW l b i a).getD (false,(0,[],[]),0,[])
def xdJ{T:Type}(l:LA)(n:Int)(b:Nat)(i:Int)(a:LA)(δ:T)(κl:(Nat×Int×LA)->T)(κr:(Nat×LA)->T):T:=br (decide (i<l.length)) (br (xdX l i) (br (decide (0<=i64.wrap (i+1))&&xdX l i) (br (decide ((i64.wrap (i+1)).toNat<l.length)&&xMx (Sh.int .i64) ((l.getD (i64.wrap (i+1)).toNat .top).cells.getD 0 .top)) (br (ixI l i) (br (ixS l i (Sh.int .i64) 1) (br (xeo l n i) (br (ixI l i) (br (ixS l i (Sh.int .i64) 0) (br ((xdW l b i a).isSome) (κl (br ((xbv l b i a).fst) (((xbv l b i a).snd).fst).fst (((xbv l b i a).snd).snd).fst,i64.wrap (i+1),br ((xbv l b i a).fst) (((xbv l b i a).snd).fst).snd.snd (((xbv l b i a).snd).snd).snd)) δ) δ) δ) (κl (b,i64.wrap (i+1),a))) δ) δ) δ) δ) (br (ixI l i) (br (ixS l i (Sh.int .i64) 1) (br (xeo l n i) (br (ixI l i) (br (ixS l i (Sh.int .i64) 0) (br ((xcu b (gC l i 0).toInt 1099511627776 a).isSome) (κl (br ((xbk l b i a).fst) (((xbk l b i a).snd).fst).fst (((xbk l b i a).snd).snd).fst,i64.wrap (i+1),br ((xbk l b i a).fst) (((xbk l b i a).snd).fst).snd.snd (((xbk l b i a).snd).snd).snd)) δ) δ) δ) (κl (b,i64.wrap (i+1),a))) δ) δ)) (κr (b,a))
def xa5(l:LA)(n:Int):StT (Nat×Int×LA) (Nat×LA):=λ(b,i,a)=>xdJ l n b i a none inL inR
def xoF:=xEn.l 42 0 [] [] Tryz.f86 0 lk0 [0,1,5,6] [5] [(5,2,52)] (q4 (qL 2) qI (xNW 0 0 0) qI) (q1 (qB 0 2 52 xNO)) (λ(l,n,b,i,_) (a,_)=>(xa5 l n,(b,i,a),λ p=>(.leaf (.exit 0) [AV.osl 0 0 0 p.1] [bF 0 2 52 p.2]))) (0,[]) λ(l,n,_,_,_) _ (b,i,a)=>(((l,n,b,i,()),(a,())),xdJ l n b i a none)
def xhm(l:LA)(n:Int):=(Iter (xa5 l n) (0,0,[])).getD (0,[])
def xn0{T:Type}(l:LA)(n:Int)(δ:T)(κ:LA->T):T:=br ((Iter (xa5 l n) (0,0,[])).isSome) (br (decide (0+((xhm l n).fst)<=((xhm l n).snd).length)&&true) (κ (List.take ((xhm l n).fst) (List.drop 0 ((xhm l n).snd)))) δ) δ
def xfn(l:LA)(n:Int):=xn0 l n none some
def xEo:EO:=xEn.f Tryz.func86 42 0 [] [(3,xoF.lp)] (lk1 xoF.ok) (u2 (uL 2) uI) (λ(l,n,_) _=>xn0 l n) (λ _ p=>AV.list 2 p) []
def xiV(l:LA)(i:Int):=decide (i.toNat<l.length)&&((l.getD i.toNat .top).cells.length==2&&xM6 [Sh.int .i64,Sh.int .i64] (l.getD i.toNat .top).cells 0)
def xhn{T:Type}(l:LA)(b:Nat)(i c d:Int)(a:LA)(δ:T)(κl:(Nat×Int×Int×Int×LA)->T)(κr:(Nat×Int×Int×Int×LA)->T):T:=br (decide (i<l.length)) (br (ixI l i) (br (xiV l i) (br (decide (xmA (gC l i 0).toInt (gC l i 1).toInt c d<=0)) (br (ixI l i) (br (xiV l i) (br (rmB b a 1 16) (κl (b+1,i64.wrap (i+1),c,d,a++[AV.agg [AV.int .i64 (gC l i 0).toInt,AV.int .i64 (gC l i 1).toInt]])) δ) δ) δ) (κr (b,i,c,d,a))) δ) δ) (κr (b,i,c,d,a))
def xdc(l:LA):StT (Nat×Int×Int×Int×LA) (Nat×Int×Int×Int×LA):=λ(b,i,c,d,a)=>xhn l b i c d a none inL inR
def xp4:=xEo.l 38 0 [] [] Tryz.f87 0 lk0 [0,3,5,6] [0,3,5,6] [(5,2,52)] (q4 (qL 2) (xNX 0 0 0 0) (xNW 1 0 0) qI) (q2 (qB 0 2 52 (q1 (xNY (q2 qI qI)))) (qB 0 2 52 xNO)) (λ(l,_,b,i,_) (((c,d,_),_),a,_)=>(xdc l,(b,i,c,d,a),λ p=>(.leaf (.exit 0) [AV.list 2 l,AV.own 0 0 0 0,AV.osl 1 0 0 p.1,AV.int .i64 p.2.1] [bF 0 2 52 [AV.agg [AV.int .i64 p.2.2.1,AV.int .i64 p.2.2.2.1]],bF 0 2 52 p.2.2.2.2]))) (0,0,0,0,[]) λ(l,_,_,_,_) _ (b,i,c,d,a)=>(((l,(),b,i,()),(((c,d,()),()),a,())),xhn l b i c d a none)
def xn1(l:LA)(a b:Int):=Iter (xdc l) (0,0,a,b,[])
def xce(l:LA)(a b:Int):=(xn1 l a b).getD (0,0,0,0,[])
def xjg(l:LA)(a b:Int):=((xce l a b).fst)+1
def xoQ(l:LA)(a b:Int):=List.take (l.length - (((xce l a b).snd).fst).toNat) (List.drop (((xce l a b).snd).fst).toNat l)
def xjf(l:LA)(a b:Int):=xjg l a b+(xoQ l a b).length
def xoP(l:LA)(a b:Int):=(((((xce l a b).snd).snd).snd).snd)++[AV.agg [AV.int .i64 (((xce l a b).snd).snd).fst,AV.int .i64 ((((xce l a b).snd).snd).snd).fst]]
def xoO(l:LA)(a b:Int):=xoP l a b++xoQ l a b
def xpP{T:Type}(l:LA)(a b:Int)(δ:T)(κ:LA->T):T:=br ((xn1 l a b).isSome) (br (((xce l a b).fst)==(((((xce l a b).snd).snd).snd).snd).length&&(decide (xjg l a b*16<=140737488355328)&&decide (xjg l a b<=4611686018427387904))) (br (decide (0<=(((xce l a b).snd).fst))&&decide ((((xce l a b).snd).fst)<=(↑l.length:Int))) (br (xjg l a b==(xoP l a b).length&&(decide (xjf l a b*16<=140737488355328)&&decide (xjf l a b<=4611686018427387904))) (br (decide (0+xjf l a b<=(xoO l a b).length)&&true) (κ (List.take (xjf l a b) (List.drop 0 (xoO l a b)))) δ) δ) δ) δ) δ
def xpa(l:LA)(a b:Int):=xpP l a b none some
def xzP:EO:=xEo.f Tryz.func87 38 0 [] [(3,xp4.lp)] (lk1 xp4.ok) (u2 (uL 2) (xN0 (u2 uI uI))) (λ(l,(a,b,_),_) _=>xpP l a b) (λ _ p=>AV.list 2 p) []
def xiU{T:Type}(l:LA)(n:Int)(a b:LA)(i:Int)(δ:T)(κl:(LA×Int)->T)(κr:(LA)->T):T:=br (decide (i<a.length)) (br (ixI a i) (br (ixT a i 2 [Sh.int .i64,Sh.int .i64] 0) (br ((xpa b (gC a i 0).toInt (gC a i 1).toInt).isSome) (κl ((xpa b (gC a i 0).toInt (gC a i 1).toInt).getD [],i64.wrap (i+1))) δ) δ) δ) (κr (b))
def xc0(l:LA)(n:Int)(b:LA):StT (LA×Int) (LA):=λ(a,i)=>xiU l n b a i none inL inR
def xh1:=xzP.l 31 0 [] [] Tryz.f52 1 lk0 [0,3,4,5,6] [0,3,4] [(3,2,1073741824)] (q5 (qL 2) (qL 2) qI (qL 2) qI) xNM (λ(l,a,n,b,i,_) _=>(xc0 l n b,(a,i),λ p=>(.leaf (.exit 2) [AV.list 2 l,AV.list 2 p,AV.int .i64 n] []))) [] λ(l,_,n,b,_,_) _ (a,i)=>(((l,a,n,b,i,()),()),xiU l n b a i none)
def xiT{T:Type}(l a:LA)(n:Int)(δ:T)(κl:(LA×Int)->T)(κr:(Bool×(LA×LA)×(LA))->T):T:=br (decide (n<=1048576)) (br ((xfn l n).isSome) (br ((↑((xfn l n).getD []).length:Int)==0) (κr (true,(a,a),[])) (br ((Iter (xc0 l n ((xfn l n).getD [])) (a,0)).isSome) (κl ((Iter (xc0 l n ((xfn l n).getD [])) (a,0)).getD [],i64.wrap (n+1))) δ)) δ) (κr (false,([],[]),(a)))
def xcx(l:LA):StT (LA×Int) (Bool×(LA×LA)×(LA)):=λ(a,n)=>xiT l a n none inL inR
def xpo:=xzP.l 31 0 [] [(9,xh1.lp)] Tryz.f52 0 (lk1 xh1.ok) [0,3,4] [2,3] [(3,2,1073741824)] (q3 (qL 2) (qL 2) qI) xNM (λ(l,a,n,_) _=>(xcx l,(a,n),λ p=>(.node p.1 (.leaf .ret [AV.list 2 p.2.1.1,AV.list 2 p.2.1.2] []) (.leaf (.exit 0) [.top,AV.list 2 p.2.2] [])))) (false,([],[]),[]) λ(l,_,_,_) _ (a,n)=>(((l,a,n,()),()),xiT l a n none)
def xkA(l:LA):=(Iter (xcx l) ([],1)).getD (false,([],[]),[])
def xoN{T:Type}(l:LA)(δ:T)(κ:LA->T):T:=br ((Iter (xcx l) ([],1)).isSome) (br ((xkA l).fst) (κ (((xkA l).snd).fst.fst)) (κ (((xkA l).snd).snd))) δ
def xe9(l:LA):=xoN l none some
def xEp:EO:=xzP.f Tryz.func52 31 0 [] [(9,xh1.lp),(3,xpo.lp)] (lks (lkC xpo.ok (lkC xh1.ok lkN))) (u1 (uL 2)) (λ(l,_) _=>xoN l) (λ _ p=>AV.list 2 p) []
def xiY{T:Type}(d c:LA)(b:Nat)(i:Int)(a:LA)(δ:T)(κl:(Nat×Int×LA)->T)(κr:(Nat×LA)->T):T:=br (decide (i<c.length)) (br (ixI c i) (br (ixT c i 2 [Sh.int .i64,Sh.int .i64] 0) (br (rmB b a 1 40) (κl (b+1,i64.wrap (i+1),a++[AV.agg [AV.list 3 d,AV.int .i64 (gC c i 0).toInt,AV.int .i64 (gC c i 1).toInt]])) δ) δ) δ) (κr (b,a))
def xc1(c d:LA):StT (Nat×Int×LA) (Nat×LA):=λ(b,i,a)=>xiY c d b i a none inL inR
def xpt:=xEp.l 23 0 [] [] Tryz.f51 0 lk0 [0,1,5,6] [5] [(5,3,54)] (q4 (qL 3) (qL 2) (xNW 0 0 0) qI) (q1 (qB 0 3 54 xNO)) (λ(c,d,b,i,_) (a,_)=>(xc1 c d,(b,i,a),λ p=>(.leaf (.exit 0) [AV.osl 0 0 0 p.1] [bF 0 3 54 p.2]))) (0,[]) λ(c,d,_,_,_) _ (b,i,a)=>(((c,d,b,i,()),(a,())),xiY c d b i a none)
def xh4(a b:LA):=(Iter (xc1 a b) (0,0,[])).getD (0,[])
def xoV{T:Type}(a b:LA)(δ:T)(κ:LA->T):T:=br ((Iter (xc1 a b) (0,0,[])).isSome) (br (decide (0+((xh4 a b).fst)<=((xh4 a b).snd).length)&&true) (κ (List.take ((xh4 a b).fst) (List.drop 0 ((xh4 a b).snd)))) δ) δ
def xlm(a b:LA):=xoV a b none some
def xEq:EO:=xEp.f Tryz.func51 23 0 [] [(3,xpt.lp)] (lk1 xpt.ok) (u2 (uL 3) (uL 2)) (λ(a,b,_) _=>xoV a b) (λ _ p=>AV.list 3 p) []
def xkC(g:LA)(a:Nat)(i:Int):=a+((xlm (gC g i 0).toList ((xe9 (gC g i 1).toList).getD [])).getD []).length
def xlx{T:Type}(g:LA)(a:Nat)(i:Int)(b:LA)(δ:T)(κl:(Nat×Int×LA)->T)(κr:(Nat×LA)->T):T:=br (decide (i<g.length)) (br (ixI g i) (br (ixS g i (Sh.list 3) 0) (br (ixI g i) (br (ixS g i (Sh.list 2) 1) (br ((xe9 (gC g i 1).toList).isSome) (br ((xlm (gC g i 0).toList ((xe9 (gC g i 1).toList).getD [])).isSome) (br (a==b.length&&(decide (xkC g a i*40<=140737488355328)&&decide (xkC g a i<=4611686018427387904))) (κl (xkC g a i,i64.wrap (i+1),b++(xlm (gC g i 0).toList ((xe9 (gC g i 1).toList).getD [])).getD [])) δ) δ) δ) δ) δ) δ) δ) (κr (a,b))
def xfi(g:LA):StT (Nat×Int×LA) (Nat×LA):=λ(b,i,a)=>xlx g b i a none inL inR
def xrC:=xEq.l 29 0 [] [] Tryz.f36 0 lk0 [3,4,5] [4] [(4,3,54)] (q3 (qL 2) (xNW 0 0 0) qI) (q1 (qB 0 3 54 xNO)) (λ(g,b,i,_) (a,_)=>(xfi g,(b,i,a),λ p=>(.leaf (.exit 0) [AV.osl 0 0 0 p.1] [bF 0 3 54 p.2]))) (0,[]) λ(g,_,_,_) _ (b,i,a)=>(((g,b,i,()),(a,())),xlx g b i a none)
def xll(l:LA):=(Iter (xfi ((xln l).getD [])) (0,0,[])).getD (0,[])
def xrY{T:Type}(l:LA)(δ:T)(κ:LA->T):T:=br ((xln l).isSome) (br ((Iter (xfi ((xln l).getD [])) (0,0,[])).isSome) (br (decide (0+((xll l).fst)<=((xll l).snd).length)&&true) (κ (List.take ((xll l).fst) (List.drop 0 ((xll l).snd)))) δ) δ) δ
def xrB(l:LA):=xrY l none some
def xEr:EO:=xEq.f Tryz.func36 29 0 [] [(4,xrC.lp)] (lk1 xrC.ok) (u1 (uL 3)) (λ(l,_) _=>xrY l) (λ _ p=>AV.list 3 p) []
def xdZ{T:Type}(a:List UInt8)(i:Int)(δ:T)(κl:(Int)->T)(κr:(Bool×(Bool)×(Unit))->T):T:=br (decide (i<a.length)) (br (decide (0<=i)&&decide (i<a.length)) (br (decide ((↑(a.getD i.toNat (0:UInt8)).toNat:Int)<32)) (κr (true,(false),())) (br (decide (0<=i)&&decide (i<a.length)) (br (decide ((↑(a.getD i.toNat (0:UInt8)).toNat:Int)>126)) (κr (true,(false),())) (κl (i64.wrap (i+1)))) δ)) δ) (κr (false,false,()))
def xaW(a:List UInt8):StT (Int) (Bool×(Bool)×(Unit)):=λ(i)=>xdZ a i none inL inR
def xnl:=xEr.l 20 0 [] [] Tryz.f145 0 lk0 [0,3] [2] [] (q2 pStr qI) xNM (λ(a,i,_) _=>(xaW a,(i),λ p=>(.node p.1 (.leaf .ret [AV.bool p.2.1] []) (.leaf (.exit 0) [.top] [])))) (false,false,()) λ(a,_,_) _ (i)=>(((a,i,()),()),xdZ a i none)
def xl8{T:Type}(a:List UInt8)(δ:T)(κ:Bool->T):T:=br ((Iter (xaW a) 0).isSome) (br (((Iter (xaW a) 0).getD (false,false,())).fst) (κ (((Iter (xaW a) 0).getD (false,false,())).snd.fst)) (κ (true))) δ
def xkB(a:List UInt8):=xl8 a none some
def xJl:EO:=xEr.f Tryz.func145 20 0 [] [(2,xnl.lp)] (lk1 xnl.ok) (u1 (sEq pStr)) (λ(a,_) _=>xl8 a) (λ _ p=>AV.bool p) false
def xpQ{T:Type}(c a:Int)(b:List UInt8)(δ:T)(κ:Bool->T):T:=br (c==0) (br (a==0) (κ (b==[])) (κ (false))) (br (c==1) (br (b==[]) (br (decide (a>=(-1125899906842624))) (κ (decide (a<=1125899906842624))) (κ (false))) (κ (false))) (br (c==2) (br (a==0) (br (decide ((↑b.length:Int)<=200)) (br ((xkB b).isSome) (κ ((xkB b).getD false)) δ) (κ (false))) (κ (false))) (br (c==3) (br (b==[]) (br (a==0) (κ (true)) (κ (a==1))) (κ (false))) (κ (false)))))
def xrW(a b:Int)(c:List UInt8):=xpQ a b c none some
def xEt:EO:=xJl.f Tryz.func127 61 0 [] [] lk0 (u1 (xN0 (u3 uI uI (sEq pStr)))) (λ((a,b,c,_),_) _=>xpQ a b c) (λ _ p=>AV.bool p) false
def xfJ(a:LA)(i:Int):=xrW (gC a i 0).toInt (gC a i 1).toInt (gC a i 2).toStr
def xfa{T:Type}(a b:LA)(i:Int)(δ:T)(κl:(Int)->T)(κr:(Bool×(Bool)×(Unit))->T):T:=br (decide (i<a.length)) (br (ixI a i) (br (ixT a i 3 [Sh.int .i64,Sh.int .i64,Sh.str] 0) (br ((xfJ a i).isSome) (br (!(xfJ a i).getD false) (κr (true,(false),())) (br (ixI a i) (br (ixS a i (Sh.int .i64) 0) (br ((gC a i 0).toInt !=0) (br (ixI a i) (br (ixS a i (Sh.int .i64) 0) (br (ixI b i) (br (ixS b i (Sh.int .i64) 0) (br ((gC a i 0).toInt !=(gC b i 0).toInt) (κr (true,(false),())) (κl (i64.wrap (i+1)))) δ) δ) δ) δ) (κl (i64.wrap (i+1)))) δ) δ)) δ) δ) δ) (κr (false,false,()))
def xbl(b a:LA):StT (Int) (Bool×(Bool)×(Unit)):=λ(i)=>xfa b a i none inL inR
def xqx:=xEt.l 43 0 [] [] Tryz.f90 0 lk0 [0,1,5] [4] [] (q3 (qL 3) (qL 1) qI) xNM (λ(b,a,i,_) _=>(xbl b a,(i),λ p=>(.node p.1 (.leaf .ret [AV.bool p.2.1] []) (.leaf (.exit 0) [.top] [])))) (false,false,()) λ(b,a,_,_) _ (i)=>(((b,a,i,()),()),xfa b a i none)
def xq0{T:Type}(b a:LA)(δ:T)(κ:Bool->T):T:=br ((↑b.length:Int) !=(↑a.length:Int)) (κ (false)) (br ((Iter (xbl b a) 0).isSome) (br (((Iter (xbl b a) 0).getD (false,false,())).fst) (κ (((Iter (xbl b a) 0).getD (false,false,())).snd.fst)) (κ (true))) δ)
def xqm(b a:LA):=xq0 b a none some
def xJm:EO:=xEt.f Tryz.func90 43 0 [] [(4,xqx.lp)] (lk1 xqx.ok) (u2 (uL 3) (uL 1)) (λ(b,a,_) _=>xq0 b a) (λ _ p=>AV.bool p) false
def xsV(k:Int):Bool:=(br (k==1) ((true)) (br (k==2) ((true)) ((k==3))))
def xAS{T:Type}(k:Int)(δ:T)(κ:Bool->T):T:=br (k==1) (κ (true)) (br (k==2) (κ (true)) (κ (k==3)))
def xEu:EO:=xJm.fT Tryz.func128 13 0 [] [] lk0 (λ(k,_)=>xAS k none) (u1 uI) (λ(k,_)=>xsV k) (λ _ p=>(AV.bool p))
def xho{T:Type}(l:LA)(i:Int)(δ:T)(κl:(Int)->T)(κr:(Bool×(Bool)×(Unit))->T):T:=br (decide (i<l.length)) (br (ixI l i) (br (ixS l i (Sh.int .i64) 0) (br (!xsV (gC l i 0).toInt) (κr (true,(false),())) (κl (i64.wrap (i+1)))) δ) δ) (κr (false,false,()))
def xbY(l:LA):StT (Int) (Bool×(Bool)×(Unit)):=λ(i)=>xho l i none inL inR
def xp5:=xEu.l 16 0 [] [] Tryz.f91 0 lk0 [0,3] [2] [] (q2 (qL 1) qI) xNM (λ(l,i,_) _=>(xbY l,(i),λ p=>(.node p.1 (.leaf .ret [AV.bool p.2.1] []) (.leaf (.exit 0) [.top] [])))) (false,false,()) λ(l,_,_) _ (i)=>(((l,i,()),()),xho l i none)
def xpS{T:Type}(l:LA)(δ:T)(κ:Bool->T):T:=br ((Iter (xbY l) 0).isSome) (br (((Iter (xbY l) 0).getD (false,false,())).fst) (κ (((Iter (xbY l) 0).getD (false,false,())).snd.fst)) (κ (true))) δ
def xpb(l:LA):=xpS l none some
def xEv:EO:=xEu.f Tryz.func91 16 0 [] [(2,xp5.lp)] (lk1 xp5.ok) (u1 (uL 1)) (λ(l,_) _=>xpS l) (λ _ p=>AV.bool p) false
def xfL{T:Type}(i:Int)(b a:LA)(δ:T)(κl:(Int×LA×LA)->T)(κr:(Bool×(Bool×LA×LA)×(LA×LA))->T):T:=br (decide (i<a.length)) (br (ixI a i) (br (ixT a i 3 [Sh.int .i64,Sh.int .i64] 1) (br (!xg8 (gC a i 1).toInt (gC a i 2).toInt) (κr (true,(false,b,a),([],[]))) (br (ixI a i) (br (ixS a i (Sh.list 3) 0) (br ((xqm (gC a i 0).toList b).isSome) (br (!(xqm (gC a i 0).toList b).getD false) (κr (true,(false,b,a),([],[]))) (κl (i64.wrap (i+1),b,a))) δ) δ) δ)) δ) δ) (κr (false,(false,[],[]),(b,a)))
def xbZ:StT (Int×LA×LA) (Bool×(Bool×LA×LA)×(LA×LA)):=λ(i,a,b)=>xfL i a b none inL inR
def xp6:=xEv.l 46 0 [] [] Tryz.f57 0 lk0 [1,3] [1,2] [] (q2 (xNX 0 0 0 0) qI) (q1 (qB 0 2 25 (q1 (xNY (q2 (qL 1) (qL 3)))))) (λ(_,i,_) (((a,b,_),_),_)=>(xbZ,(i,a,b),λ p=>(.node p.1 (.leaf .ret [AV.own 0 0 0 0,AV.bool p.2.1.1] [bF 0 2 25 [AV.agg [AV.list 1 p.2.1.2.1,AV.list 3 p.2.1.2.2]]]) (.leaf (.exit 0) [AV.own 0 0 0 0,.top] [bF 0 2 25 [AV.agg [AV.list 1 p.2.2.1,AV.list 3 p.2.2.2]]])))) (false,(false,[],[]),([],[])) λ _ _ (i,a,b)=>((((),i,()),(((a,b,()),()),())),xfL i a b none)
def xeQ(a b:LA):=(Iter xbZ (0,a,b)).getD (false,(false,[],[]),[],[])
def xjl(a b:LA):=(↑(((xeQ a b).snd).snd.fst).length:Int)
def xpV{T:Type}(a b:LA)(δ:T)(κ:Bool->T):T:=br ((Iter xbZ (0,a,b)).isSome) (br ((xeQ a b).fst) (κ (((xeQ a b).snd).fst.fst)) (br (decide (xjl a b>0)) (br (decide (xjl a b<=48)) (br ((xpb (((xeQ a b).snd).snd.fst)).isSome) (κ ((xpb (((xeQ a b).snd).snd.fst)).getD false)) δ) (κ (false))) (κ (false)))) δ
def xpc(a b:LA):=xpV a b none some
def xEw:EO:=xEv.f Tryz.func57 46 0 [] [(2,xp6.lp)] (lk1 xp6.ok) (u1 (xN0 (u2 (uL 1) (uL 3)))) (λ((a,b,_),_) _=>xpV a b) (λ _ p=>AV.bool p) false
def xgV{T:Type}(a b:LA)(i:Int)(δ:T)(κl:(Int)->T)(κr:(Bool×(Bool)×(Unit))->T):T:=br (decide (i<a.length)) (br (ixI a i) (br (ixS a i (Sh.int .i64) 0) (br (ixI b i) (br (ixS b i (Sh.int .i64) 0) (br ((gC a i 0).toInt !=(gC b i 0).toInt) (κr (true,(false),())) (κl (i64.wrap (i+1)))) δ) δ) δ) δ) (κr (false,false,()))
def xb5(a b:LA):StT (Int) (Bool×(Bool)×(Unit)):=λ(i)=>xgV a b i none inL inR
def xnm:=xEw.l 26 0 [] [] Tryz.f39 0 lk0 [0,1,5] [4] [] (q3 (qL 1) (qL 1) qI) xNM (λ(a,b,i,_) _=>(xb5 a b,(i),λ p=>(.node p.1 (.leaf .ret [AV.bool p.2.1] []) (.leaf (.exit 0) [.top] [])))) (false,false,()) λ(a,b,_,_) _ (i)=>(((a,b,i,()),()),xgV a b i none)
def xma{T:Type}(a b:LA)(δ:T)(κ:Bool->T):T:=br ((↑a.length:Int) !=(↑b.length:Int)) (κ (false)) (br ((Iter (xb5 a b) 0).isSome) (br (((Iter (xb5 a b) 0).getD (false,false,())).fst) (κ (((Iter (xb5 a b) 0).getD (false,false,())).snd.fst)) (κ (true))) δ)
def xgh(a b:LA):=xma a b none some
def xJn:EO:=xEw.f Tryz.func39 26 0 [] [(4,xnm.lp)] (lk1 xnm.ok) (u2 (uL 1) (uL 1)) (λ(a,b,_) _=>xma a b) (λ _ p=>AV.bool p) false
def xpT{T:Type}(a b c d:LA)(δ:T)(κ:Bool->T):T:=br ((xgh a c).isSome) (br ((xgh a c).getD false) (br ((xbp b d).isSome) (κ ((xbp b d).getD false)) δ) (κ (false))) δ
def xb2(a b c d:LA):=xpT a b c d none some
def xJo:EO:=xJn.f Tryz.func12 17 0 [] [] lk0 (u2 (xN0 (u2 (uL 1) (uL 3))) (xN0 (u2 (uL 1) (uL 3)))) (λ((a,b,_),(c,d,_),_) _=>xpT a b c d) (λ _ p=>AV.bool p) false
def xrQ{T:Type}(a b:LA)(δ:T)(κ:Bool->T):T:=br (decide ((↑b.length:Int)<=16)) (br (decide ((↑a.length:Int)<=48)) (br ((xpc a b).isSome) (κ ((xpc a b).getD false)) δ) (κ (false))) (κ (false))
def xni(a b:LA):=xrQ a b none some
def xI0:EO:=xJo.f Tryz.func21 17 0 [] [] lk0 (u1 (xN0 (u2 (uL 1) (uL 3)))) (λ((a,b,_),_) _=>xrQ a b) (λ _ p=>AV.bool p) false
def xqS{T:Type}(a c b d:LA)(δ:T)(κ:Bool->T):T:=br ((xni a c).isSome) (br ((xni a c).getD false) (br ((xni b d).isSome) (br ((xni b d).getD false) (br ((xgh a b).isSome) (κ ((xgh a b).getD false)) δ) (κ (false))) δ) (κ (false))) δ
def xlP(a b c d:LA):=xqS a b c d none some
def xEd:EO:=xI0.f Tryz.func10 18 0 [] [] lk0 (u2 (xN0 (u2 (uL 1) (uL 3))) (xN0 (u2 (uL 1) (uL 3)))) (λ((a,b,_),(c,d,_),_) _=>xqS a b c d) (λ _ p=>AV.bool p) false
end Go.Sim.M
