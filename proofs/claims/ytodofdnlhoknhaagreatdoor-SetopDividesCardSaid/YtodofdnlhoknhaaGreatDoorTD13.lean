/- Part 13 of the proof of the law. -/
import Derived.Test.YtodofdnlhoknhaaGreatDoorTD12
import Derived.StillTailTactics
set_option linter.defProp false
set_option linter.unusedVariables false
set_option linter.unusedSimpArgs false
set_option maxRecDepth 100000
noncomputable section
namespace Go.Sim.M
def cmpI(x y:Int):Int:=if x<y then -1 else if y<x then 1 else 0
def orI(x y:Int):Int:=if x=0 then y else x
end Go.Sim.M
namespace Go.Proofs
open Go.RowKit Go.Sim Go.Sim.M Go.Sort Go.Lib
def Tryz.cmp_walk(x y:Int)(w:World):Calls Tryz.prog 110 #[.int .i64 x,.int .i64 y] w λ e w'=>e=.returned (.int .i64 (cmpI x y))/\w'=w:=by unfold cmpI;go_enter Tryz.func110,Tryz.ntmps110;go_wp2;all_goals (go_ret;exact⟨rfl,rfl⟩)
def Tryz.or_walk(x y:Int)(b off c:Nat)(w:World)(h0:w.cell? ⟨b,off,none⟩=some (.int .i64 x))(h1:w.cell? ⟨b,off+1,none⟩=some (.int .i64 y)):Calls Tryz.prog 109 #[.slice (some ⟨b,off,none⟩) 2 c] w λ e w'=>e=.returned (.int .i64 (orI x y))/\w'=w:=by
 unfold orI;by_cases hx:x=0
 . subst hx;rw[if_pos rfl];by_cases hy:y=0
   . subst hy
     go_enter Tryz.func109,Tryz.ntmps109
     go_wp2
     refine wp_loop_rounds 3 ?_;rw[rounds_succ]
     go_wp2
     rw[rounds_succ]
     go_wp2
     rw[rounds_succ]
     go_wp2
     go_ret
     exact⟨rfl,rfl⟩
   . have hy':(y !=0)=true:=by simpa using hy
     go_enter Tryz.func109,Tryz.ntmps109
     go_wp2
     refine wp_loop_rounds 3 ?_;rw[rounds_succ]
     go_wp2
     rw[rounds_succ]
     go_wp2
     go_ret
     exact⟨rfl,rfl⟩
 . have hx':(x !=0)=true:=by simpa using hx
   rw[if_neg hx]
   go_enter Tryz.func109,Tryz.ntmps109
   go_wp2
   refine wp_loop_rounds 3 ?_;rw[rounds_succ]
   go_wp2
   go_ret
   exact⟨rfl,rfl⟩
def fill2I(u1 u2:Int):Instr.fill (λ i=>some (i*1,1)) ((Array.range (2*1)).map (λ x=>(Value.int .i64 0).cells[x % (Value.int .i64 0).cells.size]!)) [(0,.int .i64 u1),(1,.int .i64 u2)]=some #[.int .i64 u1,.int .i64 u2]:=by simp[Instr.fill,Array.range,Value.cells];apply Array.ext;simp;intro i h1 h2;rcases i with _|_|i;simp;simp;simp at h2;omega
set_option maxHeartbeats 2000000 in
def Tryz.levels2_walk(a b c d:Int)(w:World):Calls Tryz.prog 108 #[.agg #[.int .i64 a,.int .i64 b],.agg #[.int .i64 c,.int .i64 d]] w λ e w'=>e=.returned (.int .i64 (orI (cmpI a c) (cmpI b d)))/\∃q J,w'=Sort.grow (w.drewN q) J:=by
 go_enter Tryz.func108,Tryz.ntmps108;go_wp2_with (go_at_call 110;skip);have g0:(w.alloc (.cells #[.int .i64 a,.int .i64 b] 52)).heap[w.heap.size]?=some (.cells #[.int .i64 a,.int .i64 b] 52 (0,0)):=heap_alloc_new w _;have g1:((w.alloc (.cells #[.int .i64 a,.int .i64 b] 52)).alloc (.cells #[.int .i64 c,.int .i64 d] 52)).heap[w.heap.size+1]?=some (.cells #[.int .i64 c,.int .i64 d] 52 (0,0)):=by(have:=heap_alloc_new (w.alloc (.cells #[.int .i64 a,.int .i64 b] 52)) (.cells #[.int .i64 c,.int .i64 d] 52);have e:(w.alloc (.cells #[.int .i64 a,.int .i64 b] 52)).heap.size=w.heap.size+1:=by simp);rwa [e]at this
 have f0:((w.alloc (.cells #[.int .i64 a,.int .i64 b] 52)).alloc (.cells #[.int .i64 c,.int .i64 d] 52)).cell? ⟨w.heap.size,0,none⟩=some (.int .i64 a):=by rw[World.cell?_alloc_past _ _ _ (by simp)];simp only[World.cell?,g0];rfl
 have f1:((w.alloc (.cells #[.int .i64 a,.int .i64 b] 52)).alloc (.cells #[.int .i64 c,.int .i64 d] 52)).cell? ⟨w.heap.size,1,none⟩=some (.int .i64 b):=by rw[World.cell?_alloc_past _ _ _ (by simp)];simp only[World.cell?,g0];rfl
 have f2:((w.alloc (.cells #[.int .i64 a,.int .i64 b] 52)).alloc (.cells #[.int .i64 c,.int .i64 d] 52)).cell? ⟨w.heap.size+1,0,none⟩=some (.int .i64 c):=by simp only[World.cell?,g1];rfl
 have f3:((w.alloc (.cells #[.int .i64 a,.int .i64 b] 52)).alloc (.cells #[.int .i64 c,.int .i64 d] 52)).cell? ⟨w.heap.size+1,1,none⟩=some (.int .i64 d):=by simp only[World.cell?,g1];rfl
 have f4:∃q J,((w.alloc (.cells #[.int .i64 a,.int .i64 b] 52)).alloc (.cells #[.int .i64 c,.int .i64 d] 52))=Sort.grow (w.drewN q) J:=⟨0,_,by rw[alloc_eq_grow,alloc_eq_grow,grow_grow];rfl⟩;generalize ((w.alloc (.cells #[.int .i64 a,.int .i64 b] 52)).alloc (.cells #[.int .i64 c,.int .i64 d] 52))=W2 at f0 f1 f2 f3 f4|-;refine wp_region_still_tail 10 (by kernel_rfl) (by kernel_rfl) ?_;simp only[List.take_succ_cons,List.take_zero,List.drop_succ_cons,List.drop_zero];change wpStill _ _ (World.drew W2) _ _ _;have f0':W2.drew.cell? ⟨w.heap.size,0,none⟩=some (.int .i64 a):=f0;have f1':W2.drew.cell? ⟨w.heap.size,1,none⟩=some (.int .i64 b):=f1;have f2':W2.drew.cell? ⟨w.heap.size+1,0,none⟩=some (.int .i64 c):=f2;have f3':W2.drew.cell? ⟨w.heap.size+1,1,none⟩=some (.int .i64 d):=f3;have f4':∃q J,W2.drew=Sort.grow (w.drewN q) J:=by obtain⟨q,J,e⟩:=f4;exact⟨q+1,J,by rw[e];rfl⟩
 iterate 4 still_step
 still_call (Tryz.cmp_walk _ _ _);iterate 4 still_step
 still_call (Tryz.cmp_walk _ _ _);refine wpStill_nil ?_;change wpList _ _ _ _ _ (World.drew W2);generalize World.drew W2=W at f0' f1' f2' f3' f4'|-;generalize O:cmpI a c=u1;generalize Q:cmpI b d=u2;obtain⟨ie,q1,q2,q3⟩:∃ie,Tryz.prog.info? 3=some ie/\ie.zero=some (.int .i64 0)/\ie.size=1:=⟨(Tryz.prog.info? 3).get (by kernel_rfl),(Option.some_get _).symm,by kernel_rfl,by kernel_rfl⟩;refine wpList_buildSlice rfl 22 3 2 _ rfl #[.int .i64 u1,.int .i64 u2] ie (.int .i64 0) (by kernel_rfl) q1 q2 (by rw[q3];decide) (by rw[q3];decide) (by rw[q3];refine Eq.trans (congrArg _ ?_) (fill2I u1 u2);simp[Act.eval]) ?_;simp only[Act.put];go_wp2_with fail;have g2:(W.alloc (.cells #[.int .i64 u1,.int .i64 u2] 3)).heap[W.heap.size]?=some (.cells #[.int .i64 u1,.int .i64 u2] 3 (0,0)):=heap_alloc_new W _;refine(Tryz.or_walk u1 u2 W.heap.size 0 2 (W.alloc (.cells #[.int .i64 u1,.int .i64 u2] 3)) (by simp only[World.cell?,g2];rfl) (by simp only[World.cell?,g2];rfl)).mono ?_;rintro e w' ⟨rfl,rfl⟩;go_wp2;go_ret;obtain⟨q,J,hq⟩:=f4';exact⟨by rw[O,Q];rfl,q,_,by rw[hq,alloc_eq_grow,grow_grow]⟩
end Go.Proofs
namespace Go.Sim.M
abbrev TyE:Type:=Fin 1099511627777×Int×Int
def intsE(x:TyE):List Int:=[(x.1.val:Int),x.2.1,x.2.2]
def cmpE(x y:TyE):Int:=(x.1.val:Int) - (y.1.val:Int)
end Go.Sim.M
namespace Go.Proofs
open Go.RowKit Go.Sim Go.Sim.M Go.Sort
set_option maxHeartbeats 1000000 in
def Tryz.walkE(a b c a' b' c' r:Int)(hr:IntKind.i64.wrap (a - a')=r)(W:World):Calls Tryz.prog 147 #[.agg #[.int .i64 a,.int .i64 b,.int .i64 c],.agg #[.int .i64 a',.int .i64 b',.int .i64 c']] W λ e w'=>e=.returned (.int .i64 r)/\∃q os',w'=Sort.grow (W.drewN q) os':=by go_enter Tryz.func147,Tryz.ntmps147;go_wp2;go_ret;subst hr;exact⟨rfl,0,_,by rw[alloc_eq_grow,alloc_eq_grow,grow_grow];rfl⟩
end Go.Proofs
namespace Go.Sim.M
open Go.RowKit Go.Proofs Go.Sort
def isE:AV->Bool|.agg [.int .i64 a,.int .i64 _,.int .i64 _]=>decide (0<=a)&&decide (a<=1099511627776)|_=>false
def decE:AV->TyE|.agg [.int _ a,.int _ b,.int _ c]=>(Fin.ofNat 1099511627777 a.toNat,b,c)|_=>default
noncomputable def srtE(xs:List AV):List AV:=(pdqL cmpE (xs.map decE)).map (encI intsE)
def xFZ{x:AV}(h:isE x):encI intsE (decE x)=x:=by unfold isE at h;split at h;rename_i a b c;simp only[Bool.and_eq_true,decide_eq_true_eq]at h;have:a.toNat % 1099511627777=a.toNat:=Nat.mod_eq_of_lt (by omega);simp only[decE,encI,intsE,List.map_cons,List.map_nil,Fin.ofNat,this,Int.toNat_of_nonneg h.1];simp at h
def xEj{xs:List AV}(h:xs.all isE):(xs.map decE).map (encI intsE)=xs:=by rw[List.map_map];(conv=>rhs;rw[<-List.map_id xs]);refine List.map_congr_left λ x hx=>?_;exact xFZ (List.all_eq_true.1 h x hx)
def ltE(x y:TyE):ltOf cmpE x y=decide (x.1.val<y.1.val):=by unfold ltOf cmpE;by_cases h:x.1.val<y.1.val;rw[decide_eq_true h,decide_eq_true (by omega)];rw[decide_eq_false h,decide_eq_false (by omega)]
def swoE:SWO (ltOf cmpE) where
 irrefl x:=by rw[ltE];simp
 trans x y z h1 h2:=by rw[ltE]at *;simp at *;omega
 ntrans x y z h1 h2:=by rw[ltE]at *;simp at *;omega
noncomputable def xwz:List AV->List Box->Option (Bool×AV×List Box)|[.osl (.b 0) ver 0 n,.func g []],[⟨ver',3,ty,xs,false,true⟩]=>(match Nat.beq g 147&&Nat.beq ty 154 with|true=>some (Nat.beq ver ver'&&(Nat.beq n xs.length&&(decide (n<4611686018427387904)&&xs.all isE)),.tuple [],[⟨ver',3,154,srtE xs,false,true⟩])|false=>none)|_,_=>none
def xH9:OmOk Tryz.prog xMZ 146 xwz:=λ Q H r H' h=>by
 unfold xwz at h;split at h;rename_i ver n g O ty xs;split at h;case h_2=>simp at h
 rename_i hg;simp only[Bool.and_eq_true]at hg;obtain rfl:=Nat.eq_of_beq_eq_true hg.1;obtain rfl:=Nat.eq_of_beq_eq_true hg.2;simp only[Option.some.injEq,Prod.mk.injEq,Bool.and_eq_true,decide_eq_true_eq]at h;obtain⟨⟨h1,h2,h3,h4⟩,rfl,rfl⟩:=h;obtain rfl:=Nat.eq_of_beq_eq_true h1;obtain rfl:=Nat.eq_of_beq_eq_true h2;have q:∃ti,xMg Tryz.prog 154=some ti/\ti.sz=3/\ti.agg=true:=by(have h:(match xMg Tryz.prog 154 with|some ti=>(ti.sz==3)&&ti.agg|none=>false)=true:=by kernel_rfl);split at h;rename_i ti q;simp only[Bool.and_eq_true,beq_iff_eq]at h;exact⟨ti,q,h.1,h.2⟩;simp at h
 obtain⟨ti,q,hz,ha⟩:=q;have J:=xoZ (P:=Tryz.prog) (Inv:=xMZ) Tryz.srl146 3 (by decide) (λ w=>by rw[<-ha];exact xkM q w) (λ w=>by rw[<-hz];exact xdh q w)
  intsE (λ _=>rfl) cmpE swoE 147 rfl (xdy Tryz.func146 rfl (by kernel_rfl)) (xmn (xdy Tryz.func147 rfl (by kernel_rfl)))
  (fun x y W=>Tryz.walkE _ _ _ _ _ _ (cmpE x y) (by
   have:=x.1.isLt;have:=y.1.isLt;unfold cmpE;exact xaw (by omega) (by omega)) W)
  ver 154 rfl (xs.map decE) (by simpa using h3)
 rw[List.length_map,xEj h4]at J;exact J;simp at h
end Go.Sim.M
namespace Go.Sim.M
abbrev TyS:Type:=Fin 1099511627777×Int
def intsS(x:TyS):List Int:=[(x.1.val:Int),x.2]
def cmpS(x y:TyS):Int:=(x.1.val:Int) - (y.1.val:Int)
end Go.Sim.M
namespace Go.Proofs
open Go.RowKit Go.Sim Go.Sim.M Go.Sort
set_option maxHeartbeats 1000000 in
def Tryz.walkS(a b a' b' r:Int)(hr:IntKind.i64.wrap (a - a')=r)(W:World):Calls Tryz.prog 113 #[.agg #[.int .i64 a,.int .i64 b],.agg #[.int .i64 a',.int .i64 b']] W λ e w'=>e=.returned (.int .i64 r)/\∃q os',w'=Sort.grow (W.drewN q) os':=by go_enter Tryz.func113,Tryz.ntmps113;go_wp2;go_ret;subst hr;exact⟨rfl,0,_,by rw[alloc_eq_grow,alloc_eq_grow,grow_grow];rfl⟩
end Go.Proofs
namespace Go.Sim.M
open Go.RowKit Go.Proofs Go.Sort
def isS:AV->Bool|.agg [.int .i64 a,.int .i64 _]=>decide (0<=a)&&decide (a<=1099511627776)|_=>false
def decS:AV->TyS|.agg [.int _ a,.int _ b]=>(Fin.ofNat 1099511627777 a.toNat,b)|_=>default
noncomputable def srtS(xs:List AV):List AV:=(pdqL cmpS (xs.map decS)).map (encI intsS)
def xF0{x:AV}(h:isS x):encI intsS (decS x)=x:=by unfold isS at h;split at h;rename_i a b;simp only[Bool.and_eq_true,decide_eq_true_eq]at h;have:a.toNat % 1099511627777=a.toNat:=Nat.mod_eq_of_lt (by omega);simp only[decS,encI,intsS,List.map_cons,List.map_nil,Fin.ofNat,this,Int.toNat_of_nonneg h.1];simp at h
def xEl{xs:List AV}(h:xs.all isS):(xs.map decS).map (encI intsS)=xs:=by rw[List.map_map];(conv=>rhs;rw[<-List.map_id xs]);refine List.map_congr_left λ x hx=>?_;exact xF0 (List.all_eq_true.1 h x hx)
def ltS(x y:TyS):ltOf cmpS x y=decide (x.1.val<y.1.val):=by unfold ltOf cmpS;by_cases h:x.1.val<y.1.val;rw[decide_eq_true h,decide_eq_true (by omega)];rw[decide_eq_false h,decide_eq_false (by omega)]
def swoS:SWO (ltOf cmpS) where
 irrefl x:=by rw[ltS];simp
 trans x y z h1 h2:=by rw[ltS]at *;simp at *;omega
 ntrans x y z h1 h2:=by rw[ltS]at *;simp at *;omega
noncomputable def xwB:List AV->List Box->Option (Bool×AV×List Box)|[.osl (.b 0) ver 0 n,.func g []],[⟨ver',2,ty,xs,false,true⟩]=>(match Nat.beq g 113&&Nat.beq ty 132 with|true=>some (Nat.beq ver ver'&&(Nat.beq n xs.length&&(decide (n<4611686018427387904)&&xs.all isS)),.tuple [],[⟨ver',2,132,srtS xs,false,true⟩])|false=>none)|_,_=>none
def xIb:OmOk Tryz.prog xMZ 112 xwB:=λ Q H r H' h=>by
 unfold xwB at h;split at h;rename_i ver n g O ty xs;split at h;case h_2=>simp at h
 rename_i hg;simp only[Bool.and_eq_true]at hg;obtain rfl:=Nat.eq_of_beq_eq_true hg.1;obtain rfl:=Nat.eq_of_beq_eq_true hg.2;simp only[Option.some.injEq,Prod.mk.injEq,Bool.and_eq_true,decide_eq_true_eq]at h;obtain⟨⟨h1,h2,h3,h4⟩,rfl,rfl⟩:=h;obtain rfl:=Nat.eq_of_beq_eq_true h1;obtain rfl:=Nat.eq_of_beq_eq_true h2;have q:∃ti,xMg Tryz.prog 132=some ti/\ti.sz=2/\ti.agg=true:=by(have h:(match xMg Tryz.prog 132 with|some ti=>(ti.sz==2)&&ti.agg|none=>false)=true:=by kernel_rfl);split at h;rename_i ti q;simp only[Bool.and_eq_true,beq_iff_eq]at h;exact⟨ti,q,h.1,h.2⟩;simp at h
 obtain⟨ti,q,hz,ha⟩:=q;have J:=xoZ (P:=Tryz.prog) (Inv:=xMZ) Tryz.srl112 2 (by decide) (λ w=>by rw[<-ha];exact xkM q w) (λ w=>by rw[<-hz];exact xdh q w)
  intsS (λ _=>rfl) cmpS swoS 113 rfl (xdy Tryz.func112 rfl (by kernel_rfl)) (xmn (xdy Tryz.func113 rfl (by kernel_rfl)))
  (fun x y W=>Tryz.walkS _ _ _ _ (cmpS x y) (by
   have:=x.1.isLt;have:=y.1.isLt;unfold cmpS;exact xaw (by omega) (by omega)) W)
  ver 132 rfl (xs.map decS) (by simpa using h3)
 rw[List.length_map,xEl h4]at J;exact J;simp at h
end Go.Sim.M
namespace Go.Sim.M
abbrev TyP:Type:=Int×Int
def intsP(x:TyP):List Int:=[x.1,x.2]
def cmpP(x y:TyP):Int:=orI (cmpI x.1 y.1) (cmpI x.2 y.2)
end Go.Sim.M
namespace Go.Sim.M
open Go.RowKit Go.Proofs Go.Sort
def isP:AV->Bool|.agg [.int .i64 _,.int .i64 _]=>true|_=>false
def decP:AV->TyP|.agg [.int _ a,.int _ b]=>(a,b)|_=>default
noncomputable def srtP(xs:List AV):List AV:=(pdqL cmpP (xs.map decP)).map (encI intsP)
def xFx{x:AV}(h:isP x):encI intsP (decP x)=x:=by unfold isP at h;split at h;rfl;simp at h
def xEk{xs:List AV}(h:xs.all isP):(xs.map decP).map (encI intsP)=xs:=by rw[List.map_map];(conv=>rhs;rw[<-List.map_id xs]);refine List.map_congr_left λ x hx=>?_;exact xFx (List.all_eq_true.1 h x hx)
def ltP(x y:TyP):ltOf cmpP x y=decide (x.1<y.1\/x.1=y.1/\x.2<y.2):=by unfold ltOf cmpP orI cmpI;by_cases h:x.1<y.1\/x.1=y.1/\x.2<y.2;rw[decide_eq_true h];simp only[decide_eq_true_eq];rcases h with h|⟨h,h'⟩;simp[h];simp[h,h'];rw[decide_eq_false h];simp only[decide_eq_false_iff_not];have h1:¬ x.1<y.1:=λ e=>h (.inl e);by_cases h2:y.1<x.1;simp[h1,h2];(have h3:x.1=y.1:=by omega);have h4:¬ x.2<y.2:=λ e=>h (.inr ⟨h3,e⟩);by_cases h5:y.2<x.2;simp[h1,h2,h4,h5];simp[h1,h2,h4,h5]
def swoP:SWO (ltOf cmpP) where
 irrefl x:=by rw[ltP];simp
 trans x y z h1 h2:=by rw[ltP]at *;simp only[decide_eq_true_eq]at *;omega
 ntrans x y z h1 h2:=by rw[ltP]at *;simp only[decide_eq_true_eq,decide_eq_false_iff_not]at *;omega
noncomputable def xwA:List AV->List Box->Option (Bool×AV×List Box)|[.osl (.b 0) ver 0 n,.func g []],[⟨ver',2,ty,xs,false,true⟩]=>(match Nat.beq g 108&&Nat.beq ty 52 with|true=>some (Nat.beq ver ver'&&(Nat.beq n xs.length&&(decide (n<4611686018427387904)&&xs.all isP)),.tuple [],[⟨ver',2,52,srtP xs,false,true⟩])|false=>none)|_,_=>none
def xIa:OmOk Tryz.prog xMZ 107 xwA:=λ Q H r H' h=>by
 unfold xwA at h;split at h;rename_i ver n g O ty xs;split at h;case h_2=>simp at h
 rename_i hg;simp only[Bool.and_eq_true]at hg;obtain rfl:=Nat.eq_of_beq_eq_true hg.1;obtain rfl:=Nat.eq_of_beq_eq_true hg.2;simp only[Option.some.injEq,Prod.mk.injEq,Bool.and_eq_true,decide_eq_true_eq]at h;obtain⟨⟨h1,h2,h3,h4⟩,rfl,rfl⟩:=h;obtain rfl:=Nat.eq_of_beq_eq_true h1;obtain rfl:=Nat.eq_of_beq_eq_true h2;have q:∃ti,xMg Tryz.prog 52=some ti/\ti.sz=2/\ti.agg=true:=by(have h:(match xMg Tryz.prog 52 with|some ti=>(ti.sz==2)&&ti.agg|none=>false)=true:=by kernel_rfl);split at h;rename_i ti q;simp only[Bool.and_eq_true,beq_iff_eq]at h;exact⟨ti,q,h.1,h.2⟩;simp at h
 obtain⟨ti,q,hz,ha⟩:=q;have J:=xoZ (P:=Tryz.prog) (Inv:=xMZ) Tryz.srl107 2 (by decide) (λ w=>by rw[<-ha];exact xkM q w) (λ w=>by rw[<-hz];exact xdh q w) intsP (λ _=>rfl) cmpP swoP 108 rfl (xdy Tryz.func107 rfl (by kernel_rfl)) (xmn (xdy Tryz.func108 rfl (by kernel_rfl))) (λ x y W=>Tryz.levels2_walk _ _ _ _ W) ver 52 rfl (xs.map decP) (by simpa using h3);rw[List.length_map,xEk h4]at J;exact J;simp at h
end Go.Sim.M
namespace Go.Sim.M
open Go.RowKit Go.Proofs
noncomputable def E1:Env:=((xGZ.E.withM 112 xwB).withM 146 xwz).withM 107 xwA
def xGW:xMh Tryz.prog xMZ E1:=((xGZ.ok.withM xIb).withM xH9).withM xIa
noncomputable def xKa:EO:=EO.mk E1 xGW
end Go.Sim.M
namespace Go.Sim.M
open Go.IntKind (i64 u64 u8)
open Go.RowKit Go.Proofs
def xil:Env:=E1.fn 29 1 (lsOf []) (xME [])
def xvR:xMh P0 (xMZ.at 1) xil:=xGW.fn
def xtl:LoOk P0 (xMZ.at xil.pin) xil (Tryz.f114.body.getD .skip):=xfw (by kernel_rfl)
def xo1{T:Type}(k:Nat)(a n:Int)(b:LA)(δ:T)(κ:Bool×(Nat×LA)×(Nat×LA)->T):T:=br (rmB k b 1 16) (κ (false,(0,[]),(k+1,b++[AV.agg [AV.int .i64 a,AV.int .i64 n]]))) δ
def xq7{T:Type}(k:Nat)(b n:Int)(a:LA)(δ:T)(κ:Bool×(Nat×LA)×(Nat×LA)->T):T:=br (decide ((↑k:Int)>0)) (br (decide (0<=i64.wrap ((↑k:Int) - 1))&&decide (i64.wrap ((↑k:Int) - 1)<(↑k:Int))) (br (decide (0+(i64.wrap ((↑k:Int) - 1)).toNat<a.length)&&xMf (Sh.int .i64) ((a.getD (0+(i64.wrap ((↑k:Int) - 1)).toNat) .top).cells.getD 1 .top)) (br (((a.getD (0+(i64.wrap ((↑k:Int) - 1)).toNat) .top).cells.getD 1 .top).toInt==n) (κ (true,(k,a),(0,[]))) (xo1 k b n a δ κ)) δ) δ) (xo1 k b n a δ κ)
def xa0(k:Nat)(a n:Int)(b:LA):=xq7 k a n b none some
def xBc(k:Nat)(a n:Int)(xs:LA):Enc (λ(p:Bool×(Nat×LA)×(Nat×LA))=>((br p.1 ((AV.osl 0 0 0 p.2.1.1,([⟨0,2,132,p.2.1.2,false,true⟩]:List Box))) ((AV.osl 0 1 0 p.2.2.1,([⟨1,2,132,p.2.2.2,false,true⟩]:List Box)))):(AV×List Box))) (xa0 k a n xs) (XFM P0 xil Tryz.f114 (Tryz.f114.body.getD .skip) [AV.osl (0:Id) 0 0 k,AV.int .i64 a,AV.int .i64 n] [{ver:=0,sz:=2,ty:=(132:TypeId),xs:=xs,frz:=false,pm:=true}]):=by(have h:XFM P0 xil Tryz.f114 (Tryz.f114.body.getD .skip) [AV.osl (0:Id) 0 0 k,AV.int .i64 a,AV.int .i64 n] [{ver:=0,sz:=2,ty:=(132:TypeId),xs:=xs,frz:=false,pm:=true}]=xq7 k a n xs none (λ(p:Bool×(Nat×LA)×(Nat×LA))=>some ((br p.1 ((AV.osl 0 0 0 p.2.1.1,([⟨0,2,132,p.2.1.2,false,true⟩]:List Box))) ((AV.osl 0 1 0 p.2.2.1,([⟨1,2,132,p.2.2.2,false,true⟩]:List Box)))):(AV×List Box))):=by kernel_rfl);rw[h];unfold xa0 xq7 xo1;repeat' (first|refine Enc.br ?_ ?_|exact Enc.none|exact Enc.some rfl)
def xBb:LA->List Box->Option (Bool×AV×List Box):=omOf (xM0 (sEq (xNb 0 0 0)) (xM0 (sEq (pInt .i64)) (xM0 (sEq (pInt .i64)) xM2))) (xMx (xNe 0 2 (132:TypeId) false true xM3) xM1) λ(k,(a,(n,_))) (b,_)=>((xa0 k a n b).isSome,(AV.osl 0 1 0 (br ((xa0 k a n b).getD (false,(0,[]),(0,[]))).1 ((xa0 k a n b).getD (false,(0,[]),(0,[]))).2.1.1 ((xa0 k a n b).getD (false,(0,[]),(0,[]))).2.2.1),([⟨1,2,132,(br ((xa0 k a n b).getD (false,(0,[]),(0,[]))).1 ((xa0 k a n b).getD (false,(0,[]),(0,[]))).2.1.2 ((xa0 k a n b).getD (false,(0,[]),(0,[]))).2.2.2),false,true⟩]:List Box)))
def xBa:OmOk P0 xMZ 114 (xBb):=xkF λ e f j i g=>by obtain⟨k,⟨b,⟨n,_⟩⟩⟩:=e;obtain⟨h,_⟩:=f;obtain⟨c,a⟩:=Prod.mk.inj g;have hx:=xBc _ _ _ _ _ (xcf (d:=(false,(0,[]),(0,[]))) c);revert hx a;generalize ((xa0 k b n h).getD (false,(0,[]),(0,[])))=p;intro a hx;obtain⟨rfl,rfl⟩:=Prod.mk.inj a;obtain⟨t,⟨l,m⟩,o,q⟩:=p;have hg:GoodM P0 xMZ 114 _ _ _ _:=xl3 (p:=xil.pin) (xl2 xMq (xMr P0 _) rfl xvR rfl Tryz.func114 rfl (by kernel_rfl) xtl hx);cases t;exact hg;exact GoodM.bump1 rfl (by decide) hg
def xsB:EO:=xKa.wM xBa
def xly{T:Type}(d:LA)(e:Int)(b:Nat)(c:Int)(a:LA)(δ:T)(κl:(Nat×Int×LA)->T)(κr:(Nat×LA)->T):T:=br (decide (c<e)) (br (ixI d c) (br (ixT d c 3 [Sh.int .i64,Sh.int .i64,Sh.int .i64] 0) (br (xgh (gC d c 0).toInt (gC d c 1).toInt) (br (rmB b a 2 16) (κl (b+2,i64.wrap (c+1),a++[AV.agg [AV.int .i64 (gC d c 0).toInt,AV.int .i64 (gC d c 2).toInt],AV.agg [AV.int .i64 (gC d c 1).toInt,AV.int .i64 (i64.wrap (0 - (gC d c 2).toInt))]])) δ) (κl (b,i64.wrap (c+1),a))) δ) δ) (κr (b,a))
def xeL(c:LA)(d:Int):StT (Nat×Int×LA) (Nat×LA):=λ(b,e,a)=>xly c d b e a none inL inR
def xid:=xsB.l 106 0 [] [] Tryz.f77 0 lk0 [3,10,11,12] [3] [(3,2,132)] (q4 (xNb 0 0 0) (qL 3) qI qI) (q1 (qB 0 2 132 xM3)) (λ(b,c,d,e,_) (a,_)=>(xeL c d,(b,e,a),λ p=>(.leaf (.exit 0) [AV.osl 0 0 0 p.1] [bF 0 2 132 p.2]))) (0,[]) λ(_,c,d,_,_) _ (b,e,a)=>(((b,c,d,e,()),(a,())),xly c d b e a none)
def xrs(i:Int)(a:LA):=decide (0+i.toNat<a.length)
def xsr{T:Type}(b e:Nat)(d i:Int)(a c:LA)(δ:T)(κl:(Int×Int×LA×LA)->T)(κr:(Int×Int×LA×LA)->T):T:=br (decide (i<(↑b:Int))) (br (decide (0<=i)&&decide (i<(↑b:Int))) (br (xrs i a&&xMf (Sh.int .i64) ((a.getD (0+i.toNat) .top).cells.getD 0 .top)) (br (((a.getD (0+i.toNat) .top).cells.getD 0 .top).toInt==0) (br (decide (0<=i)&&decide (i<(↑b:Int))) (br (xrs i a&&xMf (Sh.int .i64) ((a.getD (0+i.toNat) .top).cells.getD 1 .top)) (κl (i64.wrap (d+((a.getD (0+i.toNat) .top).cells.getD 1 .top).toInt),i64.wrap (i+1),a,c)) δ) δ) (κr (d,i,a,c))) δ) δ) (κr (d,i,a,c))
def xiE(b d:Nat):StT (Int×Int×LA×LA) (Int×Int×LA×LA):=λ(e,i,a,c)=>xsr b d e i a c none inL inR
def xkQ:=xsB.l 106 0 [] [(3,xid.lp)] Tryz.f77 1 lk0 [3,6,7,8] [3,6,7,8] [(3,2,132),(6,2,132)] (q4 (xNb 0 0 0) (xNb 1 0 0) qI qI) (q2 (qB 0 2 132 xM3) (qB 0 2 132 xM3)) (λ(a,c,e,i,_) (b,d,_)=>(xiE a c,(e,i,b,d),λ p=>(.leaf (.exit 2) [AV.osl 0 0 0 a,AV.osl 1 0 0 c,AV.int .i64 p.1,AV.int .i64 p.2.1] [bF 0 2 132 p.2.2.1,bF 0 2 132 p.2.2.2]))) (0,0,[],[]) λ(a,c,_,_,_) _ (e,i,b,d)=>(((a,c,e,i,()),(b,d,())),xsr a c e i b d none)
def xif(i:Int)(a:LA):=decide (0+i.toNat<a.length)
def xiL{T:Type}(b f:Nat)(e d i:Int)(a c:LA)(δ:T)(κl:(Int×Int×LA×LA)->T)(κr:(Int×Int×LA×LA)->T):T:=br (decide (i<(↑b:Int))) (br (decide (0<=i)&&decide (i<(↑b:Int))) (br (xif i a&&xMf (Sh.int .i64) ((a.getD (0+i.toNat) .top).cells.getD 0 .top)) (br (((a.getD (0+i.toNat) .top).cells.getD 0 .top).toInt==e) (br (decide (0<=i)&&decide (i<(↑b:Int))) (br (xif i a&&xMf (Sh.int .i64) ((a.getD (0+i.toNat) .top).cells.getD 1 .top)) (κl (i64.wrap (d+((a.getD (0+i.toNat) .top).cells.getD 1 .top).toInt),i64.wrap (i+1),a,c)) δ) δ) (κr (d,i,a,c))) δ) δ) (κr (d,i,a,c))
def xdu(b d:Nat)(e:Int):StT (Int×Int×LA×LA) (Int×Int×LA×LA):=λ(f,i,a,c)=>xiL b d e f i a c none inL inR
def xkR:=xsB.l 106 0 [] [(3,xid.lp),(11,xkQ.lp)] Tryz.f77 3 lk0 [3,6,7,8,9] [3,6,7,8,9] [(3,2,132),(6,2,132)] (q5 (xNb 0 0 0) (xNb 1 0 0) qI qI qI) (q2 (qB 0 2 132 xM3) (qB 0 2 132 xM3)) (λ(a,c,f,i,e,_) (b,d,_)=>(xdu a c e,(f,i,b,d),λ p=>(.leaf (.exit 6) [AV.osl 0 0 0 a,AV.osl 1 0 0 c,AV.int .i64 p.1,AV.int .i64 p.2.1,AV.int .i64 e] [bF 0 2 132 p.2.2.1,bF 0 2 132 p.2.2.2]))) (0,0,[],[]) λ(a,c,_,_,e,_) _ (f,i,b,d)=>(((a,c,f,i,e,()),(b,d,())),xiL a c e f i b d none)
def xhi(i:Int)(a:LA):=decide (0+i.toNat<a.length)&&xMf (Sh.int .i64) ((a.getD (0+i.toNat) .top).cells.getD 0 .top)
def xfs(i:Int)(a:LA):=((a.getD (0+i.toNat) .top).cells.getD 0 .top).toInt
def xhj(b d:Nat)(e i:Int)(a c:LA):=Iter (xdu b d (xfs i a)) (e,i,a,c)
def xdN(b d:Nat)(e i:Int)(a c:LA):=(xhj b d e i a c).getD (0,0,[],[])
def xie(b c:Nat)(e i:Int)(a d:LA):=xa0 c (xfs i a) ((xdN b c e i a d).fst) (((xdN b c e i a d).snd).snd).snd
def xdb(b d:Nat)(e i:Int)(a c:LA):=(xie b d e i a c).getD (false,(0,[]),0,[])
def xiK{T:Type}(b d:Nat)(e i:Int)(a c:LA)(δ:T)(κl:(Nat×Int×Int×LA×LA)->T)(κr:(Nat×LA)->T):T:=br (decide (i<(↑b:Int))) (br (decide (0<=i)&&decide (i<(↑b:Int))) (br (xhi i a) (br (decide (xfs i a<1099511627776)) (br (decide (0<=i)&&decide (i<(↑b:Int))) (br (xhi i a) (br ((xhj b d e i a c).isSome) (br ((xie b d e i a c).isSome) (κl (br ((xdb b d e i a c).fst) (((xdb b d e i a c).snd).fst).fst (((xdb b d e i a c).snd).snd).fst,((xdN b d e i a c).fst),((xdN b d e i a c).snd).fst,(((xdN b d e i a c).snd).snd).fst,br ((xdb b d e i a c).fst) (((xdb b d e i a c).snd).fst).snd (((xdb b d e i a c).snd).snd).snd)) δ) δ) δ) δ) (κr (d,c))) δ) δ) (κr (d,c))
def xeM(b:Nat):StT (Nat×Int×Int×LA×LA) (Nat×LA):=λ(d,e,i,a,c)=>xiK b d e i a c none inL inR
def xrt:=xsB.l 106 0 [] [(3,xid.lp),(11,xkQ.lp),(17,xkR.lp)] Tryz.f77 2 (lk1 xkR.ok) [3,6,7,8] [6] [(3,2,132),(6,2,132)] (q4 (xNb 0 0 0) (xNb 1 0 0) qI qI) (q2 (qB 0 2 132 xM3) (qB 0 2 132 xM3)) (λ(b,d,e,i,_) (a,c,_)=>(xeM b,(d,e,i,a,c),λ p=>(.leaf (.exit 4) [AV.osl 0 0 0 p.1] [bF 0 2 132 p.2]))) (0,[]) λ(b,_,_,_,_) _ (d,e,i,a,c)=>(((b,d,e,i,()),(a,c,())),xiK b d e i a c none)
def xeY(l:LA):=(Iter (xeL l (↑l.length:Int)) (0,0,[])).getD (0,[])
def xqj(l:LA):=Iter (xiE ((xeY l).fst) 0) (0,0,srtS ((xeY l).snd),[])
def xig(l:LA):=(xqj l).getD (0,0,[],[])
def xq5(l:LA):=xa0 0 0 ((xig l).fst) (((xig l).snd).snd).snd
def xhq(l:LA):=(xq5 l).getD (false,(0,[]),0,[])
def xq4(l:LA):=Iter (xeM ((xeY l).fst)) (br ((xhq l).fst) (((xhq l).snd).fst).fst (((xhq l).snd).snd).fst,((xig l).fst),((xig l).snd).fst,(((xig l).snd).snd).fst,br ((xhq l).fst) (((xhq l).snd).fst).snd (((xhq l).snd).snd).snd)
def xlj(l:LA):=(xq4 l).getD (0,[])
def xsb{T:Type}(l:LA)(δ:T)(κ:LA->T):T:=br ((Iter (xeL l (↑l.length:Int)) (0,0,[])).isSome) (br (((xeY l).fst).beq ((xeY l).snd).length&&(decide (((xeY l).fst)<4611686018427387904)&&((xeY l).snd).all isS)) (br ((xqj l).isSome) (br ((xq5 l).isSome) (br ((xq4 l).isSome) (br (decide (0+((xlj l).fst)<=((xlj l).snd).length)&&true) (κ (List.take ((xlj l).fst) (List.drop 0 ((xlj l).snd)))) δ) δ) δ) δ) δ) δ
def xag(l:LA):=xsb l none some
def xDA:EO:=xsB.f Tryz.func77 106 0 [] [(3,xid.lp),(11,xkQ.lp),(17,xkR.lp),(15,xrt.lp)] (lks (lkC xid.ok (lkC xkQ.ok (lkC xrt.ok (lkC xkR.ok lkN))))) (u1 (uL 3)) (λ(l,_) _=>xsb l) (λ _ p=>AV.list 2 p) []
def xfc{T:Type}(d:LA)(e:Int)(c:Nat)(b:Int)(a:LA)(δ:T)(κl:(Nat×Int×LA)->T)(κr:(Nat×LA)->T):T:=br (decide (b<e)) (br (ixI d b) (br (ixT d b 2 [Sh.int .i64,Sh.int .i64] 0) (br (rmB c a 1 24) (κl (c+1,i64.wrap (b+1),a++[AV.agg [AV.int .i64 (gC d b 0).toInt,AV.int .i64 (gC d b 1).toInt,AV.int .i64 1]])) δ) δ) δ) (κr (c,a))
def xbL(c:LA)(d:Int):StT (Nat×Int×LA) (Nat×LA):=λ(b,e,a)=>xfc c d b e a none inL inR
def xla:=xDA.l 20 0 [] [] Tryz.f116 0 lk0 [3,6,7,8] [3] [(3,3,100)] (q4 (xNb 0 0 0) (qL 2) qI qI) (q1 (qB 0 3 100 xM3)) (λ(b,c,d,e,_) (a,_)=>(xbL c d,(b,e,a),λ p=>(.leaf (.exit 0) [AV.osl 0 0 0 p.1] [bF 0 3 100 p.2]))) (0,[]) λ(_,c,d,_,_) _ (b,e,a)=>(((b,c,d,e,()),(a,())),xfc c d b e a none)
def xeo(l:LA):=(Iter (xbL l (↑l.length:Int)) (0,0,[])).getD (0,[])
def xiT(l:LA):=xag (List.take ((xeo l).fst) (List.drop 0 ((xeo l).snd)))
def xjE{T:Type}(l:LA)(δ:T)(κ:LA->T):T:=br ((Iter (xbL l (↑l.length:Int)) (0,0,[])).isSome) (br (decide (0+((xeo l).fst)<=((xeo l).snd).length)&&true) (br ((xiT l).isSome) (κ ((xiT l).getD [])) δ) δ) δ
def xev(l:LA):=xjE l none some
def xq9:EO:=xDA.f Tryz.func116 20 0 [] [(3,xla.lp)] (lk1 xla.ok) (u1 (uL 2)) (λ(l,_) _=>xjE l) (λ _ p=>AV.list 2 p) []
def xjh{T:Type}(o n:Int)(e f:Nat)(k p m j:Int)(h l i g a:Nat)(b:LA)(d:Nat)(c:LA)(δ:T)(κl:(Int×Int×Nat×Nat×Nat×Nat×Nat×LA×Nat×LA)->T)(κr:(Int×Nat×Nat×Nat×Nat×LA×Nat×LA×Nat)->T):T:=br (decide (m<p)) (br (a==e) (br (a==e) (br (a==e&&(decide (f<b.length)&&xMf (Sh.int .i64) ((b.getD f .top).cells.getD 0 .top))) (br (d==g&&(rmB i c 1 16)) (κl (i64.wrap (m+1),j,h,l,i+1,g+1,a,List.take h b,g+1,c++[AV.agg [AV.int .i64 ((b.getD f .top).cells.getD 0 .top).toInt,AV.int .i64 o]])) δ) δ) δ) δ) (κr (j,l,h,g,i,b,a,c,d))
def xcF(m n:Int)(e f:Nat)(k o:Int):StT (Int×Int×Nat×Nat×Nat×Nat×Nat×LA×Nat×LA) (Int×Nat×Nat×Nat×Nat×LA×Nat×LA×Nat):=λ(p,g,h,i,j,l,a,b,c,d)=>xjh m n e f k o p g h i j l a b c d none inL inR
def xiu:=xq9.l 71 5 [] [] Tryz.f106 1 lk0 [0,1,2,3,4,7,8,37,38] [0,1,2,3,4,7,8] [(3,0,0)] (q9 qI qI (xNc 0 0 0 0) (xNc 1 0 0 0) (xNc 2 0 0 0) (pOwnV 3 0) qI qI qI) (q5 (qB 0 1 3 (q1 qI)) (xNe 0 1 126 false false (q1 (pOslV 3 0))) (xNe 0 1 64 false false (q1 (pOslV 4 0))) (pBoxV 2 128 false true xM3) (pBoxV 2 52 false true xM3)) (λ(o,n,_,_,_,(e,f),k,q,r,_) ((g,_),((h,i),_),((j,m),_),(a,b),(c,d),_)=>(xcF o n e f k q,(r,g,i,h,m,j,a,b,c,d),λ p=>(.leaf (.exit 2) [AV.int .i64 o,AV.int .i64 n,AV.own 0 0 0 0,AV.own 1 0 0 0,AV.own 2 0 0 0,AV.own 3 e f 0,AV.int .i64 k] [bF 0 1 3 [AV.int .i64 p.1],⟨0,1,126,[AV.osl 3 p.2.1 0 p.2.2.1],false,false⟩,⟨0,1,64,[AV.osl 4 p.2.2.2.1 0 p.2.2.2.2.1],false,false⟩,bF p.2.2.2.2.2.2.1 2 128 p.2.2.2.2.2.1,bF p.2.2.2.2.2.2.2.2 2 52 p.2.2.2.2.2.2.2.1]))) (0,0,0,0,0,[],0,[],0) λ(o,n,_,_,_,(e,f),k,q,_,_) _ (r,g,i,h,m,j,a,b,c,d)=>(((o,n,(),(),(),(e,f),k,q,r,()),((g,()),((h,i),()),((j,m),()),(a,b),(c,d),())),xjh o n e f k q r g i h m j a b c d none)
def xaF(a:Nat):Nat:=0+(i64.wrap ((↑a:Int) - 1)).toNat
def xde(n b:Int)(c d:Nat)(a:LA):Int:=if i64.wrap (b - n)<((a.getD (xaF c) .top).cells.getD 1 .top).toInt then i64.wrap (b - n)else((a.getD (xaF c) .top).cells.getD 1 .top).toInt
def xhz(j n d:Int)(c g h i a:Nat)(b:LA)(e:Nat)(f:LA):=Iter (xcF j n g (xaF c) (xde n d c a b) (xde n d c a b)) (0,d,c,g,h,i,a,List.take c b,e,f)
def xaf(j n e:Int)(f g h i a:Nat)(b:LA)(c:Nat)(d:LA):=(xhz j n e f g h i a b c d).getD (0,0,0,0,0,[],0,[],0)
def xeA(j n e:Int)(f g h i a:Nat)(b:LA)(c:Nat)(d:LA):=i64.wrap ((↑((((xaf j n e f g h i a b c d).snd).snd).fst):Int) - 1)
def xcE(j n f:Int)(g e h i a:Nat)(b:LA)(c:Nat)(d:LA):=(((((((xaf j n f g e h i a b c d).snd).snd).snd).snd).snd).snd).fst==e
def xez(j n f:Int)(e g h i a:Nat)(b:LA)(c:Nat)(d:LA):=((((((((xaf j n f e g h i a b c d).snd).snd).snd).snd).snd).fst).getD (xaF e) .top).cells
def xds(j n f:Int)(e g h i a:Nat)(b:LA)(c:Nat)(d:LA):=(((((((xaf j n f e g h i a b c d).snd).snd).snd).snd).snd).fst).set (xaF e) (AV.agg (List.take 1 (xez j n f e g h i a b c d)++[AV.int .i64 (i64.wrap (((xez j n f e g h i a b c d).getD 1 .top).toInt - xde n f e a b))]++List.drop 2 (xez j n f e g h i a b c d)))
def xfg{T:Type}(j n g:Int)(f e h i a:Nat)(b:LA)(c:Nat)(d:LA)(δ:T)(κl:(Int×Nat×Nat×Nat×Nat×Nat×LA×Nat×LA)->T)(κr:(Int×Nat×Nat×Nat×Nat×LA×Nat×LA×Nat)->T):T:=br (decide (g>n)) (br (a==e) (br (a==e&&(decide (0<=i64.wrap ((↑f:Int) - 1))&&decide (i64.wrap ((↑f:Int) - 1)<(↑f:Int)))) (br (a==e) (br (a==e) (br (a==e&&(decide (xaF f<b.length)&&xMf (Sh.int .i64) ((b.getD (xaF f) .top).cells.getD 1 .top))) (br ((xhz j n g f e h i a b c d).isSome) (br (xcE j n g f e h i a b c d) (br (xcE j n g f e h i a b c d) (br (xcE j n g f e h i a b c d&&((decide (xaF f<(((((((xaf j n g f e h i a b c d).snd).snd).snd).snd).snd).fst).length))&&xMf (Sh.int .i64) ((xez j n g f e h i a b c d).getD 1 .top))) (br (xcE j n g f e h i a b c d) (br (xcE j n g f e h i a b c d) (br (xcE j n g f e h i a b c d&&(decide (xaF f<(((((((xaf j n g f e h i a b c d).snd).snd).snd).snd).snd).fst).length))) (br (e==e) (br (e==e) (br (e==e&&(decide (xaF f<(xds j n g f e h i a b c d).length)&&xMf (Sh.int .i64) (((xds j n g f e h i a b c d).getD (xaF f) .top).cells.getD 1 .top))) (br ((((xds j n g f e h i a b c d).getD (xaF f) .top).cells.getD 1 .top).toInt==0) (br (e==(((xaf j n g f e h i a b c d).snd).fst)) (br (e==(((xaf j n g f e h i a b c d).snd).fst)&&(decide (0<=xeA j n g f e h i a b c d)&&decide (xeA j n g f e h i a b c d<=(↑((((xaf j n g f e h i a b c d).snd).snd).fst):Int))&&true)) (κl (i64.wrap ((xaf j n g f e h i a b c d).fst - xde n g f a b),(xeA j n g f e h i a b c d).toNat - 0,(((xaf j n g f e h i a b c d).snd).fst),(((((xaf j n g f e h i a b c d).snd).snd).snd).snd).fst,((((xaf j n g f e h i a b c d).snd).snd).snd).fst,e,List.take ((xeA j n g f e h i a b c d).toNat - 0) (xds j n g f e h i a b c d),((((((((xaf j n g f e h i a b c d).snd).snd).snd).snd).snd).snd).snd).snd,((((((((xaf j n g f e h i a b c d).snd).snd).snd).snd).snd).snd).snd).fst)) δ) δ) (κl (i64.wrap ((xaf j n g f e h i a b c d).fst - xde n g f a b),((((xaf j n g f e h i a b c d).snd).snd).fst),(((xaf j n g f e h i a b c d).snd).fst),(((((xaf j n g f e h i a b c d).snd).snd).snd).snd).fst,((((xaf j n g f e h i a b c d).snd).snd).snd).fst,e,List.take ((((xaf j n g f e h i a b c d).snd).snd).fst) (xds j n g f e h i a b c d),((((((((xaf j n g f e h i a b c d).snd).snd).snd).snd).snd).snd).snd).snd,((((((((xaf j n g f e h i a b c d).snd).snd).snd).snd).snd).snd).snd).fst))) δ) δ) δ) δ) δ) δ) δ) δ) δ) δ) δ) δ) δ) δ) δ) (κr (g,e,f,i,h,b,a,d,c))
def xbX(j n:Int):StT (Int×Nat×Nat×Nat×Nat×Nat×LA×Nat×LA) (Int×Nat×Nat×Nat×Nat×LA×Nat×LA×Nat):=λ(e,f,g,h,i,a,b,c,d)=>xfg j n e f g h i a b c d none inL inR
def xpP:=xq9.l 71 5 [] [(7,xiu.lp)] Tryz.f106 0 (lk1 xiu.ok) [0,1,2,3,4] [] [(3,0,0)] (q5 qI qI (xNc 0 0 0 0) (xNc 1 0 0 0) (xNc 2 0 0 0)) (q5 (qB 0 1 3 (q1 qI)) (xNe 0 1 126 false false (q1 (pOslV 3 0))) (xNe 0 1 64 false false (q1 (pOslV 4 0))) (pBoxV 2 128 false true xM3) (pBoxV 2 52 false true xM3)) (λ(j,n,_,_,_,_) ((e,_),((f,g),_),((h,i),_),(a,b),(c,d),_)=>(xbX j n,(e,g,f,i,h,a,b,c,d),λ p=>(.leaf (.exit 0) [] [bF 0 1 3 [AV.int .i64 p.1],⟨0,1,126,[AV.osl 3 p.2.1 0 p.2.2.1],false,false⟩,⟨0,1,64,[AV.osl 4 p.2.2.2.1 0 p.2.2.2.2.1],false,false⟩,bF p.2.2.2.2.2.2.1 2 128 p.2.2.2.2.2.1,bF p.2.2.2.2.2.2.2.2 2 52 p.2.2.2.2.2.2.2.1]))) (0,0,0,0,0,[],0,[],0) λ(j,n,_,_,_,_) _ (e,g,f,i,h,a,b,c,d)=>(((j,n,(),(),(),()),((e,()),((f,g),()),((h,i),()),(a,b),(c,d),())),xfg j n e g f i h a b c d none)
def xgA:Env:=xq9.E.fn 71 5 (lsOf []) (xME [(7,xiu.lp),(3,xpP.lp)])
def xuu:xMh P0 (xMZ.at 5) xgA:=xq9.ok.fn
def xsw:LoOk P0 (xMZ.at xgA.pin) xgA (Tryz.f106.body.getD .skip):=xnz (ls:=[xMl Tryz.f106 0,xMl Tryz.f106 1]) (by kernel_rfl) (lkC xpP.ok (lkC xiu.ok lkN))
def xkA(a n h:Int)(b c:Nat)(d e:LA):=Iter (xbX a n) (n,b+1,1,c,0,1,List.take (b+1) (d++[AV.agg [AV.int .i64 a,AV.int .i64 (i64.wrap (n - h))]]),0,e)
def xkB(a n h:Int)(b c:Nat)(d e:LA):=Iter (xbX a n) (h,b,0,c,0,0,List.take b d,0,e)
def xbM(a n h:Int)(b c:Nat)(d e:LA):=(xkA a n h b c d e).getD (0,0,0,0,0,[],0,[],0)
def xbN(a n h:Int)(b c:Nat)(d e:LA):=(xkB a n h b c d e).getD (0,0,0,0,0,[],0,[],0)
def xjT{T:Type}(a n h:Int)(b d:Nat)(c e:LA)(δ:T)(κ:Int×Nat×Nat×Nat×Nat×LA×Nat×LA×Nat->T):T:=br (decide (n>h)) (br (rmB b c 1 16) (br ((xkA a n h b d c e).isSome) (κ ((xbM a n h b d c e).fst,((xbM a n h b d c e).snd).fst,(((xbM a n h b d c e).snd).snd).fst,((((xbM a n h b d c e).snd).snd).snd).fst,(((((xbM a n h b d c e).snd).snd).snd).snd).fst,((((((xbM a n h b d c e).snd).snd).snd).snd).snd).fst,(((((((xbM a n h b d c e).snd).snd).snd).snd).snd).snd).fst,((((((((xbM a n h b d c e).snd).snd).snd).snd).snd).snd).snd).fst,((((((((xbM a n h b d c e).snd).snd).snd).snd).snd).snd).snd).snd)) δ) δ) (br ((xkB a n h b d c e).isSome) (κ ((xbN a n h b d c e).fst,((xbN a n h b d c e).snd).fst,(((xbN a n h b d c e).snd).snd).fst,((((xbN a n h b d c e).snd).snd).snd).fst,(((((xbN a n h b d c e).snd).snd).snd).snd).fst,((((((xbN a n h b d c e).snd).snd).snd).snd).snd).fst,(((((((xbN a n h b d c e).snd).snd).snd).snd).snd).snd).fst,((((((((xbN a n h b d c e).snd).snd).snd).snd).snd).snd).snd).fst,((((((((xbN a n h b d c e).snd).snd).snd).snd).snd).snd).snd).snd)) δ)
def xkz(a n h:Int)(b c:Nat)(d e:LA):=xjT a n h b c d e none some
def xzL(a n h:Int)(b c:Nat)(d e:LA):Enc (λ(p:Int×Nat×Nat×Nat×Nat×LA×Nat×LA×Nat)=>(((AV.tuple [],([⟨0,1,3,[AV.int .i64 p.1],false,true⟩,⟨0,1,126,[AV.osl 3 p.2.1 0 p.2.2.1],false,false⟩,⟨0,1,64,[AV.osl 4 p.2.2.2.1 0 p.2.2.2.2.1],false,false⟩,⟨p.2.2.2.2.2.2.1,2,128,p.2.2.2.2.2.1,false,true⟩,⟨p.2.2.2.2.2.2.2.2,2,52,p.2.2.2.2.2.2.2.1,false,true⟩]:List Box))):(AV×List Box))) (xkz a n h b c d e) (XFM P0 xgA Tryz.f106 (Tryz.f106.body.getD .skip) [AV.int .i64 a,AV.int .i64 n,AV.own (0:Id) 0 0 0,AV.own (1:Id) 0 0 0,AV.own (2:Id) 0 0 0] [{ver:=0,sz:=1,ty:=(3:TypeId),xs:=[AV.int .i64 h],frz:=false,pm:=true},{ver:=0,sz:=1,ty:=(126:TypeId),xs:=[AV.osl (3:Id) 0 0 b],frz:=false,pm:=false},{ver:=0,sz:=1,ty:=(64:TypeId),xs:=[AV.osl (4:Id) 0 0 c],frz:=false,pm:=false},{ver:=0,sz:=2,ty:=(128:TypeId),xs:=d,frz:=false,pm:=true},{ver:=0,sz:=2,ty:=(52:TypeId),xs:=e,frz:=false,pm:=true}]):=by(have h:XFM P0 xgA Tryz.f106 (Tryz.f106.body.getD .skip) [AV.int .i64 a,AV.int .i64 n,AV.own (0:Id) 0 0 0,AV.own (1:Id) 0 0 0,AV.own (2:Id) 0 0 0] [{ver:=0,sz:=1,ty:=(3:TypeId),xs:=[AV.int .i64 h],frz:=false,pm:=true},{ver:=0,sz:=1,ty:=(126:TypeId),xs:=[AV.osl (3:Id) 0 0 b],frz:=false,pm:=false},{ver:=0,sz:=1,ty:=(64:TypeId),xs:=[AV.osl (4:Id) 0 0 c],frz:=false,pm:=false},{ver:=0,sz:=2,ty:=(128:TypeId),xs:=d,frz:=false,pm:=true},{ver:=0,sz:=2,ty:=(52:TypeId),xs:=e,frz:=false,pm:=true}]=xjT a n h b c d e none (λ(p:Int×Nat×Nat×Nat×Nat×LA×Nat×LA×Nat)=>some (((AV.tuple [],([⟨0,1,3,[AV.int .i64 p.1],false,true⟩,⟨0,1,126,[AV.osl 3 p.2.1 0 p.2.2.1],false,false⟩,⟨0,1,64,[AV.osl 4 p.2.2.2.1 0 p.2.2.2.2.1],false,false⟩,⟨p.2.2.2.2.2.2.1,2,128,p.2.2.2.2.2.1,false,true⟩,⟨p.2.2.2.2.2.2.2.2,2,52,p.2.2.2.2.2.2.2.1,false,true⟩]:List Box))):(AV×List Box))):=by kernel_rfl);rw[h];unfold xkz xjT;repeat' (first|refine Enc.br ?_ ?_|exact Enc.none|exact Enc.some rfl)
end Go.Sim.M
namespace Go.Sim
open Go.RowKit
def GoodM.aged{P:Program}{Inv:IV}{f:FuncId}{args:List AV}{H E:List Box}{p q v k t s y:Nat}{xs:List AV}(h:GoodM P Inv f args H (.tuple []) E)(hz:∀bx,H[q]?=some bx->bx.ver=0)(ep:E[p]?=some ⟨0,1,t,[.osl (.b q) v 0 k],false,false⟩)(eq:E[q]?=some ⟨v,s,y,xs,false,true⟩)(pt:isC t=false)(py:isC y=false)(ho:∀n bx,E[n]?=some bx->isC bx.ty=false/\(n=p\/n=q\/bx.pm\/∃n' v' k',n'≠q/\bx.xs=[.osl (.b n') v' 0 k'])):GoodM P Inv f args H (.tuple []) ((E.set p ⟨0,1,t,[.osl (.b q) 1 0 k],false,false⟩).set q ⟨1,s,y,xs,false,true⟩):=by
 have pq:p≠q:=λ e=>by subst e;rw[ep]at eq;simp at eq
 refine⟨h.1,λ w0 w A M vs hI hB hR ab=>(h.2 w0 w A M vs hI hB hR ab).mono ?_⟩;rintro e w' ⟨u,A',M',rfl,h1,h2,h3,h4,h5⟩;let M'':Id->Option MB:=λ id=>if id=.b q then(M' id).map λ m=>⟨m.b,1,m.sz,m.cap,m.ty⟩else M' id;have eo:∀id,id≠.b q->M'' id=M' id:=λ id g1=>if_neg g1;have e4:∀m,M' (.b q)=some m->M'' (.b q)=some ⟨m.b,1,m.sz,m.cap,m.ty⟩:=λ m hm=>(if_pos rfl).trans (by rw[hm];rfl);have Q:∀id m1,M'' id=some m1->∃m0,M' id=some m0/\m1.b=m0.b/\m1.cap=m0.cap:=λ id m1 J=>by by_cases g3:id=.b q;(subst g3;cases hm:M' (.b q)with|none=>simp[M'',hm]at J|some m=>rw[e4 m hm]at J;simp only[z6]at J;subst J;exact⟨m,rfl,rfl,rfl⟩);exact⟨m1,eo id g3▸J,rfl,rfl⟩
 have O:∀n bx m,E[n]?=some bx->M' (.b n)=some m->BoxAt w' A' M' w0.heap.size (.b n) m bx:=λ n bx m hn hm=>by obtain⟨bx',g1,g2⟩:=h4.box _ m hm;rw[xbb,hn]at g1;cases g1;exact g2
 have hv:∀m,M' (.b q)=some m->v=m.ver:=λ m hm=>(O q _ m eq hm).ver;have hx:∀c n' v' k',n'≠q->Rel w' A' M' c (.osl (.b n') v' 0 k')->Rel w' A' M'' c (.osl (.b n') v' 0 k'):=λ c n' v' k' hn hr=>by obtain⟨m0,g1,g2,g3,g4⟩:=Rel.osl_inv hr;exact .osl c _ v' 0 k' m0 ((eo _ λ e=>hn (by cases e;rfl)).trans g1) g2 g3 g4
 have hy:∀c,Rel w' A' M' c (.osl (.b q) v 0 k)->Rel w' A' M'' c (.osl (.b q) 1 0 k):=λ c hr=>by obtain⟨m0,g1,g2,g3,g4⟩:=Rel.osl_inv hr;exact .osl c _ 1 0 k _ (e4 m0 g1) (zd _) g3 λ _=>g4 (hv m0 g1)
 have hb:∀id(bx bx':Box)(m m':MB),isC bx.ty=false->bx'=⟨m'.ver,bx.sz,bx.ty,bx'.xs,bx.frz,bx.pm⟩->m'=⟨m.b,m'.ver,m.sz,m.cap,m.ty⟩->bx'.xs.length=bx.xs.length->(∀x,x∈bx'.xs->x.okElem m.sz)->
   (∀c i j,Rel w' A' (MP M' bx.pm) c ((bx.xs.getD i .top).cells.getD j .top)->Rel w' A' (MP M'' bx.pm) c ((bx'.xs.getD i .top).cells.getD j .top))->BoxAt w' A' M' w0.heap.size id m bx->BoxAt w' A' M'' w0.heap.size id m' bx':=λ id bx bx' m m' V ad Y hl aa hc g=>by
  rw[ad,Y];have W:xMj m.ty=false:=g.nomap (xaG V);refine⟨rfl,g.sz,g.ty,g.capm,hl▸g.fits,aa,g.low,g.lt,λ h0=>?_,g.guard⟩
  obtain⟨c,c1,c2,c3⟩:=g.cells h0;refine⟨c,.of W (c1.plain W),c2,λ i j hi hj=>?_⟩
  have:=c3 i j (hl▸hi) hj;rw[xat V,xa3 V]at this;rw[xat V,xa3 (bx:=⟨m'.ver,bx.sz,bx.ty,bx'.xs,bx.frz,bx.pm⟩) V];exact hc _ i j this
 have ht:∀a v1 v2 d,(∀c,Rel w' A' M' c (.osl a v1 0 d)->Rel w' A' M'' c (.osl a v2 0 d))->∀c i j,Rel w' A' M' c ((([.osl a v1 0 d]:List AV).getD i .top).cells.getD j .top)->Rel w' A' M'' c ((([.osl a v2 0 d]:List AV).getD i .top).cells.getD j .top):=λ a v1 v2 d hh c i j hr=>by match i,j with|0,0=>exact hh c hr|0,j+1=>exact .top _|i+1,0=>exact .top _|i+1,j+1=>exact .top _
 have hg:∀n bx,E[n]?=some bx->∃bx',((E.set p ⟨0,1,t,[.osl (.b q) 1 0 k],false,false⟩).set q ⟨1,s,y,xs,false,true⟩)[n]?=some bx'/\isC bx'.ty=false/\(∀m m1,M' (.b n)=some m->M'' (.b n)=some m1->BoxAt w' A' M'' w0.heap.size (.b n) m1 bx'):=λ n bx hn=>by have hn':=xct hn;obtain⟨hC,hc⟩:=ho n bx hn;by_cases g1:n=q;subst g1;rw[hn]at eq;cases eq;refine⟨_,zL (by simpa using hn'),py,λ m m1 e1 e2=>?_⟩;rw[e4 m e1]at e2;cases e2;have g:=O n _ m hn e1;exact hb _ ⟨v,s,y,xs,false,true⟩ ⟨1,s,y,xs,false,true⟩ m _ py rfl rfl rfl g.ok (λ c i j hr=>hr) g;(have ge:∀m m1,M' (.b n)=some m->M'' (.b n)=some m1->m1=m:=λ m m1 e1 e2=>by rw[eo _ λ e=>g1 (by cases e;rfl),e1]at e2;cases e2;rfl);by_cases g2:n=p;subst g2;rw[hn]at ep;cases ep;refine⟨_,(zX (Ne.symm g1)).trans (zL hn'),pt,λ m m1 e1 e2=>?_⟩;cases ge m m1 e1 e2;have g:=O n _ m hn e1;have hv:0=m.ver:=g.ver;have hz:m.sz=1:=g.sz.symm;exact hb _ ⟨0,1,t,[.osl (.b q) v 0 k],false,false⟩ ⟨0,1,t,[.osl (.b q) 1 0 k],false,false⟩ m m pt (by rw[<-hv]) rfl rfl (λ x hx=>by simp only[zv]at hx;subst hx;rw[hz];rfl) (ht _ _ _ _ hy) g;refine⟨bx,(zX (Ne.symm g1)).trans ((zX (Ne.symm g2)).trans hn),hC,λ m m1 e1 e2=>?_⟩;cases ge m m1 e1 e2;have g:=O n _ m hn e1;refine hb _ bx bx m m hC (by rw[<-g.ver]) rfl rfl g.ok ?_ g;rcases hc with hc|hc|hc|⟨n',v',k',hc,hd⟩;exact absurd hc g2;exact absurd hc g1;rw[hc];exact λ c i j hr=>hr;cases ae:bx.pm with|true=>exact λ c i j hr=>hr|false=>rw[hd];exact ht _ _ _ _ λ c=>hx c n' v' k' hc
 have hR':HR w' A' M'' w0.heap.size ((E.set p ⟨0,1,t,[.osl (.b q) 1 0 k],false,false⟩).set q ⟨1,s,y,xs,false,true⟩):=by refine⟨λ id m1 J=>?_,λ id id' m1 m2 k1 k2 c1 c2 he=>?_,h4.lt⟩;(obtain⟨m0,g1,_⟩:=Q id m1 J;obtain⟨bx,q1,q2⟩:=h4.box _ m0 g1;cases id with|r n i j=>(rw[eo _ (λ e=>by cases e),g1]at J;cases J;obtain⟨c0,r1,_⟩:=xmz q1;obtain⟨bx',r2,r3,_⟩:=hg n c0 r1;rw[xdz r1 (ho n c0 r1).1]at q1;cases q1;exact⟨_,xdz r2 r3,hb _ tombB tombB m1 m1 rfl (by rw[<-q2.ver]) rfl rfl q2.ok (λ c i j hr=>hr) q2⟩)|b n=>obtain⟨bx',r2,_,r3⟩:=hg n bx q1;exact⟨bx',r2,r3 _ _ g1 J⟩);obtain⟨n1,a1,a2,a3⟩:=Q id m1 k1;obtain⟨n2,b1,b2,b3⟩:=Q id' m2 k2;exact h4.inj id id' n1 n2 a1 b1 (a3▸c1) (b3▸c2) (by rw[<-a2,<-b2,he])
 refine⟨u,A',M'',rfl,h1,h2,⟨h3.size,h3.keep,h3.less,h3.more,λ id m ac hm=>?_,λ id m1 J h0=>?_⟩,hR',?_⟩;obtain⟨m',g1,g2⟩:=h3.ids id m ac hm;by_cases q4:id=.b q;subst q4;obtain⟨bx,r1,r2⟩:=hR.box _ m hm;exact⟨_,e4 m' g1,.inr (by rw[<-r2.ver,hz bx r1];exact Nat.zero_lt_one)⟩;exact⟨m',(eo id q4).trans g1,g2⟩;obtain⟨m0,g1,g2,g3⟩:=Q id m1 J;rw[g2];exact h3.src id m0 g1 (g3▸h0);obtain⟨Z,rfl,q1,_⟩:=h5.tuple_inv;exact .tuple Z [] q1 (by simp)
namespace M
open Go.Proofs
noncomputable def set2(q n h:Int)(ns no:Nat)(sx ox:List AV):Option (Int×Nat×Nat×List AV×List AV):=(xkz q n h ns no sx ox).bind λ p=>
 br (Nat.beq p.2.1 p.2.2.2.2.2.2.1&&Nat.beq p.2.2.2.1 p.2.2.2.2.2.2.2.2) (some (p.1,p.2.2.1,p.2.2.2.2.1,p.2.2.2.2.2.1,p.2.2.2.2.2.2.2.1)) none
noncomputable def xFn:List AV->List Box->Option (Bool×AV×List Box):=omOf (xM0 (sEq (pInt IntKind.i64)) (xM0 (sEq (pInt IntKind.i64)) (xM0 (sEq (xNc 0 0 0 0)) (xM0 (sEq (xNc 1 0 0 0)) (xM0 (sEq (xNc 2 0 0 0)) xM2))))) (xMx (xNe 0 1 3 false true (xMx (pInt IntKind.i64) xM1)) (xMx (xNe 0 1 126 false false (xMx (xNb 3 0 0) xM1)) (xMx (xNe 0 1 64 false false (xMx (xNb 4 0 0) xM1)) (xMx (xNe 0 2 128 false true xM3) (xMx (xNe 0 2 52 false true xM3) xM1))))) λ(q,(n,(_,(_,(_,_))))) ((h,_),((ns,_),((no,_),(sx,(ox,_)))))=>((set2 q n h ns no sx ox).isSome,(.tuple [],[⟨0,1,3,[.int .i64 ((set2 q n h ns no sx ox).getD (0,0,0,[],[])).1],false,true⟩,⟨0,1,126,[.osl (.b 3) 1 0 ((set2 q n h ns no sx ox).getD (0,0,0,[],[])).2.1],false,false⟩,⟨0,1,64,[.osl (.b 4) 1 0 ((set2 q n h ns no sx ox).getD (0,0,0,[],[])).2.2.1],false,false⟩,⟨1,2,128,((set2 q n h ns no sx ox).getD (0,0,0,[],[])).2.2.2.1,false,true⟩,⟨1,2,52,((set2 q n h ns no sx ox).getD (0,0,0,[],[])).2.2.2.2,false,true⟩]))
def xJ0:OmOk P0 xMZ 106 xFn:=xkF λ vv bb rr Z hh=>by obtain⟨J,⟨n,⟨_,⟨_,⟨_,_⟩⟩⟩⟩⟩:=vv;obtain⟨⟨h,_⟩,⟨⟨ns,_⟩,⟨⟨no,_⟩,⟨sx,⟨ox,_⟩⟩⟩⟩⟩:=bb;obtain⟨O,Q⟩:=Prod.mk.inj hh;cases hs:xkz J n h ns no sx ox with|none=>rw[show set2 J n h ns no sx ox=none by unfold set2;rw[hs];rfl]at O;simp at O|some p=>(have W:set2 J n h ns no sx ox=br (Nat.beq p.2.1 p.2.2.2.2.2.2.1&&Nat.beq p.2.2.2.1 p.2.2.2.2.2.2.2.2) (some (p.1,p.2.2.1,p.2.2.2.2.1,p.2.2.2.2.2.1,p.2.2.2.2.2.2.2.1)) none:=by unfold set2;rw[hs];rfl);cases ht:Nat.beq p.2.1 p.2.2.2.2.2.2.1&&Nat.beq p.2.2.2.1 p.2.2.2.2.2.2.2.2 with|false=>rw[W,ht]at O;simp[br]at O|true=>
 rw[ht]at W;have Y:set2 J n h ns no sx ox=some (p.1,p.2.2.1,p.2.2.2.2.1,p.2.2.2.2.2.1,p.2.2.2.2.2.2.2.1):=W;rw[Y]at Q;simp only[zh]at Q;simp only[zf]at ht;have e1:=zg ht.1;have e2:=zg ht.2;have hx:=xzL J n h ns no sx ox p hs;have hg:GoodM P0 xMZ 106 _ _ _ _:=xl3 (p:=xgA.pin) (xl2 xMq (xMr P0 _) rfl xuu rfl Tryz.func106 rfl (by kernel_rfl) xsw hx);rw [<-e1,<-e2] at hg;have V:=GoodM.aged (p:=1) (q:=3) hg (fun bx hb=>by cases hb;rfl) rfl rfl rfl rfl (fun n bx hn=>by
  match n with
  | 0=>cases hn;exact⟨rfl,.inr (.inr (.inl rfl))⟩
  | 1=>cases hn;exact⟨rfl,.inl rfl⟩
  | 2=>cases hn;exact⟨rfl,.inr (.inr (.inr ⟨_,_,_,by decide,rfl⟩))⟩
  | 3=>cases hn;exact⟨rfl,.inr (.inl rfl)⟩
  | 4=>cases hn;exact⟨rfl,.inr (.inr (.inl rfl))⟩
  | n+5=>simp at hn)
 have V:=GoodM.aged (p:=2) (q:=4) V (fun bx hb=>by cases hb;rfl) rfl rfl rfl rfl (fun n bx hn=>by
  match n with
  | 0=>cases hn;exact⟨rfl,.inr (.inr (.inl rfl))⟩
  | 1=>cases hn;exact⟨rfl,.inr (.inr (.inr ⟨_,_,_,by decide,rfl⟩))⟩
  | 2=>cases hn;exact⟨rfl,.inl rfl⟩
  | 3=>cases hn;exact⟨rfl,.inr (.inr (.inl rfl))⟩
  | 4=>cases hn;exact⟨rfl,.inr (.inl rfl)⟩
  | n+5=>simp at hn)
 obtain⟨rfl,rfl⟩:=Prod.mk.inj Q;exact V
noncomputable def ESet:Env:=xq9.E.withM 106 xFn
def xHc:xMh P0 xMZ ESet:=xq9.ok.withM xJ0
noncomputable def xBo:EO:=EO.mk ESet xHc
end M
end Go.Sim
namespace Go.Sim.M
open Go.IntKind (i64 u64 u8)
open Go.RowKit Go.Proofs
def xkh(a:LA)(h b:Int)(f c:Nat)(g:Int)(d e:LA):Int:=if 0>(gC a b 1).toInt then 0 else(gC a b 1).toInt
def xkg(f:LA)(h g:Int)(d a:Nat)(e:Int)(b c:LA):=set2 (gC f g 0).toInt (if 1048576<xkh f h g d a e b c then 1048576 else xkh f h g d a e b c) e a d c b
def xcN(f:LA)(g h:Int)(d a:Nat)(e:Int)(b c:LA):=(xkg f g h d a e b c).getD (0,0,0,[],[])
def xhO{T:Type}(g:LA)(h e:Int)(d a:Nat)(f:Int)(b c:LA)(δ:T)(κl:(Int×Nat×Nat×Int×LA×LA)->T)(κr:(Nat×Int×Nat×LA×LA)->T):T:=br (decide (e<h)) (br (ixI g e) (br (ixT g e 2 [Sh.int .i64,Sh.int .i64] 0) (br ((xkg g h e d a f b c).isSome) (κl (i64.wrap (e+1),(((xcN g h e d a f b c).snd).snd).fst,(((xcN g h e d a f b c).snd).fst),(xcN g h e d a f b c).fst,((((xcN g h e d a f b c).snd).snd).snd).snd,List.take (((xcN g h e d a f b c).snd).fst) ((((xcN g h e d a f b c).snd).snd).snd).fst)) δ) δ) δ) (κr (d,f,a,b,c))
def xda(f:LA)(g:Int):StT (Int×Nat×Nat×Int×LA×LA) (Nat×Int×Nat×LA×LA):=λ(h,d,a,e,b,c)=>xhO f g h d a e b c none inL inR
def xoF:=xBo.l 30 0 [] [] Tryz.f76 0 lk0 [3,4,6,10,11,12] [3,6] [(3,2,52),(4,2,128),(4,0,0)] (q6 (xNc 0 0 0 0) (xNc 1 0 0 0) (xMF 106 (q3 (xNc 2 0 0 0) (xNc 1 0 0 0) (xNc 0 0 0 0))) (qL 2) qI qI) (q5 (xNe 0 1 64 false false (q1 (xNb 3 0 0))) (xNe 0 1 126 false false (q1 (xNb 4 0 0))) (qB 0 1 3 (q1 qI)) (qB 0 2 52 xM3) (qB 0 2 128 xM3)) (λ(_,_,(_,_,_,_),f,g,h,_) ((d,_),(a,_),(e,_),b,c,_)=>(xda f g,(h,d,a,e,b,c),λ p=>(.leaf (.exit 0) [AV.own 0 0 0 0,AV.func 106 [AV.own 1 0 0 0,AV.own 2 0 0 0,AV.own 0 0 0 0]] [⟨0,1,64,[AV.osl 3 0 0 p.1],false,false⟩,bF 0 1 3 [AV.int .i64 p.2.1],⟨0,1,126,[AV.osl 4 0 0 p.2.2.1],false,false⟩,bF 0 2 52 p.2.2.2.1,bF 0 2 128 p.2.2.2.2]))) (0,0,0,[],[]) λ(_,_,(_,_,_,_),f,g,_,_) _ (h,d,a,e,b,c)=>((((),(),((),(),(),()),f,g,h,()),((d,()),(a,()),(e,()),b,c,())),xhO f g h d a e b c none)
def xng(l:LA):=Iter (xda l (↑l.length:Int)) (0,0,0,0,[],[])
def xfr(l:LA):=(xng l).getD (0,0,0,[],[])
def xnf(l:LA):=set2 1099511627776 0 ((xfr l).snd).fst (((xfr l).snd).snd).fst (xfr l).fst ((((xfr l).snd).snd).snd).snd ((((xfr l).snd).snd).snd).fst
def xcw(l:LA):=((xnf l).getD (0,0,0,[],[])).snd.snd
def xnV{T:Type}(l:LA)(δ:T)(κ:LA->T):T:=br ((xng l).isSome) (br ((xnf l).isSome) (br (((xcw l).fst).beq ((xcw l).snd.snd).length&&(decide (((xcw l).fst)<4611686018427387904)&&((xcw l).snd.snd).all isP)) (br (decide (0+((xcw l).fst)<=(srtP ((xcw l).snd.snd)).length)&&true) (κ (List.take ((xcw l).fst) (List.drop 0 (srtP ((xcw l).snd.snd))))) δ) δ) δ) δ
def xay(l:LA):=xnV l none some
def xIv:EO:=xBo.f Tryz.func76 30 0 [] [(6,xoF.lp)] (lk1 xoF.ok) (u1 (uL 2)) (λ(l,_) _=>xnV l) (λ _ p=>AV.list 2 p) []
def xmp{T:Type}(a:LA)(δ:T)(κ:LA->T):T:=br ((↑a.length:Int)==1) (κ (a)) (br ((xev a).isSome) (br ((xay ((xev a).getD [])).isSome) (κ ((xay ((xev a).getD [])).getD [])) δ) δ)
def xft(a:LA):=xmp a none some
def xyV:EO:=xIv.f Tryz.func115 10 0 [] [] lk0 (u1 (uL 2)) (λ(a,_) _=>xmp a) (λ _ p=>AV.list 2 p) []
def xjs{T:Type}(b e:LA)(f:Int)(c:Nat)(a:Int)(d:LA)(δ:T)(κl:(Nat×Int×LA)->T)(κr:(Nat×LA)->T):T:=br (decide (a<f)) (br (decide (0<=a)&&decide (a<e.length)) (br (decide (a.toNat<e.length)&&((e.getD a.toNat .top).cells.length==2&&xMm [Sh.int .i64,Sh.int .i64] (e.getD a.toNat .top).cells 0)) (br (xgh ((e.getD a.toNat .top).cells.getD 0 .top).toInt ((e.getD a.toNat .top).cells.getD 1 .top).toInt) (br (c==d.length&&(decide ((c+2)*24<=140737488355328)&&decide (c+2<=4611686018427387904))) (κl (c+2,i64.wrap (a+1),d++[AV.agg [AV.int .i64 ((e.getD a.toNat .top).cells.getD 0 .top).toInt,AV.int .i64 1,AV.int .i64 0],AV.agg [AV.int .i64 ((e.getD a.toNat .top).cells.getD 1 .top).toInt,AV.int .i64 (-1),AV.int .i64 0]])) δ) (κl (c,i64.wrap (a+1),d))) δ) δ) (κr (c,d))
def xbZ(b d:LA)(e:Int):StT (Nat×Int×LA) (Nat×LA):=λ(c,f,a)=>xjs b d e c f a none inL inR
def xlU:=xyV.l 49 0 [] [] Tryz.f129 0 lk0 [1,5,10,11,12] [1,5] [(5,3,154)] (q5 (qL 2) (xNb 0 0 0) (qL 2) qI qI) (q1 (qB 0 3 154 xM3)) (λ(b,c,d,e,f,_) (a,_)=>(xbZ b d e,(c,f,a),λ p=>(.leaf (.exit 0) [AV.list 2 b,AV.osl 0 0 0 p.1] [bF 0 3 154 p.2]))) (0,[]) λ(b,_,d,e,_,_) _ (c,f,a)=>(((b,c,d,e,f,()),(a,())),xjs b d e c f a none)
def xjt{T:Type}(d:LA)(e:Int)(b:Nat)(a:Int)(c:LA)(δ:T)(κl:(Nat×Int×LA)->T)(κr:(Nat×LA)->T):T:=br (decide (a<e)) (br (decide (0<=a)&&decide (a<d.length)) (br (decide (a.toNat<d.length)&&((d.getD a.toNat .top).cells.length==2&&xMm [Sh.int .i64,Sh.int .i64] (d.getD a.toNat .top).cells 0)) (br (xgh ((d.getD a.toNat .top).cells.getD 0 .top).toInt ((d.getD a.toNat .top).cells.getD 1 .top).toInt) (br (b==c.length&&(decide ((b+2)*24<=140737488355328)&&decide (b+2<=4611686018427387904))) (κl (b+2,i64.wrap (a+1),c++[AV.agg [AV.int .i64 ((d.getD a.toNat .top).cells.getD 0 .top).toInt,AV.int .i64 0,AV.int .i64 1],AV.agg [AV.int .i64 ((d.getD a.toNat .top).cells.getD 1 .top).toInt,AV.int .i64 0,AV.int .i64 (-1)]])) δ) (κl (b,i64.wrap (a+1),c))) δ) δ) (κr (b,c))
def xdM(c:LA)(d:Int):StT (Nat×Int×LA) (Nat×LA):=λ(b,e,a)=>xjt c d b e a none inL inR
def xqe:=xyV.l 49 0 [] [(3,xlU.lp)] Tryz.f129 1 lk0 [5,28,29,30] [5] [(5,3,154)] (q4 (xNb 0 0 0) (qL 2) qI qI) (q1 (qB 0 3 154 xM3)) (λ(b,c,d,e,_) (a,_)=>(xdM c d,(b,e,a),λ p=>(.leaf (.exit 2) [AV.osl 0 0 0 p.1] [bF 0 3 154 p.2]))) (0,[]) λ(_,c,d,_,_) _ (b,e,a)=>(((b,c,d,e,()),(a,())),xjt c d b e a none)
def xlv(a b:LA):=(Iter (xbZ b a (↑a.length:Int)) (0,0,[])).getD (0,[])
def xlu(a b:LA):=Iter (xdM b (↑b.length:Int)) ((xlv a b).fst,0,(xlv a b).snd)
def xlt(a b:LA):=(xlu a b).getD (0,[])
def xgF(a b:LA):=(xlt a b).fst
def xgG(a b:LA):=(xlt a b).snd
def xqf{T:Type}(a b:LA)(δ:T)(κ:LA->T):T:=br ((Iter (xbZ b a (↑a.length:Int)) (0,0,[])).isSome) (br ((xlu a b).isSome) (br ((xgF a b).beq (xgG a b).length&&(decide (xgF a b<4611686018427387904)&&(xgG a b).all isE)) (br (decide (0+xgF a b<=(srtE (xgG a b)).length)&&true) (κ (List.take (xgF a b) (List.drop 0 (srtE (xgG a b))))) δ) δ) δ) δ
def xhb(a b:LA):=xqf a b none some
def xIw:EO:=xyV.f Tryz.func129 49 0 [] [(3,xlU.lp),(9,xqe.lp)] (lks (lkC xlU.ok (lkC xqe.ok lkN))) (u2 (uL 2) (uL 2)) (λ(a,b,_) _=>xqf a b) (λ _ p=>AV.list 3 p) []
def xmc(a b:Bool):Bool:=((a))
def xA8{T:Type}(a b:Bool)(δ:T)(κ:Bool->T):T:=κ (a)
def xIy:EO:=xIw.fT Tryz.func93 6 0 [] [] lk0 (λ(a,b,_)=>xA8 a b none) (u2 (sEq pBool) (sEq pBool)) (λ(a,b,_)=>xmc a b) (λ _ p=>(AV.bool p))
def xfq(a b:Bool):Bool:=(br (a) ((!b)) ((false)))
def xtH{T:Type}(a b:Bool)(δ:T)(κ:Bool->T):T:=br (a) (κ (!b)) (κ (false))
def xyW:EO:=xIy.fT Tryz.func98 10 0 [] [] lk0 (λ(a,b,_)=>xtH a b none) (u2 (sEq pBool) (sEq pBool)) (λ(a,b,_)=>xfq a b) (λ _ p=>(AV.bool p))
def xo8{T:Type}(l:LA)(e:Nat)(d b c i:Int)(a:LA)(δ:T)(κl:(Int×Int×Int×LA)->T)(κr:(Int×Int×Int×LA)->T):T:=br (decide (i<l.length)) (br (decide (0<=i)&&decide (i<l.length)) (br (decide (i.toNat<l.length)&&xMf (Sh.int .i64) ((l.getD i.toNat .top).cells.getD 0 .top)) (br (((l.getD i.toNat .top).cells.getD 0 .top).toInt==d) (br (decide (0<=i)&&decide (i<l.length)) (br (decide (i.toNat<l.length)&&xMf (Sh.int .i64) ((l.getD i.toNat .top).cells.getD 1 .top)) (br (decide (0<=i)&&decide (i<l.length)) (br (decide (i.toNat<l.length)&&xMf (Sh.int .i64) ((l.getD i.toNat .top).cells.getD 2 .top)) (κl (i64.wrap (b+((l.getD i.toNat .top).cells.getD 1 .top).toInt),i64.wrap (c+((l.getD i.toNat .top).cells.getD 2 .top).toInt),i64.wrap (i+1),a)) δ) δ) δ) δ) (κr (b,c,i,a))) δ) δ) (κr (b,c,i,a))
def xiC(l:LA)(b:Nat)(c:Int):StT (Int×Int×Int×LA) (Int×Int×Int×LA):=λ(d,e,i,a)=>xo8 l b c d e i a none inL inR
def xhe:=xyW.l 92 0 [] [] Tryz.f92 1 lk0 [2,7,8,9,10,11,12] [2,7,8,9,10,11,12] [(8,2,52)] (q7 (xMF 93 xM1) (qL 3) (xNb 0 0 0) qI qI qI qI) (q1 (qB 0 2 52 xM3)) (λ(_,l,a,d,e,i,c,_) (b,_)=>(xiC l a c,(d,e,i,b),λ p=>(.leaf (.exit 2) [AV.func 93 [],AV.list 3 l,AV.osl 0 0 0 a,AV.int .i64 p.1,AV.int .i64 p.2.1,AV.int .i64 p.2.2.1,AV.int .i64 c] [bF 0 2 52 p.2.2.2]))) (0,0,0,[]) λ(_,l,a,_,_,_,c,_) _ (d,e,i,b)=>((((),l,a,d,e,i,c,()),(b,())),xo8 l a c d e i b none)
def xhd(a:Nat):=decide (0<=i64.wrap ((↑a:Int) - 1))&&decide (i64.wrap ((↑a:Int) - 1)<(↑a:Int))
def xah(l:LA)(b:Nat)(d e i c:Int)(a:LA):=(Iter (xiC l b c) (d,e,i,a)).getD (0,0,0,[])
def xaM(a:Nat):Nat:=0+(i64.wrap ((↑a:Int) - 1)).toNat
def xaj(l:LA)(b:Nat)(d e i c:Int)(a:LA):=(((xah l b d e i c a).snd).snd).snd
def xoB(l:LA)(b:Nat)(d e i c:Int)(a:LA):=xmc (decide (((xah l b d e i c a).fst)>0)) (decide ((((xah l b d e i c a).snd).fst)>0))
def xal(l:LA)(b:Nat)(d e i c:Int)(a:LA):=(((xah l b d e i c a).snd).snd).fst
def xhc(l:LA)(a:Nat)(d e i c:Int)(b:LA):=decide (xaM a<(xaj l a d e i c b).length)
def xo7{T:Type}(l:LA)(a:Nat)(d e i c:Int)(b:LA)(δ:T)(κl:(Nat×Int×Int×Int×Int×LA)->T)(κr:(Nat×LA)->T):T:=br (decide (c<1099511627776)) (br ((Iter (xiC l a c) (d,e,i,b)).isSome) (br (decide (xal l a d e i c b<l.length)) (br (decide (0<=xal l a d e i c b)&&(decide (xal l a d e i c b<l.length))) (br (decide ((xal l a d e i c b).toNat<l.length)&&xMf (Sh.int .i64) ((l.getD (xal l a d e i c b).toNat .top).cells.getD 0 .top)) (br (xoB l a d e i c b) (br (decide ((↑a:Int)>0)) (br (xhd a) (br (xhc l a d e i c b&&xMf (Sh.int .i64) (((xaj l a d e i c b).getD (xaM a) .top).cells.getD 1 .top)) (br ((((xaj l a d e i c b).getD (xaM a) .top).cells.getD 1 .top).toInt==c) (br (xhd a) (br (xhc l a d e i c b) (κl (a,((xah l a d e i c b).fst),(((xah l a d e i c b).snd).fst),xal l a d e i c b,((l.getD (xal l a d e i c b).toNat .top).cells.getD 0 .top).toInt,(xaj l a d e i c b).set (xaM a) (AV.agg (List.take 1 ((xaj l a d e i c b).getD (xaM a) .top).cells++[AV.int .i64 ((l.getD (xal l a d e i c b).toNat .top).cells.getD 0 .top).toInt]++List.drop 2 ((xaj l a d e i c b).getD (xaM a) .top).cells)))) δ) δ) (br (a==(xaj l a d e i c b).length&&(decide ((a+1)*16<=140737488355328)&&decide (a+1<=4611686018427387904))) (κl (a+1,((xah l a d e i c b).fst),(((xah l a d e i c b).snd).fst),xal l a d e i c b,((l.getD (xal l a d e i c b).toNat .top).cells.getD 0 .top).toInt,xaj l a d e i c b++[AV.agg [AV.int .i64 c,AV.int .i64 ((l.getD (xal l a d e i c b).toNat .top).cells.getD 0 .top).toInt]])) δ)) δ) δ) (br (a==(xaj l a d e i c b).length&&(decide ((a+1)*16<=140737488355328)&&decide (a+1<=4611686018427387904))) (κl (a+1,((xah l a d e i c b).fst),(((xah l a d e i c b).snd).fst),xal l a d e i c b,((l.getD (xal l a d e i c b).toNat .top).cells.getD 0 .top).toInt,xaj l a d e i c b++[AV.agg [AV.int .i64 c,AV.int .i64 ((l.getD (xal l a d e i c b).toNat .top).cells.getD 0 .top).toInt]])) δ)) (κl (a,((xah l a d e i c b).fst),(((xah l a d e i c b).snd).fst),xal l a d e i c b,((l.getD (xal l a d e i c b).toNat .top).cells.getD 0 .top).toInt,xaj l a d e i c b))) δ) δ) (br (xoB l a d e i c b) (br (decide ((↑a:Int)>0)) (br (xhd a) (br (xhc l a d e i c b&&xMf (Sh.int .i64) (((xaj l a d e i c b).getD (xaM a) .top).cells.getD 1 .top)) (br ((((xaj l a d e i c b).getD (xaM a) .top).cells.getD 1 .top).toInt==c) (br (xhd a) (br (xhc l a d e i c b) (κl (a,((xah l a d e i c b).fst),(((xah l a d e i c b).snd).fst),xal l a d e i c b,1099511627776,(xaj l a d e i c b).set (xaM a) (AV.agg (List.take 1 ((xaj l a d e i c b).getD (xaM a) .top).cells++[AV.int .i64 1099511627776]++List.drop 2 ((xaj l a d e i c b).getD (xaM a) .top).cells)))) δ) δ) (br (a==(xaj l a d e i c b).length&&(decide ((a+1)*16<=140737488355328)&&decide (a+1<=4611686018427387904))) (κl (a+1,((xah l a d e i c b).fst),(((xah l a d e i c b).snd).fst),xal l a d e i c b,1099511627776,xaj l a d e i c b++[AV.agg [AV.int .i64 c,AV.int .i64 1099511627776]])) δ)) δ) δ) (br (a==(xaj l a d e i c b).length&&(decide ((a+1)*16<=140737488355328)&&decide (a+1<=4611686018427387904))) (κl (a+1,((xah l a d e i c b).fst),(((xah l a d e i c b).snd).fst),xal l a d e i c b,1099511627776,xaj l a d e i c b++[AV.agg [AV.int .i64 c,AV.int .i64 1099511627776]])) δ)) (κl (a,((xah l a d e i c b).fst),(((xah l a d e i c b).snd).fst),xal l a d e i c b,1099511627776,xaj l a d e i c b)))) δ) (κr (a,b))
def xnc(l:LA):StT (Nat×Int×Int×Int×Int×LA) (Nat×LA):=λ(b,d,e,i,c,a)=>xo7 l b d e i c a none inL inR
def xoA:=xyW.l 92 0 [] [(6,xhe.lp)] Tryz.f92 0 (lk1 xhe.ok) [2,7,8,9,10,11,12] [8] [(8,2,52)] (q7 (xMF 93 xM1) (qL 3) (xNb 0 0 0) qI qI qI qI) (q1 (qB 0 2 52 xM3)) (λ(_,l,b,d,e,i,c,_) (a,_)=>(xnc l,(b,d,e,i,c,a),λ p=>(.leaf (.exit 0) [AV.osl 0 0 0 p.1] [bF 0 2 52 p.2]))) (0,[]) λ(_,l,_,_,_,_,_,_) _ (b,d,e,i,c,a)=>((((),l,b,d,e,i,c,()),(a,())),xo7 l b d e i c a none)
def xqD(a b:LA):=Iter (xnc ((xhb a b).getD [])) (0,0,0,0,0,[])
def xju(a b:LA):=(xqD a b).getD (0,[])
def xrq{T:Type}(a b:LA)(δ:T)(κ:LA->T):T:=br ((xhb a b).isSome) (br ((xqD a b).isSome) (br (decide (0+((xju a b).fst)<=((xju a b).snd).length)&&true) (κ (List.take ((xju a b).fst) (List.drop 0 ((xju a b).snd)))) δ) δ) δ
def xqg(a b:LA):=xrq a b none some
def xIz:EO:=xyW.f Tryz.func92 92 0 [] [(6,xhe.lp),(5,xoA.lp)] (lks (lkC xoA.ok (lkC xhe.ok lkN))) (u3 (uL 2) (uL 2) (sEq (xMF (93:FuncId) xM1))) (λ(a,b,_,_) _=>xrq a b) (λ _ p=>AV.list 2 p) []
def xtj{T:Type}(l:LA)(δ:T)(κ:LA->T):T:=br ((xqg l []).isSome) (κ ((xqg l []).getD [])) δ
def xiP(l:LA):=xtj l none some
def xyX:EO:=xIz.f Tryz.func61 5 0 [] [] lk0 (u1 (uL 2)) (λ(l,_) _=>xtj l) (λ _ p=>AV.list 2 p) []
def xpa{T:Type}(l:LA)(e:Nat)(d b c i:Int)(a:LA)(δ:T)(κl:(Int×Int×Int×LA)->T)(κr:(Int×Int×Int×LA)->T):T:=br (decide (i<l.length)) (br (decide (0<=i)&&decide (i<l.length)) (br (decide (i.toNat<l.length)&&xMf (Sh.int .i64) ((l.getD i.toNat .top).cells.getD 0 .top)) (br (((l.getD i.toNat .top).cells.getD 0 .top).toInt==d) (br (decide (0<=i)&&decide (i<l.length)) (br (decide (i.toNat<l.length)&&xMf (Sh.int .i64) ((l.getD i.toNat .top).cells.getD 1 .top)) (br (decide (0<=i)&&decide (i<l.length)) (br (decide (i.toNat<l.length)&&xMf (Sh.int .i64) ((l.getD i.toNat .top).cells.getD 2 .top)) (κl (i64.wrap (b+((l.getD i.toNat .top).cells.getD 1 .top).toInt),i64.wrap (c+((l.getD i.toNat .top).cells.getD 2 .top).toInt),i64.wrap (i+1),a)) δ) δ) δ) δ) (κr (b,c,i,a))) δ) δ) (κr (b,c,i,a))
def xiD(l:LA)(b:Nat)(c:Int):StT (Int×Int×Int×LA) (Int×Int×Int×LA):=λ(d,e,i,a)=>xpa l b c d e i a none inL inR
def xhh:=xyX.l 92 0 [] [] Tryz.f92 1 lk0 [2,7,8,9,10,11,12] [2,7,8,9,10,11,12] [(8,2,52)] (q7 (xMF 98 xM1) (qL 3) (xNb 0 0 0) qI qI qI qI) (q1 (qB 0 2 52 xM3)) (λ(_,l,a,d,e,i,c,_) (b,_)=>(xiD l a c,(d,e,i,b),λ p=>(.leaf (.exit 2) [AV.func 98 [],AV.list 3 l,AV.osl 0 0 0 a,AV.int .i64 p.1,AV.int .i64 p.2.1,AV.int .i64 p.2.2.1,AV.int .i64 c] [bF 0 2 52 p.2.2.2]))) (0,0,0,[]) λ(_,l,a,_,_,_,c,_) _ (d,e,i,b)=>((((),l,a,d,e,i,c,()),(b,())),xpa l a c d e i b none)
def xhg(a:Nat):=decide (0<=i64.wrap ((↑a:Int) - 1))&&decide (i64.wrap ((↑a:Int) - 1)<(↑a:Int))
def xai(l:LA)(b:Nat)(d e i c:Int)(a:LA):=(Iter (xiD l b c) (d,e,i,a)).getD (0,0,0,[])
def xaN(a:Nat):Nat:=0+(i64.wrap ((↑a:Int) - 1)).toNat
def xak(l:LA)(b:Nat)(d e i c:Int)(a:LA):=(((xai l b d e i c a).snd).snd).snd
def xoD(l:LA)(b:Nat)(d e i c:Int)(a:LA):=xfq (decide (((xai l b d e i c a).fst)>0)) (decide ((((xai l b d e i c a).snd).fst)>0))
def xam(l:LA)(b:Nat)(d e i c:Int)(a:LA):=(((xai l b d e i c a).snd).snd).fst
def xhf(l:LA)(a:Nat)(d e i c:Int)(b:LA):=decide (xaN a<(xak l a d e i c b).length)
def xo9{T:Type}(l:LA)(a:Nat)(d e i c:Int)(b:LA)(δ:T)(κl:(Nat×Int×Int×Int×Int×LA)->T)(κr:(Nat×LA)->T):T:=br (decide (c<1099511627776)) (br ((Iter (xiD l a c) (d,e,i,b)).isSome) (br (decide (xam l a d e i c b<l.length)) (br (decide (0<=xam l a d e i c b)&&(decide (xam l a d e i c b<l.length))) (br (decide ((xam l a d e i c b).toNat<l.length)&&xMf (Sh.int .i64) ((l.getD (xam l a d e i c b).toNat .top).cells.getD 0 .top)) (br (xoD l a d e i c b) (br (decide ((↑a:Int)>0)) (br (xhg a) (br (xhf l a d e i c b&&xMf (Sh.int .i64) (((xak l a d e i c b).getD (xaN a) .top).cells.getD 1 .top)) (br ((((xak l a d e i c b).getD (xaN a) .top).cells.getD 1 .top).toInt==c) (br (xhg a) (br (xhf l a d e i c b) (κl (a,((xai l a d e i c b).fst),(((xai l a d e i c b).snd).fst),xam l a d e i c b,((l.getD (xam l a d e i c b).toNat .top).cells.getD 0 .top).toInt,(xak l a d e i c b).set (xaN a) (AV.agg (List.take 1 ((xak l a d e i c b).getD (xaN a) .top).cells++[AV.int .i64 ((l.getD (xam l a d e i c b).toNat .top).cells.getD 0 .top).toInt]++List.drop 2 ((xak l a d e i c b).getD (xaN a) .top).cells)))) δ) δ) (br (a==(xak l a d e i c b).length&&(decide ((a+1)*16<=140737488355328)&&decide (a+1<=4611686018427387904))) (κl (a+1,((xai l a d e i c b).fst),(((xai l a d e i c b).snd).fst),xam l a d e i c b,((l.getD (xam l a d e i c b).toNat .top).cells.getD 0 .top).toInt,xak l a d e i c b++[AV.agg [AV.int .i64 c,AV.int .i64 ((l.getD (xam l a d e i c b).toNat .top).cells.getD 0 .top).toInt]])) δ)) δ) δ) (br (a==(xak l a d e i c b).length&&(decide ((a+1)*16<=140737488355328)&&decide (a+1<=4611686018427387904))) (κl (a+1,((xai l a d e i c b).fst),(((xai l a d e i c b).snd).fst),xam l a d e i c b,((l.getD (xam l a d e i c b).toNat .top).cells.getD 0 .top).toInt,xak l a d e i c b++[AV.agg [AV.int .i64 c,AV.int .i64 ((l.getD (xam l a d e i c b).toNat .top).cells.getD 0 .top).toInt]])) δ)) (κl (a,((xai l a d e i c b).fst),(((xai l a d e i c b).snd).fst),xam l a d e i c b,((l.getD (xam l a d e i c b).toNat .top).cells.getD 0 .top).toInt,xak l a d e i c b))) δ) δ) (br (xoD l a d e i c b) (br (decide ((↑a:Int)>0)) (br (xhg a) (br (xhf l a d e i c b&&xMf (Sh.int .i64) (((xak l a d e i c b).getD (xaN a) .top).cells.getD 1 .top)) (br ((((xak l a d e i c b).getD (xaN a) .top).cells.getD 1 .top).toInt==c) (br (xhg a) (br (xhf l a d e i c b) (κl (a,((xai l a d e i c b).fst),(((xai l a d e i c b).snd).fst),xam l a d e i c b,1099511627776,(xak l a d e i c b).set (xaN a) (AV.agg (List.take 1 ((xak l a d e i c b).getD (xaN a) .top).cells++[AV.int .i64 1099511627776]++List.drop 2 ((xak l a d e i c b).getD (xaN a) .top).cells)))) δ) δ) (br (a==(xak l a d e i c b).length&&(decide ((a+1)*16<=140737488355328)&&decide (a+1<=4611686018427387904))) (κl (a+1,((xai l a d e i c b).fst),(((xai l a d e i c b).snd).fst),xam l a d e i c b,1099511627776,xak l a d e i c b++[AV.agg [AV.int .i64 c,AV.int .i64 1099511627776]])) δ)) δ) δ) (br (a==(xak l a d e i c b).length&&(decide ((a+1)*16<=140737488355328)&&decide (a+1<=4611686018427387904))) (κl (a+1,((xai l a d e i c b).fst),(((xai l a d e i c b).snd).fst),xam l a d e i c b,1099511627776,xak l a d e i c b++[AV.agg [AV.int .i64 c,AV.int .i64 1099511627776]])) δ)) (κl (a,((xai l a d e i c b).fst),(((xai l a d e i c b).snd).fst),xam l a d e i c b,1099511627776,xak l a d e i c b)))) δ) (κr (a,b))
def xnd(l:LA):StT (Nat×Int×Int×Int×Int×LA) (Nat×LA):=λ(b,d,e,i,c,a)=>xo9 l b d e i c a none inL inR
def xoC:=xyX.l 92 0 [] [(6,xhh.lp)] Tryz.f92 0 (lk1 xhh.ok) [2,7,8,9,10,11,12] [8] [(8,2,52)] (q7 (xMF 98 xM1) (qL 3) (xNb 0 0 0) qI qI qI qI) (q1 (qB 0 2 52 xM3)) (λ(_,l,b,d,e,i,c,_) (a,_)=>(xnd l,(b,d,e,i,c,a),λ p=>(.leaf (.exit 0) [AV.osl 0 0 0 p.1] [bF 0 2 52 p.2]))) (0,[]) λ(_,l,_,_,_,_,_,_) _ (b,d,e,i,c,a)=>((((),l,b,d,e,i,c,()),(a,())),xo9 l b d e i c a none)
def xqE(a b:LA):=Iter (xnd ((xhb a b).getD [])) (0,0,0,0,0,[])
def xjv(a b:LA):=(xqE a b).getD (0,[])
def xrr{T:Type}(a b:LA)(δ:T)(κ:LA->T):T:=br ((xhb a b).isSome) (br ((xqE a b).isSome) (br (decide (0+((xjv a b).fst)<=((xjv a b).snd).length)&&true) (κ (List.take ((xjv a b).fst) (List.drop 0 ((xjv a b).snd)))) δ) δ) δ
def xqh(a b:LA):=xrr a b none some
def xIA:EO:=xyX.f Tryz.func92 92 0 [] [(6,xhh.lp),(5,xoC.lp)] (lks (lkC xoC.ok (lkC xhh.ok lkN))) (u3 (uL 2) (uL 2) (sEq (xMF (98:FuncId) xM1))) (λ(a,b,_,_) _=>xrr a b) (λ _ p=>AV.list 2 p) []
def xnb{T:Type}(a b:LA)(δ:T)(κ:LA->T):T:=br ((xqh a b).isSome) (κ ((xqh a b).getD [])) δ
def xfz(a b:LA):=xnb a b none some
def xyY:EO:=xIA.f Tryz.func63 8 0 [] [] lk0 (u2 (uL 2) (uL 2)) (λ(a,b,_) _=>xnb a b) (λ _ p=>AV.list 2 p) []
def xfa{T:Type}(h:LA)(i j:Int)(e:LA)(f:Int)(d:Nat)(c:Int)(a b g:LA)(δ:T)(κl:(Nat×Int×LA×LA×LA)->T)(κr:(Nat×LA)->T):T:=br (decide (c<f)) (br (ixI e c) (br (ixT e c 2 [Sh.int .i64,Sh.int .i64] 0) (br (decide (b.length*32<=140737488355328)&&decide (b.length<=4611686018427387904)) (br (decide (0+b.length<=b.length)&&true&&true&&true&&true) (br (rmB d a 1 40) (κl (d+1,i64.wrap (c+1),a++[AV.agg [AV.list 3 (List.take b.length (List.drop 0 b)),AV.int .i64 (gC e c 0).toInt,AV.int .i64 (gC e c 1).toInt]],b,g)) δ) δ) δ) δ) δ) (κr (d,a))
def xbK(c:LA)(d e:Int)(f:LA)(g:Int):StT (Nat×Int×LA×LA×LA) (Nat×LA):=λ(b,h,a,i,j)=>xfa c d e f g b h a i j none inL inR
def xeO:=xyY.l 38 0 [54] [] Tryz.f89 1 lk0 [1,5,7,11,12,13,20,21,22] [1,5,11,12,13] [(5,3,54)] (q9 (xMF 115 xM1) (xNb 0 0 0) (xNc 1 0 0 0) (qL 2) qI qI (qL 2) qI qI) (q2 (qB 0 3 54 xM3) (qB 0 2 148 (q1 (xNd (q2 (qL 3) (qL 2)))))) (λ(_,b,_,c,d,e,f,g,h,_) (a,((i,j,_),_),_)=>(xbK c d e f g,(b,h,a,i,j),λ p=>(.leaf (.exit 2) [AV.func 115 [],AV.osl 0 0 0 p.1,AV.list 2 c,AV.int .i64 d,AV.int .i64 e] [bF 0 3 54 p.2]))) (0,[]) λ(_,_,_,c,d,e,f,g,_,_) _ (b,h,a,i,j)=>((((),b,(),c,d,e,f,g,h,()),(a,((i,j,()),()),())),xfa c d e f g b h a i j none)
def xeN(a:LA)(e:Int)(d:Nat)(b:Int)(c:LA):=Iter (xbK a e b ((xft (gC a b 1).toList).getD []) (↑((xft (gC a b 1).toList).getD []).length:Int)) (d,0,c,(gC a b 0).toList,(gC a b 1).toList)
def xe9{T:Type}(d:LA)(e:Int)(c:Nat)(b:Int)(a:LA)(δ:T)(κl:(Nat×Int×LA)->T)(κr:(Nat×LA)->T):T:=br (decide (b<e)) (br (ixI d b) (br (ixT d b 2 [Sh.list 3,Sh.list 2] 0) (br ((xft (gC d b 1).toList).isSome) (br ((xeN d e c b a).isSome) (κl (((xeN d e c b a).getD (0,[])).fst,i64.wrap (b+1),((xeN d e c b a).getD (0,[])).snd)) δ) δ) δ) δ) (κr (c,a))
def xcA(c:LA)(d:Int):StT (Nat×Int×LA) (Nat×LA):=λ(b,e,a)=>xe9 c d b e a none inL inR
def xk8:=xyY.l 38 0 [54] [(6,xeO.lp)] Tryz.f89 0 (lk1 xeO.ok) [1,5,11,12,13] [5] [(5,3,54)] (q5 (xMF 115 xM1) (xNb 0 0 0) (qL 2) qI qI) (q1 (qB 0 3 54 xM3)) (λ(_,b,c,d,e,_) (a,_)=>(xcA c d,(b,e,a),λ p=>(.leaf (.exit 0) [AV.osl 0 0 0 p.1] [bF 0 3 54 p.2]))) (0,[]) λ(_,_,c,d,_,_) _ (b,e,a)=>((((),b,c,d,e,()),(a,())),xe9 c d b e a none)
def xiR(l:LA):=Iter (xcA ((xee l).getD []) (↑((xee l).getD []).length:Int)) (0,0,[])
def xem(l:LA):=(xiR l).getD (0,[])
def xjC{T:Type}(l:LA)(δ:T)(κ:LA->T):T:=br ((xee l).isSome) (br ((xiR l).isSome) (br (decide (0+((xem l).fst)<=((xem l).snd).length)&&true) (κ (List.take ((xem l).fst) (List.drop 0 ((xem l).snd)))) δ) δ) δ
def xlB(l:LA):=xjC l none some
def xIB:EO:=xyY.f Tryz.func89 38 0 [54] [(6,xeO.lp),(3,xk8.lp)] (lks (lkC xk8.ok (lkC xeO.ok lkN))) (u2 (uL 3) (sEq (xMF (115:FuncId) xM1))) (λ(l,_,_) _=>xjC l) (λ _ p=>AV.list 3 p) []
def xnt{T:Type}(l:LA)(δ:T)(κ:LA->T):T:=br ((xlB l).isSome) (κ ((xlB l).getD [])) δ
def xbJ(l:LA):=xnt l none some
def xyZ:EO:=xIB.f Tryz.func78 5 0 [] [] lk0 (u1 (uL 3)) (λ(l,_) _=>xnt l) (λ _ p=>AV.list 3 p) []
def xlY{T:Type}(h:LA)(i j:Int)(e:LA)(f:Int)(d:Nat)(c:Int)(a b g:LA)(δ:T)(κl:(Nat×Int×LA×LA×LA)->T)(κr:(Nat×LA)->T):T:=br (decide (c<f)) (br (ixI e c) (br (ixT e c 2 [Sh.int .i64,Sh.int .i64] 0) (br (decide (b.length*32<=140737488355328)&&decide (b.length<=4611686018427387904)) (br (decide (0+b.length<=b.length)&&true&&true&&true&&true) (br (rmB d a 1 40) (κl (d+1,i64.wrap (c+1),a++[AV.agg [AV.list 3 (List.take b.length (List.drop 0 b)),AV.int .i64 (gC e c 0).toInt,AV.int .i64 (gC e c 1).toInt]],b,g)) δ) δ) δ) δ) δ) (κr (d,a))
def xge(c:LA)(d e:Int)(f:LA)(g:Int):StT (Nat×Int×LA×LA×LA) (Nat×LA):=λ(b,h,a,i,j)=>xlY c d e f g b h a i j none inL inR
def xeQ:=xyZ.l 38 0 [54] [] Tryz.f89 1 lk0 [1,5,7,11,12,13,20,21,22] [1,5,11,12,13] [(5,3,54)] (q9 (xMF 61 xM1) (xNb 0 0 0) (xNc 1 0 0 0) (qL 2) qI qI (qL 2) qI qI) (q2 (qB 0 3 54 xM3) (qB 0 2 148 (q1 (xNd (q2 (qL 3) (qL 2)))))) (λ(_,b,_,c,d,e,f,g,h,_) (a,((i,j,_),_),_)=>(xge c d e f g,(b,h,a,i,j),λ p=>(.leaf (.exit 2) [AV.func 61 [],AV.osl 0 0 0 p.1,AV.list 2 c,AV.int .i64 d,AV.int .i64 e] [bF 0 3 54 p.2]))) (0,[]) λ(_,_,_,c,d,e,f,g,_,_) _ (b,h,a,i,j)=>((((),b,(),c,d,e,f,g,h,()),(a,((i,j,()),()),())),xlY c d e f g b h a i j none)
def xeP(a:LA)(e:Int)(d:Nat)(b:Int)(c:LA):=Iter (xge a e b ((xiP (gC a b 1).toList).getD []) (↑((xiP (gC a b 1).toList).getD []).length:Int)) (d,0,c,(gC a b 0).toList,(gC a b 1).toList)
def xfb{T:Type}(d:LA)(e:Int)(c:Nat)(b:Int)(a:LA)(δ:T)(κl:(Nat×Int×LA)->T)(κr:(Nat×LA)->T):T:=br (decide (b<e)) (br (ixI d b) (br (ixT d b 2 [Sh.list 3,Sh.list 2] 0) (br ((xiP (gC d b 1).toList).isSome) (br ((xeP d e c b a).isSome) (κl (((xeP d e c b a).getD (0,[])).fst,i64.wrap (b+1),((xeP d e c b a).getD (0,[])).snd)) δ) δ) δ) δ) (κr (c,a))
def xcB(c:LA)(d:Int):StT (Nat×Int×LA) (Nat×LA):=λ(b,e,a)=>xfb c d b e a none inL inR
def xk9:=xyZ.l 38 0 [54] [(6,xeQ.lp)] Tryz.f89 0 (lk1 xeQ.ok) [1,5,11,12,13] [5] [(5,3,54)] (q5 (xMF 61 xM1) (xNb 0 0 0) (qL 2) qI qI) (q1 (qB 0 3 54 xM3)) (λ(_,b,c,d,e,_) (a,_)=>(xcB c d,(b,e,a),λ p=>(.leaf (.exit 0) [AV.osl 0 0 0 p.1] [bF 0 3 54 p.2]))) (0,[]) λ(_,_,c,d,_,_) _ (b,e,a)=>((((),b,c,d,e,()),(a,())),xfb c d b e a none)
def xiS(l:LA):=Iter (xcB ((xee l).getD []) (↑((xee l).getD []).length:Int)) (0,0,[])
def xen(l:LA):=(xiS l).getD (0,[])
def xjD{T:Type}(l:LA)(δ:T)(κ:LA->T):T:=br ((xee l).isSome) (br ((xiS l).isSome) (br (decide (0+((xen l).fst)<=((xen l).snd).length)&&true) (κ (List.take ((xen l).fst) (List.drop 0 ((xen l).snd)))) δ) δ) δ
def xlC(l:LA):=xjD l none some
def xIC:EO:=xyZ.f Tryz.func89 38 0 [54] [(6,xeQ.lp),(3,xk9.lp)] (lks (lkC xk9.ok (lkC xeQ.ok lkN))) (u2 (uL 3) (sEq (xMF (61:FuncId) xM1))) (λ(l,_,_) _=>xjD l) (λ _ p=>AV.list 3 p) []
def xnu{T:Type}(l:LA)(δ:T)(κ:LA->T):T:=br ((xlC l).isSome) (κ ((xlC l).getD [])) δ
def xhU(l:LA):=xnu l none some
def xID:EO:=xIC.f Tryz.func55 5 0 [] [] lk0 (u1 (uL 3)) (λ(l,_) _=>xnu l) (λ _ p=>AV.list 3 p) []
def xnk(a b:Int):Int:=((a))
def xAr{T:Type}(a b:Int)(δ:T)(κ:Int->T):T:=κ (a)
def xDr:EO:=xID.fT Tryz.func118 5 0 [] [] lk0 (λ((a,b,_),_)=>xAr a b none) (u1 (xNg (u2 uI uI))) (λ((a,b,_),_)=>xnk a b) (λ _ p=>(AV.int .i64 p))
def xpc(b:Nat)(a:LA):=decide (0+(i64.wrap ((↑b:Int) - 1)).toNat<a.length)&&xMf (Sh.int .i64) ((a.getD (0+(i64.wrap ((↑b:Int) - 1)).toNat) .top).cells.getD 0 .top)
def xpd(a:Nat):=decide (0<=i64.wrap ((↑a:Int) - 1))&&decide (i64.wrap ((↑a:Int) - 1)<(↑a:Int))
def xhP(b:LA)(k:Int):=decide (k.toNat<b.length)&&((b.getD k.toNat .top).cells.length==2&&xMm [Sh.int .i64,Sh.int .i64] (b.getD k.toNat .top).cells 0)
def xhQ(a:LA)(i:Int):=decide (i.toNat<a.length)&&((a.getD i.toNat .top).cells.length==2&&xMm [Sh.int .i64,Sh.int .i64] (a.getD i.toNat .top).cells 0)
def xhR(b:LA)(k:Int):=ixI b k
def xhS(a:LA)(i:Int):=ixI a i
def xpe(a:Nat):=(↑a:Int)==0
def xe3(b:LA)(k:Int):=xnk (gC b k 0).toInt (gC b k 1).toInt
def xe4(a:LA)(i:Int):=xnk (gC a i 0).toInt (gC a i 1).toInt
def xk5(a:LA)(c:Nat)(i:Int)(b:LA):=((b.getD (0+(i64.wrap ((↑c:Int) - 1)).toNat) .top).cells.getD 0 .top).toInt !=xe4 a i
def xk6(b:LA)(c:Nat)(k:Int)(a:LA):=((a.getD (0+(i64.wrap ((↑c:Int) - 1)).toNat) .top).cells.getD 0 .top).toInt !=xe3 b k
def xfI(a b:LA)(i k:Int):=decide (xe4 a i<=xe3 b k)
def xe1{T:Type}(a:LA)(c:Nat)(i k:Int)(b:LA)(δ:T)(κl:(Nat×Int×Int×LA)->T):T:=br (rmB c b 1 8) (κl (c+1,i64.wrap (i+1),k,b++[AV.int .i64 (xe4 a i)])) δ
def xex{T:Type}(a:LA)(b:Nat)(i k:Int)(c:LA)(δ:T)(κl:(Nat×Int×Int×LA)->T):T:=br (xhS a i) (br (xhQ a i) (br (xpe b) (xe1 a b i k c δ κl) (br (xpd b) (br (xpc b c) (br (xk5 a b i c) (xe1 a b i k c δ κl) (κl (b,i64.wrap (i+1),k,c))) δ) δ)) δ) δ
def xe2{T:Type}(b:LA)(c:Nat)(i k:Int)(a:LA)(δ:T)(κl:(Nat×Int×Int×LA)->T):T:=br (rmB c a 1 8) (κl (c+1,i,i64.wrap (k+1),a++[AV.int .i64 (xe3 b k)])) δ
def xe0{T:Type}(b:LA)(a:Nat)(i k:Int)(c:LA)(δ:T)(κl:(Nat×Int×Int×LA)->T):T:=br (xhR b k) (br (xhP b k) (br (xpe a) (xe2 b a i k c δ κl) (br (xpd a) (br (xpc a c) (br (xk6 b a k c) (xe2 b a i k c δ κl) (κl (a,i,i64.wrap (k+1),c))) δ) δ)) δ) δ
def xeZ{T:Type}(a b:LA)(d:Nat)(i k:Int)(c:LA)(δ:T)(κl:(Nat×Int×Int×LA)->T):T:=br (k==(↑b.length:Int)) (xex a d i k c δ κl) (br (decide (i<a.length)) (br (xhS a i) (br (xhQ a i) (br (xhR b k) (br (xhP b k) (br (xfI a b i k) (xex a d i k c δ κl) (xe0 b d i k c δ κl)) δ) δ) δ) δ) (xe0 b d i k c δ κl))
def xgp{T:Type}(a b:LA)(d:Nat)(i k:Int)(c:LA)(δ:T)(κl:(Nat×Int×Int×LA)->T)(κr:(Nat×LA)->T):T:=br (decide (i<a.length)) (xeZ a b d i k c δ κl) (br (decide (k<b.length)) (xeZ a b d i k c δ κl) (κr (d,c)))
def xbe(a b:LA):StT (Nat×Int×Int×LA) (Nat×LA):=λ(d,i,k,c)=>xgp a b d i k c none inL inR
def xpb:=xDr.l 83 0 [] [] Tryz.f117 0 lk0 [0,1,2,3,9,10,11] [9] [(9,1,3)] (q7 (qL 2) (qL 2) (xMF 118 xM1) (xMF 118 xM1) (xNb 0 0 0) qI qI) (q1 (qB 0 1 3 xM3)) (λ(a,b,_,_,d,i,k,_) (c,_)=>(xbe a b,(d,i,k,c),λ p=>(.leaf (.exit 0) [AV.osl 0 0 0 p.1] [bF 0 1 3 p.2]))) (0,[]) λ(a,b,_,_,_,_,_,_) _ (d,i,k,c)=>(((a,b,(),(),d,i,k,()),(c,())),xgp a b d i k c none)
def xgb(a b:LA):=Iter (xbe a b) (0,0,0,[])
def xo0{T:Type}(a b:LA)(δ:T)(κ:LA->T):T:=br ((xgb a b).isSome) (br (decide (0+(((xgb a b).getD (0,[])).fst)<=(((xgb a b).getD (0,[])).snd).length)&&true) (κ (List.take (((xgb a b).getD (0,[])).fst) (List.drop 0 (((xgb a b).getD (0,[])).snd)))) δ) δ
def xbB(a b:LA):=xo0 a b none some
def xIk:EO:=xDr.f Tryz.func117 83 0 [] [(3,xpb.lp)] (lk1 xpb.ok) (u4 (uL 2) (uL 2) (sEq (xMF (118:FuncId) xM1)) (sEq (xMF (118:FuncId) xM1))) (λ(a,b,_,_,_) _=>xo0 a b) (λ _ p=>AV.list 1 p) []
def xhr(a b t:Int):Int:=((xcO a t))
def xyR{T:Type}(a b t:Int)(δ:T)(κ:Int->T):T:=κ (xcO a t)
def xDs:EO:=xIk.fT Tryz.func170 9 0 [] [] lk0 (λ((a,b,_),t,_)=>xyR a b t none) (u2 (xNg (u2 uI uI)) uI) (λ((a,b,_),t,_)=>xhr a b t) (λ _ p=>(AV.int .i64 p))
def xaC(i j:Int):=i64.wrap ((u64.wrap (i64.wrap (i+j))).fdiv 2)
def xa1(x:LA)(i j:Int):=(x.getD (xaC i j).toNat .top).cells
def xa9{T:Type}(x:LA)(a n i j:Int)(δ:T)(κl:(Int×Int)->T)(κr:(Int)->T):T:=br (decide (i<j)) (br (decide (0<=xaC i j)&&decide (xaC i j<x.length)) (br (decide ((xaC i j).toNat<x.length)&&((xa1 x i j).length==2&&xMm [Sh.int .i64,Sh.int .i64] (xa1 x i j) 0)) (br (decide (xhr ((xa1 x i j).getD 0 .top).toInt ((xa1 x i j).getD 1 .top).toInt a<0)) (κl (i64.wrap (xaC i j+1),j)) (κl (i,xaC i j))) δ) δ) (κr (i))
def xao(x:LA)(a n:Int):StT (Int×Int) (Int):=λ(i,j)=>xa9 x a n i j none inL inR
def xhu:=xDs.l 49 0 [] [] Tryz.f169 0 lk0 [0,1,2,8,9,10] [0,1,2,8,9] [] (q6 (qL 2) qI (xMF 170 xM1) qI qI qI) xM1 (λ(x,a,_,n,i,j,_) _=>(xao x a n,(i,j),λ p=>(.leaf (.exit 0) [AV.list 2 x,AV.int .i64 a,AV.func 170 [],AV.int .i64 n,AV.int .i64 p] []))) 0 λ(x,a,_,n,_,_,_) _ (i,j)=>(((x,a,(),n,i,j,()),()),xa9 x a n i j none)
def xaD(l:LA)(t:Int):=(Iter (xao l t (↑l.length:Int)) (0,(↑l.length:Int))).getD 0
def xbl(l:LA)(t:Int):=(l.getD (xaD l t).toNat .top).cells
def xdS{T:Type}(l:LA)(t:Int)(δ:T)(κ:Int×Bool->T):T:=br ((Iter (xao l t (↑l.length:Int)) (0,(↑l.length:Int))).isSome) (br (decide (xaD l t<l.length)) (br (decide (0<=xaD l t)&&decide (xaD l t<l.length)) (br (decide ((xaD l t).toNat<l.length)&&((xbl l t).length==2&&xMm [Sh.int .i64,Sh.int .i64] (xbl l t) 0)) (κ (xaD l t,xhr ((xbl l t).getD 0 .top).toInt ((xbl l t).getD 1 .top).toInt t==0)) δ) δ) (κ (xaD l t,false))) δ
def xbx(l:LA)(t:Int):=xdS l t none some
def xIl:EO:=xDs.f Tryz.func169 49 0 [] [(3,xhu.lp)] (lk1 xhu.ok) (u3 (uL 2) uI (sEq (xMF (170:FuncId) xM1))) (λ(l,t,_,_) _=>xdS l t) (λ _ p=>AV.tuple [AV.int .i64 p.1,AV.bool p.2]) (0,false)
def xnj{T:Type}(l:LA)(t:Int)(δ:T)(κ:Int->T):T:=br ((xbx l t).isSome) (br (((xbx l t).getD (0,false)).snd) (κ (((xbx l t).getD (0,false)).fst)) (κ (i64.wrap (((xbx l t).getD (0,false)).fst - 1)))) δ
def xd7(l:LA)(t:Int):=xnj l t none some
def xIm:EO:=xIl.f Tryz.func140 17 0 [] [] lk0 (u2 (uL 2) uI) (λ(l,t,_) _=>xnj l t) (λ _ p=>AV.int .i64 p) 0
def xpr{T:Type}(l:LA)(t:Int)(δ:T)(κ:Int->T):T:=br (decide (t<0)) (κ (0)) (br (decide (t>=1099511627776)) (κ (0)) (br ((xd7 l t).isSome) (br (decide ((xd7 l t).getD 0<0)) (κ (0)) (br (decide (0<=(xd7 l t).getD 0)&&decide ((xd7 l t).getD 0<(↑l.length:Int))) (br (decide (((xd7 l t).getD 0).toNat<l.length)&&xMf (Sh.int .i64) ((l.getD ((xd7 l t).getD 0).toNat .top).cells.getD 1 .top)) (κ (((l.getD ((xd7 l t).getD 0).toNat .top).cells.getD 1 .top).toInt)) δ) δ)) δ))
def xbA(l:LA)(t:Int):=xpr l t none some
def xIn:EO:=xIm.f Tryz.func119 22 0 [] [] lk0 (u2 (uL 2) uI) (λ(l,t,_) _=>xpr l t) (λ _ p=>AV.int .i64 p) 0
def xne(x y:Int):Int:=((i64.wrap (x+y)))
def xAo{T:Type}(x y:Int)(δ:T)(κ:Int->T):T:=κ (i64.wrap (x+y))
def xIo:EO:=xIn.fT Tryz.func80 8 0 [] [] lk0 (λ(x,y,_)=>xAo x y none) (u2 uI uI) (λ(x,y,_)=>xne x y) (λ _ p=>(AV.int .i64 p))
def xni(x y:Int):Int:=((i64.wrap (x - y)))
def xAq{T:Type}(x y:Int)(δ:T)(κ:Int->T):T:=κ (i64.wrap (x - y))
def xIp:EO:=xIo.fT Tryz.func82 8 0 [] [] lk0 (λ(x,y,_)=>xAq x y none) (u2 uI uI) (λ(x,y,_)=>xni x y) (λ _ p=>(AV.int .i64 p))
def xnh(x y:Int):Int:=((if y<x then y else x))
def xAp{T:Type}(x y:Int)(δ:T)(κ:Int->T):T:=κ (if y<x then y else x)
def xIq:EO:=xIp.fT Tryz.func88 8 0 [] [] lk0 (λ(x,y,_)=>xAp x y none) (u2 uI uI) (λ(x,y,_)=>xnh x y) (λ _ p=>(AV.int .i64 p))
def xli(x a:Int):Int:=((if 0>x then 0 else x))
def xyQ{T:Type}(x a:Int)(δ:T)(κ:Int->T):T:=κ (if 0>x then 0 else x)
def xDt:EO:=xIq.fT Tryz.func81 7 0 [] [] lk0 (λ(x,a,_)=>xyQ x a none) (u2 uI uI) (λ(x,a,_)=>xli x a) (λ _ p=>(AV.int .i64 p))
def xih(a b c:LA)(f:Nat)(d:Int)(e:LA):=xa0 f (gC c d 0).toInt (xne ((xbA a (gC c d 0).toInt).getD 0) ((xbA b (gC c d 0).toInt).getD 0)) e
def xbQ(a b e:LA)(d:Nat)(f:Int)(c:LA):=(xih a b e d f c).getD (false,(0,[]),0,[])
def xfX{T:Type}(a b f:LA)(g:Int)(d:Nat)(e:Int)(c:LA)(δ:T)(κl:(Nat×Int×LA)->T)(κr:(Nat×LA)->T):T:=br (decide (e<g)) (br (ixI f e) (br (ixS f e (Sh.int .i64) 0) (br ((xbA a (gC f e 0).toInt).isSome) (br ((xbA b (gC f e 0).toInt).isSome) (br ((xih a b f d e c).isSome) (κl (br ((xbQ a b f d e c).fst) (((xbQ a b f d e c).snd).fst).fst (((xbQ a b f d e c).snd).snd).fst,i64.wrap (e+1),br ((xbQ a b f d e c).fst) (((xbQ a b f d e c).snd).fst).snd (((xbQ a b f d e c).snd).snd).snd)) δ) δ) δ) δ) δ) (κr (d,c))
def xb1(a b e:LA)(f:Int):StT (Nat×Int×LA) (Nat×LA):=λ(d,g,c)=>xfX a b e f d g c none inL inR
def xmd:=xDt.l 38 0 [] [] Tryz.f79 0 lk0 [0,1,2,7,12,13,14] [2,7] [(7,2,132)] (q7 (qL 2) (qL 2) (xMF 80 xM1) (xNb 0 0 0) (qL 1) qI qI) (q1 (qB 0 2 132 xM3)) (λ(a,b,_,d,e,f,g,_) (c,_)=>(xb1 a b e f,(d,g,c),λ p=>(.leaf (.exit 0) [AV.func 80 [],AV.osl 0 0 0 p.1] [bF 0 2 132 p.2]))) (0,[]) λ(a,b,_,_,e,f,_,_) _ (d,g,c)=>(((a,b,(),d,e,f,g,()),(c,())),xfX a b e f d g c none)
def xki(a b:LA):=Iter (xb1 a b ((xbB a b).getD []) (↑((xbB a b).getD []).length:Int)) (0,0,[])
def xdO(a b:LA):=(xki a b).getD (0,[])
def xk1{T:Type}(a b:LA)(δ:T)(κ:LA->T):T:=br ((xbB a b).isSome) (br ((xki a b).isSome) (br ((↑((xdO a b).fst):Int)==0) (κ ([AV.agg [AV.int .i64 0,AV.int .i64 0]])) (br (decide (0+((xdO a b).fst)<=((xdO a b).snd).length)&&true) (κ (List.take ((xdO a b).fst) (List.drop 0 ((xdO a b).snd)))) δ)) δ) δ
def xjw(a b:LA):=xk1 a b none some
def xDu:EO:=xDt.f Tryz.func79 38 0 [] [(3,xmd.lp)] (lk1 xmd.ok) (u3 (uL 2) (uL 2) (sEq (xMF (80:FuncId) xM1))) (λ(a,b,_,_) _=>xk1 a b) (λ _ p=>AV.list 2 p) []
def xik(a b c:LA)(f:Nat)(d:Int)(e:LA):=xa0 f (gC c d 0).toInt (xni ((xbA a (gC c d 0).toInt).getD 0) ((xbA b (gC c d 0).toInt).getD 0)) e
def xbT(a b e:LA)(d:Nat)(f:Int)(c:LA):=(xik a b e d f c).getD (false,(0,[]),0,[])
def xfx{T:Type}(a b f:LA)(g:Int)(d:Nat)(e:Int)(c:LA)(δ:T)(κl:(Nat×Int×LA)->T)(κr:(Nat×LA)->T):T:=br (decide (e<g)) (br (ixI f e) (br (ixS f e (Sh.int .i64) 0) (br ((xbA a (gC f e 0).toInt).isSome) (br ((xbA b (gC f e 0).toInt).isSome) (br ((xik a b f d e c).isSome) (κl (br ((xbT a b f d e c).fst) (((xbT a b f d e c).snd).fst).fst (((xbT a b f d e c).snd).snd).fst,i64.wrap (e+1),br ((xbT a b f d e c).fst) (((xbT a b f d e c).snd).fst).snd (((xbT a b f d e c).snd).snd).snd)) δ) δ) δ) δ) δ) (κr (d,c))
def xb4(a b e:LA)(f:Int):StT (Nat×Int×LA) (Nat×LA):=λ(d,g,c)=>xfx a b e f d g c none inL inR
def xmg:=xDu.l 38 0 [] [] Tryz.f79 0 lk0 [0,1,2,7,12,13,14] [2,7] [(7,2,132)] (q7 (qL 2) (qL 2) (xMF 82 xM1) (xNb 0 0 0) (qL 1) qI qI) (q1 (qB 0 2 132 xM3)) (λ(a,b,_,d,e,f,g,_) (c,_)=>(xb4 a b e f,(d,g,c),λ p=>(.leaf (.exit 0) [AV.func 82 [],AV.osl 0 0 0 p.1] [bF 0 2 132 p.2]))) (0,[]) λ(a,b,_,_,e,f,_,_) _ (d,g,c)=>(((a,b,(),d,e,f,g,()),(c,())),xfx a b e f d g c none)
def xkl(a b:LA):=Iter (xb4 a b ((xbB a b).getD []) (↑((xbB a b).getD []).length:Int)) (0,0,[])
def xdR(a b:LA):=(xkl a b).getD (0,[])
def xk4{T:Type}(a b:LA)(δ:T)(κ:LA->T):T:=br ((xbB a b).isSome) (br ((xkl a b).isSome) (br ((↑((xdR a b).fst):Int)==0) (κ ([AV.agg [AV.int .i64 0,AV.int .i64 0]])) (br (decide (0+((xdR a b).fst)<=((xdR a b).snd).length)&&true) (κ (List.take ((xdR a b).fst) (List.drop 0 ((xdR a b).snd)))) δ)) δ) δ
def xjz(a b:LA):=xk4 a b none some
def xDv:EO:=xDu.f Tryz.func79 38 0 [] [(3,xmg.lp)] (lk1 xmg.ok) (u3 (uL 2) (uL 2) (sEq (xMF (82:FuncId) xM1))) (λ(a,b,_,_) _=>xk4 a b) (λ _ p=>AV.list 2 p) []
def xij(a b c:LA)(f:Nat)(d:Int)(e:LA):=xa0 f (gC c d 0).toInt (xnh ((xbA a (gC c d 0).toInt).getD 0) ((xbA b (gC c d 0).toInt).getD 0)) e
def xbS(a b e:LA)(d:Nat)(f:Int)(c:LA):=(xij a b e d f c).getD (false,(0,[]),0,[])
def xfZ{T:Type}(a b f:LA)(g:Int)(d:Nat)(e:Int)(c:LA)(δ:T)(κl:(Nat×Int×LA)->T)(κr:(Nat×LA)->T):T:=br (decide (e<g)) (br (ixI f e) (br (ixS f e (Sh.int .i64) 0) (br ((xbA a (gC f e 0).toInt).isSome) (br ((xbA b (gC f e 0).toInt).isSome) (br ((xij a b f d e c).isSome) (κl (br ((xbS a b f d e c).fst) (((xbS a b f d e c).snd).fst).fst (((xbS a b f d e c).snd).snd).fst,i64.wrap (e+1),br ((xbS a b f d e c).fst) (((xbS a b f d e c).snd).fst).snd (((xbS a b f d e c).snd).snd).snd)) δ) δ) δ) δ) δ) (κr (d,c))
def xb3(a b e:LA)(f:Int):StT (Nat×Int×LA) (Nat×LA):=λ(d,g,c)=>xfZ a b e f d g c none inL inR
def xmf:=xDv.l 38 0 [] [] Tryz.f79 0 lk0 [0,1,2,7,12,13,14] [2,7] [(7,2,132)] (q7 (qL 2) (qL 2) (xMF 88 xM1) (xNb 0 0 0) (qL 1) qI qI) (q1 (qB 0 2 132 xM3)) (λ(a,b,_,d,e,f,g,_) (c,_)=>(xb3 a b e f,(d,g,c),λ p=>(.leaf (.exit 0) [AV.func 88 [],AV.osl 0 0 0 p.1] [bF 0 2 132 p.2]))) (0,[]) λ(a,b,_,_,e,f,_,_) _ (d,g,c)=>(((a,b,(),d,e,f,g,()),(c,())),xfZ a b e f d g c none)
def xkk(a b:LA):=Iter (xb3 a b ((xbB a b).getD []) (↑((xbB a b).getD []).length:Int)) (0,0,[])
def xdQ(a b:LA):=(xkk a b).getD (0,[])
def xk3{T:Type}(a b:LA)(δ:T)(κ:LA->T):T:=br ((xbB a b).isSome) (br ((xkk a b).isSome) (br ((↑((xdQ a b).fst):Int)==0) (κ ([AV.agg [AV.int .i64 0,AV.int .i64 0]])) (br (decide (0+((xdQ a b).fst)<=((xdQ a b).snd).length)&&true) (κ (List.take ((xdQ a b).fst) (List.drop 0 ((xdQ a b).snd)))) δ)) δ) δ
def xjy(a b:LA):=xk3 a b none some
def xDw:EO:=xDv.f Tryz.func79 38 0 [] [(3,xmf.lp)] (lk1 xmf.ok) (u3 (uL 2) (uL 2) (sEq (xMF (88:FuncId) xM1))) (λ(a,b,_,_) _=>xk3 a b) (λ _ p=>AV.list 2 p) []
def xii(a b c:LA)(f:Nat)(d:Int)(e:LA):=xa0 f (gC c d 0).toInt (xli ((xbA a (gC c d 0).toInt).getD 0) ((xbA b (gC c d 0).toInt).getD 0)) e
def xbR(a b e:LA)(d:Nat)(f:Int)(c:LA):=(xii a b e d f c).getD (false,(0,[]),0,[])
def xfY{T:Type}(a b f:LA)(g:Int)(d:Nat)(e:Int)(c:LA)(δ:T)(κl:(Nat×Int×LA)->T)(κr:(Nat×LA)->T):T:=br (decide (e<g)) (br (ixI f e) (br (ixS f e (Sh.int .i64) 0) (br ((xbA a (gC f e 0).toInt).isSome) (br ((xbA b (gC f e 0).toInt).isSome) (br ((xii a b f d e c).isSome) (κl (br ((xbR a b f d e c).fst) (((xbR a b f d e c).snd).fst).fst (((xbR a b f d e c).snd).snd).fst,i64.wrap (e+1),br ((xbR a b f d e c).fst) (((xbR a b f d e c).snd).fst).snd (((xbR a b f d e c).snd).snd).snd)) δ) δ) δ) δ) δ) (κr (d,c))
def xb2(a b e:LA)(f:Int):StT (Nat×Int×LA) (Nat×LA):=λ(d,g,c)=>xfY a b e f d g c none inL inR
def xme:=xDw.l 38 0 [] [] Tryz.f79 0 lk0 [0,1,2,7,12,13,14] [2,7] [(7,2,132)] (q7 (qL 2) (qL 2) (xMF 81 xM1) (xNb 0 0 0) (qL 1) qI qI) (q1 (qB 0 2 132 xM3)) (λ(a,b,_,d,e,f,g,_) (c,_)=>(xb2 a b e f,(d,g,c),λ p=>(.leaf (.exit 0) [AV.func 81 [],AV.osl 0 0 0 p.1] [bF 0 2 132 p.2]))) (0,[]) λ(a,b,_,_,e,f,_,_) _ (d,g,c)=>(((a,b,(),d,e,f,g,()),(c,())),xfY a b e f d g c none)
def xkj(a b:LA):=Iter (xb2 a b ((xbB a b).getD []) (↑((xbB a b).getD []).length:Int)) (0,0,[])
def xdP(a b:LA):=(xkj a b).getD (0,[])
def xk2{T:Type}(a b:LA)(δ:T)(κ:LA->T):T:=br ((xbB a b).isSome) (br ((xkj a b).isSome) (br ((↑((xdP a b).fst):Int)==0) (κ ([AV.agg [AV.int .i64 0,AV.int .i64 0]])) (br (decide (0+((xdP a b).fst)<=((xdP a b).snd).length)&&true) (κ (List.take ((xdP a b).fst) (List.drop 0 ((xdP a b).snd)))) δ)) δ) δ
def xhk(a b:LA):=xk2 a b none some
def xIr:EO:=xDw.f Tryz.func79 38 0 [] [(3,xme.lp)] (lk1 xme.ok) (u3 (uL 2) (uL 2) (sEq (xMF (81:FuncId) xM1))) (λ(a,b,_,_) _=>xk2 a b) (λ _ p=>AV.list 2 p) []
def xq2{T:Type}(a b:LA)(δ:T)(κ:LA->T):T:=br ((xjw a b).isSome) (κ ((xjw a b).getD [])) δ
def xoE(a b:LA):=xq2 a b none some
def xIs:EO:=xIr.f Tryz.func43 8 0 [] [] lk0 (u2 (uL 2) (uL 2)) (λ(a,b,_) _=>xq2 a b) (λ _ p=>AV.list 2 p) []
def xq6{T:Type}(a b:LA)(δ:T)(κ:LA->T):T:=br ((xjz a b).isSome) (κ ((xjz a b).getD [])) δ
def xoH(a b:LA):=xq6 a b none some
def xG5:EO:=xIs.f Tryz.func47 8 0 [] [] lk0 (u2 (uL 2) (uL 2)) (λ(a,b,_) _=>xq6 a b) (λ _ p=>AV.list 2 p) []
def xq3{T:Type}(a b:LA)(δ:T)(κ:LA->T):T:=br ((xjy a b).isSome) (κ ((xjy a b).getD [])) δ
def xoG(a b:LA):=xq3 a b none some
def xG6:EO:=xG5.f Tryz.func53 8 0 [] [] lk0 (u2 (uL 2) (uL 2)) (λ(a,b,_) _=>xq3 a b) (λ _ p=>AV.list 2 p) []
def xqi{T:Type}(l:LA)(δ:T)(κ:LA->T):T:=br ((xhk l []).isSome) (κ ((xhk l []).getD [])) δ
def xps(l:LA):=xqi l none some
def xG7:EO:=xG6.f Tryz.func46 5 0 [] [] lk0 (u1 (uL 2)) (λ(l,_) _=>xqi l) (λ _ p=>AV.list 2 p) []
def xlT{T:Type}(x y:LA)(δ:T)(κ:LA->T):T:=br ((xoH x y).isSome) (br ((xps ((xoH x y).getD [])).isSome) (κ ((xps ((xoH x y).getD [])).getD [])) δ) δ
def xh8(x y:LA):=xlT x y none some
def xv5:EO:=xG7.f Tryz.func45 9 0 [] [] lk0 (u2 (uL 2) (uL 2)) (λ(x,y,_) _=>xlT x y) (λ _ p=>AV.list 2 p) []
def xgU(b a:Bool):Int:=(br (b) (((-1))) (br (a) ((1)) ((0))))
def xAb{T:Type}(b a:Bool)(δ:T)(κ:Int->T):T:=br (b) (κ ((-1))) (br (a) (κ (1)) (κ (0)))
def xIE:EO:=xv5.fT Tryz.func134 7 0 [] [] lk0 (λ(b,a,_)=>xAb b a none) (u2 (sEq pBool) (sEq pBool)) (λ(b,a,_)=>xgU b a) (λ _ p=>(AV.int .i64 p))
def xgD(a b:Int)(c:List UInt8)(d e:Int)(f:List UInt8):Int:=(br (a !=d) ((xgU (decide (a<d)) (decide (a>d)))) (br (b !=e) ((xgU (decide (b<e)) (decide (b>e)))) ((xgU (Op.bytesLess c f) !(Op.bytesLess c f || c==f)))))
def xvA{T:Type}(a b:Int)(c:List UInt8)(d e:Int)(f:List UInt8)(δ:T)(κ:Int->T):T:=br (a !=d) (κ (xgU (decide (a<d)) (decide (a>d)))) (br (b !=e) (κ (xgU (decide (b<e)) (decide (b>e)))) (κ (xgU (Op.bytesLess c f) !(Op.bytesLess c f || c==f))))
def xDB:EO:=xIE.fT Tryz.func103 48 0 [] [] lk0 (λ((a,b,c,_),(d,e,f,_),_)=>xvA a b c d e f none) (u2 (xNg (u3 uI uI (sEq pStr))) (xNg (u3 uI uI (sEq pStr)))) (λ((a,b,c,_),(d,e,f,_),_)=>xgD a b c d e f) (λ _ p=>(AV.int .i64 p))
def xdm(a b:LA)(i:Int):=xgD (gC a i 0).toInt (gC a i 1).toInt (gC a i 2).toStr (gC b i 0).toInt (gC b i 1).toInt (gC b i 2).toStr
def xdE{T:Type}(a b:LA)(i:Int)(δ:T)(κl:(Int)->T)(κr:(Bool×(Int)×(Unit))->T):T:=br (decide (i<a.length)) (br (decide (i<b.length)) (br (ixI a i) (br (ixT a i 3 [Sh.int .i64,Sh.int .i64,Sh.str] 0) (br (ixI b i) (br (ixT b i 3 [Sh.int .i64,Sh.int .i64,Sh.str] 0) (br (xdm a b i !=0) (κr (true,(xdm a b i),())) (κl (i64.wrap (i+1)))) δ) δ) δ) δ) (κr (false,0,()))) (κr (false,0,()))
def xaW(a b:LA):StT (Int) (Bool×(Int)×(Unit)):=λ(i)=>xdE a b i none inL inR
def xns:=xDB.l 41 0 [] [] Tryz.f73 0 lk0 [0,1,5] [0,1,4] [] (q3 (qL 3) (qL 3) qI) xM1 (λ(a,b,i,_) _=>(xaW a b,(i),λ p=>(.node p.1 (.leaf .ret [AV.list 3 a,AV.list 3 b,AV.int .i64 p.2.1] []) (.leaf (.exit 0) [AV.list 3 a,AV.list 3 b,.top] [])))) (false,0,()) λ(a,b,_,_) _ (i)=>(((a,b,i,()),()),xdE a b i none)
def xmN{T:Type}(a b:LA)(δ:T)(κ:Int->T):T:=br ((Iter (xaW a b) 0).isSome) (br (((Iter (xaW a b) 0).getD (false,0,())).fst) (κ (((Iter (xaW a b) 0).getD (false,0,())).snd.fst)) (br (decide ((↑a.length:Int)<(↑b.length:Int))) (κ ((-1))) (br (decide ((↑a.length:Int)>(↑b.length:Int))) (κ (1)) (κ (0))))) δ
def xaP(a b:LA):=xmN a b none some
def xIF:EO:=xDB.f Tryz.func73 41 0 [] [(2,xns.lp)] (lk1 xns.ok) (u2 (uL 3) (uL 3)) (λ(a,b,_) _=>xmN a b) (λ _ p=>AV.int .i64 p) 0
def xoR{T:Type}(a b:LA)(δ:T)(κ:Bool->T):T:=br ((xaP a b).isSome) (κ ((xaP a b).getD 0==0)) δ
def xqV(a b:LA):=xoR a b none some
def xDC:EO:=xIF.f Tryz.func71 9 0 [] [] lk0 (u2 (uL 3) (uL 3)) (λ(a,b,_) _=>xoR a b) (λ _ p=>AV.bool p) false
def xfQ{T:Type}(a b:LA)(i:Int)(δ:T)(κl:(Int)->T)(κr:(Bool×(Bool)×(Unit))->T):T:=br (decide (i<a.length)) (br (ixI a i) (br (ixT a i 3 [Sh.int .i64,Sh.int .i64] 1) (br (ixI b i) (br (ixT b i 3 [Sh.int .i64,Sh.int .i64] 1) (br (!((gC a i 1).toInt==(gC b i 1).toInt&&((gC a i 2).toInt==(gC b i 2).toInt&&true))) (κr (true,(false),())) (br (ixI a i) (br (ixS a i (Sh.list 3) 0) (br (ixI b i) (br (ixS b i (Sh.list 3) 0) (br ((xaP (gC a i 0).toList (gC b i 0).toList).isSome) (br ((xaP (gC a i 0).toList (gC b i 0).toList).getD 0 !=0) (κr (true,(false),())) (κl (i64.wrap (i+1)))) δ) δ) δ) δ) δ)) δ) δ) δ) δ) (κr (false,false,()))
def xbk(a b:LA):StT (Int) (Bool×(Bool)×(Unit)):=λ(i)=>xfQ a b i none inL inR
def xma:=xDC.l 42 0 [] [] Tryz.f35 0 lk0 [0,1,5] [4] [] (q3 (qL 3) (qL 3) qI) xM1 (λ(a,b,i,_) _=>(xbk a b,(i),λ p=>(.node p.1 (.leaf .ret [AV.bool p.2.1] []) (.leaf (.exit 0) [.top] [])))) (false,false,()) λ(a,b,_,_) _ (i)=>(((a,b,i,()),()),xfQ a b i none)
def xkY{T:Type}(a b:LA)(δ:T)(κ:Bool->T):T:=br ((↑a.length:Int) !=(↑b.length:Int)) (κ (false)) (br ((Iter (xbk a b) 0).isSome) (br (((Iter (xbk a b) 0).getD (false,false,())).fst) (κ (((Iter (xbk a b) 0).getD (false,false,())).snd.fst)) (κ (true))) δ)
def xbr(a b:LA):=xkY a b none some
def xDD:EO:=xDC.f Tryz.func35 42 0 [] [(4,xma.lp)] (lk1 xma.ok) (u2 (uL 3) (uL 3)) (λ(a,b,_) _=>xkY a b) (λ _ p=>AV.bool p) false
def xdI(a b:LA)(i k:Int):=decide ((xaP (gC b k 0).toList (gC a i 0).toList).getD 0<0)
def xdJ(a:LA)(i:Int):=decide (i.toNat<a.length)&&((a.getD i.toNat .top).cells.length==3&&xMm [Sh.list 3,Sh.int .i64,Sh.int .i64] (a.getD i.toNat .top).cells 0)
def xdK(b:LA)(k:Int):=decide (k.toNat<b.length)&&((b.getD k.toNat .top).cells.length==3&&xMm [Sh.list 3,Sh.int .i64,Sh.int .i64] (b.getD k.toNat .top).cells 0)
def xcq{T:Type}(b:LA)(c:Nat)(i k:Int)(a:LA)(δ:T)(κl:(Nat×Int×Int×LA)->T):T:=br (ixI b k) (br (xdK b k) (br (rmB c a 1 40) (κl (c+1,i,i64.wrap (k+1),a++[AV.agg [AV.list 3 (gC b k 0).toList,AV.int .i64 (gC b k 1).toInt,AV.int .i64 (gC b k 2).toInt]])) δ) δ) δ
def xcr{T:Type}(a:LA)(c:Nat)(i k:Int)(b:LA)(δ:T)(κl:(Nat×Int×Int×LA)->T):T:=br (ixI a i) (br (xdJ a i) (br (rmB c b 1 40) (κl (c+1,i64.wrap (i+1),k,b++[AV.agg [AV.list 3 (gC a i 0).toList,AV.int .i64 (gC a i 1).toInt,AV.int .i64 (gC a i 2).toInt]])) δ) δ) δ
def xcp{T:Type}(a b:LA)(d:Nat)(i k:Int)(c:LA)(δ:T)(κl:(Nat×Int×Int×LA)->T):T:=br (i==(↑a.length:Int)) (xcq b d i k c δ κl) (br (decide (k<b.length)) (br (ixI b k) (br (ixS b k (Sh.list 3) 0) (br (ixI a i) (br (ixS a i (Sh.list 3) 0) (br ((xaP (gC b k 0).toList (gC a i 0).toList).isSome) (br (xdI a b i k) (xcq b d i k c δ κl) (xcr a d i k c δ κl)) δ) δ) δ) δ) δ) (xcr a d i k c δ κl))
def xdg{T:Type}(a b:LA)(d:Nat)(i k:Int)(c:LA)(δ:T)(κl:(Nat×Int×Int×LA)->T)(κr:(Nat×LA)->T):T:=br (decide (i<a.length)) (xcp a b d i k c δ κl) (br (decide (k<b.length)) (xcp a b d i k c δ κl) (κr (d,c)))
def xa6(a b:LA):StT (Nat×Int×Int×LA) (Nat×LA):=λ(d,i,k,c)=>xdg a b d i k c none inL inR
def xou:=xDD.l 61 0 [] [] Tryz.f135 0 lk0 [0,1,5,6,7] [5] [(5,3,54)] (q5 (qL 3) (qL 3) (xNb 0 0 0) qI qI) (q1 (qB 0 3 54 xM3)) (λ(a,b,d,i,k,_) (c,_)=>(xa6 a b,(d,i,k,c),λ p=>(.leaf (.exit 0) [AV.osl 0 0 0 p.1] [bF 0 3 54 p.2]))) (0,[]) λ(a,b,_,_,_,_) _ (d,i,k,c)=>(((a,b,d,i,k,()),(c,())),xdg a b d i k c none)
def xmX(a b:LA):=Iter (xa6 a b) (0,0,0,[])
def xg4(a b:LA):=(xmX a b).getD (0,[])
def xnP{T:Type}(a b:LA)(δ:T)(κ:LA->T):T:=br ((xmX a b).isSome) (br (decide (0+((xg4 a b).fst)<=((xg4 a b).snd).length)&&true) (κ (List.take ((xg4 a b).fst) (List.drop 0 ((xg4 a b).snd)))) δ) δ
def xp3(a b:LA):=xnP a b none some
def xuQ:EO:=xDD.f Tryz.func135 61 0 [] [(3,xou.lp)] (lk1 xou.ok) (u2 (uL 3) (uL 3)) (λ(a,b,_) _=>xnP a b) (λ _ p=>AV.list 3 p) []
def xj8(R:LA->Option (LA)):LA->Option (Bool×AV):=ocOf (xM0 (xNf 3 xM3) xM2) λ(l,_)=>((R l).isSome,AV.list 3 ((R l).getD []))
def xgu(R:LA->Option (LA)):Prop:=OcOk P0 xMZ 104 (xj8 R)
def xeJ(R:LA->Option (LA)):Env:=(xuQ.E.with 104 (xj8 R)).fn 20 0 (lsOf []) (xME [])
def xsz(R:LA->Option (LA))(a:xgu R):xMh P0 (xMZ.at 0) (xeJ R):=(xuQ.ok.with a).fn
def xqY(R:LA->Option (LA))(a:xgu R):LoOk P0 (xMZ.at (xeJ R).pin) (xeJ R) (Tryz.f104.body.getD .skip):=xfw (by kernel_rfl)
def xlP(l:LA):=decide (0<=i64.wrap ((↑l.length:Int).tdiv 2))&&decide (i64.wrap ((↑l.length:Int).tdiv 2)<=(↑l.length:Int))
def xlQ(R:LA->Option (LA))(l:LA):Option (LA):=R (List.take (l.length - (i64.wrap ((↑l.length:Int).tdiv 2)).toNat) (List.drop (i64.wrap ((↑l.length:Int).tdiv 2)).toNat l))
def xlO(R:LA->Option (LA))(l:LA):Option (LA):=xp3 ((R (List.take ((i64.wrap ((↑l.length:Int).tdiv 2)).toNat - 0) (List.drop 0 l))).getD []) ((xlQ R l).getD [])
def xfi{T:Type}(R:LA->Option (LA))(l:LA)(δ:T)(κ:LA->T):T:=br (decide ((↑l.length:Int)<2)) (κ (l)) (br (xlP l&&true) (br ((R (List.take ((i64.wrap ((↑l.length:Int).tdiv 2)).toNat - 0) (List.drop 0 l))).isSome) (br (xlP l) (br ((xlQ R l).isSome) (br ((xlO R l).isSome) (κ ((xlO R l).getD [])) δ) δ) δ) δ) δ)
def xcc(R:LA->Option (LA))(l:LA):=xfi R l none some
def xvE(R:LA->Option (LA))(l:LA):Enc (λ(p:LA)=>((AV.list 3 p):AV)) (xcc R l) (XF P0 (xeJ R) Tryz.f104 (Tryz.f104.body.getD .skip) [AV.list 3 l]):=by(have h:XF P0 (xeJ R) Tryz.f104 (Tryz.f104.body.getD .skip) [AV.list 3 l]=xfi R l none (λ(p:LA)=>some ((AV.list 3 p):AV)):=by kernel_rfl);rw[h];unfold xcc xfi;repeat' (first|refine Enc.br ?_ ?_|exact Enc.none|exact Enc.some rfl)
def xvD(R:LA->Option (LA)):LA->Option (Bool×AV):=ocOf (xM0 (xNf 3 xM3) xM2) λ(l,_)=>((xcc R l).isSome,(AV.list 3 ((xcc R l).getD [])))
def xvC(R:LA->Option (LA))(a:xgu R):OcOk P0 xMZ 104 (xvD R):=xkE λ e g f=>by obtain⟨l,_⟩:=e;obtain⟨b,c⟩:=Prod.mk.inj f;refine xlF (p:=(xeJ R).pin) (xpv xMq (xMr P0 _) rfl (xsz R a) Tryz.func104 rfl (by kernel_rfl) (xqY R a) ((xvE R _ _ (xcf (d:=[]) b)).trans ?_));exact congrArg some c
def xbt:Nat->LA->Option (LA)|0=>λ _=>none|fu_+1=>λ l=>xcc (xbt fu_) l
def xov:∀n,xgu (xbt n)|0=>xkE λ _ _ h=>absurd (Prod.mk.inj h).1 Bool.false_ne_true|fu_+1=>λ a r h=>xvC (xbt fu_) (xov fu_) a r h
def xDE:Env:=xuQ.E.with 104 (xj8 (xbt 100))
def xDG:xMh P0 xMZ xDE:=xuQ.ok.with (xov _)
def xDF:EO:=EO.mk xDE xDG
def xeR(a b:Int):Bool:=(br (decide (a>=0)) (br (decide (a<b)) ((decide (b<=1099511627776))) ((false))) ((false)))
def xyK{T:Type}(a b:Int)(δ:T)(κ:Bool->T):T:=br (decide (a>=0)) (br (decide (a<b)) (κ (decide (b<=1099511627776))) (κ (false))) (κ (false))
def xIG:EO:=xDF.fT Tryz.func83 18 0 [] [] lk0 (λ((a,b,_),_)=>xyK a b none) (u1 (xNg (u2 uI uI))) (λ((a,b,_),_)=>xeR a b) (λ _ p=>(AV.bool p))
def xhW(a b t:Int):Bool:=(br (xeR a b) (br (decide (a<=t)) ((decide (t<b))) ((false))) ((false)))
def xuD{T:Type}(a b t:Int)(δ:T)(κ:Bool->T):T:=br (xeR a b) (br (decide (a<=t)) (κ (decide (t<b))) (κ (false))) (κ (false))
def xIH:EO:=xIG.fT Tryz.func72 19 0 [] [] lk0 (λ((a,b,_),t,_)=>xuD a b t none) (u2 (xNg (u2 uI uI)) uI) (λ((a,b,_),t,_)=>xhW a b t) (λ _ p=>(AV.bool p))
def xlm(a b c d:Int):Int:=(br (a==c&&(b==d&&true)) ((0)) (br (decide (a<c)) (((-1))) (br (a==c) (br (decide (b<d)) (((-1))) ((1))) ((1)))))
def xvy{T:Type}(a b c d:Int)(δ:T)(κ:Int->T):T:=br (a==c&&(b==d&&true)) (κ (0)) (br (decide (a<c)) (κ ((-1))) (br (a==c) (br (decide (b<d)) (κ ((-1))) (κ (1))) (κ (1))))
def xG8:EO:=xIH.fT Tryz.func125 27 0 [] [] lk0 (λ((a,b,_),(c,d,_),_)=>xvy a b c d none) (u2 (xNg (u2 uI uI)) (xNg (u2 uI uI))) (λ((a,b,_),(c,d,_),_)=>xlm a b c d) (λ _ p=>(AV.int .i64 p))
def xC6:Int×Int×List UInt8:=((0,0,[]))
def xAa{T:Type}(δ:T)(κ:Int×Int×List UInt8->T):T:=κ (0,0,[])
def xG9:EO:=xG8.fT Tryz.func203 2 0 [] [] lk0 (λ _=>xAa none) xM2 (λ _=>xC6) (λ _ p=>(AV.agg [AV.int .i64 p.1,AV.int .i64 p.2.1,AV.str p.2.2]))
def xvB{T:Type}(a:LA)(i:Int)(δ:T)(κ:Int×Int×List UInt8->T):T:=br (decide (i<0)) (κ (0,0,[])) (br (decide (i>=a.length)) (κ (0,0,[])) (br (ixI a i) (br (ixT a i 3 [Sh.int .i64,Sh.int .i64,Sh.str] 0) (κ ((gC a i 0).toInt,(gC a i 1).toInt,(gC a i 2).toStr)) δ) δ))
def xrU(a:LA)(i:Int):=xvB a i none some
def xBi:EO:=xG9.f Tryz.func179 18 0 [] [] lk0 (u2 (uL 3) uI) (λ(a,i,_) _=>xvB a i) (λ _ p=>AV.agg [AV.int .i64 p.1,AV.int .i64 p.2.1,AV.str p.2.2]) (0,0,[])
def xj3(b o:LA)(i:Int):=(xrU b (gC o i 0).toInt).getD (0,0,[])
def xj4(a o:LA)(i:Int):=(xrU a (gC o i 0).toInt).getD (0,0,[])
def xol(a b o:LA)(i:Int):=xgD (xj4 a o i).fst ((xj4 a o i).snd).fst ((xj4 a o i).snd).snd (xj3 b o i).fst ((xj3 b o i).snd).fst ((xj3 b o i).snd).snd
def xkW{T:Type}(a b o:LA)(i:Int)(δ:T)(κl:(Int)->T)(κr:(Bool×(Bool)×(Unit))->T):T:=br (decide (i<o.length)) (br (ixI o i) (br (ixS o i (Sh.int .i64) 0) (br ((xrU a (gC o i 0).toInt).isSome) (br (ixI o i) (br (ixS o i (Sh.int .i64) 0) (br ((xrU b (gC o i 0).toInt).isSome) (br (xol a b o i !=0) (br (ixI o i) (br (decide (i.toNat<o.length)&&xMf Sh.bool (gC o i 1)) (κr (true,(!decide (xol a b o i<0)==(gC o i 1).toBool),())) δ) δ) (κl (i64.wrap (i+1)))) δ) δ) δ) δ) δ) δ) (κr (false,false,()))
def xcX(a b o:LA):StT (Int) (Bool×(Bool)×(Unit)):=λ(i)=>xkW a b o i none inL inR
def xok:=xBi.l 44 0 [] [] Tryz.f150 0 lk0 [0,1,2,7] [0,1,6] [] (q4 (qL 3) (qL 3) (qL 2) qI) xM1 (λ(a,b,o,i,_) _=>(xcX a b o,(i),λ p=>(.node p.1 (.leaf .ret [AV.list 3 a,AV.list 3 b,AV.bool p.2.1] []) (.leaf (.exit 0) [AV.list 3 a,AV.list 3 b,.top] [])))) (false,false,()) λ(a,b,o,_,_) _ (i)=>(((a,b,o,i,()),()),xkW a b o i none)
def xnH{T:Type}(a b o:LA)(δ:T)(κ:Bool->T):T:=br ((Iter (xcX a b o) 0).isSome) (br (((Iter (xcX a b o) 0).getD (false,false,())).fst) (κ (((Iter (xcX a b o) 0).getD (false,false,())).snd.fst)) (br ((xaP a b).isSome) (κ (decide ((xaP a b).getD 0<0))) δ)) δ
def xmP(a b o:LA):=xnH a b o none some
def xBj:EO:=xBi.f Tryz.func150 44 0 [] [(2,xok.lp)] (lk1 xok.ok) (u3 (uL 3) (uL 3) (uL 2)) (λ(a,b,o,_) _=>xnH a b o) (λ _ p=>AV.bool p) false
def xcn{T:Type}(b:LA)(c:Nat)(i k:Int)(a:LA)(δ:T)(κl:(Nat×Int×Int×LA)->T):T:=br (ixI b k) (br (ixS b k (Sh.list 3) 0) (br (rmB c a 1 24) (κl (c+1,i,i64.wrap (k+1),a++[AV.list 3 (gC b k 0).toList])) δ) δ) δ
def xco{T:Type}(a:LA)(c:Nat)(i k:Int)(b:LA)(δ:T)(κl:(Nat×Int×Int×LA)->T):T:=br (ixI a i) (br (ixS a i (Sh.list 3) 0) (br (rmB c b 1 24) (κl (c+1,i64.wrap (i+1),k,b++[AV.list 3 (gC a i 0).toList])) δ) δ) δ
def xcm{T:Type}(a b o:LA)(d:Nat)(i k:Int)(c:LA)(δ:T)(κl:(Nat×Int×Int×LA)->T):T:=br (i==(↑a.length:Int)) (xcn b d i k c δ κl) (br (decide (k<b.length)) (br (ixI b k) (br (ixS b k (Sh.list 3) 0) (br (ixI a i) (br (ixS a i (Sh.list 3) 0) (br ((xmP (gC b k 0).toList (gC a i 0).toList o).isSome) (br ((xmP (gC b k 0).toList (gC a i 0).toList o).getD false) (xcn b d i k c δ κl) (xco a d i k c δ κl)) δ) δ) δ) δ) δ) (xco a d i k c δ κl))
def xdf{T:Type}(a b o:LA)(d:Nat)(i k:Int)(c:LA)(δ:T)(κl:(Nat×Int×Int×LA)->T)(κr:(Nat×LA)->T):T:=br (decide (i<a.length)) (xcm a b o d i k c δ κl) (br (decide (k<b.length)) (xcm a b o d i k c δ κl) (κr (d,c)))
def xa5(a b o:LA):StT (Nat×Int×Int×LA) (Nat×LA):=λ(d,i,k,c)=>xdf a b o d i k c none inL inR
def xom:=xBj.l 62 0 [] [] Tryz.f133 0 lk0 [0,1,2,7,8,9] [7] [(7,1,47)] (q6 (qL 1) (qL 1) (qL 2) (xNb 0 0 0) qI qI) (q1 (qB 0 1 47 xM3)) (λ(a,b,o,d,i,k,_) (c,_)=>(xa5 a b o,(d,i,k,c),λ p=>(.leaf (.exit 0) [AV.osl 0 0 0 p.1] [bF 0 1 47 p.2]))) (0,[]) λ(a,b,o,_,_,_,_) _ (d,i,k,c)=>(((a,b,o,d,i,k,()),(c,())),xdf a b o d i k c none)
def xfh(a b o:LA):=Iter (xa5 a b o) (0,0,0,[])
def xnI{T:Type}(a b o:LA)(δ:T)(κ:LA->T):T:=br ((xfh a b o).isSome) (br (decide (0+(((xfh a b o).getD (0,[])).fst)<=(((xfh a b o).getD (0,[])).snd).length)&&true) (κ (List.take (((xfh a b o).getD (0,[])).fst) (List.drop 0 (((xfh a b o).getD (0,[])).snd)))) δ) δ
def xpx(a b o:LA):=xnI a b o none some
def xtr:EO:=xBj.f Tryz.func133 62 0 [] [(3,xom.lp)] (lk1 xom.ok) (u3 (uL 1) (uL 1) (uL 2)) (λ(a,b,o,_) _=>xnI a b o) (λ _ p=>AV.list 1 p) []
def xlN(R:LA->LA->Option (LA)):LA->Option (Bool×AV):=ocOf (xM0 (xNf 1 xM3) (xM0 (xNf 2 xM3) xM2)) λ(l,(o,_))=>((R l o).isSome,AV.list 1 ((R l o).getD []))
def xhE(R:LA->LA->Option (LA)):Prop:=OcOk P0 xMZ 101 (xlN R)
def xf8(R:LA->LA->Option (LA)):Env:=(xtr.E.with 101 (xlN R)).fn 34 0 (lsOf []) (xME [])
def xtG(R:LA->LA->Option (LA))(a:xhE R):xMh P0 (xMZ.at 0) (xf8 R):=(xtr.ok.with a).fn
def xrV(R:LA->LA->Option (LA))(a:xhE R):LoOk P0 (xMZ.at (xf8 R).pin) (xf8 R) (Tryz.f101.body.getD .skip):=xfw (by kernel_rfl)
def xh3(l:LA):=decide (0<=i64.wrap ((↑l.length:Int).tdiv 2))&&decide (i64.wrap ((↑l.length:Int).tdiv 2)<=(↑l.length:Int))
def xeG(l:LA):Nat:=0+((l.getD 0 .top).cells.getD 0 .top).toList.length
def xh4(R:LA->LA->Option (LA))(l o:LA):Option (LA):=R (List.take (l.length - (i64.wrap ((↑l.length:Int).tdiv 2)).toNat) (List.drop (i64.wrap ((↑l.length:Int).tdiv 2)).toNat l)) o
def xh2(R:LA->LA->Option (LA))(l o:LA):Option (LA):=xpx ((R (List.take ((i64.wrap ((↑l.length:Int).tdiv 2)).toNat - 0) (List.drop 0 l)) o).getD []) ((xh4 R l o).getD []) o
def xei{T:Type}(R:LA->LA->Option (LA))(l o:LA)(δ:T)(κ:LA->T):T:=br ((↑l.length:Int)==0) (κ ([])) (br ((↑l.length:Int)==1) (br (decide (0<(↑l.length:Int))) (br (decide (0<l.length)&&xMf (Sh.list 3) ((l.getD 0 .top).cells.getD 0 .top)) (br (decide (xeG l*32<=140737488355328)&&decide (xeG l<=4611686018427387904)) (br (decide (0+xeG l<=([]++((l.getD 0 .top).cells.getD 0 .top).toList).length)&&true&&true&&true) (κ ([AV.list 3 (List.take (xeG l) (List.drop 0 ([]++((l.getD 0 .top).cells.getD 0 .top).toList)))])) δ) δ) δ) δ) (br (xh3 l&&true) (br ((R (List.take ((i64.wrap ((↑l.length:Int).tdiv 2)).toNat - 0) (List.drop 0 l)) o).isSome) (br (xh3 l) (br ((xh4 R l o).isSome) (br ((xh2 R l o).isSome) (κ ((xh2 R l o).getD [])) δ) δ) δ) δ) δ))
def xbU(R:LA->LA->Option (LA))(l o:LA):=xei R l o none some
def xyN(R:LA->LA->Option (LA))(l o:LA):Enc (λ(p:LA)=>((AV.list 1 p):AV)) (xbU R l o) (XF P0 (xf8 R) Tryz.f101 (Tryz.f101.body.getD .skip) [AV.list 1 l,AV.list 2 o]):=by(have h:XF P0 (xf8 R) Tryz.f101 (Tryz.f101.body.getD .skip) [AV.list 1 l,AV.list 2 o]=xei R l o none (λ(p:LA)=>some ((AV.list 1 p):AV)):=by kernel_rfl);rw[h];unfold xbU xei;repeat' (first|refine Enc.br ?_ ?_|exact Enc.none|exact Enc.some rfl)
def xyM(R:LA->LA->Option (LA)):LA->Option (Bool×AV):=ocOf (xM0 (xNf 1 xM3) (xM0 (xNf 2 xM3) xM2)) λ(l,(o,_))=>((xbU R l o).isSome,(AV.list 1 ((xbU R l o).getD [])))
def xyL(R:LA->LA->Option (LA))(a:xhE R):OcOk P0 xMZ 101 (xyM R):=xkE λ e g f=>by obtain⟨l,⟨o,_⟩⟩:=e;obtain⟨b,c⟩:=Prod.mk.inj f;refine xlF (p:=(xf8 R).pin) (xpv xMq (xMr P0 _) rfl (xtG R a) Tryz.func101 rfl (by kernel_rfl) (xrV R a) ((xyN R _ _ _ (xcf (d:=[]) b)).trans ?_));exact congrArg some c
def xbI:Nat->LA->LA->Option (LA)|0=>λ _ _=>none|fu_+1=>λ l o=>xbU (xbI fu_) l o
def xpY:∀n,xhE (xbI n)|0=>xkE λ _ _ h=>absurd (Prod.mk.inj h).1 Bool.false_ne_true|fu_+1=>λ a r h=>xyL (xbI fu_) (xpY fu_) a r h
def xBk:Env:=xtr.E.with 101 (xlN (xbI 1000))
def xCn:xMh P0 xMZ xBk:=xtr.ok.with (xpY _)
def xCm:EO:=EO.mk xBk xCn
def xpZ{T:Type}(l:LA)(δ:T)(κ:LA->T):T:=br ((xbI 1000 l []).isSome) (κ ((xbI 1000 l []).getD [])) δ
def xkK(l:LA):=xpZ l none some
def xBl:EO:=xCm.f Tryz.func67 5 0 [] [] lk0 (u1 (uL 1)) (λ(l,_) _=>xpZ l) (λ _ p=>AV.list 1 p) []
def xfO(a:LA)(i:Int):=xqV ((a.getD (i64.wrap (i - 1)).toNat .top).cells.getD 0 .top).toList (gC a i 0).toList
def xdF{T:Type}(c:LA)(b:Nat)(i:Int)(a:LA)(δ:T)(κl:(Nat×Int×LA)->T):T:=br (ixI c i) (br (ixS c i (Sh.list 3) 0) (br (rmB b a 1 24) (κl (b+1,i64.wrap (i+1),a++[AV.list 3 (gC c i 0).toList])) δ) δ) δ
def xes{T:Type}(a:LA)(c:Nat)(i:Int)(b:LA)(δ:T)(κl:(Nat×Int×LA)->T)(κr:(Nat×LA)->T):T:=br (decide (i<a.length)) (br (i==0) (xdF a c i b δ κl) (br (decide (0<=i64.wrap (i - 1))&&decide (i64.wrap (i - 1)<(↑a.length:Int))) (br (decide ((i64.wrap (i - 1)).toNat<a.length)&&xMf (Sh.list 3) ((a.getD (i64.wrap (i - 1)).toNat .top).cells.getD 0 .top)) (br (ixI a i) (br (ixS a i (Sh.list 3) 0) (br ((xfO a i).isSome) (br (!(xfO a i).getD false) (xdF a c i b δ κl) (κl (c,i64.wrap (i+1),b))) δ) δ) δ) δ) δ)) (κr (c,b))
def xbz(c:LA):StT (Nat×Int×LA) (Nat×LA):=λ(b,i,a)=>xes c b i a none inL inR
def xmO:=xBl.l 38 0 [] [] Tryz.f70 0 lk0 [3,4,5] [4] [(4,1,47)] (q3 (qL 1) (xNb 0 0 0) qI) (q1 (qB 0 1 47 xM3)) (λ(c,b,i,_) (a,_)=>(xbz c,(b,i,a),λ p=>(.leaf (.exit 0) [AV.osl 0 0 0 p.1] [bF 0 1 47 p.2]))) (0,[]) λ(c,_,_,_) _ (b,i,a)=>(((c,b,i,()),(a,())),xes c b i a none)
def xfB(l:LA):=(Iter (xbz ((xkK l).getD [])) (0,0,[])).getD (0,[])
def xlM{T:Type}(l:LA)(δ:T)(κ:LA->T):T:=br ((xkK l).isSome) (br ((Iter (xbz ((xkK l).getD [])) (0,0,[])).isSome) (br (decide (0+((xfB l).fst)<=((xfB l).snd).length)&&true) (κ (List.take ((xfB l).fst) (List.drop 0 ((xfB l).snd)))) δ) δ) δ
def xkJ(l:LA):=xlM l none some
def xBm:EO:=xBl.f Tryz.func70 38 0 [] [(4,xmO.lp)] (lk1 xmO.ok) (u1 (uL 1)) (λ(l,_) _=>xlM l) (λ _ p=>AV.list 1 p) []
def xjl{T:Type}(l:LA)(b:Nat)(i:Int)(a:LA)(δ:T)(κl:(Nat×Int×LA)->T)(κr:(Nat×LA)->T):T:=br (decide (i<l.length)) (br (ixI l i) (br (ixT l i 3 [Sh.int .i64,Sh.int .i64] 1) (br (xeR (gC l i 1).toInt (gC l i 2).toInt) (br (ixI l i) (br (ixS l i (Sh.list 3) 0) (br (rmB b a 1 24) (κl (b+1,i64.wrap (i+1),a++[AV.list 3 (gC l i 0).toList])) δ) δ) δ) (κl (b,i64.wrap (i+1),a))) δ) δ) (κr (b,a))
def xdG(l:LA):StT (Nat×Int×LA) (Nat×LA):=λ(b,i,a)=>xjl l b i a none inL inR
def xp1:=xBm.l 27 0 [] [] Tryz.f48 0 lk0 [0,3,4] [3] [(3,1,47)] (q3 (qL 3) (xNb 0 0 0) qI) (q1 (qB 0 1 47 xM3)) (λ(l,b,i,_) (a,_)=>(xdG l,(b,i,a),λ p=>(.leaf (.exit 0) [AV.osl 0 0 0 p.1] [bF 0 1 47 p.2]))) (0,[]) λ(l,_,_,_) _ (b,i,a)=>(((l,b,i,()),(a,())),xjl l b i a none)
def xiJ(l:LA):=(Iter (xdG l) (0,0,[])).getD (0,[])
def xoV(l:LA):=xkJ (List.take ((xiJ l).fst) (List.drop 0 ((xiJ l).snd)))
def xp2{T:Type}(l:LA)(δ:T)(κ:LA->T):T:=br ((Iter (xdG l) (0,0,[])).isSome) (br (decide (0+((xiJ l).fst)<=((xiJ l).snd).length)&&true) (br ((xoV l).isSome) (κ ((xoV l).getD [])) δ) δ) δ
def xpo(l:LA):=xp2 l none some
def xv7:EO:=xBm.f Tryz.func48 27 0 [] [(3,xp1.lp)] (lk1 xp1.ok) (u1 (uL 3)) (λ(l,_) _=>xp2 l) (λ _ p=>AV.list 1 p) []
def xgB:Env:=xv7.E.fn 51 1 (lsOf []) (xME [])
def xuE:xMh P0 (xMZ.at 1) xgB:=xv7.ok.fn
def xsy:LoOk P0 (xMZ.at xgB.pin) xgB (Tryz.f124.body.getD .skip):=xfw (by kernel_rfl)
def xdq(k:Nat)(a:LA):=(List.take ((i64.wrap ((↑k:Int) - 1)).toNat - 0) (List.drop 0 a)).length
def xlo(k:Nat)(a:LA):=decide (0+(i64.wrap ((↑k:Int) - 1)).toNat<a.length)
def xiH(k:Nat)(a:LA):=((a.getD (0+(i64.wrap ((↑k:Int) - 1)).toNat) .top).cells.getD 1 .top).toInt
def xlp(k:Nat):=decide (0<=i64.wrap ((↑k:Int) - 1))
def xiG(k:Nat):=xlp k&&decide (i64.wrap ((↑k:Int) - 1)<(↑k:Int))
def xln(k:Nat)(a:LA):=xlo k a&&xMf (Sh.int .i64) ((a.getD (0+(i64.wrap ((↑k:Int) - 1)).toNat) .top).cells.getD 1 .top)
def xhX{T:Type}(k:Nat)(a b:Int)(c:LA)(δ:T)(κ:Bool×(Nat×LA×LA)×(Nat×LA)->T):T:=br (rmB k c 1 16) (κ (false,(0,[],[]),(k+1,c++[AV.agg [AV.int .i64 a,AV.int .i64 b]]))) δ
def xj1{T:Type}(k:Nat)(b c:Int)(a:LA)(δ:T)(κ:Bool×(Nat×LA×LA)×(Nat×LA)->T):T:=br (decide ((↑k:Int)>0)) (br (xiG k) (br (xln k a) (br (decide (xiH k a>=b)) (br (xlp k&&decide (i64.wrap ((↑k:Int) - 1)<=(↑k:Int))&&true) (br (decide (0+((i64.wrap ((↑k:Int) - 1)).toNat - 0)<=a.length)&&(decide (xdq k a*16<=140737488355328)&&decide (xdq k a<=4611686018427387904))) (br (xiG k) (br (xlo k a&&xMf (Sh.int .i64) ((a.getD (0+(i64.wrap ((↑k:Int) - 1)).toNat) .top).cells.getD 0 .top)) (br (xiG k) (br (xln k a) (br (xdq k a==xdq k a&&(decide ((xdq k a+1)*16<=140737488355328)&&decide (xdq k a+1<=4611686018427387904))) (κ (true,(xdq k a+1,a,List.take ((i64.wrap ((↑k:Int) - 1)).toNat - 0) (List.drop 0 a)++[AV.agg [AV.int .i64 ((a.getD (0+(i64.wrap ((↑k:Int) - 1)).toNat) .top).cells.getD 0 .top).toInt,AV.int .i64 (if c>xiH k a then c else xiH k a)]]),(0,[]))) δ) δ) δ) δ) δ) δ) δ) (xhX k b c a δ κ)) δ) δ) (xhX k b c a δ κ)
def xbG(k:Nat)(a b:Int)(c:LA):=xj1 k a b c none some
def xz9(k:Nat)(a b:Int)(xs:LA):Enc (λ(p:Bool×(Nat×LA×LA)×(Nat×LA))=>((br p.1 ((AV.osl 1 0 0 p.2.1.1,([⟨0,2,52,p.2.1.2.1,false,true⟩,⟨0,2,52,p.2.1.2.2,false,true⟩]:List Box))) ((AV.osl 0 1 0 p.2.2.1,([⟨1,2,52,p.2.2.2,false,true⟩]:List Box)))):(AV×List Box))) (xbG k a b xs) (XFM P0 xgB Tryz.f124 (Tryz.f124.body.getD .skip) [AV.osl (0:Id) 0 0 k,AV.agg [AV.int .i64 a,AV.int .i64 b]] [{ver:=0,sz:=2,ty:=(52:TypeId),xs:=xs,frz:=false,pm:=true}]):=by(have h:XFM P0 xgB Tryz.f124 (Tryz.f124.body.getD .skip) [AV.osl (0:Id) 0 0 k,AV.agg [AV.int .i64 a,AV.int .i64 b]] [{ver:=0,sz:=2,ty:=(52:TypeId),xs:=xs,frz:=false,pm:=true}]=xj1 k a b xs none (λ(p:Bool×(Nat×LA×LA)×(Nat×LA))=>some ((br p.1 ((AV.osl 1 0 0 p.2.1.1,([⟨0,2,52,p.2.1.2.1,false,true⟩,⟨0,2,52,p.2.1.2.2,false,true⟩]:List Box))) ((AV.osl 0 1 0 p.2.2.1,([⟨1,2,52,p.2.2.2,false,true⟩]:List Box)))):(AV×List Box))):=by kernel_rfl);rw[h];unfold xbG xj1 xhX;repeat' (first|refine Enc.br ?_ ?_|exact Enc.none|exact Enc.some rfl)
def xz8:LA->List Box->Option (Bool×AV×List Box):=omOf (xM0 (sEq (xNb 0 0 0)) (xM0 (xNg (xM0 (sEq (pInt .i64)) (xM0 (sEq (pInt .i64)) xM2))) xM2)) (xMx (xNe 0 2 (52:TypeId) false true xM3) xM1) λ(k,((a,(b,_)),_)) (c,_)=>((xbG k a b c).isSome,(AV.osl 1 0 0 (br ((xbG k a b c).getD (false,(0,[],[]),(0,[]))).1 ((xbG k a b c).getD (false,(0,[],[]),(0,[]))).2.1.1 ((xbG k a b c).getD (false,(0,[],[]),(0,[]))).2.2.1),([⟨2,2,52,[],false,true⟩,⟨0,2,52,br ((xbG k a b c).getD (false,(0,[],[]),(0,[]))).1 ((xbG k a b c).getD (false,(0,[],[]),(0,[]))).2.1.2.2 ((xbG k a b c).getD (false,(0,[],[]),(0,[]))).2.2.2,false,true⟩]:List Box)))
def xz7:OmOk P0 xMZ 124 (xz8):=xkF λ e f j h g=>by obtain⟨k,⟨⟨c,⟨i,_⟩⟩,_⟩⟩:=e;obtain⟨l,_⟩:=f;obtain⟨b,a⟩:=Prod.mk.inj g;have hx:=xz9 _ _ _ _ _ (xcf (d:=(false,(0,[],[]),(0,[]))) b);revert hx a;generalize ((xbG _ _ _ _).getD (false,(0,[],[]),(0,[])))=p;intro a hx;obtain⟨rfl,rfl⟩:=Prod.mk.inj a;obtain⟨t,⟨m,n,o⟩,q,r⟩:=p;have hg:GoodM P0 xMZ 124 _ _ _ _:=xl3 (p:=xgB.pin) (xl2 xMq (xMr P0 _) rfl xuE rfl Tryz.func124 rfl (by kernel_rfl) xsy hx);cases t;exact GoodM.move0 rfl (by decide) hg;exact GoodM.drop0 rfl (by decide) hg
def xCl:EO:=xv7.wM xz7
def xfA{T:Type}(l:LA)(n:Int)(b:Nat)(i:Int)(a:LA)(δ:T)(κl:(Nat×Int×LA)->T)(κr:(Nat×Int×LA)->T):T:=br (decide (i<l.length)) (br (ixI l i) (br (ixS l i (Sh.int .i64) 0) (br (decide ((gC l i 0).toInt<n)) (br (ixI l i) (br (ixS l i (Sh.int .i64) 0) (br (rmB b a 1 8) (κl (b+1,i64.wrap (i+1),a++[AV.int .i64 (gC l i 0).toInt])) δ) δ) δ) (κr (b,i,a))) δ) δ) (κr (b,i,a))
def xb6(l:LA)(n:Int):StT (Nat×Int×LA) (Nat×Int×LA):=λ(b,i,a)=>xfA l n b i a none inL inR
def xj0:=xCl.l 58 0 [] [] Tryz.f120 0 lk0 [0,1,5,6] [0,1,5,6] [(5,1,3)] (q4 (qL 1) qI (xNb 0 0 0) qI) (q1 (qB 0 1 3 xM3)) (λ(l,n,b,i,_) (a,_)=>(xb6 l n,(b,i,a),λ p=>(.leaf (.exit 0) [AV.list 1 l,AV.int .i64 n,AV.osl 0 0 0 p.1,AV.int .i64 p.2.1] [bF 0 1 3 p.2.2]))) (0,0,[]) λ(l,n,_,_,_) _ (b,i,a)=>(((l,n,b,i,()),(a,())),xfA l n b i a none)
def xhA{T:Type}(l:LA)(b:Nat)(i:Int)(a:LA)(δ:T)(κl:(Nat×Int×LA)->T)(κr:(Nat×LA)->T):T:=br (decide (i<l.length)) (br (ixI l i) (br (ixS l i (Sh.int .i64) 0) (br (rmB b a 1 8) (κl (b+1,i64.wrap (i+1),a++[AV.int .i64 (gC l i 0).toInt])) δ) δ) δ) (κr (b,a))
def xb7(l:LA):StT (Nat×Int×LA) (Nat×LA):=λ(b,i,a)=>xhA l b i a none inL inR
def xoi:=xCl.l 58 0 [] [(3,xj0.lp)] Tryz.f120 1 lk0 [0,5,6] [5] [(5,1,3)] (q3 (qL 1) (xNb 0 0 0) qI) (q1 (qB 0 1 3 xM3)) (λ(l,b,i,_) (a,_)=>(xb7 l,(b,i,a),λ p=>(.leaf (.exit 2) [AV.osl 0 0 0 p.1] [bF 0 1 3 p.2]))) (0,[]) λ(l,_,_,_) _ (b,i,a)=>(((l,b,i,()),(a,())),xhA l b i a none)
def xby(l:LA)(n:Int):=(Iter (xb6 l n) (0,0,[])).getD (0,0,[])
def xbp(l:LA)(n:Int):=((xby l n).snd).fst
def xeB(l:LA)(n:Int):=((xby l n).fst)+1
def xgR(l:LA)(n:Int):=Iter (xb7 l) (xeB l n,xbp l n,(((xby l n).snd).snd)++[AV.int .i64 n])
def xgS(l:LA)(n:Int):=Iter (xb7 l) (((xby l n).fst),xbp l n,(((xby l n).snd).snd))
def xiv(l:LA)(n:Int):=((xby l n).fst)==(((xby l n).snd).snd).length
def xd0(l:LA)(n:Int):=(xgR l n).getD (0,[])
def xd1(l:LA)(n:Int):=(xgS l n).getD (0,[])
def xlL{T:Type}(l:LA)(n:Int)(δ:T)(κ:LA->T):T:=br (xiv l n&&(decide (xeB l n*8<=140737488355328)&&decide (xeB l n<=4611686018427387904))) (br ((xgR l n).isSome) (br (decide (0+((xd0 l n).fst)<=((xd0 l n).snd).length)&&true) (κ (List.take ((xd0 l n).fst) (List.drop 0 ((xd0 l n).snd)))) δ) δ) δ
def xnB{T:Type}(l:LA)(n:Int)(δ:T)(κ:LA->T):T:=br ((Iter (xb6 l n) (0,0,[])).isSome) (br (xbp l n==(↑l.length:Int)) (xlL l n δ κ) (br (decide (0<=xbp l n)&&decide (xbp l n<l.length)) (br (decide ((xbp l n).toNat<l.length)&&xMf (Sh.int .i64) ((l.getD (xbp l n).toNat .top).cells.getD 0 .top)) (br (decide (((l.getD (xbp l n).toNat .top).cells.getD 0 .top).toInt>n)) (xlL l n δ κ) (br ((xgS l n).isSome) (br (decide (0+((xd1 l n).fst)<=((xd1 l n).snd).length)&&true) (κ (List.take ((xd1 l n).fst) (List.drop 0 ((xd1 l n).snd)))) δ) δ)) δ) δ)) δ
def xbO(l:LA)(n:Int):=xnB l n none some
def xyx:EO:=xCl.f Tryz.func120 58 0 [] [(3,xj0.lp),(8,xoi.lp)] (lks (lkC xj0.ok (lkC xoi.ok lkN))) (u2 (uL 1) uI) (λ(l,n,_) _=>xnB l n) (λ _ p=>AV.list 1 p) []
def xh1:Env:=xyx.E.fn 28 1 (lsOf []) (xME [])
def xvz:xMh P0 (xMZ.at 1) xh1:=xyx.ok.fn
def xtb:LoOk P0 (xMZ.at xh1.pin) xh1 (Tryz.f121.body.getD .skip):=xfw (by kernel_rfl)
def xgC{T:Type}(k:Nat)(a n:Int)(b:LA)(δ:T)(κ:Bool×(Nat×LA)×(Nat×LA)->T):T:=br (rmB k b 1 16) (κ (false,(0,[]),(k+1,b++[AV.agg [AV.int .i64 a,AV.int .i64 n]]))) δ
def xiO{T:Type}(k:Nat)(a n:Int)(b:LA)(δ:T)(κ:Bool×(Nat×LA)×(Nat×LA)->T):T:=br (decide ((↑k:Int)>0)) (br (decide (0<=i64.wrap ((↑k:Int) - 1))&&decide (i64.wrap ((↑k:Int) - 1)<(↑k:Int))) (br (decide (0+(i64.wrap ((↑k:Int) - 1)).toNat<b.length)&&xMf (Sh.int .i64) ((b.getD (0+(i64.wrap ((↑k:Int) - 1)).toNat) .top).cells.getD 1 .top)) (br (((b.getD (0+(i64.wrap ((↑k:Int) - 1)).toNat) .top).cells.getD 1 .top).toInt==n) (κ (true,(k,b),(0,[]))) (xgC k a n b δ κ)) δ) δ) (xgC k a n b δ κ)
def xcI(k:Nat)(a n:Int)(b:LA):=xiO k a n b none some
def xA2(k:Nat)(a n:Int)(xs:LA):Enc (λ(p:Bool×(Nat×LA)×(Nat×LA))=>((br p.1 ((AV.osl 0 0 0 p.2.1.1,([⟨0,2,132,p.2.1.2,false,true⟩]:List Box))) ((AV.osl 0 1 0 p.2.2.1,([⟨1,2,132,p.2.2.2,false,true⟩]:List Box)))):(AV×List Box))) (xcI k a n xs) (XFM P0 xh1 Tryz.f121 (Tryz.f121.body.getD .skip) [AV.osl (0:Id) 0 0 k,AV.int .i64 a,AV.int .i64 n] [{ver:=0,sz:=2,ty:=(132:TypeId),xs:=xs,frz:=false,pm:=true}]):=by(have h:XFM P0 xh1 Tryz.f121 (Tryz.f121.body.getD .skip) [AV.osl (0:Id) 0 0 k,AV.int .i64 a,AV.int .i64 n] [{ver:=0,sz:=2,ty:=(132:TypeId),xs:=xs,frz:=false,pm:=true}]=xiO k a n xs none (λ(p:Bool×(Nat×LA)×(Nat×LA))=>some ((br p.1 ((AV.osl 0 0 0 p.2.1.1,([⟨0,2,132,p.2.1.2,false,true⟩]:List Box))) ((AV.osl 0 1 0 p.2.2.1,([⟨1,2,132,p.2.2.2,false,true⟩]:List Box)))):(AV×List Box))):=by kernel_rfl);rw[h];unfold xcI xiO xgC;repeat' (first|refine Enc.br ?_ ?_|exact Enc.none|exact Enc.some rfl)
def xA1:LA->List Box->Option (Bool×AV×List Box):=omOf (xM0 (sEq (xNb 0 0 0)) (xM0 (sEq (pInt .i64)) (xM0 (sEq (pInt .i64)) xM2))) (xMx (xNe 0 2 (132:TypeId) false true xM3) xM1) λ(k,(a,(n,_))) (b,_)=>((xcI k a n b).isSome,(AV.osl 0 1 0 (br ((xcI k a n b).getD (false,(0,[]),(0,[]))).1 ((xcI k a n b).getD (false,(0,[]),(0,[]))).2.1.1 ((xcI k a n b).getD (false,(0,[]),(0,[]))).2.2.1),([⟨1,2,132,(br ((xcI k a n b).getD (false,(0,[]),(0,[]))).1 ((xcI k a n b).getD (false,(0,[]),(0,[]))).2.1.2 ((xcI k a n b).getD (false,(0,[]),(0,[]))).2.2.2),false,true⟩]:List Box)))
def xA0:OmOk P0 xMZ 121 (xA1):=xkF λ e f j i g=>by obtain⟨k,⟨b,⟨n,_⟩⟩⟩:=e;obtain⟨h,_⟩:=f;obtain⟨c,a⟩:=Prod.mk.inj g;have hx:=xA2 _ _ _ _ _ (xcf (d:=(false,(0,[]),(0,[]))) c);revert hx a;generalize ((xcI k b n h).getD (false,(0,[]),(0,[])))=p;intro a hx;obtain⟨rfl,rfl⟩:=Prod.mk.inj a;obtain⟨t,⟨l,m⟩,o,q⟩:=p;have hg:GoodM P0 xMZ 121 _ _ _ _:=xl3 (p:=xh1.pin) (xl2 xMq (xMr P0 _) rfl xvz rfl Tryz.func121 rfl (by kernel_rfl) xtb hx);cases t;exact hg;exact GoodM.bump1 rfl (by decide) hg
def xuR:EO:=xyx.wM xA0
def xlq{T:Type}(l a:LA)(i:Int)(δ:T)(κl:(LA×Int)->T)(κr:(LA)->T):T:=br (decide (i<l.length)) (br (ixI l i) (br (ixT l i 3 [Sh.int .i64,Sh.int .i64] 0) (br (xeR (gC l i 0).toInt (gC l i 1).toInt) (br (ixI l i) (br (ixS l i (Sh.int .i64) 0) (br ((xbO a (gC l i 0).toInt).isSome) (br (ixI l i) (br (ixS l i (Sh.int .i64) 1) (br ((xbO ((xbO a (gC l i 0).toInt).getD []) (gC l i 1).toInt).isSome) (κl ((xbO ((xbO a (gC l i 0).toInt).getD []) (gC l i 1).toInt).getD [],i64.wrap (i+1))) δ) δ) δ) δ) δ) δ) (κl (a,i64.wrap (i+1)))) δ) δ) (κr (a))
def xeC(l:LA):StT (LA×Int) (LA):=λ(a,i)=>xlq l a i none inL inR
def xkH:=xuR.l 82 0 [] [] Tryz.f85 0 lk0 [0,3,4] [0,3] [(3,1,1073741824)] (q3 (qL 3) (qL 1) qI) xM1 (λ(l,a,i,_) _=>(xeC l,(a,i),λ p=>(.leaf (.exit 0) [AV.list 3 l,AV.list 1 p] []))) [] λ(l,_,_,_) _ (a,i)=>(((l,a,i,()),()),xlq l a i none)
def xlr{T:Type}(l b:LA)(c:Nat)(k n i:Int)(a:LA)(δ:T)(κl:(Int×Int×LA)->T)(κr:(Int×LA)->T):T:=br (decide (i<l.length)) (br (ixI l i) (br (ixT l i 3 [Sh.int .i64,Sh.int .i64] 0) (br (ixI b k) (br (ixS b k (Sh.int .i64) 0) (br (xhW (gC l i 0).toInt (gC l i 1).toInt (gC b k 0).toInt) (br (ixI l i) (br (ixS l i (Sh.int .i64) 2) (κl (i64.wrap (n+(gC l i 2).toInt),i64.wrap (i+1),a)) δ) δ) (κl (n,i64.wrap (i+1),a))) δ) δ) δ) δ) (κr (n,a))
def xeE(l c:LA)(b:Nat)(k:Int):StT (Int×Int×LA) (Int×LA):=λ(n,i,a)=>xlr l c b k n i a none inL inR
def xkI:=xuR.l 82 0 [] [(3,xkH.lp)] Tryz.f85 2 lk0 [0,3,5,6,7,8] [0,3,5,6,7] [(5,2,132),(3,1,1073741824)] (q6 (qL 3) (qL 1) (xNb 0 0 0) qI qI qI) (q1 (qB 0 2 132 xM3)) (λ(l,c,a,k,n,i,_) (b,_)=>(xeE l c a k,(n,i,b),λ p=>(.leaf (.exit 4) [AV.list 3 l,AV.list 1 c,AV.osl 0 0 0 a,AV.int .i64 k,AV.int .i64 p.1] [bF 0 2 132 p.2]))) (0,[]) λ(l,c,a,k,_,_,_) _ (n,i,b)=>(((l,c,a,k,n,i,()),(b,())),xlr l c a k n i b none)
def xhZ(l c:LA)(b:Nat)(k:Int)(a:LA):=(Iter (xeE l c b k) (0,0,a)).getD (0,[])
def xhY(l c:LA)(a:Nat)(k:Int)(b:LA):=xcI a (gC c k 0).toInt (xhZ l c a k b).fst (xhZ l c a k b).snd
def xcV(l c:LA)(b:Nat)(k:Int)(a:LA):=(xhY l c b k a).getD (false,(0,[]),0,[])
def xiI{T:Type}(l c:LA)(b:Nat)(k:Int)(a:LA)(δ:T)(κl:(Nat×Int×LA)->T)(κr:(Nat×LA)->T):T:=br (decide (k<c.length)) (br (ixI c k) (br (ixS c k (Sh.int .i64) 0) (br (decide ((gC c k 0).toInt<1099511627776)) (br ((Iter (xeE l c b k) (0,0,a)).isSome) (br (ixI c k) (br (ixS c k (Sh.int .i64) 0) (br ((xhY l c b k a).isSome) (κl (br ((xcV l c b k a).fst) (((xcV l c b k a).snd).fst).fst (((xcV l c b k a).snd).snd).fst,i64.wrap (k+1),br ((xcV l c b k a).fst) (((xcV l c b k a).snd).fst).snd (((xcV l c b k a).snd).snd).snd)) δ) δ) δ) δ) (κr (b,a))) δ) δ) (κr (b,a))
def xeD(l c:LA):StT (Nat×Int×LA) (Nat×LA):=λ(b,k,a)=>xiI l c b k a none inL inR
def xrl:=xuR.l 82 0 [] [(3,xkH.lp),(14,xkI.lp)] Tryz.f85 1 (lk1 xkI.ok) [0,3,5,6] [5] [(5,2,132),(3,1,1073741824)] (q4 (qL 3) (qL 1) (xNb 0 0 0) qI) (q1 (qB 0 2 132 xM3)) (λ(l,c,b,k,_) (a,_)=>(xeD l c,(b,k,a),λ p=>(.leaf (.exit 2) [AV.osl 0 0 0 p.1] [bF 0 2 132 p.2]))) (0,[]) λ(l,c,_,_,_) _ (b,k,a)=>(((l,c,b,k,()),(a,())),xiI l c b k a none)
def xqT(l:LA):=Iter (xeD l ((Iter (xeC l) ([AV.int .i64 0],0)).getD [])) (0,0,[])
def xlf(l:LA):=(xqT l).getD (0,[])
def xrT{T:Type}(l:LA)(δ:T)(κ:LA->T):T:=br ((Iter (xeC l) ([AV.int .i64 0],0)).isSome) (br ((xqT l).isSome) (br (decide (0+((xlf l).fst)<=((xlf l).snd).length)&&true) (κ (List.take ((xlf l).fst) (List.drop 0 ((xlf l).snd)))) δ) δ) δ
def xuF(l:LA):=xrT l none some
def xDH:EO:=xuR.f Tryz.func85 82 0 [] [(3,xkH.lp),(14,xkI.lp),(10,xrl.lp)] (lks (lkC xkH.ok (lkC xrl.ok (lkC xkI.ok lkN)))) (u1 (uL 3)) (λ(l,_) _=>xrT l) (λ _ p=>AV.list 2 p) []
def xhG{T:Type}(l c:LA)(b:Nat)(i:Int)(a:LA)(δ:T)(κl:(Nat×Int×LA)->T)(κr:(Nat×LA)->T):T:=br (decide (i<l.length)) (br (ixI l i) (br (ixS l i (Sh.list 3) 0) (br ((xaP (gC l i 0).toList c).isSome) (br ((xaP (gC l i 0).toList c).getD 0==0) (br (ixI l i) (br (ixT l i 3 [Sh.int .i64,Sh.int .i64] 1) (br (rmB b a 1 24) (κl (b+1,i64.wrap (i+1),a++[AV.agg [AV.int .i64 (gC l i 1).toInt,AV.int .i64 (gC l i 2).toInt,AV.int .i64 1]])) δ) δ) δ) (κl (b,i64.wrap (i+1),a))) δ) δ) δ) (κr (b,a))
def xcY(l b:LA):StT (Nat×Int×LA) (Nat×LA):=λ(c,i,a)=>xhG l b c i a none inL inR
def xoo:=xDH.l 32 0 [] [] Tryz.f50 0 lk0 [0,1,5,6] [5] [(5,3,100)] (q4 (qL 3) (qL 3) (xNb 0 0 0) qI) (q1 (qB 0 3 100 xM3)) (λ(l,b,c,i,_) (a,_)=>(xcY l b,(c,i,a),λ p=>(.leaf (.exit 0) [AV.osl 0 0 0 p.1] [bF 0 3 100 p.2]))) (0,[]) λ(l,b,_,_,_) _ (c,i,a)=>(((l,b,c,i,()),(a,())),xhG l b c i a none)
def xgY(l a:LA):=(Iter (xcY l a) (0,0,[])).getD (0,[])
def xmS(l a:LA):=xuF (List.take ((xgY l a).fst) (List.drop 0 ((xgY l a).snd)))
def xnK{T:Type}(l a:LA)(δ:T)(κ:LA->T):T:=br ((Iter (xcY l a) (0,0,[])).isSome) (br (decide (0+((xgY l a).fst)<=((xgY l a).snd).length)&&true) (br ((xmS l a).isSome) (κ ((xmS l a).getD [])) δ) δ) δ
def xmR(l a:LA):=xnK l a none some
def xuS:EO:=xDH.f Tryz.func50 32 0 [] [(3,xoo.lp)] (lk1 xoo.ok) (u2 (uL 3) (uL 3)) (λ(l,a,_) _=>xnK l a) (λ _ p=>AV.list 2 p) []
def xfD{T:Type}(a:LA)(c:Nat)(i k:Int)(b:LA)(δ:T)(κl:(Int×LA)->T)(κr:(Int×LA)->T):T:=br (decide (k<a.length)) (br (ixI a k) (br (ixS a k (Sh.list 3) 0) (br (ixI a i) (br (ixS a i (Sh.list 3) 0) (br ((xaP (gC a k 0).toList (gC a i 0).toList).isSome) (br ((xaP (gC a k 0).toList (gC a i 0).toList).getD 0==0) (κl (i64.wrap (k+1),b)) (κr (k,b))) δ) δ) δ) δ) δ) (κr (k,b))
def xbs(c:LA)(b:Nat)(i:Int):StT (Int×LA) (Int×LA):=λ(k,a)=>xfD c b i k a none inL inR
def xeU:=xuS.l 66 0 [] [] Tryz.f74 1 lk0 [3,4,5,6] [3,4,5,6] [(4,2,85)] (q4 (qL 3) (xNb 0 0 0) qI qI) (q1 (qB 0 2 85 xM3)) (λ(c,a,i,k,_) (b,_)=>(xbs c a i,(k,b),λ p=>(.leaf (.exit 2) [AV.list 3 c,AV.osl 0 0 0 a,AV.int .i64 i,AV.int .i64 p.1] [bF 0 2 85 p.2]))) (0,[]) λ(c,a,i,_,_) _ (k,b)=>(((c,a,i,k,()),(b,())),xfD c a i k b none)
def xfE{T:Type}(d:LA)(i k:Int)(a:LA)(c:Nat)(n:Int)(b:LA)(δ:T)(κl:(Nat×Int×LA)->T)(κr:(Nat×LA)->T):T:=br (decide (n<a.length)) (br (ixI a n) (br (ixS a n (Sh.list 3) 0) (br (decide (0<=k)&&decide (k<=d.length)&&(decide (0<=i)&&decide (i<=(↑k.toNat:Int)))) (br (ixI a n) (br (ixS a n (Sh.list 3) 0) (br ((xmR (List.take (k.toNat - i.toNat) (List.drop i.toNat d)) (gC a n 0).toList).isSome) (br (rmB c b 1 48) (κl (c+1,i64.wrap (n+1),b++[AV.agg [AV.list 3 (gC a n 0).toList,AV.list 2 ((xmR (List.take (k.toNat - i.toNat) (List.drop i.toNat d)) (gC a n 0).toList).getD [])]])) δ) δ) δ) δ) δ) δ) δ) (κr (c,b))
def xc0(d:LA)(i k:Int)(c:LA):StT (Nat×Int×LA) (Nat×LA):=λ(b,n,a)=>xfE d i k c b n a none inL inR
def xg2:=xuS.l 66 0 [] [(6,xeU.lp)] Tryz.f74 2 lk0 [3,4,5,6,7,8] [3,4,6] [(4,2,85)] (q6 (qL 3) (xNb 0 0 0) qI qI (qL 1) qI) (q1 (qB 0 2 85 xM3)) (λ(d,b,i,k,c,n,_) (a,_)=>(xc0 d i k c,(b,n,a),λ p=>(.leaf (.exit 4) [AV.list 3 d,AV.osl 0 0 0 p.1,AV.int .i64 k] [bF 0 2 85 p.2]))) (0,[]) λ(d,_,i,k,c,_,_) _ (b,n,a)=>(((d,b,i,k,c,n,()),(a,())),xfE d i k c b n a none)
def xbY(c:LA)(b:Nat)(i:Int)(a:LA):=((Iter (xbs c b i) (i,a)).getD (0,[])).fst
def xg1(c:LA)(a:Nat)(i:Int)(b:LA):=Iter (xc0 c i (xbY c a i b) ((xpo (List.take ((xbY c a i b).toNat - i.toNat) (List.drop i.toNat c))).getD [])) (a,0,((Iter (xbs c a i) (i,b)).getD (0,[])).snd)
def xhJ{T:Type}(c:LA)(b:Nat)(i:Int)(a:LA)(δ:T)(κl:(Nat×Int×LA)->T)(κr:(Nat×LA)->T):T:=br (decide (i<c.length)) (br ((Iter (xbs c b i) (i,a)).isSome) (br (decide (0<=xbY c b i a)&&decide (xbY c b i a<=c.length)&&(decide (0<=i)&&decide (i<=(↑(xbY c b i a).toNat:Int)))) (br ((xpo (List.take ((xbY c b i a).toNat - i.toNat) (List.drop i.toNat c))).isSome) (br ((xg1 c b i a).isSome) (κl (((xg1 c b i a).getD (0,[])).fst,xbY c b i a,((xg1 c b i a).getD (0,[])).snd)) δ) δ) δ) δ) (κr (b,a))
def xcx(c:LA):StT (Nat×Int×LA) (Nat×LA):=λ(b,i,a)=>xhJ c b i a none inL inR
def xot:=xuS.l 66 0 [] [(6,xeU.lp),(10,xg2.lp)] Tryz.f74 0 (lks (lkC xeU.ok (lkC xg2.ok lkN))) [3,4,5] [4] [(4,2,85)] (q3 (qL 3) (xNb 0 0 0) qI) (q1 (qB 0 2 85 xM3)) (λ(c,b,i,_) (a,_)=>(xcx c,(b,i,a),λ p=>(.leaf (.exit 0) [AV.osl 0 0 0 p.1] [bF 0 2 85 p.2]))) (0,[]) λ(c,_,_,_) _ (b,i,a)=>(((c,b,i,()),(a,())),xhJ c b i a none)
def xmW(l:LA):=Iter (xcx ((xbt 100 l).getD [])) (0,0,[])
def xg3(l:LA):=(xmW l).getD (0,[])
def xnO{T:Type}(l:LA)(δ:T)(κ:LA->T):T:=br ((xbt 100 l).isSome) (br ((xmW l).isSome) (br (decide (0+((xg3 l).fst)<=((xg3 l).snd).length)&&true) (κ (List.take ((xg3 l).fst) (List.drop 0 ((xg3 l).snd)))) δ) δ) δ
def xj7(l:LA):=xnO l none some
def xDI:EO:=xuS.f Tryz.func74 66 0 [] [(6,xeU.lp),(10,xg2.lp),(4,xot.lp)] (lks (lkC xot.ok (lkC xeU.ok (lkC xg2.ok lkN)))) (u1 (uL 3)) (λ(l,_) _=>xnO l) (λ _ p=>AV.list 2 p) []
def xdl(l:LA)(n i:Int):=decide ((gC l i 1).toInt>=n)
def xaR(l:LA)(b:Nat)(i:Int)(a:LA):=(xbG b (gC l i 0).toInt 1099511627776 a).getD (false,(0,[],[]),0,[])
def xcT(l:LA)(b:Nat)(i:Int)(a:LA):=xbG b (gC l i 0).toInt ((l.getD (i64.wrap (i+1)).toNat .top).cells.getD 0 .top).toInt a
def xcU(l:LA)(i:Int):=decide (i64.wrap (i+1)<(↑l.length:Int))
def xaY(l:LA)(b:Nat)(i:Int)(a:LA):=(xcT l b i a).getD (false,(0,[],[]),0,[])
def xcH{T:Type}(l:LA)(n:Int)(b:Nat)(i:Int)(a:LA)(δ:T)(κl:(Nat×Int×LA)->T)(κr:(Nat×LA)->T):T:=br (decide (i<l.length)) (br (xcU l i) (br (decide (0<=i64.wrap (i+1))&&xcU l i) (br (decide ((i64.wrap (i+1)).toNat<l.length)&&xMf (Sh.int .i64) ((l.getD (i64.wrap (i+1)).toNat .top).cells.getD 0 .top)) (br (ixI l i) (br (ixS l i (Sh.int .i64) 1) (br (xdl l n i) (br (ixI l i) (br (ixS l i (Sh.int .i64) 0) (br ((xcT l b i a).isSome) (κl (br ((xaY l b i a).fst) (((xaY l b i a).snd).fst).fst (((xaY l b i a).snd).snd).fst,i64.wrap (i+1),br ((xaY l b i a).fst) (((xaY l b i a).snd).fst).snd.snd (((xaY l b i a).snd).snd).snd)) δ) δ) δ) (κl (b,i64.wrap (i+1),a))) δ) δ) δ) δ) (br (ixI l i) (br (ixS l i (Sh.int .i64) 1) (br (xdl l n i) (br (ixI l i) (br (ixS l i (Sh.int .i64) 0) (br ((xbG b (gC l i 0).toInt 1099511627776 a).isSome) (κl (br ((xaR l b i a).fst) (((xaR l b i a).snd).fst).fst (((xaR l b i a).snd).snd).fst,i64.wrap (i+1),br ((xaR l b i a).fst) (((xaR l b i a).snd).fst).snd.snd (((xaR l b i a).snd).snd).snd)) δ) δ) δ) (κl (b,i64.wrap (i+1),a))) δ) δ)) (κr (b,a))
def xaL(l:LA)(n:Int):StT (Nat×Int×LA) (Nat×LA):=λ(b,i,a)=>xcH l n b i a none inL inR
def xnr:=xDI.l 42 0 [] [] Tryz.f86 0 lk0 [0,1,5,6] [5] [(5,2,52)] (q4 (qL 2) qI (xNb 0 0 0) qI) (q1 (qB 0 2 52 xM3)) (λ(l,n,b,i,_) (a,_)=>(xaL l n,(b,i,a),λ p=>(.leaf (.exit 0) [AV.osl 0 0 0 p.1] [bF 0 2 52 p.2]))) (0,[]) λ(l,n,_,_,_) _ (b,i,a)=>(((l,n,b,i,()),(a,())),xcH l n b i a none)
def xgi(l:LA)(n:Int):=(Iter (xaL l n) (0,0,[])).getD (0,[])
def xmL{T:Type}(l:LA)(n:Int)(δ:T)(κ:LA->T):T:=br ((Iter (xaL l n) (0,0,[])).isSome) (br (decide (0+((xgi l n).fst)<=((xgi l n).snd).length)&&true) (κ (List.take ((xgi l n).fst) (List.drop 0 ((xgi l n).snd)))) δ) δ
def xeh(l:LA)(n:Int):=xmL l n none some
def xDJ:EO:=xDI.f Tryz.func86 42 0 [] [(3,xnr.lp)] (lk1 xnr.ok) (u2 (uL 2) uI) (λ(l,n,_) _=>xmL l n) (λ _ p=>AV.list 2 p) []
def xhD(l:LA)(i:Int):=decide (i.toNat<l.length)&&((l.getD i.toNat .top).cells.length==2&&xMm [Sh.int .i64,Sh.int .i64] (l.getD i.toNat .top).cells 0)
def xgj{T:Type}(l:LA)(b:Nat)(i c d:Int)(a:LA)(δ:T)(κl:(Nat×Int×Int×Int×LA)->T)(κr:(Nat×Int×Int×Int×LA)->T):T:=br (decide (i<l.length)) (br (ixI l i) (br (xhD l i) (br (decide (xlm (gC l i 0).toInt (gC l i 1).toInt c d<=0)) (br (ixI l i) (br (xhD l i) (br (rmB b a 1 16) (κl (b+1,i64.wrap (i+1),c,d,a++[AV.agg [AV.int .i64 (gC l i 0).toInt,AV.int .i64 (gC l i 1).toInt]])) δ) δ) δ) (κr (b,i,c,d,a))) δ) δ) (κr (b,i,c,d,a))
def xcl(l:LA):StT (Nat×Int×Int×Int×LA) (Nat×Int×Int×Int×LA):=λ(b,i,c,d,a)=>xgj l b i c d a none inL inR
def xo3:=xDJ.l 38 0 [] [] Tryz.f87 0 lk0 [0,3,5,6] [0,3,5,6] [(5,2,52)] (q4 (qL 2) (xNc 0 0 0 0) (xNb 1 0 0) qI) (q2 (qB 0 2 52 (q1 (xNd (q2 qI qI)))) (qB 0 2 52 xM3)) (λ(l,_,b,i,_) (((c,d,_),_),a,_)=>(xcl l,(b,i,c,d,a),λ p=>(.leaf (.exit 0) [AV.list 2 l,AV.own 0 0 0 0,AV.osl 1 0 0 p.1,AV.int .i64 p.2.1] [bF 0 2 52 [AV.agg [AV.int .i64 p.2.2.1,AV.int .i64 p.2.2.2.1]],bF 0 2 52 p.2.2.2.2]))) (0,0,0,0,[]) λ(l,_,_,_,_) _ (b,i,c,d,a)=>(((l,(),b,i,()),(((c,d,()),()),a,())),xgj l b i c d a none)
def xmM(l:LA)(a b:Int):=Iter (xcl l) (0,0,a,b,[])
def xbq(l:LA)(a b:Int):=(xmM l a b).getD (0,0,0,0,[])
def xh0(l:LA)(a b:Int):=((xbq l a b).fst)+1
def xnF(l:LA)(a b:Int):=List.take (l.length - (((xbq l a b).snd).fst).toNat) (List.drop (((xbq l a b).snd).fst).toNat l)
def xhx(l:LA)(a b:Int):=xh0 l a b+(xnF l a b).length
def xnE(l:LA)(a b:Int):=(((((xbq l a b).snd).snd).snd).snd)++[AV.agg [AV.int .i64 (((xbq l a b).snd).snd).fst,AV.int .i64 ((((xbq l a b).snd).snd).snd).fst]]
def xnD(l:LA)(a b:Int):=xnE l a b++xnF l a b
def xoP{T:Type}(l:LA)(a b:Int)(δ:T)(κ:LA->T):T:=br ((xmM l a b).isSome) (br (((xbq l a b).fst)==(((((xbq l a b).snd).snd).snd).snd).length&&(decide (xh0 l a b*16<=140737488355328)&&decide (xh0 l a b<=4611686018427387904))) (br (decide (0<=(((xbq l a b).snd).fst))&&decide ((((xbq l a b).snd).fst)<=(↑l.length:Int))) (br (xh0 l a b==(xnE l a b).length&&(decide (xhx l a b*16<=140737488355328)&&decide (xhx l a b<=4611686018427387904))) (br (decide (0+xhx l a b<=(xnD l a b).length)&&true) (κ (List.take (xhx l a b) (List.drop 0 (xnD l a b)))) δ) δ) δ) δ) δ
def xn4(l:LA)(a b:Int):=xoP l a b none some
def xy0:EO:=xDJ.f Tryz.func87 38 0 [] [(3,xo3.lp)] (lk1 xo3.ok) (u2 (uL 2) (xNg (u2 uI uI))) (λ(l,(a,b,_),_) _=>xoP l a b) (λ _ p=>AV.list 2 p) []
def xhC{T:Type}(l:LA)(n:Int)(a b:LA)(i:Int)(δ:T)(κl:(LA×Int)->T)(κr:(LA)->T):T:=br (decide (i<a.length)) (br (ixI a i) (br (ixT a i 2 [Sh.int .i64,Sh.int .i64] 0) (br ((xn4 b (gC a i 0).toInt (gC a i 1).toInt).isSome) (κl ((xn4 b (gC a i 0).toInt (gC a i 1).toInt).getD [],i64.wrap (i+1))) δ) δ) δ) (κr (b))
def xb9(l:LA)(n:Int)(b:LA):StT (LA×Int) (LA):=λ(a,i)=>xhC l n b a i none inL inR
def xgT:=xy0.l 31 0 [] [] Tryz.f52 1 lk0 [0,3,4,5,6] [0,3,4] [(3,2,1073741824)] (q5 (qL 2) (qL 2) qI (qL 2) qI) xM1 (λ(l,a,n,b,i,_) _=>(xb9 l n b,(a,i),λ p=>(.leaf (.exit 2) [AV.list 2 l,AV.list 2 p,AV.int .i64 n] []))) [] λ(l,_,n,b,_,_) _ (a,i)=>(((l,a,n,b,i,()),()),xhC l n b a i none)
def xhB{T:Type}(l a:LA)(n:Int)(δ:T)(κl:(LA×Int)->T)(κr:(Bool×(LA×LA)×(LA))->T):T:=br (decide (n<=1048576)) (br ((xeh l n).isSome) (br ((↑((xeh l n).getD []).length:Int)==0) (κr (true,(a,a),[])) (br ((Iter (xb9 l n ((xeh l n).getD [])) (a,0)).isSome) (κl ((Iter (xb9 l n ((xeh l n).getD [])) (a,0)).getD [],i64.wrap (n+1))) δ)) δ) (κr (false,([],[]),(a)))
def xb8(l:LA):StT (LA×Int) (Bool×(LA×LA)×(LA)):=λ(a,n)=>xhB l a n none inL inR
def xoj:=xy0.l 31 0 [] [(9,xgT.lp)] Tryz.f52 0 (lk1 xgT.ok) [0,3,4] [2,3] [(3,2,1073741824)] (q3 (qL 2) (qL 2) qI) xM1 (λ(l,a,n,_) _=>(xb8 l,(a,n),λ p=>(.node p.1 (.leaf .ret [AV.list 2 p.2.1.1,AV.list 2 p.2.1.2] []) (.leaf (.exit 0) [.top,AV.list 2 p.2.2] [])))) (false,([],[]),[]) λ(l,_,_,_) _ (a,n)=>(((l,a,n,()),()),xhB l a n none)
def xji(l:LA):=(Iter (xb8 l) ([],1)).getD (false,([],[]),[])
def xnC{T:Type}(l:LA)(δ:T)(κ:LA->T):T:=br ((Iter (xb8 l) ([],1)).isSome) (br ((xji l).fst) (κ (((xji l).snd).fst.fst)) (κ (((xji l).snd).snd))) δ
def xd2(l:LA):=xnC l none some
def xDK:EO:=xy0.f Tryz.func52 31 0 [] [(9,xgT.lp),(3,xoj.lp)] (lks (lkC xoj.ok (lkC xgT.ok lkN))) (u1 (uL 2)) (λ(l,_) _=>xnC l) (λ _ p=>AV.list 2 p) []
def xhH{T:Type}(d c:LA)(b:Nat)(i:Int)(a:LA)(δ:T)(κl:(Nat×Int×LA)->T)(κr:(Nat×LA)->T):T:=br (decide (i<c.length)) (br (ixI c i) (br (ixT c i 2 [Sh.int .i64,Sh.int .i64] 0) (br (rmB b a 1 40) (κl (b+1,i64.wrap (i+1),a++[AV.agg [AV.list 3 d,AV.int .i64 (gC c i 0).toInt,AV.int .i64 (gC c i 1).toInt]])) δ) δ) δ) (κr (b,a))
def xca(c d:LA):StT (Nat×Int×LA) (Nat×LA):=λ(b,i,a)=>xhH c d b i a none inL inR
def xoq:=xDK.l 23 0 [] [] Tryz.f51 0 lk0 [0,1,5,6] [5] [(5,3,54)] (q4 (qL 3) (qL 2) (xNb 0 0 0) qI) (q1 (qB 0 3 54 xM3)) (λ(c,d,b,i,_) (a,_)=>(xca c d,(b,i,a),λ p=>(.leaf (.exit 0) [AV.osl 0 0 0 p.1] [bF 0 3 54 p.2]))) (0,[]) λ(c,d,_,_,_) _ (b,i,a)=>(((c,d,b,i,()),(a,())),xhH c d b i a none)
def xgZ(a b:LA):=(Iter (xca a b) (0,0,[])).getD (0,[])
def xnL{T:Type}(a b:LA)(δ:T)(κ:LA->T):T:=br ((Iter (xca a b) (0,0,[])).isSome) (br (decide (0+((xgZ a b).fst)<=((xgZ a b).snd).length)&&true) (κ (List.take ((xgZ a b).fst) (List.drop 0 ((xgZ a b).snd)))) δ) δ
def xj6(a b:LA):=xnL a b none some
def xDL:EO:=xDK.f Tryz.func51 23 0 [] [(3,xoq.lp)] (lk1 xoq.ok) (u2 (uL 3) (uL 2)) (λ(a,b,_) _=>xnL a b) (λ _ p=>AV.list 3 p) []
def xjk(g:LA)(a:Nat)(i:Int):=a+((xj6 (gC g i 0).toList ((xd2 (gC g i 1).toList).getD [])).getD []).length
def xkL{T:Type}(g:LA)(a:Nat)(i:Int)(b:LA)(δ:T)(κl:(Nat×Int×LA)->T)(κr:(Nat×LA)->T):T:=br (decide (i<g.length)) (br (ixI g i) (br (ixS g i (Sh.list 3) 0) (br (ixI g i) (br (ixS g i (Sh.list 2) 1) (br ((xd2 (gC g i 1).toList).isSome) (br ((xj6 (gC g i 0).toList ((xd2 (gC g i 1).toList).getD [])).isSome) (br (a==b.length&&(decide (xjk g a i*40<=140737488355328)&&decide (xjk g a i<=4611686018427387904))) (κl (xjk g a i,i64.wrap (i+1),b++(xj6 (gC g i 0).toList ((xd2 (gC g i 1).toList).getD [])).getD [])) δ) δ) δ) δ) δ) δ) δ) (κr (a,b))
def xeb(g:LA):StT (Nat×Int×LA) (Nat×LA):=λ(b,i,a)=>xkL g b i a none inL inR
def xqA:=xDL.l 29 0 [] [] Tryz.f36 0 lk0 [3,4,5] [4] [(4,3,54)] (q3 (qL 2) (xNb 0 0 0) qI) (q1 (qB 0 3 54 xM3)) (λ(g,b,i,_) (a,_)=>(xeb g,(b,i,a),λ p=>(.leaf (.exit 0) [AV.osl 0 0 0 p.1] [bF 0 3 54 p.2]))) (0,[]) λ(g,_,_,_) _ (b,i,a)=>(((g,b,i,()),(a,())),xkL g b i a none)
def xj5(l:LA):=(Iter (xeb ((xj7 l).getD [])) (0,0,[])).getD (0,[])
def xqX{T:Type}(l:LA)(δ:T)(κ:LA->T):T:=br ((xj7 l).isSome) (br ((Iter (xeb ((xj7 l).getD [])) (0,0,[])).isSome) (br (decide (0+((xj5 l).fst)<=((xj5 l).snd).length)&&true) (κ (List.take ((xj5 l).fst) (List.drop 0 ((xj5 l).snd)))) δ) δ) δ
def xtc(l:LA):=xqX l none some
def xDM:EO:=xDL.f Tryz.func36 29 0 [] [(4,xqA.lp)] (lk1 xqA.ok) (u1 (uL 3)) (λ(l,_) _=>xqX l) (λ _ p=>AV.list 3 p) []
def xhI{T:Type}(l a:LA)(i:Int)(δ:T)(κl:(LA×Int)->T)(κr:(LA)->T):T:=br (decide (i<l.length)) (br (ixI l i) (br (ixT l i 3 [Sh.int .i64,Sh.int .i64] 1) (br (xeR (gC l i 1).toInt (gC l i 2).toInt) (br (ixI l i) (br (ixS l i (Sh.int .i64) 1) (br ((xbO a (gC l i 1).toInt).isSome) (br (ixI l i) (br (ixS l i (Sh.int .i64) 2) (br (decide ((gC l i 2).toInt<1099511627776)) (br (ixI l i) (br (ixS l i (Sh.int .i64) 2) (br ((xbO ((xbO a (gC l i 1).toInt).getD []) (gC l i 2).toInt).isSome) (κl ((xbO ((xbO a (gC l i 1).toInt).getD []) (gC l i 2).toInt).getD [],i64.wrap (i+1))) δ) δ) δ) (κl ((xbO a (gC l i 1).toInt).getD [],i64.wrap (i+1)))) δ) δ) δ) δ) δ) (κl (a,i64.wrap (i+1)))) δ) δ) (κr (a))
def xcZ(l:LA):StT (LA×Int) (LA):=λ(a,i)=>xhI l a i none inL inR
def xos:=xDM.l 42 0 [] [] Tryz.f100 0 lk0 [0,3,4] [3] [(3,1,1073741824)] (q3 (qL 3) (qL 1) qI) xM1 (λ(l,a,i,_) _=>(xcZ l,(a,i),λ p=>(.leaf (.exit 0) [AV.list 1 p] []))) [] λ(l,_,_,_) _ (a,i)=>(((l,a,i,()),()),xhI l a i none)
def xnN{T:Type}(l:LA)(δ:T)(κ:LA->T):T:=br ((Iter (xcZ l) ([AV.int .i64 0],0)).isSome) (κ ((Iter (xcZ l) ([AV.int .i64 0],0)).getD [])) δ
def xmV(l:LA):=xnN l none some
def xDN:EO:=xDM.f Tryz.func100 42 0 [] [(3,xos.lp)] (lk1 xos.ok) (u1 (uL 3)) (λ(l,_) _=>xnN l) (λ _ p=>AV.list 1 p) []
def xls{T:Type}(l:LA)(t:Int)(b:Nat)(i:Int)(a:LA)(δ:T)(κl:(Nat×Int×LA)->T)(κr:(Nat×LA)->T):T:=br (decide (i<l.length)) (br (ixI l i) (br (ixT l i 3 [Sh.int .i64,Sh.int .i64] 1) (br (xhW (gC l i 1).toInt (gC l i 2).toInt t) (br (ixI l i) (br (ixS l i (Sh.list 3) 0) (br (rmB b a 1 24) (κl (b+1,i64.wrap (i+1),a++[AV.list 3 (gC l i 0).toList])) δ) δ) δ) (κl (b,i64.wrap (i+1),a))) δ) δ) (κr (b,a))
def xeH(l:LA)(t:Int):StT (Nat×Int×LA) (Nat×LA):=λ(b,i,a)=>xls l t b i a none inL inR
def xrm:=xDN.l 30 0 [] [] Tryz.f33 0 lk0 [0,1,5,6] [5] [(5,1,47)] (q4 (qL 3) qI (xNb 0 0 0) qI) (q1 (qB 0 1 47 xM3)) (λ(l,t,b,i,_) (a,_)=>(xeH l t,(b,i,a),λ p=>(.leaf (.exit 0) [AV.osl 0 0 0 p.1] [bF 0 1 47 p.2]))) (0,[]) λ(l,t,_,_,_) _ (b,i,a)=>(((l,t,b,i,()),(a,())),xls l t b i a none)
def xlh(l:LA)(t:Int):=(Iter (xeH l t) (0,0,[])).getD (0,[])
def xqW(l:LA)(t:Int):=xkK (List.take ((xlh l t).fst) (List.drop 0 ((xlh l t).snd)))
def xrX{T:Type}(l:LA)(t:Int)(δ:T)(κ:LA->T):T:=br ((Iter (xeH l t) (0,0,[])).isSome) (br (decide (0+((xlh l t).fst)<=((xlh l t).snd).length)&&true) (br ((xqW l t).isSome) (κ ((xqW l t).getD [])) δ) δ) δ
def xfy(l:LA)(t:Int):=xrX l t none some
def xDO:EO:=xDN.f Tryz.func33 30 0 [] [(3,xrm.lp)] (lk1 xrm.ok) (u2 (uL 3) uI) (λ(l,t,_) _=>xrX l t) (λ _ p=>AV.list 1 p) []
def xgx(a:LA)(i:Int):=decide (i64.wrap (i+1)<(↑a.length:Int))
def xfC{T:Type}(c:LA)(b:Nat)(i:Int)(a:LA)(δ:T)(κl:(Nat×Int×LA)->T)(κr:(Nat×LA)->T):T:=br (decide (i<c.length)) (br (xgx c i) (br (decide (0<=i64.wrap (i+1))&&xgx c i) (br (decide ((i64.wrap (i+1)).toNat<c.length)&&xMf (Sh.int .i64) ((c.getD (i64.wrap (i+1)).toNat .top).cells.getD 0 .top)) (br (ixI c i) (br (ixS c i (Sh.int .i64) 0) (br (rmB b a 1 16) (κl (b+1,i64.wrap (i+1),a++[AV.agg [AV.int .i64 (gC c i 0).toInt,AV.int .i64 ((c.getD (i64.wrap (i+1)).toNat .top).cells.getD 0 .top).toInt]])) δ) δ) δ) δ) δ) (br (ixI c i) (br (ixS c i (Sh.int .i64) 0) (br (rmB b a 1 16) (κl (b+1,i64.wrap (i+1),a++[AV.agg [AV.int .i64 (gC c i 0).toInt,AV.int .i64 1099511627776]])) δ) δ) δ)) (κr (b,a))
def xcb(c:LA):StT (Nat×Int×LA) (Nat×LA):=λ(b,i,a)=>xfC c b i a none inL inR
def xor:=xDO.l 44 0 [] [] Tryz.f65 0 lk0 [6,7,8] [7] [(7,2,52)] (q3 (qL 1) (xNb 0 0 0) qI) (q1 (qB 0 2 52 xM3)) (λ(c,b,i,_) (a,_)=>(xcb c,(b,i,a),λ p=>(.leaf (.exit 0) [AV.osl 0 0 0 p.1] [bF 0 2 52 p.2]))) (0,[]) λ(c,_,_,_) _ (b,i,a)=>(((c,b,i,()),(a,())),xfC c b i a none)
def xmU(a b:LA):=Iter (xcb ((xmV (List.take (a.length+b.length) (List.drop 0 (a++b)))).getD [])) (0,0,[])
def xg0(a b:LA):=(xmU a b).getD (0,[])
def xnM{T:Type}(a b:LA)(δ:T)(κ:LA->T):T:=br (decide (a.length*40<=140737488355328)&&decide (a.length<=4611686018427387904)) (br (a.length==a.length&&(decide ((a.length+b.length)*40<=140737488355328)&&decide (a.length+b.length<=4611686018427387904))) (br (decide (0+(a.length+b.length)<=(a++b).length)&&true) (br ((xmV (List.take (a.length+b.length) (List.drop 0 (a++b)))).isSome) (br ((xmU a b).isSome) (br (decide (0+((xg0 a b).fst)<=((xg0 a b).snd).length)&&true) (κ (List.take ((xg0 a b).fst) (List.drop 0 ((xg0 a b).snd)))) δ) δ) δ) δ) δ) δ
def xmT(a b:LA):=xnM a b none some
def xDP:EO:=xDO.f Tryz.func65 44 0 [] [(7,xor.lp)] (lk1 xor.ok) (u2 (uL 3) (uL 3)) (λ(a,b,_) _=>xnM a b) (λ _ p=>AV.list 2 p) []
def xhF{T:Type}(b:LA)(c:Nat)(i d e:Int)(a:LA)(δ:T)(κl:(Nat×Int×Int×Int×LA)->T)(κr:(Nat×LA)->T):T:=br (decide (i<b.length)) (br (ixI b i) (br (ixS b i (Sh.list 3) 0) (br (rmB c a 1 40) (κl (c+1,i64.wrap (i+1),d,e,a++[AV.agg [AV.list 3 (gC b i 0).toList,AV.int .i64 d,AV.int .i64 e]])) δ) δ) δ) (κr (c,a))
def xd4(c:LA):StT (Nat×Int×Int×Int×LA) (Nat×LA):=λ(b,i,d,e,a)=>xhF c b i d e a none inL inR
def xon:=xDP.l 23 0 [] [] Tryz.f66 0 lk0 [0,3,5,6] [5] [(5,3,54)] (q4 (qL 1) (xNc 0 0 0 0) (xNb 1 0 0) qI) (q2 (qB 0 2 52 (q1 (xNd (q2 qI qI)))) (qB 0 3 54 xM3)) (λ(c,_,b,i,_) (((d,e,_),_),a,_)=>(xd4 c,(b,i,d,e,a),λ p=>(.leaf (.exit 0) [AV.osl 0 0 0 p.1] [bF 0 3 54 p.2]))) (0,[]) λ(c,_,_,_,_) _ (b,i,d,e,a)=>(((c,(),b,i,()),(((d,e,()),()),a,())),xhF c b i d e a none)
def xmQ(a:LA)(b c:Int):=Iter (xd4 a) (0,0,b,c,[])
def xgX(a:LA)(b c:Int):=(xmQ a b c).getD (0,[])
def xnJ{T:Type}(a:LA)(b c:Int)(δ:T)(κ:LA->T):T:=br ((xmQ a b c).isSome) (br (decide (0+((xgX a b c).fst)<=((xgX a b c).snd).length)&&true) (κ (List.take ((xgX a b c).fst) (List.drop 0 ((xgX a b c).snd)))) δ) δ
def xp0(a:LA)(b c:Int):=xnJ a b c none some
def xDQ:EO:=xDP.f Tryz.func66 23 0 [] [(3,xon.lp)] (lk1 xon.ok) (u2 (uL 1) (xNg (u2 uI uI))) (λ(a,(b,c,_),_) _=>xnJ a b c) (λ _ p=>AV.list 3 p) []
def xcW{T:Type}(a:List UInt8)(i:Int)(δ:T)(κl:(Int)->T)(κr:(Bool×(Bool)×(Unit))->T):T:=br (decide (i<a.length)) (br (decide (0<=i)&&decide (i<a.length)) (br (decide ((↑(a.getD i.toNat (0:UInt8)).toNat:Int)<32)) (κr (true,(false),())) (br (decide (0<=i)&&decide (i<a.length)) (br (decide ((↑(a.getD i.toNat (0:UInt8)).toNat:Int)>126)) (κr (true,(false),())) (κl (i64.wrap (i+1)))) δ)) δ) (κr (false,false,()))
def xaH(a:List UInt8):StT (Int) (Bool×(Bool)×(Unit)):=λ(i)=>xcW a i none inL inR
def xl8:=xDQ.l 20 0 [] [] Tryz.f145 0 lk0 [0,3] [2] [] (q2 pStr qI) xM1 (λ(a,i,_) _=>(xaH a,(i),λ p=>(.node p.1 (.leaf .ret [AV.bool p.2.1] []) (.leaf (.exit 0) [.top] [])))) (false,false,()) λ(a,_,_) _ (i)=>(((a,i,()),()),xcW a i none)
def xkV{T:Type}(a:List UInt8)(δ:T)(κ:Bool->T):T:=br ((Iter (xaH a) 0).isSome) (br (((Iter (xaH a) 0).getD (false,false,())).fst) (κ (((Iter (xaH a) 0).getD (false,false,())).snd.fst)) (κ (true))) δ
def xjj(a:List UInt8):=xkV a none some
def xIO:EO:=xDQ.f Tryz.func145 20 0 [] [(2,xl8.lp)] (lk1 xl8.ok) (u1 (sEq pStr)) (λ(a,_) _=>xkV a) (λ _ p=>AV.bool p) false
def xoQ{T:Type}(c a:Int)(b:List UInt8)(δ:T)(κ:Bool->T):T:=br (c==0) (br (a==0) (κ (b==[])) (κ (false))) (br (c==1) (br (b==[]) (br (decide (a>=(-1125899906842624))) (κ (decide (a<=1125899906842624))) (κ (false))) (κ (false))) (br (c==2) (br (a==0) (br (decide ((↑b.length:Int)<=200)) (br ((xjj b).isSome) (κ ((xjj b).getD false)) δ) (κ (false))) (κ (false))) (br (c==3) (br (b==[]) (br (a==0) (κ (true)) (κ (a==1))) (κ (false))) (κ (false)))))
def xqU(a b:Int)(c:List UInt8):=xoQ a b c none some
def xDS:EO:=xIO.f Tryz.func127 61 0 [] [] lk0 (u1 (xNg (u3 uI uI (sEq pStr)))) (λ((a,b,c,_),_) _=>xoQ a b c) (λ _ p=>AV.bool p) false
def xeF(a:LA)(i:Int):=xqU (gC a i 0).toInt (gC a i 1).toInt (gC a i 2).toStr
def xd3{T:Type}(a b:LA)(i:Int)(δ:T)(κl:(Int)->T)(κr:(Bool×(Bool)×(Unit))->T):T:=br (decide (i<a.length)) (br (ixI a i) (br (ixT a i 3 [Sh.int .i64,Sh.int .i64,Sh.str] 0) (br ((xeF a i).isSome) (br (!(xeF a i).getD false) (κr (true,(false),())) (br (ixI a i) (br (ixS a i (Sh.int .i64) 0) (br ((gC a i 0).toInt !=0) (br (ixI a i) (br (ixS a i (Sh.int .i64) 0) (br (ixI b i) (br (ixS b i (Sh.int .i64) 0) (br ((gC a i 0).toInt !=(gC b i 0).toInt) (κr (true,(false),())) (κl (i64.wrap (i+1)))) δ) δ) δ) δ) (κl (i64.wrap (i+1)))) δ) δ)) δ) δ) δ) (κr (false,false,()))
def xaT(b a:LA):StT (Int) (Bool×(Bool)×(Unit)):=λ(i)=>xd3 b a i none inL inR
def xpW:=xDS.l 43 0 [] [] Tryz.f90 0 lk0 [0,1,5] [4] [] (q3 (qL 3) (qL 1) qI) xM1 (λ(b,a,i,_) _=>(xaT b a,(i),λ p=>(.node p.1 (.leaf .ret [AV.bool p.2.1] []) (.leaf (.exit 0) [.top] [])))) (false,false,()) λ(b,a,_,_) _ (i)=>(((b,a,i,()),()),xd3 b a i none)
def xpX{T:Type}(b a:LA)(δ:T)(κ:Bool->T):T:=br ((↑b.length:Int) !=(↑a.length:Int)) (κ (false)) (br ((Iter (xaT b a) 0).isSome) (br (((Iter (xaT b a) 0).getD (false,false,())).fst) (κ (((Iter (xaT b a) 0).getD (false,false,())).snd.fst)) (κ (true))) δ)
def xpn(b a:LA):=xpX b a none some
def xIP:EO:=xDS.f Tryz.func90 43 0 [] [(4,xpW.lp)] (lk1 xpW.ok) (u2 (uL 3) (uL 1)) (λ(b,a,_) _=>xpX b a) (λ _ p=>AV.bool p) false
def xgV(a b:LA):Nat:=0+a.length+b.length
def xnG{T:Type}(a b:LA)(δ:T)(κ:LA->T):T:=br (decide ((0+a.length)*32<=140737488355328)&&decide (0+a.length<=4611686018427387904)) (br (0+a.length==([]++a).length&&(decide (xgV a b*32<=140737488355328)&&decide (xgV a b<=4611686018427387904))) (br (decide (0+xgV a b<=([]++a++b).length)&&true) (κ (List.take (xgV a b) (List.drop 0 ([]++a++b)))) δ) δ) δ
def xj2(a b:LA):=xnG a b none some
def xIQ:EO:=xIP.f Tryz.func38 13 0 [] [] lk0 (u2 (uL 3) (uL 3)) (λ(a,b,_) _=>xnG a b) (λ _ p=>AV.list 3 p) []
def xrW(k:Int):Bool:=(br (k==1) ((true)) (br (k==2) ((true)) ((k==3))))
def xAc{T:Type}(k:Int)(δ:T)(κ:Bool->T):T:=br (k==1) (κ (true)) (br (k==2) (κ (true)) (κ (k==3)))
def xDT:EO:=xIQ.fT Tryz.func128 13 0 [] [] lk0 (λ(k,_)=>xAc k none) (u1 uI) (λ(k,_)=>xrW k) (λ _ p=>(AV.bool p))
def xgk{T:Type}(l:LA)(i:Int)(δ:T)(κl:(Int)->T)(κr:(Bool×(Bool)×(Unit))->T):T:=br (decide (i<l.length)) (br (ixI l i) (br (ixS l i (Sh.int .i64) 0) (br (!xrW (gC l i 0).toInt) (κr (true,(false),())) (κl (i64.wrap (i+1)))) δ) δ) (κr (false,false,()))
def xbc(l:LA):StT (Int) (Bool×(Bool)×(Unit)):=λ(i)=>xgk l i none inL inR
def xo4:=xDT.l 16 0 [] [] Tryz.f91 0 lk0 [0,3] [2] [] (q2 (qL 1) qI) xM1 (λ(l,i,_) _=>(xbc l,(i),λ p=>(.node p.1 (.leaf .ret [AV.bool p.2.1] []) (.leaf (.exit 0) [.top] [])))) (false,false,()) λ(l,_,_) _ (i)=>(((l,i,()),()),xgk l i none)
def xoS{T:Type}(l:LA)(δ:T)(κ:Bool->T):T:=br ((Iter (xbc l) 0).isSome) (br (((Iter (xbc l) 0).getD (false,false,())).fst) (κ (((Iter (xbc l) 0).getD (false,false,())).snd.fst)) (κ (true))) δ
def xn5(l:LA):=xoS l none some
def xDU:EO:=xDT.f Tryz.func91 16 0 [] [(2,xo4.lp)] (lk1 xo4.ok) (u1 (uL 1)) (λ(l,_) _=>xoS l) (λ _ p=>AV.bool p) false
def xeI{T:Type}(i:Int)(b a:LA)(δ:T)(κl:(Int×LA×LA)->T)(κr:(Bool×(Bool×LA×LA)×(LA×LA))->T):T:=br (decide (i<a.length)) (br (ixI a i) (br (ixT a i 3 [Sh.int .i64,Sh.int .i64] 1) (br (!xeR (gC a i 1).toInt (gC a i 2).toInt) (κr (true,(false,b,a),([],[]))) (br (ixI a i) (br (ixS a i (Sh.list 3) 0) (br ((xpn (gC a i 0).toList b).isSome) (br (!(xpn (gC a i 0).toList b).getD false) (κr (true,(false,b,a),([],[]))) (κl (i64.wrap (i+1),b,a))) δ) δ) δ)) δ) δ) (κr (false,(false,[],[]),(b,a)))
def xbd:StT (Int×LA×LA) (Bool×(Bool×LA×LA)×(LA×LA)):=λ(i,a,b)=>xeI i a b none inL inR
def xo6:=xDU.l 46 0 [] [] Tryz.f57 0 lk0 [1,3] [1,2] [] (q2 (xNc 0 0 0 0) qI) (q1 (qB 0 2 25 (q1 (xNd (q2 (qL 1) (qL 3)))))) (λ(_,i,_) (((a,b,_),_),_)=>(xbd,(i,a,b),λ p=>(.node p.1 (.leaf .ret [AV.own 0 0 0 0,AV.bool p.2.1.1] [bF 0 2 25 [AV.agg [AV.list 1 p.2.1.2.1,AV.list 3 p.2.1.2.2]]]) (.leaf (.exit 0) [AV.own 0 0 0 0,.top] [bF 0 2 25 [AV.agg [AV.list 1 p.2.2.1,AV.list 3 p.2.2.2]]])))) (false,(false,[],[]),([],[])) λ _ _ (i,a,b)=>((((),i,()),(((a,b,()),()),())),xeI i a b none)
def xdH(a b:LA):=(Iter xbd (0,a,b)).getD (false,(false,[],[]),[],[])
def xh5(a b:LA):=(↑(((xdH a b).snd).snd.fst).length:Int)
def xoW{T:Type}(a b:LA)(δ:T)(κ:Bool->T):T:=br ((Iter xbd (0,a,b)).isSome) (br ((xdH a b).fst) (κ (((xdH a b).snd).fst.fst)) (br (decide (xh5 a b>0)) (br (decide (xh5 a b<=48)) (br ((xn5 (((xdH a b).snd).snd.fst)).isSome) (κ ((xn5 (((xdH a b).snd).snd.fst)).getD false)) δ) (κ (false))) (κ (false)))) δ
def xf2(a b:LA):=xoW a b none some
def xDV:EO:=xDU.f Tryz.func57 46 0 [] [(2,xo6.lp)] (lk1 xo6.ok) (u1 (xNg (u2 (uL 1) (uL 3)))) (λ((a,b,_),_) _=>xoW a b) (λ _ p=>AV.bool p) false
def xfP{T:Type}(a b:LA)(i:Int)(δ:T)(κl:(Int)->T)(κr:(Bool×(Bool)×(Unit))->T):T:=br (decide (i<a.length)) (br (ixI a i) (br (ixS a i (Sh.int .i64) 0) (br (ixI b i) (br (ixS b i (Sh.int .i64) 0) (br ((gC a i 0).toInt !=(gC b i 0).toInt) (κr (true,(false),())) (κl (i64.wrap (i+1)))) δ) δ) δ) δ) (κr (false,false,()))
def xbj(a b:LA):StT (Int) (Bool×(Bool)×(Unit)):=λ(i)=>xfP a b i none inL inR
def xl9:=xDV.l 26 0 [] [] Tryz.f39 0 lk0 [0,1,5] [4] [] (q3 (qL 1) (qL 1) qI) xM1 (λ(a,b,i,_) _=>(xbj a b,(i),λ p=>(.node p.1 (.leaf .ret [AV.bool p.2.1] []) (.leaf (.exit 0) [.top] [])))) (false,false,()) λ(a,b,_,_) _ (i)=>(((a,b,i,()),()),xfP a b i none)
def xkX{T:Type}(a b:LA)(δ:T)(κ:Bool->T):T:=br ((↑a.length:Int) !=(↑b.length:Int)) (κ (false)) (br ((Iter (xbj a b) 0).isSome) (br (((Iter (xbj a b) 0).getD (false,false,())).fst) (κ (((Iter (xbj a b) 0).getD (false,false,())).snd.fst)) (κ (true))) δ)
def xgW(a b:LA):=xkX a b none some
def xIR:EO:=xDV.f Tryz.func39 26 0 [] [(4,xl9.lp)] (lk1 xl9.ok) (u2 (uL 1) (uL 1)) (λ(a,b,_) _=>xkX a b) (λ _ p=>AV.bool p) false
def xoU{T:Type}(a b c d:LA)(δ:T)(κ:Bool->T):T:=br ((xgW a c).isSome) (br ((xgW a c).getD false) (br ((xbr b d).isSome) (κ ((xbr b d).getD false)) δ) (κ (false))) δ
def xlg(a b c d:LA):=xoU a b c d none some
def xDW:EO:=xIR.f Tryz.func12 17 0 [] [] lk0 (u2 (xNg (u2 (uL 1) (uL 3))) (xNg (u2 (uL 1) (uL 3)))) (λ((a,b,_),(c,d,_),_) _=>xoU a b c d) (λ _ p=>AV.bool p) false
def xgl{T:Type}(l a:LA)(n i:Int)(δ:T)(κl:(Int×Int)->T)(κr:(Int)->T):T:=br (decide (i<l.length)) (br (ixI l i) (br (ixS l i (Sh.list 3) 0) (br ((xaP (gC l i 0).toList a).isSome) (br ((xaP (gC l i 0).toList a).getD 0==0) (κl (i64.wrap (n+1),i64.wrap (i+1))) (κl (n,i64.wrap (i+1)))) δ) δ) δ) (κr (n))
def xbF(l a:LA):StT (Int×Int) (Int):=λ(n,i)=>xgl l a n i none inL inR
def xo5:=xDW.l 23 0 [] [] Tryz.f37 0 lk0 [0,1,5,6] [5] [] (q4 (qL 1) (qL 3) qI qI) xM1 (λ(l,a,n,i,_) _=>(xbF l a,(n,i),λ p=>(.leaf (.exit 0) [AV.int .i64 p] []))) 0 λ(l,a,_,_,_) _ (n,i)=>(((l,a,n,i,()),()),xgl l a n i none)
def xoT{T:Type}(l a:LA)(δ:T)(κ:Int->T):T:=br ((Iter (xbF l a) (0,0)).isSome) (κ ((Iter (xbF l a) (0,0)).getD 0)) δ
def xn6(l a:LA):=xoT l a none some
def xHb:EO:=xDW.f Tryz.func37 23 0 [] [(3,xo5.lp)] (lk1 xo5.ok) (u2 (uL 1) (uL 3)) (λ(l,a,_) _=>xoT l a) (λ _ p=>AV.int .i64 p) 0
def xcJ(a b:LA):=i64.wrap ((↑a.length:Int) - (↑b.length:Int))
def xg5(a b:LA):=xgW (List.take (a.length - (xcJ a b).toNat) (List.drop (xcJ a b).toNat a)) b
def xkZ{T:Type}(a c b d:LA)(δ:T)(κ:Bool->T):T:=br (decide (xcJ a b>0)) (br ((xf2 a c).isSome) (br ((xf2 a c).getD false) (br ((xf2 b d).isSome) (br ((xf2 b d).getD false) (br (decide (0<=xcJ a b)&&decide (xcJ a b<=a.length)) (br ((xg5 a b).isSome) (κ ((xg5 a b).getD false)) δ) δ) (κ (false))) δ) (κ (false))) δ) (κ (false))
def xjm(a b c d:LA):=xkZ a b c d none some
def xuV:EO:=xHb.f Tryz.func22 32 0 [] [] lk0 (u2 (xNg (u2 (uL 1) (uL 3))) (xNg (u2 (uL 1) (uL 3)))) (λ((a,b,_),(c,d,_),_) _=>xkZ a b c d) (λ _ p=>AV.bool p) false
def xgv{T:Type}(a b:LA)(n:Int)(d:Nat)(i:Int)(c:LA)(δ:T)(κl:(Nat×Int×LA)->T)(κr:(Nat×LA)->T):T:=br (decide (i<a.length)) (br (ixI a i) (br (ixS a i (Sh.list 3) 0) (br (decide (0<=n)&&decide (n<=(↑(gC a i 0).toList.length:Int))&&true) (br (rmB d c 1 24) (κl (d+1,i64.wrap (i+1),c++[AV.list 3 (List.take (n.toNat - 0) (List.drop 0 (gC a i 0).toList))])) δ) δ) δ) δ) (κr (d,c))
def xch(a b:LA)(n:Int):StT (Nat×Int×LA) (Nat×LA):=λ(d,i,c)=>xgv a b n d i c none inL inR
def xfR:=xuV.l 66 0 [] [] Tryz.f34 0 lk0 [0,1,2,7,8] [0,1,7] [(7,1,47)] (q5 (qL 1) (qL 1) qI (xNb 0 0 0) qI) (q1 (qB 0 1 47 xM3)) (λ(a,b,n,d,i,_) (c,_)=>(xch a b n,(d,i,c),λ p=>(.leaf (.exit 0) [AV.list 1 a,AV.list 1 b,AV.osl 0 0 0 p.1] [bF 0 1 47 p.2]))) (0,[]) λ(a,b,n,_,_,_) _ (d,i,c)=>(((a,b,n,d,i,()),(c,())),xgv a b n d i c none)
def xeu{T:Type}(a b c:LA)(f:Nat)(i:Int)(e:Bool)(k:Int)(d:LA)(δ:T)(κl:(Bool×Int×LA)->T)(κr:(Bool×LA)->T):T:=br (decide (k<b.length)) (br (e) (br (ixI c i) (br (ixS c i (Sh.list 3) 0) (br (ixI b k) (br (ixS b k (Sh.list 3) 0) (br ((xj2 (gC c i 0).toList (gC b k 0).toList).isSome) (br ((xn6 a ((xj2 (gC c i 0).toList (gC b k 0).toList).getD [])).isSome) (κl (decide ((xn6 a ((xj2 (gC c i 0).toList (gC b k 0).toList).getD [])).getD 0>0),i64.wrap (k+1),d)) δ) δ) δ) δ) δ) δ) (κl (false,i64.wrap (k+1),d))) (κr (e,d))
def xa7(a b d:LA)(e:Nat)(i:Int):StT (Bool×Int×LA) (Bool×LA):=λ(f,k,c)=>xeu a b d e i f k c none inL inR
def xfS:=xuV.l 66 0 [] [(3,xfR.lp)] Tryz.f34 2 lk0 [0,1,7,9,10,11,12] [0,1,7,9,10,11] [(7,1,47),(9,1,47)] (q7 (qL 1) (qL 1) (qL 1) (xNb 0 0 0) qI pBool qI) (q1 (qB 0 1 47 xM3)) (λ(a,b,c,d,i,f,k,_) (e,_)=>(xa7 a b c d i,(f,k,e),λ p=>(.leaf (.exit 4) [AV.list 1 a,AV.list 1 b,AV.list 1 c,AV.osl 0 0 0 d,AV.int .i64 i,AV.bool p.1] [bF 0 1 47 p.2]))) (false,[]) λ(a,b,c,d,i,_,_,_) _ (f,k,e)=>(((a,b,c,d,i,f,k,()),(e,())),xeu a b c d i f k e none)
def xc2(a b d:LA)(e:Nat)(i:Int)(c:LA):=(Iter (xa7 a b d e i) (true,0,c)).getD (false,[])
def xet{T:Type}(a b d:LA)(c:Nat)(i:Int)(e:LA)(δ:T)(κl:(Nat×Int×LA)->T)(κr:(Nat×LA)->T):T:=br (decide (i<d.length)) (br ((Iter (xa7 a b d c i) (true,0,e)).isSome) (br ((xc2 a b d c i e).fst) (br (ixI d i) (br (ixS d i (Sh.list 3) 0) (br (c==((xc2 a b d c i e).snd).length&&(decide ((c+1)*24<=140737488355328)&&decide (c+1<=4611686018427387904))) (κl (c+1,i64.wrap (i+1),((xc2 a b d c i e).snd)++[AV.list 3 (gC d i 0).toList])) δ) δ) δ) (κl (c,i64.wrap (i+1),((xc2 a b d c i e).snd)))) δ) (κr (c,e))
def xci(a b d:LA):StT (Nat×Int×LA) (Nat×LA):=λ(e,i,c)=>xet a b d e i c none inL inR
def xmx:=xuV.l 66 0 [] [(3,xfR.lp),(13,xfS.lp)] Tryz.f34 1 (lk1 xfS.ok) [0,1,7,9,10] [9] [(7,1,47),(9,1,47)] (q5 (qL 1) (qL 1) (qL 1) (xNb 0 0 0) qI) (q1 (qB 0 1 47 xM3)) (λ(a,b,d,e,i,_) (c,_)=>(xci a b d,(e,i,c),λ p=>(.leaf (.exit 2) [AV.osl 0 0 0 p.1] [bF 0 1 47 p.2]))) (0,[]) λ(a,b,d,_,_,_) _ (e,i,c)=>(((a,b,d,e,i,()),(c,())),xet a b d e i c none)
def xfF(a b:LA)(n:Int):=(Iter (xch a b n) (0,0,[])).getD (0,[])
def xkx(a b:LA)(n:Int):=xkJ (List.take ((xfF a b n).fst) (List.drop 0 ((xfF a b n).snd)))
def xec(a b:LA)(n:Int):=Iter (xci a b ((xkx a b n).getD [])) (0,0,[])
def xlR{T:Type}(a b:LA)(n:Int)(δ:T)(κ:LA->T):T:=br ((Iter (xch a b n) (0,0,[])).isSome) (br (decide (0+((xfF a b n).fst)<=((xfF a b n).snd).length)&&true) (br ((xkx a b n).isSome) (br ((xec a b n).isSome) (br (decide (0+(((xec a b n).getD (0,[])).fst)<=(((xec a b n).getD (0,[])).snd).length)&&true) (κ (List.take (((xec a b n).getD (0,[])).fst) (List.drop 0 (((xec a b n).getD (0,[])).snd)))) δ) δ) δ) δ) δ
def xf9(a b:LA)(n:Int):=xlR a b n none some
def xDX:EO:=xuV.f Tryz.func34 66 0 [] [(3,xfR.lp),(13,xfS.lp),(9,xmx.lp)] (lks (lkC xfR.ok (lkC xmx.ok (lkC xfS.ok lkN)))) (u3 (uL 1) (uL 1) uI) (λ(a,b,n,_) _=>xlR a b n) (λ _ p=>AV.list 1 p) []
def xka(n:Int)(a:LA)(i:Int)(b c:LA):=xf9 ((xfy b (gC a i 0).toInt).getD []) ((xfy c (gC a i 0).toInt).getD []) n
def xdL(n:Int)(a:LA)(i:Int)(b c:LA):=xp0 ((xka n a i b c).getD []) (gC a i 0).toInt (gC a i 1).toInt
def xhK{T:Type}(n:Int)(a:LA)(b:Nat)(i:Int)(f c g d e:LA)(δ:T)(κl:(Nat×Int×LA×LA×LA×LA×LA)->T)(κr:(Nat×LA×LA×LA)->T):T:=br (decide (i<a.length)) (br (ixI a i) (br (ixS a i (Sh.int .i64) 0) (br ((xfy c (gC a i 0).toInt).isSome) (br (ixI a i) (br (ixS a i (Sh.int .i64) 0) (br ((xfy d (gC a i 0).toInt).isSome) (br ((xka n a i c d).isSome) (br (ixI a i) (br (ixT a i 2 [Sh.int .i64,Sh.int .i64] 0) (br ((xdL n a i c d).isSome) (br (b==e.length&&(decide ((b+((xdL n a i c d).getD []).length)*40<=140737488355328)&&decide ((b+((xdL n a i c d).getD []).length)<=4611686018427387904))) (κl ((b+((xdL n a i c d).getD []).length),i64.wrap (i+1),f,c,g,d,e++((xdL n a i c d).getD []))) δ) δ) δ) δ) δ) δ) δ) δ) δ) δ) δ) (κr (b,f,c,e))
def xc1(n:Int)(g:LA):StT (Nat×Int×LA×LA×LA×LA×LA) (Nat×LA×LA×LA):=λ(b,i,c,d,e,f,a)=>xhK n g b i c d e f a none inL inR
def xow:=xDX.l 61 0 [] [] Tryz.f24 0 lk0 [2,3,4,5,6,7,8] [2,4,5,7] [(7,3,54)] (q7 (xNc 0 0 0 0) (xNc 1 0 0 0) (xNc 2 0 0 0) qI (qL 2) (xNb 3 0 0) qI) (q4 (qB 0 2 25 (q1 (xNd (q2 (qL 1) (qL 3))))) (qB 0 2 25 (q1 (xNd (q2 (qL 1) (qL 3))))) (qB 0 2 25 (q1 (xNd (q2 pNils pNils)))) (qB 0 3 54 xM3)) (λ(_,_,_,n,g,b,i,_) (((c,d,_),_),((e,f,_),_),((_,_,_),_),a,_)=>(xc1 n g,(b,i,c,d,e,f,a),λ p=>(.leaf (.exit 0) [AV.own 0 0 0 0,AV.own 1 0 0 0,AV.int .i64 n,AV.osl 2 0 0 p.1] [bF 0 2 25 [AV.agg [AV.list 1 p.2.1,AV.list 3 p.2.2.1]],bF 0 2 25 [AV.agg [AV.nils,AV.nils]],bF 0 3 54 p.2.2.2]))) (0,[],[],[]) λ(_,_,_,n,g,_,_,_) _ (b,i,c,d,e,f,a)=>((((),(),(),n,g,b,i,()),(((c,d,()),()),((e,f,()),()),(((),(),()),()),a,())),xhK n g b i c d e f a none)
def xfj(a b:LA):=i64.wrap ((↑a.length:Int) - (↑b.length:Int))
def xmZ(a b c d:LA):=Iter (xc1 (xfj a c) ((xmT b d).getD [])) (0,0,a,b,c,d,[])
def xd5(a b c d:LA):=(xmZ a b c d).getD (0,[],[],[])
def xmY(a b c d:LA):=xtc (List.take ((xd5 a b c d).fst) (List.drop 0 (((xd5 a b c d).snd).snd.snd)))
def xnQ{T:Type}(a c b d:LA)(δ:T)(κ:LA×LA->T):T:=br ((xmT c d).isSome) (br ((xmZ a c b d).isSome) (br (decide (0<=xfj a b)&&decide (xfj a b<=(↑(((xd5 a c b d).snd).fst).length:Int))&&true) (br (decide (0+((xd5 a c b d).fst)<=(((xd5 a c b d).snd).snd.snd).length)&&true) (br ((xmY a c b d).isSome) (κ (List.take ((xfj a b).toNat - 0) (List.drop 0 (((xd5 a c b d).snd).fst)),(xmY a c b d).getD [])) δ) δ) δ) δ) δ
def xj9(a b c d:LA):=xnQ a b c d none some
def xIS:EO:=xDX.f Tryz.func24 61 0 [] [(5,xow.lp)] (lk1 xow.ok) (u2 (xNg (u2 (uL 1) (uL 3))) (xNg (u2 (uL 1) (uL 3)))) (λ((a,b,_),(c,d,_),_) _=>xnQ a b c d) (λ _ p=>AV.agg [AV.list 1 p.1,AV.list 3 p.2]) ([],[])
def xqO{T:Type}(a b:LA)(δ:T)(κ:Bool->T):T:=br (decide ((↑b.length:Int)<=16)) (br (decide ((↑a.length:Int)<=48)) (br ((xf2 a b).isSome) (κ ((xf2 a b).getD false)) δ) (κ (false))) (κ (false))
def xl5(a b:LA):=xqO a b none some
def xDy:EO:=xIS.f Tryz.func21 17 0 [] [] lk0 (u1 (xNg (u2 (uL 1) (uL 3)))) (λ((a,b,_),_) _=>xqO a b) (λ _ p=>AV.bool p) false
end Go.Sim.M
