/- Part 13 of the proof of the law. -/
import Derived.Test.YtodofdnlhoknhaaGreatDoorTQ12
import Derived.StillTailTactics
set_option linter.defProp false
set_option linter.unusedVariables false
set_option linter.unusedSimpArgs false
set_option maxRecDepth 100000
noncomputable section
namespace Go.Sim.M
def cmpI(x y:Int):Int:=if x<y then -1 else if y<x then 1 else 0
def orI(x y:Int):Int:=if x=0 then y else x
end Go.Sim.M
namespace Go.Proofs
open Go.RowKit Go.Sim Go.Sim.M Go.Sort Go.Lib
def Tryz.cmp_walk(x y:Int)(w:World):Calls Tryz.prog 110 #[.int .i64 x,.int .i64 y] w λ e w'=>e=.returned (.int .i64 (cmpI x y))/\w'=w:=by unfold cmpI;go_enter Tryz.func110,Tryz.ntmps110;go_wp2;all_goals (go_ret;exact⟨rfl,rfl⟩)
def Tryz.or_walk(x y:Int)(b off c:Nat)(w:World)(h0:w.cell? ⟨b,off,none⟩=some (.int .i64 x))(h1:w.cell? ⟨b,off+1,none⟩=some (.int .i64 y)):Calls Tryz.prog 109 #[.slice (some ⟨b,off,none⟩) 2 c] w λ e w'=>e=.returned (.int .i64 (orI x y))/\w'=w:=by
 unfold orI;by_cases hx:x=0
 . subst hx;rw[if_pos rfl];by_cases hy:y=0
   . subst hy
     go_enter Tryz.func109,Tryz.ntmps109
     go_wp2
     refine wp_loop_rounds 3 ?_;rw[rounds_succ]
     go_wp2
     rw[rounds_succ]
     go_wp2
     rw[rounds_succ]
     go_wp2
     go_ret
     exact⟨rfl,rfl⟩
   . have hy':(y !=0)=true:=by simpa using hy
     go_enter Tryz.func109,Tryz.ntmps109
     go_wp2
     refine wp_loop_rounds 3 ?_;rw[rounds_succ]
     go_wp2
     rw[rounds_succ]
     go_wp2
     go_ret
     exact⟨rfl,rfl⟩
 . have hx':(x !=0)=true:=by simpa using hx
   rw[if_neg hx]
   go_enter Tryz.func109,Tryz.ntmps109
   go_wp2
   refine wp_loop_rounds 3 ?_;rw[rounds_succ]
   go_wp2
   go_ret
   exact⟨rfl,rfl⟩
def fill2I(u1 u2:Int):Instr.fill (λ i=>some (i*1,1)) ((Array.range (2*1)).map (λ x=>(Value.int .i64 0).cells[x % (Value.int .i64 0).cells.size]!)) [(0,.int .i64 u1),(1,.int .i64 u2)]=some #[.int .i64 u1,.int .i64 u2]:=by simp[Instr.fill,Array.range,Value.cells];apply Array.ext;simp;intro i h1 h2;rcases i with _|_|i;simp;simp;simp at h2;omega
set_option maxHeartbeats 2000000 in
def Tryz.levels2_walk(a b c d:Int)(w:World):Calls Tryz.prog 108 #[.agg #[.int .i64 a,.int .i64 b],.agg #[.int .i64 c,.int .i64 d]] w λ e w'=>e=.returned (.int .i64 (orI (cmpI a c) (cmpI b d)))/\∃q J,w'=Sort.grow (w.drewN q) J:=by
 go_enter Tryz.func108,Tryz.ntmps108;go_wp2_with (go_at_call 110;skip);have g0:(w.alloc (.cells #[.int .i64 a,.int .i64 b] 52)).heap[w.heap.size]?=some (.cells #[.int .i64 a,.int .i64 b] 52 (0,0)):=heap_alloc_new w _;have g1:((w.alloc (.cells #[.int .i64 a,.int .i64 b] 52)).alloc (.cells #[.int .i64 c,.int .i64 d] 52)).heap[w.heap.size+1]?=some (.cells #[.int .i64 c,.int .i64 d] 52 (0,0)):=by(have:=heap_alloc_new (w.alloc (.cells #[.int .i64 a,.int .i64 b] 52)) (.cells #[.int .i64 c,.int .i64 d] 52);have e:(w.alloc (.cells #[.int .i64 a,.int .i64 b] 52)).heap.size=w.heap.size+1:=by simp);rwa [e]at this
 have f0:((w.alloc (.cells #[.int .i64 a,.int .i64 b] 52)).alloc (.cells #[.int .i64 c,.int .i64 d] 52)).cell? ⟨w.heap.size,0,none⟩=some (.int .i64 a):=by rw[World.cell?_alloc_past _ _ _ (by simp)];simp only[World.cell?,g0];rfl
 have f1:((w.alloc (.cells #[.int .i64 a,.int .i64 b] 52)).alloc (.cells #[.int .i64 c,.int .i64 d] 52)).cell? ⟨w.heap.size,1,none⟩=some (.int .i64 b):=by rw[World.cell?_alloc_past _ _ _ (by simp)];simp only[World.cell?,g0];rfl
 have f2:((w.alloc (.cells #[.int .i64 a,.int .i64 b] 52)).alloc (.cells #[.int .i64 c,.int .i64 d] 52)).cell? ⟨w.heap.size+1,0,none⟩=some (.int .i64 c):=by simp only[World.cell?,g1];rfl
 have f3:((w.alloc (.cells #[.int .i64 a,.int .i64 b] 52)).alloc (.cells #[.int .i64 c,.int .i64 d] 52)).cell? ⟨w.heap.size+1,1,none⟩=some (.int .i64 d):=by simp only[World.cell?,g1];rfl
 have f4:∃q J,((w.alloc (.cells #[.int .i64 a,.int .i64 b] 52)).alloc (.cells #[.int .i64 c,.int .i64 d] 52))=Sort.grow (w.drewN q) J:=⟨0,_,by rw[alloc_eq_grow,alloc_eq_grow,grow_grow];rfl⟩;generalize ((w.alloc (.cells #[.int .i64 a,.int .i64 b] 52)).alloc (.cells #[.int .i64 c,.int .i64 d] 52))=W2 at f0 f1 f2 f3 f4|-;refine wp_region_still_tail 10 (by kernel_rfl) (by kernel_rfl) ?_;simp only[List.take_succ_cons,List.take_zero,List.drop_succ_cons,List.drop_zero];change wpStill _ _ (World.drew W2) _ _ _;have f0':W2.drew.cell? ⟨w.heap.size,0,none⟩=some (.int .i64 a):=f0;have f1':W2.drew.cell? ⟨w.heap.size,1,none⟩=some (.int .i64 b):=f1;have f2':W2.drew.cell? ⟨w.heap.size+1,0,none⟩=some (.int .i64 c):=f2;have f3':W2.drew.cell? ⟨w.heap.size+1,1,none⟩=some (.int .i64 d):=f3;have f4':∃q J,W2.drew=Sort.grow (w.drewN q) J:=by obtain⟨q,J,e⟩:=f4;exact⟨q+1,J,by rw[e];rfl⟩
 iterate 4 still_step
 still_call (Tryz.cmp_walk _ _ _);iterate 4 still_step
 still_call (Tryz.cmp_walk _ _ _);refine wpStill_nil ?_;change wpList _ _ _ _ _ (World.drew W2);generalize World.drew W2=W at f0' f1' f2' f3' f4'|-;generalize O:cmpI a c=u1;generalize Q:cmpI b d=u2;obtain⟨ie,q1,q2,q3⟩:∃ie,Tryz.prog.info? 3=some ie/\ie.zero=some (.int .i64 0)/\ie.size=1:=⟨(Tryz.prog.info? 3).get (by kernel_rfl),(Option.some_get _).symm,by kernel_rfl,by kernel_rfl⟩;refine wpList_buildSlice rfl 22 3 2 _ rfl #[.int .i64 u1,.int .i64 u2] ie (.int .i64 0) (by kernel_rfl) q1 q2 (by rw[q3];decide) (by rw[q3];decide) (by rw[q3];refine Eq.trans (congrArg _ ?_) (fill2I u1 u2);simp[Act.eval]) ?_;simp only[Act.put];go_wp2_with fail;have g2:(W.alloc (.cells #[.int .i64 u1,.int .i64 u2] 3)).heap[W.heap.size]?=some (.cells #[.int .i64 u1,.int .i64 u2] 3 (0,0)):=heap_alloc_new W _;refine(Tryz.or_walk u1 u2 W.heap.size 0 2 (W.alloc (.cells #[.int .i64 u1,.int .i64 u2] 3)) (by simp only[World.cell?,g2];rfl) (by simp only[World.cell?,g2];rfl)).mono ?_;rintro e w' ⟨rfl,rfl⟩;go_wp2;go_ret;obtain⟨q,J,hq⟩:=f4';exact⟨by rw[O,Q];rfl,q,_,by rw[hq,alloc_eq_grow,grow_grow]⟩
end Go.Proofs
namespace Go.Sim.M
abbrev TyE:Type:=Fin 1099511627777×Int×Int
def intsE(x:TyE):List Int:=[(x.1.val:Int),x.2.1,x.2.2]
def cmpE(x y:TyE):Int:=(x.1.val:Int) - (y.1.val:Int)
end Go.Sim.M
namespace Go.Proofs
open Go.RowKit Go.Sim Go.Sim.M Go.Sort
set_option maxHeartbeats 1000000 in
def Tryz.walkE(a b c a' b' c' r:Int)(hr:IntKind.i64.wrap (a - a')=r)(W:World):Calls Tryz.prog 147 #[.agg #[.int .i64 a,.int .i64 b,.int .i64 c],.agg #[.int .i64 a',.int .i64 b',.int .i64 c']] W λ e w'=>e=.returned (.int .i64 r)/\∃q os',w'=Sort.grow (W.drewN q) os':=by go_enter Tryz.func147,Tryz.ntmps147;go_wp2;go_ret;subst hr;exact⟨rfl,0,_,by rw[alloc_eq_grow,alloc_eq_grow,grow_grow];rfl⟩
end Go.Proofs
namespace Go.Sim.M
open Go.RowKit Go.Proofs Go.Sort
def isE:AV->Bool|.agg [.int .i64 a,.int .i64 _,.int .i64 _]=>decide (0<=a)&&decide (a<=1099511627776)|_=>false
def decE:AV->TyE|.agg [.int _ a,.int _ b,.int _ c]=>(Fin.ofNat 1099511627777 a.toNat,b,c)|_=>default
noncomputable def srtE(xs:List AV):List AV:=(pdqL cmpE (xs.map decE)).map (encI intsE)
def xFb{x:AV}(h:isE x):encI intsE (decE x)=x:=by unfold isE at h;split at h;rename_i a b c;simp only[Bool.and_eq_true,decide_eq_true_eq]at h;have:a.toNat % 1099511627777=a.toNat:=Nat.mod_eq_of_lt (by omega);simp only[decE,encI,intsE,List.map_cons,List.map_nil,Fin.ofNat,this,Int.toNat_of_nonneg h.1];simp at h
def xDC{xs:List AV}(h:xs.all isE):(xs.map decE).map (encI intsE)=xs:=by rw[List.map_map];(conv=>rhs;rw[<-List.map_id xs]);refine List.map_congr_left λ x hx=>?_;exact xFb (List.all_eq_true.1 h x hx)
def ltE(x y:TyE):ltOf cmpE x y=decide (x.1.val<y.1.val):=by unfold ltOf cmpE;by_cases h:x.1.val<y.1.val;rw[decide_eq_true h,decide_eq_true (by omega)];rw[decide_eq_false h,decide_eq_false (by omega)]
def swoE:SWO (ltOf cmpE) where
 irrefl x:=by rw[ltE];simp
 trans x y z h1 h2:=by rw[ltE]at *;simp at *;omega
 ntrans x y z h1 h2:=by rw[ltE]at *;simp at *;omega
noncomputable def xv5:List AV->List Box->Option (Bool×AV×List Box)|[.osl (.b 0) ver 0 n,.func g []],[⟨ver',3,ty,xs,false,true⟩]=>(match Nat.beq g 147&&Nat.beq ty 154 with|true=>some (Nat.beq ver ver'&&(Nat.beq n xs.length&&(decide (n<4611686018427387904)&&xs.all isE)),.tuple [],[⟨ver',3,154,srtE xs,false,true⟩])|false=>none)|_,_=>none
def xHk:OmOk Tryz.prog xMa 146 xv5:=λ Q H r H' h=>by
 unfold xv5 at h;split at h;rename_i ver n g O ty xs;split at h;case h_2=>simp at h
 rename_i hg;simp only[Bool.and_eq_true]at hg;obtain rfl:=Nat.eq_of_beq_eq_true hg.1;obtain rfl:=Nat.eq_of_beq_eq_true hg.2;simp only[Option.some.injEq,Prod.mk.injEq,Bool.and_eq_true,decide_eq_true_eq]at h;obtain⟨⟨h1,h2,h3,h4⟩,rfl,rfl⟩:=h;obtain rfl:=Nat.eq_of_beq_eq_true h1;obtain rfl:=Nat.eq_of_beq_eq_true h2;have q:∃ti,xLs Tryz.prog 154=some ti/\ti.sz=3/\ti.agg=true:=by(have h:(match xLs Tryz.prog 154 with|some ti=>(ti.sz==3)&&ti.agg|none=>false)=true:=by kernel_rfl);split at h;rename_i ti q;simp only[Bool.and_eq_true,beq_iff_eq]at h;exact⟨ti,q,h.1,h.2⟩;simp at h
 obtain⟨ti,q,hz,ha⟩:=q;have J:=xoA (P:=Tryz.prog) (Inv:=xMa) Tryz.srl146 3 (by decide) (λ w=>by rw[<-ha];exact xkw q w) (λ w=>by rw[<-hz];exact xde q w)
  intsE (λ _=>rfl) cmpE swoE 147 rfl (xdu Tryz.func146 rfl (by kernel_rfl)) (xmb (xdu Tryz.func147 rfl (by kernel_rfl)))
  (fun x y W=>Tryz.walkE _ _ _ _ _ _ (cmpE x y) (by
   have:=x.1.isLt;have:=y.1.isLt;unfold cmpE;exact xav (by omega) (by omega)) W)
  ver 154 rfl (xs.map decE) (by simpa using h3)
 rw[List.length_map,xDC h4]at J;exact J;simp at h
end Go.Sim.M
namespace Go.Sim.M
abbrev TyS:Type:=Fin 1099511627777×Int
def intsS(x:TyS):List Int:=[(x.1.val:Int),x.2]
def cmpS(x y:TyS):Int:=(x.1.val:Int) - (y.1.val:Int)
end Go.Sim.M
namespace Go.Proofs
open Go.RowKit Go.Sim Go.Sim.M Go.Sort
set_option maxHeartbeats 1000000 in
def Tryz.walkS(a b a' b' r:Int)(hr:IntKind.i64.wrap (a - a')=r)(W:World):Calls Tryz.prog 113 #[.agg #[.int .i64 a,.int .i64 b],.agg #[.int .i64 a',.int .i64 b']] W λ e w'=>e=.returned (.int .i64 r)/\∃q os',w'=Sort.grow (W.drewN q) os':=by go_enter Tryz.func113,Tryz.ntmps113;go_wp2;go_ret;subst hr;exact⟨rfl,0,_,by rw[alloc_eq_grow,alloc_eq_grow,grow_grow];rfl⟩
end Go.Proofs
namespace Go.Sim.M
open Go.RowKit Go.Proofs Go.Sort
def isS:AV->Bool|.agg [.int .i64 a,.int .i64 _]=>decide (0<=a)&&decide (a<=1099511627776)|_=>false
def decS:AV->TyS|.agg [.int _ a,.int _ b]=>(Fin.ofNat 1099511627777 a.toNat,b)|_=>default
noncomputable def srtS(xs:List AV):List AV:=(pdqL cmpS (xs.map decS)).map (encI intsS)
def xFd{x:AV}(h:isS x):encI intsS (decS x)=x:=by unfold isS at h;split at h;rename_i a b;simp only[Bool.and_eq_true,decide_eq_true_eq]at h;have:a.toNat % 1099511627777=a.toNat:=Nat.mod_eq_of_lt (by omega);simp only[decS,encI,intsS,List.map_cons,List.map_nil,Fin.ofNat,this,Int.toNat_of_nonneg h.1];simp at h
def xDE{xs:List AV}(h:xs.all isS):(xs.map decS).map (encI intsS)=xs:=by rw[List.map_map];(conv=>rhs;rw[<-List.map_id xs]);refine List.map_congr_left λ x hx=>?_;exact xFd (List.all_eq_true.1 h x hx)
def ltS(x y:TyS):ltOf cmpS x y=decide (x.1.val<y.1.val):=by unfold ltOf cmpS;by_cases h:x.1.val<y.1.val;rw[decide_eq_true h,decide_eq_true (by omega)];rw[decide_eq_false h,decide_eq_false (by omega)]
def swoS:SWO (ltOf cmpS) where
 irrefl x:=by rw[ltS];simp
 trans x y z h1 h2:=by rw[ltS]at *;simp at *;omega
 ntrans x y z h1 h2:=by rw[ltS]at *;simp at *;omega
noncomputable def xv7:List AV->List Box->Option (Bool×AV×List Box)|[.osl (.b 0) ver 0 n,.func g []],[⟨ver',2,ty,xs,false,true⟩]=>(match Nat.beq g 113&&Nat.beq ty 132 with|true=>some (Nat.beq ver ver'&&(Nat.beq n xs.length&&(decide (n<4611686018427387904)&&xs.all isS)),.tuple [],[⟨ver',2,132,srtS xs,false,true⟩])|false=>none)|_,_=>none
def xHm:OmOk Tryz.prog xMa 112 xv7:=λ Q H r H' h=>by
 unfold xv7 at h;split at h;rename_i ver n g O ty xs;split at h;case h_2=>simp at h
 rename_i hg;simp only[Bool.and_eq_true]at hg;obtain rfl:=Nat.eq_of_beq_eq_true hg.1;obtain rfl:=Nat.eq_of_beq_eq_true hg.2;simp only[Option.some.injEq,Prod.mk.injEq,Bool.and_eq_true,decide_eq_true_eq]at h;obtain⟨⟨h1,h2,h3,h4⟩,rfl,rfl⟩:=h;obtain rfl:=Nat.eq_of_beq_eq_true h1;obtain rfl:=Nat.eq_of_beq_eq_true h2;have q:∃ti,xLs Tryz.prog 132=some ti/\ti.sz=2/\ti.agg=true:=by(have h:(match xLs Tryz.prog 132 with|some ti=>(ti.sz==2)&&ti.agg|none=>false)=true:=by kernel_rfl);split at h;rename_i ti q;simp only[Bool.and_eq_true,beq_iff_eq]at h;exact⟨ti,q,h.1,h.2⟩;simp at h
 obtain⟨ti,q,hz,ha⟩:=q;have J:=xoA (P:=Tryz.prog) (Inv:=xMa) Tryz.srl112 2 (by decide) (λ w=>by rw[<-ha];exact xkw q w) (λ w=>by rw[<-hz];exact xde q w)
  intsS (λ _=>rfl) cmpS swoS 113 rfl (xdu Tryz.func112 rfl (by kernel_rfl)) (xmb (xdu Tryz.func113 rfl (by kernel_rfl)))
  (fun x y W=>Tryz.walkS _ _ _ _ (cmpS x y) (by
   have:=x.1.isLt;have:=y.1.isLt;unfold cmpS;exact xav (by omega) (by omega)) W)
  ver 132 rfl (xs.map decS) (by simpa using h3)
 rw[List.length_map,xDE h4]at J;exact J;simp at h
end Go.Sim.M
namespace Go.Sim.M
abbrev TyP:Type:=Int×Int
def intsP(x:TyP):List Int:=[x.1,x.2]
def cmpP(x y:TyP):Int:=orI (cmpI x.1 y.1) (cmpI x.2 y.2)
end Go.Sim.M
namespace Go.Sim.M
open Go.RowKit Go.Proofs Go.Sort
def isP:AV->Bool|.agg [.int .i64 _,.int .i64 _]=>true|_=>false
def decP:AV->TyP|.agg [.int _ a,.int _ b]=>(a,b)|_=>default
noncomputable def srtP(xs:List AV):List AV:=(pdqL cmpP (xs.map decP)).map (encI intsP)
def xFc{x:AV}(h:isP x):encI intsP (decP x)=x:=by unfold isP at h;split at h;rfl;simp at h
def xDD{xs:List AV}(h:xs.all isP):(xs.map decP).map (encI intsP)=xs:=by rw[List.map_map];(conv=>rhs;rw[<-List.map_id xs]);refine List.map_congr_left λ x hx=>?_;exact xFc (List.all_eq_true.1 h x hx)
def ltP(x y:TyP):ltOf cmpP x y=decide (x.1<y.1\/x.1=y.1/\x.2<y.2):=by unfold ltOf cmpP orI cmpI;by_cases h:x.1<y.1\/x.1=y.1/\x.2<y.2;rw[decide_eq_true h];simp only[decide_eq_true_eq];rcases h with h|⟨h,h'⟩;simp[h];simp[h,h'];rw[decide_eq_false h];simp only[decide_eq_false_iff_not];have h1:¬ x.1<y.1:=λ e=>h (.inl e);by_cases h2:y.1<x.1;simp[h1,h2];(have h3:x.1=y.1:=by omega);have h4:¬ x.2<y.2:=λ e=>h (.inr ⟨h3,e⟩);by_cases h5:y.2<x.2;simp[h1,h2,h4,h5];simp[h1,h2,h4,h5]
def swoP:SWO (ltOf cmpP) where
 irrefl x:=by rw[ltP];simp
 trans x y z h1 h2:=by rw[ltP]at *;simp only[decide_eq_true_eq]at *;omega
 ntrans x y z h1 h2:=by rw[ltP]at *;simp only[decide_eq_true_eq,decide_eq_false_iff_not]at *;omega
noncomputable def xv6:List AV->List Box->Option (Bool×AV×List Box)|[.osl (.b 0) ver 0 n,.func g []],[⟨ver',2,ty,xs,false,true⟩]=>(match Nat.beq g 108&&Nat.beq ty 52 with|true=>some (Nat.beq ver ver'&&(Nat.beq n xs.length&&(decide (n<4611686018427387904)&&xs.all isP)),.tuple [],[⟨ver',2,52,srtP xs,false,true⟩])|false=>none)|_,_=>none
def xHl:OmOk Tryz.prog xMa 107 xv6:=λ Q H r H' h=>by
 unfold xv6 at h;split at h;rename_i ver n g O ty xs;split at h;case h_2=>simp at h
 rename_i hg;simp only[Bool.and_eq_true]at hg;obtain rfl:=Nat.eq_of_beq_eq_true hg.1;obtain rfl:=Nat.eq_of_beq_eq_true hg.2;simp only[Option.some.injEq,Prod.mk.injEq,Bool.and_eq_true,decide_eq_true_eq]at h;obtain⟨⟨h1,h2,h3,h4⟩,rfl,rfl⟩:=h;obtain rfl:=Nat.eq_of_beq_eq_true h1;obtain rfl:=Nat.eq_of_beq_eq_true h2;have q:∃ti,xLs Tryz.prog 52=some ti/\ti.sz=2/\ti.agg=true:=by(have h:(match xLs Tryz.prog 52 with|some ti=>(ti.sz==2)&&ti.agg|none=>false)=true:=by kernel_rfl);split at h;rename_i ti q;simp only[Bool.and_eq_true,beq_iff_eq]at h;exact⟨ti,q,h.1,h.2⟩;simp at h
 obtain⟨ti,q,hz,ha⟩:=q;have J:=xoA (P:=Tryz.prog) (Inv:=xMa) Tryz.srl107 2 (by decide) (λ w=>by rw[<-ha];exact xkw q w) (λ w=>by rw[<-hz];exact xde q w) intsP (λ _=>rfl) cmpP swoP 108 rfl (xdu Tryz.func107 rfl (by kernel_rfl)) (xmb (xdu Tryz.func108 rfl (by kernel_rfl))) (λ x y W=>Tryz.levels2_walk _ _ _ _ W) ver 52 rfl (xs.map decP) (by simpa using h3);rw[List.length_map,xDD h4]at J;exact J;simp at h
end Go.Sim.M
namespace Go.Sim.M
open Go.RowKit Go.Proofs
noncomputable def E1:Env:=((xGd.E.withM 112 xv7).withM 146 xv5).withM 107 xv6
def xGa:xLt Tryz.prog xMa E1:=((xGd.ok.withM xHm).withM xHk).withM xHl
noncomputable def xJl:EO:=EO.mk E1 xGa
end Go.Sim.M
namespace Go.Sim.M
open Go.IntKind (i64 u64 u8)
open Go.RowKit Go.Proofs
def xh9:Env:=E1.fn 29 1 (lsOf []) (xLQ [])
def xvn:xLt P0 (xMa.at 1) xh9:=xGa.fn
def xsR:LoOk P0 (xMa.at xh9.pin) xh9 (Tryz.f114.body.getD .skip):=xfq (by kernel_rfl)
def xoD{T:Type}(k:Nat)(a n:Int)(b:LA)(δ:T)(κ:Bool×(Nat×LA)×(Nat×LA)->T):T:=br (rmB k b 1 16) (κ (false,(0,[]),(k+1,b++[AV.agg [AV.int .i64 a,AV.int .i64 n]]))) δ
def xqH{T:Type}(k:Nat)(b n:Int)(a:LA)(δ:T)(κ:Bool×(Nat×LA)×(Nat×LA)->T):T:=br (decide ((↑k:Int)>0)) (br (decide (0<=i64.wrap ((↑k:Int) - 1))&&decide (i64.wrap ((↑k:Int) - 1)<(↑k:Int))) (br (decide (0+(i64.wrap ((↑k:Int) - 1)).toNat<a.length)&&xLr (Sh.int .i64) ((a.getD (0+(i64.wrap ((↑k:Int) - 1)).toNat) .top).cells.getD 1 .top)) (br (((a.getD (0+(i64.wrap ((↑k:Int) - 1)).toNat) .top).cells.getD 1 .top).toInt==n) (κ (true,(k,a),(0,[]))) (xoD k b n a δ κ)) δ) δ) (xoD k b n a δ κ)
def xax(k:Nat)(a n:Int)(b:LA):=xqH k a n b none some
def xAG(k:Nat)(a n:Int)(xs:LA):Enc (λ(p:Bool×(Nat×LA)×(Nat×LA))=>((br p.1 ((AV.osl 0 0 0 p.2.1.1,([⟨0,2,132,p.2.1.2,false,true⟩]:List Box))) ((AV.osl 0 1 0 p.2.2.1,([⟨1,2,132,p.2.2.2,false,true⟩]:List Box)))):(AV×List Box))) (xax k a n xs) (XFM P0 xh9 Tryz.f114 (Tryz.f114.body.getD .skip) [AV.osl (0:Id) 0 0 k,AV.int .i64 a,AV.int .i64 n] [{ver:=0,sz:=2,ty:=(132:TypeId),xs:=xs,frz:=false,pm:=true}]):=by(have h:XFM P0 xh9 Tryz.f114 (Tryz.f114.body.getD .skip) [AV.osl (0:Id) 0 0 k,AV.int .i64 a,AV.int .i64 n] [{ver:=0,sz:=2,ty:=(132:TypeId),xs:=xs,frz:=false,pm:=true}]=xqH k a n xs none (λ(p:Bool×(Nat×LA)×(Nat×LA))=>some ((br p.1 ((AV.osl 0 0 0 p.2.1.1,([⟨0,2,132,p.2.1.2,false,true⟩]:List Box))) ((AV.osl 0 1 0 p.2.2.1,([⟨1,2,132,p.2.2.2,false,true⟩]:List Box)))):(AV×List Box))):=by kernel_rfl);rw[h];unfold xax xqH xoD;repeat' (first|refine Enc.br ?_ ?_|exact Enc.none|exact Enc.some rfl)
def xAF:LA->List Box->Option (Bool×AV×List Box):=omOf (xMc (sEq (xMn 0 0 0)) (xMc (sEq (pInt .i64)) (xMc (sEq (pInt .i64)) xMe))) (xMb (xMq 0 2 (132:TypeId) false true xMf) xMd) λ(k,(a,(n,_))) (b,_)=>((xax k a n b).isSome,(AV.osl 0 1 0 (br ((xax k a n b).getD (false,(0,[]),(0,[]))).1 ((xax k a n b).getD (false,(0,[]),(0,[]))).2.1.1 ((xax k a n b).getD (false,(0,[]),(0,[]))).2.2.1),([⟨1,2,132,(br ((xax k a n b).getD (false,(0,[]),(0,[]))).1 ((xax k a n b).getD (false,(0,[]),(0,[]))).2.1.2 ((xax k a n b).getD (false,(0,[]),(0,[]))).2.2.2),false,true⟩]:List Box)))
def xAE:OmOk P0 xMa 114 (xAF):=xkp λ e f j i g=>by obtain⟨k,⟨b,⟨n,_⟩⟩⟩:=e;obtain⟨h,_⟩:=f;obtain⟨c,a⟩:=Prod.mk.inj g;have hx:=xAG _ _ _ _ _ (xce (d:=(false,(0,[]),(0,[]))) c);revert hx a;generalize ((xax k b n h).getD (false,(0,[]),(0,[])))=p;intro a hx;obtain⟨rfl,rfl⟩:=Prod.mk.inj a;obtain⟨t,⟨l,m⟩,o,q⟩:=p;have hg:GoodM P0 xMa 114 _ _ _ _:=xlR (p:=xh9.pin) (xlQ xLD (xLE P0 _) rfl xvn rfl Tryz.func114 rfl (by kernel_rfl) xsR hx);cases t;exact hg;exact GoodM.bump1 rfl (by decide) hg
def xr8:EO:=xJl.wM xAE
def xlj{T:Type}(d:LA)(e:Int)(b:Nat)(c:Int)(a:LA)(δ:T)(κl:(Nat×Int×LA)->T)(κr:(Nat×LA)->T):T:=br (decide (c<e)) (br (ixI d c) (br (ixT d c 3 [Sh.int .i64,Sh.int .i64,Sh.int .i64] 0) (br (xf8 (gC d c 0).toInt (gC d c 1).toInt) (br (rmB b a 2 16) (κl (b+2,i64.wrap (c+1),a++[AV.agg [AV.int .i64 (gC d c 0).toInt,AV.int .i64 (gC d c 2).toInt],AV.agg [AV.int .i64 (gC d c 1).toInt,AV.int .i64 (i64.wrap (0 - (gC d c 2).toInt))]])) δ) (κl (b,i64.wrap (c+1),a))) δ) δ) (κr (b,a))
def xeH(c:LA)(d:Int):StT (Nat×Int×LA) (Nat×LA):=λ(b,e,a)=>xlj c d b e a none inL inR
def xh1:=xr8.l 106 0 [] [] Tryz.f77 0 lk0 [3,10,11,12] [3] [(3,2,132)] (q4 (xMn 0 0 0) (qL 3) qI qI) (q1 (qB 0 2 132 xMf)) (λ(b,c,d,e,_) (a,_)=>(xeH c d,(b,e,a),λ p=>(.leaf (.exit 0) [AV.osl 0 0 0 p.1] [bF 0 2 132 p.2]))) (0,[]) λ(_,c,d,_,_) _ (b,e,a)=>(((b,c,d,e,()),(a,())),xlj c d b e a none)
def xq0(i:Int)(a:LA):=decide (0+i.toNat<a.length)
def xrx{T:Type}(b e:Nat)(d i:Int)(a c:LA)(δ:T)(κl:(Int×Int×LA×LA)->T)(κr:(Int×Int×LA×LA)->T):T:=br (decide (i<(↑b:Int))) (br (decide (0<=i)&&decide (i<(↑b:Int))) (br (xq0 i a&&xLr (Sh.int .i64) ((a.getD (0+i.toNat) .top).cells.getD 0 .top)) (br (((a.getD (0+i.toNat) .top).cells.getD 0 .top).toInt==0) (br (decide (0<=i)&&decide (i<(↑b:Int))) (br (xq0 i a&&xLr (Sh.int .i64) ((a.getD (0+i.toNat) .top).cells.getD 1 .top)) (κl (i64.wrap (d+((a.getD (0+i.toNat) .top).cells.getD 1 .top).toInt),i64.wrap (i+1),a,c)) δ) δ) (κr (d,i,a,c))) δ) δ) (κr (d,i,a,c))
def xis(b d:Nat):StT (Int×Int×LA×LA) (Int×Int×LA×LA):=λ(e,i,a,c)=>xrx b d e i a c none inL inR
def xkB:=xr8.l 106 0 [] [(3,xh1.lp)] Tryz.f77 1 lk0 [3,6,7,8] [3,6,7,8] [(3,2,132),(6,2,132)] (q4 (xMn 0 0 0) (xMn 1 0 0) qI qI) (q2 (qB 0 2 132 xMf) (qB 0 2 132 xMf)) (λ(a,c,e,i,_) (b,d,_)=>(xis a c,(e,i,b,d),λ p=>(.leaf (.exit 2) [AV.osl 0 0 0 a,AV.osl 1 0 0 c,AV.int .i64 p.1,AV.int .i64 p.2.1] [bF 0 2 132 p.2.2.1,bF 0 2 132 p.2.2.2]))) (0,0,[],[]) λ(a,c,_,_,_) _ (e,i,b,d)=>(((a,c,e,i,()),(b,d,())),xrx a c e i b d none)
def xh3(i:Int)(a:LA):=decide (0+i.toNat<a.length)
def xiA{T:Type}(b f:Nat)(e d i:Int)(a c:LA)(δ:T)(κl:(Int×Int×LA×LA)->T)(κr:(Int×Int×LA×LA)->T):T:=br (decide (i<(↑b:Int))) (br (decide (0<=i)&&decide (i<(↑b:Int))) (br (xh3 i a&&xLr (Sh.int .i64) ((a.getD (0+i.toNat) .top).cells.getD 0 .top)) (br (((a.getD (0+i.toNat) .top).cells.getD 0 .top).toInt==e) (br (decide (0<=i)&&decide (i<(↑b:Int))) (br (xh3 i a&&xLr (Sh.int .i64) ((a.getD (0+i.toNat) .top).cells.getD 1 .top)) (κl (i64.wrap (d+((a.getD (0+i.toNat) .top).cells.getD 1 .top).toInt),i64.wrap (i+1),a,c)) δ) δ) (κr (d,i,a,c))) δ) δ) (κr (d,i,a,c))
def xdr(b d:Nat)(e:Int):StT (Int×Int×LA×LA) (Int×Int×LA×LA):=λ(f,i,a,c)=>xiA b d e f i a c none inL inR
def xkC:=xr8.l 106 0 [] [(3,xh1.lp),(11,xkB.lp)] Tryz.f77 3 lk0 [3,6,7,8,9] [3,6,7,8,9] [(3,2,132),(6,2,132)] (q5 (xMn 0 0 0) (xMn 1 0 0) qI qI qI) (q2 (qB 0 2 132 xMf) (qB 0 2 132 xMf)) (λ(a,c,f,i,e,_) (b,d,_)=>(xdr a c e,(f,i,b,d),λ p=>(.leaf (.exit 6) [AV.osl 0 0 0 a,AV.osl 1 0 0 c,AV.int .i64 p.1,AV.int .i64 p.2.1,AV.int .i64 e] [bF 0 2 132 p.2.2.1,bF 0 2 132 p.2.2.2]))) (0,0,[],[]) λ(a,c,_,_,e,_) _ (f,i,b,d)=>(((a,c,f,i,e,()),(b,d,())),xiA a c e f i b d none)
def xg6(i:Int)(a:LA):=decide (0+i.toNat<a.length)&&xLr (Sh.int .i64) ((a.getD (0+i.toNat) .top).cells.getD 0 .top)
def xfm(i:Int)(a:LA):=((a.getD (0+i.toNat) .top).cells.getD 0 .top).toInt
def xg7(b d:Nat)(e i:Int)(a c:LA):=Iter (xdr b d (xfm i a)) (e,i,a,c)
def xdJ(b d:Nat)(e i:Int)(a c:LA):=(xg7 b d e i a c).getD (0,0,[],[])
def xh2(b c:Nat)(e i:Int)(a d:LA):=xax c (xfm i a) ((xdJ b c e i a d).fst) (((xdJ b c e i a d).snd).snd).snd
def xc8(b d:Nat)(e i:Int)(a c:LA):=(xh2 b d e i a c).getD (false,(0,[]),0,[])
def xiz{T:Type}(b d:Nat)(e i:Int)(a c:LA)(δ:T)(κl:(Nat×Int×Int×LA×LA)->T)(κr:(Nat×LA)->T):T:=br (decide (i<(↑b:Int))) (br (decide (0<=i)&&decide (i<(↑b:Int))) (br (xg6 i a) (br (decide (xfm i a<1099511627776)) (br (decide (0<=i)&&decide (i<(↑b:Int))) (br (xg6 i a) (br ((xg7 b d e i a c).isSome) (br ((xh2 b d e i a c).isSome) (κl (br ((xc8 b d e i a c).fst) (((xc8 b d e i a c).snd).fst).fst (((xc8 b d e i a c).snd).snd).fst,((xdJ b d e i a c).fst),((xdJ b d e i a c).snd).fst,(((xdJ b d e i a c).snd).snd).fst,br ((xc8 b d e i a c).fst) (((xc8 b d e i a c).snd).fst).snd (((xc8 b d e i a c).snd).snd).snd)) δ) δ) δ) δ) (κr (d,c))) δ) δ) (κr (d,c))
def xeI(b:Nat):StT (Nat×Int×Int×LA×LA) (Nat×LA):=λ(d,e,i,a,c)=>xiz b d e i a c none inL inR
def xq1:=xr8.l 106 0 [] [(3,xh1.lp),(11,xkB.lp),(17,xkC.lp)] Tryz.f77 2 (lk1 xkC.ok) [3,6,7,8] [6] [(3,2,132),(6,2,132)] (q4 (xMn 0 0 0) (xMn 1 0 0) qI qI) (q2 (qB 0 2 132 xMf) (qB 0 2 132 xMf)) (λ(b,d,e,i,_) (a,c,_)=>(xeI b,(d,e,i,a,c),λ p=>(.leaf (.exit 4) [AV.osl 0 0 0 p.1] [bF 0 2 132 p.2]))) (0,[]) λ(b,_,_,_,_) _ (d,e,i,a,c)=>(((b,d,e,i,()),(a,c,())),xiz b d e i a c none)
def xeT(l:LA):=(Iter (xeH l (↑l.length:Int)) (0,0,[])).getD (0,[])
def xpS(l:LA):=Iter (xis ((xeT l).fst) 0) (0,0,srtS ((xeT l).snd),[])
def xh4(l:LA):=(xpS l).getD (0,0,[],[])
def xqF(l:LA):=xax 0 0 ((xh4 l).fst) (((xh4 l).snd).snd).snd
def xhf(l:LA):=(xqF l).getD (false,(0,[]),0,[])
def xqE(l:LA):=Iter (xeI ((xeT l).fst)) (br ((xhf l).fst) (((xhf l).snd).fst).fst (((xhf l).snd).snd).fst,((xh4 l).fst),((xh4 l).snd).fst,(((xh4 l).snd).snd).fst,br ((xhf l).fst) (((xhf l).snd).fst).snd (((xhf l).snd).snd).snd)
def xk5(l:LA):=(xqE l).getD (0,[])
def xrK{T:Type}(l:LA)(δ:T)(κ:LA->T):T:=br ((Iter (xeH l (↑l.length:Int)) (0,0,[])).isSome) (br (((xeT l).fst).beq ((xeT l).snd).length&&(decide (((xeT l).fst)<4611686018427387904)&&((xeT l).snd).all isS)) (br ((xpS l).isSome) (br ((xqF l).isSome) (br ((xqE l).isSome) (br (decide (0+((xk5 l).fst)<=((xk5 l).snd).length)&&true) (κ (List.take ((xk5 l).fst) (List.drop 0 ((xk5 l).snd)))) δ) δ) δ) δ) δ) δ
def xag(l:LA):=xrK l none some
def xCW:EO:=xr8.f Tryz.func77 106 0 [] [(3,xh1.lp),(11,xkB.lp),(17,xkC.lp),(15,xq1.lp)] (lks (lkC xh1.ok (lkC xkB.ok (lkC xq1.ok (lkC xkC.ok lkN))))) (u1 (uL 3)) (λ(l,_) _=>xrK l) (λ _ p=>AV.list 2 p) []
def xe8{T:Type}(d:LA)(e:Int)(c:Nat)(b:Int)(a:LA)(δ:T)(κl:(Nat×Int×LA)->T)(κr:(Nat×LA)->T):T:=br (decide (b<e)) (br (ixI d b) (br (ixT d b 2 [Sh.int .i64,Sh.int .i64] 0) (br (rmB c a 1 24) (κl (c+1,i64.wrap (b+1),a++[AV.agg [AV.int .i64 (gC d b 0).toInt,AV.int .i64 (gC d b 1).toInt,AV.int .i64 1]])) δ) δ) δ) (κr (c,a))
def xbM(c:LA)(d:Int):StT (Nat×Int×LA) (Nat×LA):=λ(b,e,a)=>xe8 c d b e a none inL inR
def xkX:=xCW.l 20 0 [] [] Tryz.f116 0 lk0 [3,6,7,8] [3] [(3,3,100)] (q4 (xMn 0 0 0) (qL 2) qI qI) (q1 (qB 0 3 100 xMf)) (λ(b,c,d,e,_) (a,_)=>(xbM c d,(b,e,a),λ p=>(.leaf (.exit 0) [AV.osl 0 0 0 p.1] [bF 0 3 100 p.2]))) (0,[]) λ(_,c,d,_,_) _ (b,e,a)=>(((b,c,d,e,()),(a,())),xe8 c d b e a none)
def xek(l:LA):=(Iter (xbM l (↑l.length:Int)) (0,0,[])).getD (0,[])
def xiI(l:LA):=xag (List.take ((xek l).fst) (List.drop 0 ((xek l).snd)))
def xjt{T:Type}(l:LA)(δ:T)(κ:LA->T):T:=br ((Iter (xbM l (↑l.length:Int)) (0,0,[])).isSome) (br (decide (0+((xek l).fst)<=((xek l).snd).length)&&true) (br ((xiI l).isSome) (κ ((xiI l).getD [])) δ) δ) δ
def xer(l:LA):=xjt l none some
def xqJ:EO:=xCW.f Tryz.func116 20 0 [] [(3,xkX.lp)] (lk1 xkX.ok) (u1 (uL 2)) (λ(l,_) _=>xjt l) (λ _ p=>AV.list 2 p) []
def xi6{T:Type}(o n:Int)(e f:Nat)(k p m j:Int)(h l i g a:Nat)(b:LA)(d:Nat)(c:LA)(δ:T)(κl:(Int×Int×Nat×Nat×Nat×Nat×Nat×LA×Nat×LA)->T)(κr:(Int×Nat×Nat×Nat×Nat×LA×Nat×LA×Nat)->T):T:=br (decide (m<p)) (br (a==e) (br (a==e) (br (a==e&&(decide (f<b.length)&&xLr (Sh.int .i64) ((b.getD f .top).cells.getD 0 .top))) (br (d==g&&(rmB i c 1 16)) (κl (i64.wrap (m+1),j,h,l,i+1,g+1,a,List.take h b,g+1,c++[AV.agg [AV.int .i64 ((b.getD f .top).cells.getD 0 .top).toInt,AV.int .i64 o]])) δ) δ) δ) δ) (κr (j,l,h,g,i,b,a,c,d))
def xcE(m n:Int)(e f:Nat)(k o:Int):StT (Int×Int×Nat×Nat×Nat×Nat×Nat×LA×Nat×LA) (Int×Nat×Nat×Nat×Nat×LA×Nat×LA×Nat):=λ(p,g,h,i,j,l,a,b,c,d)=>xi6 m n e f k o p g h i j l a b c d none inL inR
def xij:=xqJ.l 71 5 [] [] Tryz.f106 1 lk0 [0,1,2,3,4,7,8,37,38] [0,1,2,3,4,7,8] [(3,0,0)] (q9 qI qI (xMo 0 0 0 0) (xMo 1 0 0 0) (xMo 2 0 0 0) (pOwnV 3 0) qI qI qI) (q5 (qB 0 1 3 (q1 qI)) (xMq 0 1 126 false false (q1 (pOslV 3 0))) (xMq 0 1 64 false false (q1 (pOslV 4 0))) (pBoxV 2 128 false true xMf) (pBoxV 2 52 false true xMf)) (λ(o,n,_,_,_,(e,f),k,q,r,_) ((g,_),((h,i),_),((j,m),_),(a,b),(c,d),_)=>(xcE o n e f k q,(r,g,i,h,m,j,a,b,c,d),λ p=>(.leaf (.exit 2) [AV.int .i64 o,AV.int .i64 n,AV.own 0 0 0 0,AV.own 1 0 0 0,AV.own 2 0 0 0,AV.own 3 e f 0,AV.int .i64 k] [bF 0 1 3 [AV.int .i64 p.1],⟨0,1,126,[AV.osl 3 p.2.1 0 p.2.2.1],false,false⟩,⟨0,1,64,[AV.osl 4 p.2.2.2.1 0 p.2.2.2.2.1],false,false⟩,bF p.2.2.2.2.2.2.1 2 128 p.2.2.2.2.2.1,bF p.2.2.2.2.2.2.2.2 2 52 p.2.2.2.2.2.2.2.1]))) (0,0,0,0,0,[],0,[],0) λ(o,n,_,_,_,(e,f),k,q,_,_) _ (r,g,i,h,m,j,a,b,c,d)=>(((o,n,(),(),(),(e,f),k,q,r,()),((g,()),((h,i),()),((j,m),()),(a,b),(c,d),())),xi6 o n e f k q r g i h m j a b c d none)
def xaF(a:Nat):Nat:=0+(i64.wrap ((↑a:Int) - 1)).toNat
def xdb(n b:Int)(c d:Nat)(a:LA):Int:=if i64.wrap (b - n)<((a.getD (xaF c) .top).cells.getD 1 .top).toInt then i64.wrap (b - n)else((a.getD (xaF c) .top).cells.getD 1 .top).toInt
def xhn(j n d:Int)(c g h i a:Nat)(b:LA)(e:Nat)(f:LA):=Iter (xcE j n g (xaF c) (xdb n d c a b) (xdb n d c a b)) (0,d,c,g,h,i,a,List.take c b,e,f)
def xaf(j n e:Int)(f g h i a:Nat)(b:LA)(c:Nat)(d:LA):=(xhn j n e f g h i a b c d).getD (0,0,0,0,0,[],0,[],0)
def xev(j n e:Int)(f g h i a:Nat)(b:LA)(c:Nat)(d:LA):=i64.wrap ((↑((((xaf j n e f g h i a b c d).snd).snd).fst):Int) - 1)
def xcD(j n f:Int)(g e h i a:Nat)(b:LA)(c:Nat)(d:LA):=(((((((xaf j n f g e h i a b c d).snd).snd).snd).snd).snd).snd).fst==e
def xeu(j n f:Int)(e g h i a:Nat)(b:LA)(c:Nat)(d:LA):=((((((((xaf j n f e g h i a b c d).snd).snd).snd).snd).snd).fst).getD (xaF e) .top).cells
def xdp(j n f:Int)(e g h i a:Nat)(b:LA)(c:Nat)(d:LA):=(((((((xaf j n f e g h i a b c d).snd).snd).snd).snd).snd).fst).set (xaF e) (AV.agg (List.take 1 (xeu j n f e g h i a b c d)++[AV.int .i64 (i64.wrap (((xeu j n f e g h i a b c d).getD 1 .top).toInt - xdb n f e a b))]++List.drop 2 (xeu j n f e g h i a b c d)))
def xfb{T:Type}(j n g:Int)(f e h i a:Nat)(b:LA)(c:Nat)(d:LA)(δ:T)(κl:(Int×Nat×Nat×Nat×Nat×Nat×LA×Nat×LA)->T)(κr:(Int×Nat×Nat×Nat×Nat×LA×Nat×LA×Nat)->T):T:=br (decide (g>n)) (br (a==e) (br (a==e&&(decide (0<=i64.wrap ((↑f:Int) - 1))&&decide (i64.wrap ((↑f:Int) - 1)<(↑f:Int)))) (br (a==e) (br (a==e) (br (a==e&&(decide (xaF f<b.length)&&xLr (Sh.int .i64) ((b.getD (xaF f) .top).cells.getD 1 .top))) (br ((xhn j n g f e h i a b c d).isSome) (br (xcD j n g f e h i a b c d) (br (xcD j n g f e h i a b c d) (br (xcD j n g f e h i a b c d&&((decide (xaF f<(((((((xaf j n g f e h i a b c d).snd).snd).snd).snd).snd).fst).length))&&xLr (Sh.int .i64) ((xeu j n g f e h i a b c d).getD 1 .top))) (br (xcD j n g f e h i a b c d) (br (xcD j n g f e h i a b c d) (br (xcD j n g f e h i a b c d&&(decide (xaF f<(((((((xaf j n g f e h i a b c d).snd).snd).snd).snd).snd).fst).length))) (br (e==e) (br (e==e) (br (e==e&&(decide (xaF f<(xdp j n g f e h i a b c d).length)&&xLr (Sh.int .i64) (((xdp j n g f e h i a b c d).getD (xaF f) .top).cells.getD 1 .top))) (br ((((xdp j n g f e h i a b c d).getD (xaF f) .top).cells.getD 1 .top).toInt==0) (br (e==(((xaf j n g f e h i a b c d).snd).fst)) (br (e==(((xaf j n g f e h i a b c d).snd).fst)&&(decide (0<=xev j n g f e h i a b c d)&&decide (xev j n g f e h i a b c d<=(↑((((xaf j n g f e h i a b c d).snd).snd).fst):Int))&&true)) (κl (i64.wrap ((xaf j n g f e h i a b c d).fst - xdb n g f a b),(xev j n g f e h i a b c d).toNat - 0,(((xaf j n g f e h i a b c d).snd).fst),(((((xaf j n g f e h i a b c d).snd).snd).snd).snd).fst,((((xaf j n g f e h i a b c d).snd).snd).snd).fst,e,List.take ((xev j n g f e h i a b c d).toNat - 0) (xdp j n g f e h i a b c d),((((((((xaf j n g f e h i a b c d).snd).snd).snd).snd).snd).snd).snd).snd,((((((((xaf j n g f e h i a b c d).snd).snd).snd).snd).snd).snd).snd).fst)) δ) δ) (κl (i64.wrap ((xaf j n g f e h i a b c d).fst - xdb n g f a b),((((xaf j n g f e h i a b c d).snd).snd).fst),(((xaf j n g f e h i a b c d).snd).fst),(((((xaf j n g f e h i a b c d).snd).snd).snd).snd).fst,((((xaf j n g f e h i a b c d).snd).snd).snd).fst,e,List.take ((((xaf j n g f e h i a b c d).snd).snd).fst) (xdp j n g f e h i a b c d),((((((((xaf j n g f e h i a b c d).snd).snd).snd).snd).snd).snd).snd).snd,((((((((xaf j n g f e h i a b c d).snd).snd).snd).snd).snd).snd).snd).fst))) δ) δ) δ) δ) δ) δ) δ) δ) δ) δ) δ) δ) δ) δ) δ) (κr (g,e,f,i,h,b,a,d,c))
def xbX(j n:Int):StT (Int×Nat×Nat×Nat×Nat×Nat×LA×Nat×LA) (Int×Nat×Nat×Nat×Nat×LA×Nat×LA×Nat):=λ(e,f,g,h,i,a,b,c,d)=>xfb j n e f g h i a b c d none inL inR
def xpn:=xqJ.l 71 5 [] [(7,xij.lp)] Tryz.f106 0 (lk1 xij.ok) [0,1,2,3,4] [] [(3,0,0)] (q5 qI qI (xMo 0 0 0 0) (xMo 1 0 0 0) (xMo 2 0 0 0)) (q5 (qB 0 1 3 (q1 qI)) (xMq 0 1 126 false false (q1 (pOslV 3 0))) (xMq 0 1 64 false false (q1 (pOslV 4 0))) (pBoxV 2 128 false true xMf) (pBoxV 2 52 false true xMf)) (λ(j,n,_,_,_,_) ((e,_),((f,g),_),((h,i),_),(a,b),(c,d),_)=>(xbX j n,(e,g,f,i,h,a,b,c,d),λ p=>(.leaf (.exit 0) [] [bF 0 1 3 [AV.int .i64 p.1],⟨0,1,126,[AV.osl 3 p.2.1 0 p.2.2.1],false,false⟩,⟨0,1,64,[AV.osl 4 p.2.2.2.1 0 p.2.2.2.2.1],false,false⟩,bF p.2.2.2.2.2.2.1 2 128 p.2.2.2.2.2.1,bF p.2.2.2.2.2.2.2.2 2 52 p.2.2.2.2.2.2.2.1]))) (0,0,0,0,0,[],0,[],0) λ(j,n,_,_,_,_) _ (e,g,f,i,h,a,b,c,d)=>(((j,n,(),(),(),()),((e,()),((f,g),()),((h,i),()),(a,b),(c,d),())),xfb j n e g f i h a b c d none)
def xgr:Env:=xqJ.E.fn 71 5 (lsOf []) (xLQ [(7,xij.lp),(3,xpn.lp)])
def xt1:xLt P0 (xMa.at 5) xgr:=xqJ.ok.fn
def xr4:LoOk P0 (xMa.at xgr.pin) xgr (Tryz.f106.body.getD .skip):=xnh (ls:=[xLy Tryz.f106 0,xLy Tryz.f106 1]) (by kernel_rfl) (lkC xpn.ok (lkC xij.ok lkN))
def xkk(a n h:Int)(b c:Nat)(d e:LA):=Iter (xbX a n) (n,b+1,1,c,0,1,List.take (b+1) (d++[AV.agg [AV.int .i64 a,AV.int .i64 (i64.wrap (n - h))]]),0,e)
def xkl(a n h:Int)(b c:Nat)(d e:LA):=Iter (xbX a n) (h,b,0,c,0,0,List.take b d,0,e)
def xbN(a n h:Int)(b c:Nat)(d e:LA):=(xkk a n h b c d e).getD (0,0,0,0,0,[],0,[],0)
def xbO(a n h:Int)(b c:Nat)(d e:LA):=(xkl a n h b c d e).getD (0,0,0,0,0,[],0,[],0)
def xjH{T:Type}(a n h:Int)(b d:Nat)(c e:LA)(δ:T)(κ:Int×Nat×Nat×Nat×Nat×LA×Nat×LA×Nat->T):T:=br (decide (n>h)) (br (rmB b c 1 16) (br ((xkk a n h b d c e).isSome) (κ ((xbN a n h b d c e).fst,((xbN a n h b d c e).snd).fst,(((xbN a n h b d c e).snd).snd).fst,((((xbN a n h b d c e).snd).snd).snd).fst,(((((xbN a n h b d c e).snd).snd).snd).snd).fst,((((((xbN a n h b d c e).snd).snd).snd).snd).snd).fst,(((((((xbN a n h b d c e).snd).snd).snd).snd).snd).snd).fst,((((((((xbN a n h b d c e).snd).snd).snd).snd).snd).snd).snd).fst,((((((((xbN a n h b d c e).snd).snd).snd).snd).snd).snd).snd).snd)) δ) δ) (br ((xkl a n h b d c e).isSome) (κ ((xbO a n h b d c e).fst,((xbO a n h b d c e).snd).fst,(((xbO a n h b d c e).snd).snd).fst,((((xbO a n h b d c e).snd).snd).snd).fst,(((((xbO a n h b d c e).snd).snd).snd).snd).fst,((((((xbO a n h b d c e).snd).snd).snd).snd).snd).fst,(((((((xbO a n h b d c e).snd).snd).snd).snd).snd).snd).fst,((((((((xbO a n h b d c e).snd).snd).snd).snd).snd).snd).snd).fst,((((((((xbO a n h b d c e).snd).snd).snd).snd).snd).snd).snd).snd)) δ)
def xkj(a n h:Int)(b c:Nat)(d e:LA):=xjH a n h b c d e none some
def xzf(a n h:Int)(b c:Nat)(d e:LA):Enc (λ(p:Int×Nat×Nat×Nat×Nat×LA×Nat×LA×Nat)=>(((AV.tuple [],([⟨0,1,3,[AV.int .i64 p.1],false,true⟩,⟨0,1,126,[AV.osl 3 p.2.1 0 p.2.2.1],false,false⟩,⟨0,1,64,[AV.osl 4 p.2.2.2.1 0 p.2.2.2.2.1],false,false⟩,⟨p.2.2.2.2.2.2.1,2,128,p.2.2.2.2.2.1,false,true⟩,⟨p.2.2.2.2.2.2.2.2,2,52,p.2.2.2.2.2.2.2.1,false,true⟩]:List Box))):(AV×List Box))) (xkj a n h b c d e) (XFM P0 xgr Tryz.f106 (Tryz.f106.body.getD .skip) [AV.int .i64 a,AV.int .i64 n,AV.own (0:Id) 0 0 0,AV.own (1:Id) 0 0 0,AV.own (2:Id) 0 0 0] [{ver:=0,sz:=1,ty:=(3:TypeId),xs:=[AV.int .i64 h],frz:=false,pm:=true},{ver:=0,sz:=1,ty:=(126:TypeId),xs:=[AV.osl (3:Id) 0 0 b],frz:=false,pm:=false},{ver:=0,sz:=1,ty:=(64:TypeId),xs:=[AV.osl (4:Id) 0 0 c],frz:=false,pm:=false},{ver:=0,sz:=2,ty:=(128:TypeId),xs:=d,frz:=false,pm:=true},{ver:=0,sz:=2,ty:=(52:TypeId),xs:=e,frz:=false,pm:=true}]):=by(have h:XFM P0 xgr Tryz.f106 (Tryz.f106.body.getD .skip) [AV.int .i64 a,AV.int .i64 n,AV.own (0:Id) 0 0 0,AV.own (1:Id) 0 0 0,AV.own (2:Id) 0 0 0] [{ver:=0,sz:=1,ty:=(3:TypeId),xs:=[AV.int .i64 h],frz:=false,pm:=true},{ver:=0,sz:=1,ty:=(126:TypeId),xs:=[AV.osl (3:Id) 0 0 b],frz:=false,pm:=false},{ver:=0,sz:=1,ty:=(64:TypeId),xs:=[AV.osl (4:Id) 0 0 c],frz:=false,pm:=false},{ver:=0,sz:=2,ty:=(128:TypeId),xs:=d,frz:=false,pm:=true},{ver:=0,sz:=2,ty:=(52:TypeId),xs:=e,frz:=false,pm:=true}]=xjH a n h b c d e none (λ(p:Int×Nat×Nat×Nat×Nat×LA×Nat×LA×Nat)=>some (((AV.tuple [],([⟨0,1,3,[AV.int .i64 p.1],false,true⟩,⟨0,1,126,[AV.osl 3 p.2.1 0 p.2.2.1],false,false⟩,⟨0,1,64,[AV.osl 4 p.2.2.2.1 0 p.2.2.2.2.1],false,false⟩,⟨p.2.2.2.2.2.2.1,2,128,p.2.2.2.2.2.1,false,true⟩,⟨p.2.2.2.2.2.2.2.2,2,52,p.2.2.2.2.2.2.2.1,false,true⟩]:List Box))):(AV×List Box))):=by kernel_rfl);rw[h];unfold xkj xjH;repeat' (first|refine Enc.br ?_ ?_|exact Enc.none|exact Enc.some rfl)
end Go.Sim.M
namespace Go.Sim
open Go.RowKit
def GoodM.aged{P:Program}{Inv:IV}{f:FuncId}{args:List AV}{H E:List Box}{p q v k t s y:Nat}{xs:List AV}(h:GoodM P Inv f args H (.tuple []) E)(hz:∀bx,H[q]?=some bx->bx.ver=0)(ep:E[p]?=some ⟨0,1,t,[.osl (.b q) v 0 k],false,false⟩)(eq:E[q]?=some ⟨v,s,y,xs,false,true⟩)(pt:isC t=false)(py:isC y=false)(ho:∀n bx,E[n]?=some bx->isC bx.ty=false/\(n=p\/n=q\/bx.pm\/∃n' v' k',n'≠q/\bx.xs=[.osl (.b n') v' 0 k'])):GoodM P Inv f args H (.tuple []) ((E.set p ⟨0,1,t,[.osl (.b q) 1 0 k],false,false⟩).set q ⟨1,s,y,xs,false,true⟩):=by
 have pq:p≠q:=λ e=>by subst e;rw[ep]at eq;simp at eq
 refine⟨h.1,λ w0 w A M vs hI hB hR ab=>(h.2 w0 w A M vs hI hB hR ab).mono ?_⟩;rintro e w' ⟨u,A',M',rfl,h1,h2,h3,h4,h5⟩;let M'':Id->Option MB:=λ id=>if id=.b q then(M' id).map λ m=>⟨m.b,1,m.sz,m.cap,m.ty⟩else M' id;have eo:∀id,id≠.b q->M'' id=M' id:=λ id g1=>if_neg g1;have e4:∀m,M' (.b q)=some m->M'' (.b q)=some ⟨m.b,1,m.sz,m.cap,m.ty⟩:=λ m hm=>(if_pos rfl).trans (by rw[hm];rfl);have Q:∀id m1,M'' id=some m1->∃m0,M' id=some m0/\m1.b=m0.b/\m1.cap=m0.cap:=λ id m1 J=>by by_cases g3:id=.b q;(subst g3;cases hm:M' (.b q)with|none=>simp[M'',hm]at J|some m=>rw[e4 m hm]at J;simp only[z6]at J;subst J;exact⟨m,rfl,rfl,rfl⟩);exact⟨m1,eo id g3▸J,rfl,rfl⟩
 have O:∀n bx m,E[n]?=some bx->M' (.b n)=some m->BoxAt w' A' M' w0.heap.size (.b n) m bx:=λ n bx m hn hm=>by obtain⟨bx',g1,g2⟩:=h4.box _ m hm;rw[xbb,hn]at g1;cases g1;exact g2
 have hv:∀m,M' (.b q)=some m->v=m.ver:=λ m hm=>(O q _ m eq hm).ver;have hx:∀c n' v' k',n'≠q->Rel w' A' M' c (.osl (.b n') v' 0 k')->Rel w' A' M'' c (.osl (.b n') v' 0 k'):=λ c n' v' k' hn hr=>by obtain⟨m0,g1,g2,g3,g4⟩:=Rel.osl_inv hr;exact .osl c _ v' 0 k' m0 ((eo _ λ e=>hn (by cases e;rfl)).trans g1) g2 g3 g4
 have hy:∀c,Rel w' A' M' c (.osl (.b q) v 0 k)->Rel w' A' M'' c (.osl (.b q) 1 0 k):=λ c hr=>by obtain⟨m0,g1,g2,g3,g4⟩:=Rel.osl_inv hr;exact .osl c _ 1 0 k _ (e4 m0 g1) (zd _) g3 λ _=>g4 (hv m0 g1)
 have hb:∀id(bx bx':Box)(m m':MB),isC bx.ty=false->bx'=⟨m'.ver,bx.sz,bx.ty,bx'.xs,bx.frz,bx.pm⟩->m'=⟨m.b,m'.ver,m.sz,m.cap,m.ty⟩->bx'.xs.length=bx.xs.length->(∀x,x∈bx'.xs->x.okElem m.sz)->
   (∀c i j,Rel w' A' (MP M' bx.pm) c ((bx.xs.getD i .top).cells.getD j .top)->Rel w' A' (MP M'' bx.pm) c ((bx'.xs.getD i .top).cells.getD j .top))->BoxAt w' A' M' w0.heap.size id m bx->BoxAt w' A' M'' w0.heap.size id m' bx':=λ id bx bx' m m' V ad Y hl aa hc g=>by
  rw[ad,Y];have W:xLv m.ty=false:=g.nomap (xaG V);refine⟨rfl,g.sz,g.ty,g.capm,hl▸g.fits,aa,g.low,g.lt,λ h0=>?_,g.guard⟩
  obtain⟨c,c1,c2,c3⟩:=g.cells h0;refine⟨c,.of W (c1.plain W),c2,λ i j hi hj=>?_⟩
  have:=c3 i j (hl▸hi) hj;rw[xas V,xa2 V]at this;rw[xas V,xa2 (bx:=⟨m'.ver,bx.sz,bx.ty,bx'.xs,bx.frz,bx.pm⟩) V];exact hc _ i j this
 have ht:∀a v1 v2 d,(∀c,Rel w' A' M' c (.osl a v1 0 d)->Rel w' A' M'' c (.osl a v2 0 d))->∀c i j,Rel w' A' M' c ((([.osl a v1 0 d]:List AV).getD i .top).cells.getD j .top)->Rel w' A' M'' c ((([.osl a v2 0 d]:List AV).getD i .top).cells.getD j .top):=λ a v1 v2 d hh c i j hr=>by match i,j with|0,0=>exact hh c hr|0,j+1=>exact .top _|i+1,0=>exact .top _|i+1,j+1=>exact .top _
 have hg:∀n bx,E[n]?=some bx->∃bx',((E.set p ⟨0,1,t,[.osl (.b q) 1 0 k],false,false⟩).set q ⟨1,s,y,xs,false,true⟩)[n]?=some bx'/\isC bx'.ty=false/\(∀m m1,M' (.b n)=some m->M'' (.b n)=some m1->BoxAt w' A' M'' w0.heap.size (.b n) m1 bx'):=λ n bx hn=>by have hn':=xcs hn;obtain⟨hC,hc⟩:=ho n bx hn;by_cases g1:n=q;subst g1;rw[hn]at eq;cases eq;refine⟨_,zL (by simpa using hn'),py,λ m m1 e1 e2=>?_⟩;rw[e4 m e1]at e2;cases e2;have g:=O n _ m hn e1;exact hb _ ⟨v,s,y,xs,false,true⟩ ⟨1,s,y,xs,false,true⟩ m _ py rfl rfl rfl g.ok (λ c i j hr=>hr) g;(have ge:∀m m1,M' (.b n)=some m->M'' (.b n)=some m1->m1=m:=λ m m1 e1 e2=>by rw[eo _ λ e=>g1 (by cases e;rfl),e1]at e2;cases e2;rfl);by_cases g2:n=p;subst g2;rw[hn]at ep;cases ep;refine⟨_,(zX (Ne.symm g1)).trans (zL hn'),pt,λ m m1 e1 e2=>?_⟩;cases ge m m1 e1 e2;have g:=O n _ m hn e1;have hv:0=m.ver:=g.ver;have hz:m.sz=1:=g.sz.symm;exact hb _ ⟨0,1,t,[.osl (.b q) v 0 k],false,false⟩ ⟨0,1,t,[.osl (.b q) 1 0 k],false,false⟩ m m pt (by rw[<-hv]) rfl rfl (λ x hx=>by simp only[zv]at hx;subst hx;rw[hz];rfl) (ht _ _ _ _ hy) g;refine⟨bx,(zX (Ne.symm g1)).trans ((zX (Ne.symm g2)).trans hn),hC,λ m m1 e1 e2=>?_⟩;cases ge m m1 e1 e2;have g:=O n _ m hn e1;refine hb _ bx bx m m hC (by rw[<-g.ver]) rfl rfl g.ok ?_ g;rcases hc with hc|hc|hc|⟨n',v',k',hc,hd⟩;exact absurd hc g2;exact absurd hc g1;rw[hc];exact λ c i j hr=>hr;cases ae:bx.pm with|true=>exact λ c i j hr=>hr|false=>rw[hd];exact ht _ _ _ _ λ c=>hx c n' v' k' hc
 have hR':HR w' A' M'' w0.heap.size ((E.set p ⟨0,1,t,[.osl (.b q) 1 0 k],false,false⟩).set q ⟨1,s,y,xs,false,true⟩):=by refine⟨λ id m1 J=>?_,λ id id' m1 m2 k1 k2 c1 c2 he=>?_,h4.lt⟩;(obtain⟨m0,g1,_⟩:=Q id m1 J;obtain⟨bx,q1,q2⟩:=h4.box _ m0 g1;cases id with|r n i j=>(rw[eo _ (λ e=>by cases e),g1]at J;cases J;obtain⟨c0,r1,_⟩:=xmm q1;obtain⟨bx',r2,r3,_⟩:=hg n c0 r1;rw[xdv r1 (ho n c0 r1).1]at q1;cases q1;exact⟨_,xdv r2 r3,hb _ tombB tombB m1 m1 rfl (by rw[<-q2.ver]) rfl rfl q2.ok (λ c i j hr=>hr) q2⟩)|b n=>obtain⟨bx',r2,_,r3⟩:=hg n bx q1;exact⟨bx',r2,r3 _ _ g1 J⟩);obtain⟨n1,a1,a2,a3⟩:=Q id m1 k1;obtain⟨n2,b1,b2,b3⟩:=Q id' m2 k2;exact h4.inj id id' n1 n2 a1 b1 (a3▸c1) (b3▸c2) (by rw[<-a2,<-b2,he])
 refine⟨u,A',M'',rfl,h1,h2,⟨h3.size,h3.keep,h3.less,h3.more,λ id m ac hm=>?_,λ id m1 J h0=>?_⟩,hR',?_⟩;obtain⟨m',g1,g2⟩:=h3.ids id m ac hm;by_cases q4:id=.b q;subst q4;obtain⟨bx,r1,r2⟩:=hR.box _ m hm;exact⟨_,e4 m' g1,.inr (by rw[<-r2.ver,hz bx r1];exact Nat.zero_lt_one)⟩;exact⟨m',(eo id q4).trans g1,g2⟩;obtain⟨m0,g1,g2,g3⟩:=Q id m1 J;rw[g2];exact h3.src id m0 g1 (g3▸h0);obtain⟨Z,rfl,q1,_⟩:=h5.tuple_inv;exact .tuple Z [] q1 (by simp)
namespace M
open Go.Proofs
noncomputable def set2(q n h:Int)(ns no:Nat)(sx ox:List AV):Option (Int×Nat×Nat×List AV×List AV):=(xkj q n h ns no sx ox).bind λ p=>
 br (Nat.beq p.2.1 p.2.2.2.2.2.2.1&&Nat.beq p.2.2.2.1 p.2.2.2.2.2.2.2.2) (some (p.1,p.2.2.1,p.2.2.2.2.1,p.2.2.2.2.2.1,p.2.2.2.2.2.2.2.1)) none
noncomputable def xEB:List AV->List Box->Option (Bool×AV×List Box):=omOf (xMc (sEq (pInt IntKind.i64)) (xMc (sEq (pInt IntKind.i64)) (xMc (sEq (xMo 0 0 0 0)) (xMc (sEq (xMo 1 0 0 0)) (xMc (sEq (xMo 2 0 0 0)) xMe))))) (xMb (xMq 0 1 3 false true (xMb (pInt IntKind.i64) xMd)) (xMb (xMq 0 1 126 false false (xMb (xMn 3 0 0) xMd)) (xMb (xMq 0 1 64 false false (xMb (xMn 4 0 0) xMd)) (xMb (xMq 0 2 128 false true xMf) (xMb (xMq 0 2 52 false true xMf) xMd))))) λ(q,(n,(_,(_,(_,_))))) ((h,_),((ns,_),((no,_),(sx,(ox,_)))))=>((set2 q n h ns no sx ox).isSome,(.tuple [],[⟨0,1,3,[.int .i64 ((set2 q n h ns no sx ox).getD (0,0,0,[],[])).1],false,true⟩,⟨0,1,126,[.osl (.b 3) 1 0 ((set2 q n h ns no sx ox).getD (0,0,0,[],[])).2.1],false,false⟩,⟨0,1,64,[.osl (.b 4) 1 0 ((set2 q n h ns no sx ox).getD (0,0,0,[],[])).2.2.1],false,false⟩,⟨1,2,128,((set2 q n h ns no sx ox).getD (0,0,0,[],[])).2.2.2.1,false,true⟩,⟨1,2,52,((set2 q n h ns no sx ox).getD (0,0,0,[],[])).2.2.2.2,false,true⟩]))
def xJb:OmOk P0 xMa 106 xEB:=xkp λ vv bb rr Z hh=>by obtain⟨J,⟨n,⟨_,⟨_,⟨_,_⟩⟩⟩⟩⟩:=vv;obtain⟨⟨h,_⟩,⟨⟨ns,_⟩,⟨⟨no,_⟩,⟨sx,⟨ox,_⟩⟩⟩⟩⟩:=bb;obtain⟨O,Q⟩:=Prod.mk.inj hh;cases hs:xkj J n h ns no sx ox with|none=>rw[show set2 J n h ns no sx ox=none by unfold set2;rw[hs];rfl]at O;simp at O|some p=>(have W:set2 J n h ns no sx ox=br (Nat.beq p.2.1 p.2.2.2.2.2.2.1&&Nat.beq p.2.2.2.1 p.2.2.2.2.2.2.2.2) (some (p.1,p.2.2.1,p.2.2.2.2.1,p.2.2.2.2.2.1,p.2.2.2.2.2.2.2.1)) none:=by unfold set2;rw[hs];rfl);cases ht:Nat.beq p.2.1 p.2.2.2.2.2.2.1&&Nat.beq p.2.2.2.1 p.2.2.2.2.2.2.2.2 with|false=>rw[W,ht]at O;simp[br]at O|true=>
 rw[ht]at W;have Y:set2 J n h ns no sx ox=some (p.1,p.2.2.1,p.2.2.2.2.1,p.2.2.2.2.2.1,p.2.2.2.2.2.2.2.1):=W;rw[Y]at Q;simp only[zh]at Q;simp only[zf]at ht;have e1:=zg ht.1;have e2:=zg ht.2;have hx:=xzf J n h ns no sx ox p hs;have hg:GoodM P0 xMa 106 _ _ _ _:=xlR (p:=xgr.pin) (xlQ xLD (xLE P0 _) rfl xt1 rfl Tryz.func106 rfl (by kernel_rfl) xr4 hx);rw [<-e1,<-e2] at hg;have V:=GoodM.aged (p:=1) (q:=3) hg (fun bx hb=>by cases hb;rfl) rfl rfl rfl rfl (fun n bx hn=>by
  match n with
  | 0=>cases hn;exact⟨rfl,.inr (.inr (.inl rfl))⟩
  | 1=>cases hn;exact⟨rfl,.inl rfl⟩
  | 2=>cases hn;exact⟨rfl,.inr (.inr (.inr ⟨_,_,_,by decide,rfl⟩))⟩
  | 3=>cases hn;exact⟨rfl,.inr (.inl rfl)⟩
  | 4=>cases hn;exact⟨rfl,.inr (.inr (.inl rfl))⟩
  | n+5=>simp at hn)
 have V:=GoodM.aged (p:=2) (q:=4) V (fun bx hb=>by cases hb;rfl) rfl rfl rfl rfl (fun n bx hn=>by
  match n with
  | 0=>cases hn;exact⟨rfl,.inr (.inr (.inl rfl))⟩
  | 1=>cases hn;exact⟨rfl,.inr (.inr (.inr ⟨_,_,_,by decide,rfl⟩))⟩
  | 2=>cases hn;exact⟨rfl,.inl rfl⟩
  | 3=>cases hn;exact⟨rfl,.inr (.inr (.inl rfl))⟩
  | 4=>cases hn;exact⟨rfl,.inr (.inl rfl)⟩
  | n+5=>simp at hn)
 obtain⟨rfl,rfl⟩:=Prod.mk.inj Q;exact V
noncomputable def ESet:Env:=xqJ.E.withM 106 xEB
def xGr:xLt P0 xMa ESet:=xqJ.ok.withM xJb
noncomputable def xAS:EO:=EO.mk ESet xGr
end M
end Go.Sim
namespace Go.Sim.M
open Go.IntKind (i64 u64 u8)
open Go.RowKit Go.Proofs
def xj2(a:LA)(h b:Int)(f c:Nat)(g:Int)(d e:LA):Int:=if 0>(gC a b 1).toInt then 0 else(gC a b 1).toInt
def xj1(f:LA)(h g:Int)(d a:Nat)(e:Int)(b c:LA):=set2 (gC f g 0).toInt (if 1048576<xj2 f h g d a e b c then 1048576 else xj2 f h g d a e b c) e a d c b
def xcM(f:LA)(g h:Int)(d a:Nat)(e:Int)(b c:LA):=(xj1 f g h d a e b c).getD (0,0,0,[],[])
def xhA{T:Type}(g:LA)(h e:Int)(d a:Nat)(f:Int)(b c:LA)(δ:T)(κl:(Int×Nat×Nat×Int×LA×LA)->T)(κr:(Nat×Int×Nat×LA×LA)->T):T:=br (decide (e<h)) (br (ixI g e) (br (ixT g e 2 [Sh.int .i64,Sh.int .i64] 0) (br ((xj1 g h e d a f b c).isSome) (κl (i64.wrap (e+1),(((xcM g h e d a f b c).snd).snd).fst,(((xcM g h e d a f b c).snd).fst),(xcM g h e d a f b c).fst,((((xcM g h e d a f b c).snd).snd).snd).snd,List.take (((xcM g h e d a f b c).snd).fst) ((((xcM g h e d a f b c).snd).snd).snd).fst)) δ) δ) δ) (κr (d,f,a,b,c))
def xc7(f:LA)(g:Int):StT (Int×Nat×Nat×Int×LA×LA) (Nat×Int×Nat×LA×LA):=λ(h,d,a,e,b,c)=>xhA f g h d a e b c none inL inR
def xof:=xAS.l 30 0 [] [] Tryz.f76 0 lk0 [3,4,6,10,11,12] [3,6] [(3,2,52),(4,2,128),(4,0,0)] (q6 (xMo 0 0 0 0) (xMo 1 0 0 0) (xLR 106 (q3 (xMo 2 0 0 0) (xMo 1 0 0 0) (xMo 0 0 0 0))) (qL 2) qI qI) (q5 (xMq 0 1 64 false false (q1 (xMn 3 0 0))) (xMq 0 1 126 false false (q1 (xMn 4 0 0))) (qB 0 1 3 (q1 qI)) (qB 0 2 52 xMf) (qB 0 2 128 xMf)) (λ(_,_,(_,_,_,_),f,g,h,_) ((d,_),(a,_),(e,_),b,c,_)=>(xc7 f g,(h,d,a,e,b,c),λ p=>(.leaf (.exit 0) [AV.own 0 0 0 0,AV.func 106 [AV.own 1 0 0 0,AV.own 2 0 0 0,AV.own 0 0 0 0]] [⟨0,1,64,[AV.osl 3 0 0 p.1],false,false⟩,bF 0 1 3 [AV.int .i64 p.2.1],⟨0,1,126,[AV.osl 4 0 0 p.2.2.1],false,false⟩,bF 0 2 52 p.2.2.2.1,bF 0 2 128 p.2.2.2.2]))) (0,0,0,[],[]) λ(_,_,(_,_,_,_),f,g,_,_) _ (h,d,a,e,b,c)=>((((),(),((),(),(),()),f,g,h,()),((d,()),(a,()),(e,()),b,c,())),xhA f g h d a e b c none)
def xm0(l:LA):=Iter (xc7 l (↑l.length:Int)) (0,0,0,0,[],[])
def xfl(l:LA):=(xm0 l).getD (0,0,0,[],[])
def xmx(l:LA):=set2 1099511627776 0 ((xfl l).snd).fst (((xfl l).snd).snd).fst (xfl l).fst ((((xfl l).snd).snd).snd).snd ((((xfl l).snd).snd).snd).fst
def xcv(l:LA):=((xmx l).getD (0,0,0,[],[])).snd.snd
def xnA{T:Type}(l:LA)(δ:T)(κ:LA->T):T:=br ((xm0 l).isSome) (br ((xmx l).isSome) (br (((xcv l).fst).beq ((xcv l).snd.snd).length&&(decide (((xcv l).fst)<4611686018427387904)&&((xcv l).snd.snd).all isP)) (br (decide (0+((xcv l).fst)<=(srtP ((xcv l).snd.snd)).length)&&true) (κ (List.take ((xcv l).fst) (List.drop 0 (srtP ((xcv l).snd.snd))))) δ) δ) δ) δ
def xaw(l:LA):=xnA l none some
def xHH:EO:=xAS.f Tryz.func76 30 0 [] [(6,xof.lp)] (lk1 xof.ok) (u1 (uL 2)) (λ(l,_) _=>xnA l) (λ _ p=>AV.list 2 p) []
def xmd{T:Type}(a:LA)(δ:T)(κ:LA->T):T:=br ((↑a.length:Int)==1) (κ (a)) (br ((xer a).isSome) (br ((xaw ((xer a).getD [])).isSome) (κ ((xaw ((xer a).getD [])).getD [])) δ) δ)
def xfn(a:LA):=xmd a none some
def xyr:EO:=xHH.f Tryz.func115 10 0 [] [] lk0 (u1 (uL 2)) (λ(a,_) _=>xmd a) (λ _ p=>AV.list 2 p) []
def xji{T:Type}(b e:LA)(f:Int)(c:Nat)(a:Int)(d:LA)(δ:T)(κl:(Nat×Int×LA)->T)(κr:(Nat×LA)->T):T:=br (decide (a<f)) (br (decide (0<=a)&&decide (a<e.length)) (br (decide (a.toNat<e.length)&&((e.getD a.toNat .top).cells.length==2&&xLz [Sh.int .i64,Sh.int .i64] (e.getD a.toNat .top).cells 0)) (br (xf8 ((e.getD a.toNat .top).cells.getD 0 .top).toInt ((e.getD a.toNat .top).cells.getD 1 .top).toInt) (br (c==d.length&&(decide ((c+2)*24<=140737488355328)&&decide (c+2<=4611686018427387904))) (κl (c+2,i64.wrap (a+1),d++[AV.agg [AV.int .i64 ((e.getD a.toNat .top).cells.getD 0 .top).toInt,AV.int .i64 1,AV.int .i64 0],AV.agg [AV.int .i64 ((e.getD a.toNat .top).cells.getD 1 .top).toInt,AV.int .i64 (-1),AV.int .i64 0]])) δ) (κl (c,i64.wrap (a+1),d))) δ) δ) (κr (c,d))
def xbZ(b d:LA)(e:Int):StT (Nat×Int×LA) (Nat×LA):=λ(c,f,a)=>xji b d e c f a none inL inR
def xlH:=xyr.l 49 0 [] [] Tryz.f129 0 lk0 [1,5,10,11,12] [1,5] [(5,3,154)] (q5 (qL 2) (xMn 0 0 0) (qL 2) qI qI) (q1 (qB 0 3 154 xMf)) (λ(b,c,d,e,f,_) (a,_)=>(xbZ b d e,(c,f,a),λ p=>(.leaf (.exit 0) [AV.list 2 b,AV.osl 0 0 0 p.1] [bF 0 3 154 p.2]))) (0,[]) λ(b,_,d,e,_,_) _ (c,f,a)=>(((b,c,d,e,f,()),(a,())),xji b d e c f a none)
def xjj{T:Type}(d:LA)(e:Int)(b:Nat)(a:Int)(c:LA)(δ:T)(κl:(Nat×Int×LA)->T)(κr:(Nat×LA)->T):T:=br (decide (a<e)) (br (decide (0<=a)&&decide (a<d.length)) (br (decide (a.toNat<d.length)&&((d.getD a.toNat .top).cells.length==2&&xLz [Sh.int .i64,Sh.int .i64] (d.getD a.toNat .top).cells 0)) (br (xf8 ((d.getD a.toNat .top).cells.getD 0 .top).toInt ((d.getD a.toNat .top).cells.getD 1 .top).toInt) (br (b==c.length&&(decide ((b+2)*24<=140737488355328)&&decide (b+2<=4611686018427387904))) (κl (b+2,i64.wrap (a+1),c++[AV.agg [AV.int .i64 ((d.getD a.toNat .top).cells.getD 0 .top).toInt,AV.int .i64 0,AV.int .i64 1],AV.agg [AV.int .i64 ((d.getD a.toNat .top).cells.getD 1 .top).toInt,AV.int .i64 0,AV.int .i64 (-1)]])) δ) (κl (b,i64.wrap (a+1),c))) δ) δ) (κr (b,c))
def xdI(c:LA)(d:Int):StT (Nat×Int×LA) (Nat×LA):=λ(b,e,a)=>xjj c d b e a none inL inR
def xpN:=xyr.l 49 0 [] [(3,xlH.lp)] Tryz.f129 1 lk0 [5,28,29,30] [5] [(5,3,154)] (q4 (xMn 0 0 0) (qL 2) qI qI) (q1 (qB 0 3 154 xMf)) (λ(b,c,d,e,_) (a,_)=>(xdI c d,(b,e,a),λ p=>(.leaf (.exit 2) [AV.osl 0 0 0 p.1] [bF 0 3 154 p.2]))) (0,[]) λ(_,c,d,_,_) _ (b,e,a)=>(((b,c,d,e,()),(a,())),xjj c d b e a none)
def xlh(a b:LA):=(Iter (xbZ b a (↑a.length:Int)) (0,0,[])).getD (0,[])
def xlg(a b:LA):=Iter (xdI b (↑b.length:Int)) ((xlh a b).fst,0,(xlh a b).snd)
def xlf(a b:LA):=(xlg a b).getD (0,[])
def xgw(a b:LA):=(xlf a b).fst
def xgy(a b:LA):=(xlf a b).snd
def xpO{T:Type}(a b:LA)(δ:T)(κ:LA->T):T:=br ((Iter (xbZ b a (↑a.length:Int)) (0,0,[])).isSome) (br ((xlg a b).isSome) (br ((xgw a b).beq (xgy a b).length&&(decide (xgw a b<4611686018427387904)&&(xgy a b).all isE)) (br (decide (0+xgw a b<=(srtE (xgy a b)).length)&&true) (κ (List.take (xgw a b) (List.drop 0 (srtE (xgy a b))))) δ) δ) δ) δ
def xgx(a b:LA):=xpO a b none some
def xHI:EO:=xyr.f Tryz.func129 49 0 [] [(3,xlH.lp),(9,xpN.lp)] (lks (lkC xlH.ok (lkC xpN.ok lkN))) (u2 (uL 2) (uL 2)) (λ(a,b,_) _=>xpO a b) (λ _ p=>AV.list 3 p) []
def xl0(a b:Bool):Bool:=((a))
def xAC{T:Type}(a b:Bool)(δ:T)(κ:Bool->T):T:=κ (a)
def xHJ:EO:=xHI.fT Tryz.func93 6 0 [] [] lk0 (λ(a,b,_)=>xAC a b none) (u2 (sEq pBool) (sEq pBool)) (λ(a,b,_)=>xl0 a b) (λ _ p=>(AV.bool p))
def xfk(a b:Bool):Bool:=(br (a) ((!b)) ((false)))
def xtc{T:Type}(a b:Bool)(δ:T)(κ:Bool->T):T:=br (a) (κ (!b)) (κ (false))
def xys:EO:=xHJ.fT Tryz.func98 10 0 [] [] lk0 (λ(a,b,_)=>xtc a b none) (u2 (sEq pBool) (sEq pBool)) (λ(a,b,_)=>xfk a b) (λ _ p=>(AV.bool p))
def xoJ{T:Type}(l:LA)(e:Nat)(d b c i:Int)(a:LA)(δ:T)(κl:(Int×Int×Int×LA)->T)(κr:(Int×Int×Int×LA)->T):T:=br (decide (i<l.length)) (br (decide (0<=i)&&decide (i<l.length)) (br (decide (i.toNat<l.length)&&xLr (Sh.int .i64) ((l.getD i.toNat .top).cells.getD 0 .top)) (br (((l.getD i.toNat .top).cells.getD 0 .top).toInt==d) (br (decide (0<=i)&&decide (i<l.length)) (br (decide (i.toNat<l.length)&&xLr (Sh.int .i64) ((l.getD i.toNat .top).cells.getD 1 .top)) (br (decide (0<=i)&&decide (i<l.length)) (br (decide (i.toNat<l.length)&&xLr (Sh.int .i64) ((l.getD i.toNat .top).cells.getD 2 .top)) (κl (i64.wrap (b+((l.getD i.toNat .top).cells.getD 1 .top).toInt),i64.wrap (c+((l.getD i.toNat .top).cells.getD 2 .top).toInt),i64.wrap (i+1),a)) δ) δ) δ) δ) (κr (b,c,i,a))) δ) δ) (κr (b,c,i,a))
def xiq(l:LA)(b:Nat)(c:Int):StT (Int×Int×Int×LA) (Int×Int×Int×LA):=λ(d,e,i,a)=>xoJ l b c d e i a none inL inR
def xg2:=xys.l 92 0 [] [] Tryz.f92 1 lk0 [2,7,8,9,10,11,12] [2,7,8,9,10,11,12] [(8,2,52)] (q7 (xLR 93 xMd) (qL 3) (xMn 0 0 0) qI qI qI qI) (q1 (qB 0 2 52 xMf)) (λ(_,l,a,d,e,i,c,_) (b,_)=>(xiq l a c,(d,e,i,b),λ p=>(.leaf (.exit 2) [AV.func 93 [],AV.list 3 l,AV.osl 0 0 0 a,AV.int .i64 p.1,AV.int .i64 p.2.1,AV.int .i64 p.2.2.1,AV.int .i64 c] [bF 0 2 52 p.2.2.2]))) (0,0,0,[]) λ(_,l,a,_,_,_,c,_) _ (d,e,i,b)=>((((),l,a,d,e,i,c,()),(b,())),xoJ l a c d e i b none)
def xg1(a:Nat):=decide (0<=i64.wrap ((↑a:Int) - 1))&&decide (i64.wrap ((↑a:Int) - 1)<(↑a:Int))
def xah(l:LA)(b:Nat)(d e i c:Int)(a:LA):=(Iter (xiq l b c) (d,e,i,a)).getD (0,0,0,[])
def xaL(a:Nat):Nat:=0+(i64.wrap ((↑a:Int) - 1)).toNat
def xaj(l:LA)(b:Nat)(d e i c:Int)(a:LA):=(((xah l b d e i c a).snd).snd).snd
def xob(l:LA)(b:Nat)(d e i c:Int)(a:LA):=xl0 (decide (((xah l b d e i c a).fst)>0)) (decide ((((xah l b d e i c a).snd).fst)>0))
def xal(l:LA)(b:Nat)(d e i c:Int)(a:LA):=(((xah l b d e i c a).snd).snd).fst
def xg0(l:LA)(a:Nat)(d e i c:Int)(b:LA):=decide (xaL a<(xaj l a d e i c b).length)
def xoI{T:Type}(l:LA)(a:Nat)(d e i c:Int)(b:LA)(δ:T)(κl:(Nat×Int×Int×Int×Int×LA)->T)(κr:(Nat×LA)->T):T:=br (decide (c<1099511627776)) (br ((Iter (xiq l a c) (d,e,i,b)).isSome) (br (decide (xal l a d e i c b<l.length)) (br (decide (0<=xal l a d e i c b)&&(decide (xal l a d e i c b<l.length))) (br (decide ((xal l a d e i c b).toNat<l.length)&&xLr (Sh.int .i64) ((l.getD (xal l a d e i c b).toNat .top).cells.getD 0 .top)) (br (xob l a d e i c b) (br (decide ((↑a:Int)>0)) (br (xg1 a) (br (xg0 l a d e i c b&&xLr (Sh.int .i64) (((xaj l a d e i c b).getD (xaL a) .top).cells.getD 1 .top)) (br ((((xaj l a d e i c b).getD (xaL a) .top).cells.getD 1 .top).toInt==c) (br (xg1 a) (br (xg0 l a d e i c b) (κl (a,((xah l a d e i c b).fst),(((xah l a d e i c b).snd).fst),xal l a d e i c b,((l.getD (xal l a d e i c b).toNat .top).cells.getD 0 .top).toInt,(xaj l a d e i c b).set (xaL a) (AV.agg (List.take 1 ((xaj l a d e i c b).getD (xaL a) .top).cells++[AV.int .i64 ((l.getD (xal l a d e i c b).toNat .top).cells.getD 0 .top).toInt]++List.drop 2 ((xaj l a d e i c b).getD (xaL a) .top).cells)))) δ) δ) (br (a==(xaj l a d e i c b).length&&(decide ((a+1)*16<=140737488355328)&&decide (a+1<=4611686018427387904))) (κl (a+1,((xah l a d e i c b).fst),(((xah l a d e i c b).snd).fst),xal l a d e i c b,((l.getD (xal l a d e i c b).toNat .top).cells.getD 0 .top).toInt,xaj l a d e i c b++[AV.agg [AV.int .i64 c,AV.int .i64 ((l.getD (xal l a d e i c b).toNat .top).cells.getD 0 .top).toInt]])) δ)) δ) δ) (br (a==(xaj l a d e i c b).length&&(decide ((a+1)*16<=140737488355328)&&decide (a+1<=4611686018427387904))) (κl (a+1,((xah l a d e i c b).fst),(((xah l a d e i c b).snd).fst),xal l a d e i c b,((l.getD (xal l a d e i c b).toNat .top).cells.getD 0 .top).toInt,xaj l a d e i c b++[AV.agg [AV.int .i64 c,AV.int .i64 ((l.getD (xal l a d e i c b).toNat .top).cells.getD 0 .top).toInt]])) δ)) (κl (a,((xah l a d e i c b).fst),(((xah l a d e i c b).snd).fst),xal l a d e i c b,((l.getD (xal l a d e i c b).toNat .top).cells.getD 0 .top).toInt,xaj l a d e i c b))) δ) δ) (br (xob l a d e i c b) (br (decide ((↑a:Int)>0)) (br (xg1 a) (br (xg0 l a d e i c b&&xLr (Sh.int .i64) (((xaj l a d e i c b).getD (xaL a) .top).cells.getD 1 .top)) (br ((((xaj l a d e i c b).getD (xaL a) .top).cells.getD 1 .top).toInt==c) (br (xg1 a) (br (xg0 l a d e i c b) (κl (a,((xah l a d e i c b).fst),(((xah l a d e i c b).snd).fst),xal l a d e i c b,1099511627776,(xaj l a d e i c b).set (xaL a) (AV.agg (List.take 1 ((xaj l a d e i c b).getD (xaL a) .top).cells++[AV.int .i64 1099511627776]++List.drop 2 ((xaj l a d e i c b).getD (xaL a) .top).cells)))) δ) δ) (br (a==(xaj l a d e i c b).length&&(decide ((a+1)*16<=140737488355328)&&decide (a+1<=4611686018427387904))) (κl (a+1,((xah l a d e i c b).fst),(((xah l a d e i c b).snd).fst),xal l a d e i c b,1099511627776,xaj l a d e i c b++[AV.agg [AV.int .i64 c,AV.int .i64 1099511627776]])) δ)) δ) δ) (br (a==(xaj l a d e i c b).length&&(decide ((a+1)*16<=140737488355328)&&decide (a+1<=4611686018427387904))) (κl (a+1,((xah l a d e i c b).fst),(((xah l a d e i c b).snd).fst),xal l a d e i c b,1099511627776,xaj l a d e i c b++[AV.agg [AV.int .i64 c,AV.int .i64 1099511627776]])) δ)) (κl (a,((xah l a d e i c b).fst),(((xah l a d e i c b).snd).fst),xal l a d e i c b,1099511627776,xaj l a d e i c b)))) δ) (κr (a,b))
def xmX(l:LA):StT (Nat×Int×Int×Int×Int×LA) (Nat×LA):=λ(b,d,e,i,c,a)=>xoI l b d e i c a none inL inR
def xoa:=xys.l 92 0 [] [(6,xg2.lp)] Tryz.f92 0 (lk1 xg2.ok) [2,7,8,9,10,11,12] [8] [(8,2,52)] (q7 (xLR 93 xMd) (qL 3) (xMn 0 0 0) qI qI qI qI) (q1 (qB 0 2 52 xMf)) (λ(_,l,b,d,e,i,c,_) (a,_)=>(xmX l,(b,d,e,i,c,a),λ p=>(.leaf (.exit 0) [AV.osl 0 0 0 p.1] [bF 0 2 52 p.2]))) (0,[]) λ(_,l,_,_,_,_,_,_) _ (b,d,e,i,c,a)=>((((),l,b,d,e,i,c,()),(a,())),xoI l b d e i c a none)
def xp9(a b:LA):=Iter (xmX ((xgx a b).getD [])) (0,0,0,0,0,[])
def xjk(a b:LA):=(xp9 a b).getD (0,[])
def xqZ{T:Type}(a b:LA)(δ:T)(κ:LA->T):T:=br ((xgx a b).isSome) (br ((xp9 a b).isSome) (br (decide (0+((xjk a b).fst)<=((xjk a b).snd).length)&&true) (κ (List.take ((xjk a b).fst) (List.drop 0 ((xjk a b).snd)))) δ) δ) δ
def xpP(a b:LA):=xqZ a b none some
def xHK:EO:=xys.f Tryz.func92 92 0 [] [(6,xg2.lp),(5,xoa.lp)] (lks (lkC xoa.ok (lkC xg2.ok lkN))) (u3 (uL 2) (uL 2) (sEq (xLR (93:FuncId) xMd))) (λ(a,b,_,_) _=>xqZ a b) (λ _ p=>AV.list 2 p) []
def xsP{T:Type}(l:LA)(δ:T)(κ:LA->T):T:=br ((xpP l []).isSome) (κ ((xpP l []).getD [])) δ
def xiE(l:LA):=xsP l none some
def xyt:EO:=xHK.f Tryz.func61 5 0 [] [] lk0 (u1 (uL 2)) (λ(l,_) _=>xsP l) (λ _ p=>AV.list 2 p) []
def xoL{T:Type}(l:LA)(e:Nat)(d b c i:Int)(a:LA)(δ:T)(κl:(Int×Int×Int×LA)->T)(κr:(Int×Int×Int×LA)->T):T:=br (decide (i<l.length)) (br (decide (0<=i)&&decide (i<l.length)) (br (decide (i.toNat<l.length)&&xLr (Sh.int .i64) ((l.getD i.toNat .top).cells.getD 0 .top)) (br (((l.getD i.toNat .top).cells.getD 0 .top).toInt==d) (br (decide (0<=i)&&decide (i<l.length)) (br (decide (i.toNat<l.length)&&xLr (Sh.int .i64) ((l.getD i.toNat .top).cells.getD 1 .top)) (br (decide (0<=i)&&decide (i<l.length)) (br (decide (i.toNat<l.length)&&xLr (Sh.int .i64) ((l.getD i.toNat .top).cells.getD 2 .top)) (κl (i64.wrap (b+((l.getD i.toNat .top).cells.getD 1 .top).toInt),i64.wrap (c+((l.getD i.toNat .top).cells.getD 2 .top).toInt),i64.wrap (i+1),a)) δ) δ) δ) δ) (κr (b,c,i,a))) δ) δ) (κr (b,c,i,a))
def xir(l:LA)(b:Nat)(c:Int):StT (Int×Int×Int×LA) (Int×Int×Int×LA):=λ(d,e,i,a)=>xoL l b c d e i a none inL inR
def xg5:=xyt.l 92 0 [] [] Tryz.f92 1 lk0 [2,7,8,9,10,11,12] [2,7,8,9,10,11,12] [(8,2,52)] (q7 (xLR 98 xMd) (qL 3) (xMn 0 0 0) qI qI qI qI) (q1 (qB 0 2 52 xMf)) (λ(_,l,a,d,e,i,c,_) (b,_)=>(xir l a c,(d,e,i,b),λ p=>(.leaf (.exit 2) [AV.func 98 [],AV.list 3 l,AV.osl 0 0 0 a,AV.int .i64 p.1,AV.int .i64 p.2.1,AV.int .i64 p.2.2.1,AV.int .i64 c] [bF 0 2 52 p.2.2.2]))) (0,0,0,[]) λ(_,l,a,_,_,_,c,_) _ (d,e,i,b)=>((((),l,a,d,e,i,c,()),(b,())),xoL l a c d e i b none)
def xg4(a:Nat):=decide (0<=i64.wrap ((↑a:Int) - 1))&&decide (i64.wrap ((↑a:Int) - 1)<(↑a:Int))
def xai(l:LA)(b:Nat)(d e i c:Int)(a:LA):=(Iter (xir l b c) (d,e,i,a)).getD (0,0,0,[])
def xaM(a:Nat):Nat:=0+(i64.wrap ((↑a:Int) - 1)).toNat
def xak(l:LA)(b:Nat)(d e i c:Int)(a:LA):=(((xai l b d e i c a).snd).snd).snd
def xod(l:LA)(b:Nat)(d e i c:Int)(a:LA):=xfk (decide (((xai l b d e i c a).fst)>0)) (decide ((((xai l b d e i c a).snd).fst)>0))
def xam(l:LA)(b:Nat)(d e i c:Int)(a:LA):=(((xai l b d e i c a).snd).snd).fst
def xg3(l:LA)(a:Nat)(d e i c:Int)(b:LA):=decide (xaM a<(xak l a d e i c b).length)
def xoK{T:Type}(l:LA)(a:Nat)(d e i c:Int)(b:LA)(δ:T)(κl:(Nat×Int×Int×Int×Int×LA)->T)(κr:(Nat×LA)->T):T:=br (decide (c<1099511627776)) (br ((Iter (xir l a c) (d,e,i,b)).isSome) (br (decide (xam l a d e i c b<l.length)) (br (decide (0<=xam l a d e i c b)&&(decide (xam l a d e i c b<l.length))) (br (decide ((xam l a d e i c b).toNat<l.length)&&xLr (Sh.int .i64) ((l.getD (xam l a d e i c b).toNat .top).cells.getD 0 .top)) (br (xod l a d e i c b) (br (decide ((↑a:Int)>0)) (br (xg4 a) (br (xg3 l a d e i c b&&xLr (Sh.int .i64) (((xak l a d e i c b).getD (xaM a) .top).cells.getD 1 .top)) (br ((((xak l a d e i c b).getD (xaM a) .top).cells.getD 1 .top).toInt==c) (br (xg4 a) (br (xg3 l a d e i c b) (κl (a,((xai l a d e i c b).fst),(((xai l a d e i c b).snd).fst),xam l a d e i c b,((l.getD (xam l a d e i c b).toNat .top).cells.getD 0 .top).toInt,(xak l a d e i c b).set (xaM a) (AV.agg (List.take 1 ((xak l a d e i c b).getD (xaM a) .top).cells++[AV.int .i64 ((l.getD (xam l a d e i c b).toNat .top).cells.getD 0 .top).toInt]++List.drop 2 ((xak l a d e i c b).getD (xaM a) .top).cells)))) δ) δ) (br (a==(xak l a d e i c b).length&&(decide ((a+1)*16<=140737488355328)&&decide (a+1<=4611686018427387904))) (κl (a+1,((xai l a d e i c b).fst),(((xai l a d e i c b).snd).fst),xam l a d e i c b,((l.getD (xam l a d e i c b).toNat .top).cells.getD 0 .top).toInt,xak l a d e i c b++[AV.agg [AV.int .i64 c,AV.int .i64 ((l.getD (xam l a d e i c b).toNat .top).cells.getD 0 .top).toInt]])) δ)) δ) δ) (br (a==(xak l a d e i c b).length&&(decide ((a+1)*16<=140737488355328)&&decide (a+1<=4611686018427387904))) (κl (a+1,((xai l a d e i c b).fst),(((xai l a d e i c b).snd).fst),xam l a d e i c b,((l.getD (xam l a d e i c b).toNat .top).cells.getD 0 .top).toInt,xak l a d e i c b++[AV.agg [AV.int .i64 c,AV.int .i64 ((l.getD (xam l a d e i c b).toNat .top).cells.getD 0 .top).toInt]])) δ)) (κl (a,((xai l a d e i c b).fst),(((xai l a d e i c b).snd).fst),xam l a d e i c b,((l.getD (xam l a d e i c b).toNat .top).cells.getD 0 .top).toInt,xak l a d e i c b))) δ) δ) (br (xod l a d e i c b) (br (decide ((↑a:Int)>0)) (br (xg4 a) (br (xg3 l a d e i c b&&xLr (Sh.int .i64) (((xak l a d e i c b).getD (xaM a) .top).cells.getD 1 .top)) (br ((((xak l a d e i c b).getD (xaM a) .top).cells.getD 1 .top).toInt==c) (br (xg4 a) (br (xg3 l a d e i c b) (κl (a,((xai l a d e i c b).fst),(((xai l a d e i c b).snd).fst),xam l a d e i c b,1099511627776,(xak l a d e i c b).set (xaM a) (AV.agg (List.take 1 ((xak l a d e i c b).getD (xaM a) .top).cells++[AV.int .i64 1099511627776]++List.drop 2 ((xak l a d e i c b).getD (xaM a) .top).cells)))) δ) δ) (br (a==(xak l a d e i c b).length&&(decide ((a+1)*16<=140737488355328)&&decide (a+1<=4611686018427387904))) (κl (a+1,((xai l a d e i c b).fst),(((xai l a d e i c b).snd).fst),xam l a d e i c b,1099511627776,xak l a d e i c b++[AV.agg [AV.int .i64 c,AV.int .i64 1099511627776]])) δ)) δ) δ) (br (a==(xak l a d e i c b).length&&(decide ((a+1)*16<=140737488355328)&&decide (a+1<=4611686018427387904))) (κl (a+1,((xai l a d e i c b).fst),(((xai l a d e i c b).snd).fst),xam l a d e i c b,1099511627776,xak l a d e i c b++[AV.agg [AV.int .i64 c,AV.int .i64 1099511627776]])) δ)) (κl (a,((xai l a d e i c b).fst),(((xai l a d e i c b).snd).fst),xam l a d e i c b,1099511627776,xak l a d e i c b)))) δ) (κr (a,b))
def xmY(l:LA):StT (Nat×Int×Int×Int×Int×LA) (Nat×LA):=λ(b,d,e,i,c,a)=>xoK l b d e i c a none inL inR
def xoc:=xyt.l 92 0 [] [(6,xg5.lp)] Tryz.f92 0 (lk1 xg5.ok) [2,7,8,9,10,11,12] [8] [(8,2,52)] (q7 (xLR 98 xMd) (qL 3) (xMn 0 0 0) qI qI qI qI) (q1 (qB 0 2 52 xMf)) (λ(_,l,b,d,e,i,c,_) (a,_)=>(xmY l,(b,d,e,i,c,a),λ p=>(.leaf (.exit 0) [AV.osl 0 0 0 p.1] [bF 0 2 52 p.2]))) (0,[]) λ(_,l,_,_,_,_,_,_) _ (b,d,e,i,c,a)=>((((),l,b,d,e,i,c,()),(a,())),xoK l b d e i c a none)
def xqa(a b:LA):=Iter (xmY ((xgx a b).getD [])) (0,0,0,0,0,[])
def xjl(a b:LA):=(xqa a b).getD (0,[])
def xqx{T:Type}(a b:LA)(δ:T)(κ:LA->T):T:=br ((xgx a b).isSome) (br ((xqa a b).isSome) (br (decide (0+((xjl a b).fst)<=((xjl a b).snd).length)&&true) (κ (List.take ((xjl a b).fst) (List.drop 0 ((xjl a b).snd)))) δ) δ) δ
def xpQ(a b:LA):=xqx a b none some
def xHL:EO:=xyt.f Tryz.func92 92 0 [] [(6,xg5.lp),(5,xoc.lp)] (lks (lkC xoc.ok (lkC xg5.ok lkN))) (u3 (uL 2) (uL 2) (sEq (xLR (98:FuncId) xMd))) (λ(a,b,_,_) _=>xqx a b) (λ _ p=>AV.list 2 p) []
def xmW{T:Type}(a b:LA)(δ:T)(κ:LA->T):T:=br ((xpQ a b).isSome) (κ ((xpQ a b).getD [])) δ
def xfr(a b:LA):=xmW a b none some
def xyu:EO:=xHL.f Tryz.func63 8 0 [] [] lk0 (u2 (uL 2) (uL 2)) (λ(a,b,_) _=>xmW a b) (λ _ p=>AV.list 2 p) []
def xe6{T:Type}(h:LA)(i j:Int)(e:LA)(f:Int)(d:Nat)(c:Int)(a b g:LA)(δ:T)(κl:(Nat×Int×LA×LA×LA)->T)(κr:(Nat×LA)->T):T:=br (decide (c<f)) (br (ixI e c) (br (ixT e c 2 [Sh.int .i64,Sh.int .i64] 0) (br (decide (b.length*32<=140737488355328)&&decide (b.length<=4611686018427387904)) (br (decide (0+b.length<=b.length)&&true&&true&&true&&true) (br (rmB d a 1 40) (κl (d+1,i64.wrap (c+1),a++[AV.agg [AV.list 3 (List.take b.length (List.drop 0 b)),AV.int .i64 (gC e c 0).toInt,AV.int .i64 (gC e c 1).toInt]],b,g)) δ) δ) δ) δ) δ) (κr (d,a))
def xbL(c:LA)(d e:Int)(f:LA)(g:Int):StT (Nat×Int×LA×LA×LA) (Nat×LA):=λ(b,h,a,i,j)=>xe6 c d e f g b h a i j none inL inR
def xeK:=xyu.l 38 0 [54] [] Tryz.f89 1 lk0 [1,5,7,11,12,13,20,21,22] [1,5,11,12,13] [(5,3,54)] (q9 (xLR 115 xMd) (xMn 0 0 0) (xMo 1 0 0 0) (qL 2) qI qI (qL 2) qI qI) (q2 (qB 0 3 54 xMf) (qB 0 2 148 (q1 (xMp (q2 (qL 3) (qL 2)))))) (λ(_,b,_,c,d,e,f,g,h,_) (a,((i,j,_),_),_)=>(xbL c d e f g,(b,h,a,i,j),λ p=>(.leaf (.exit 2) [AV.func 115 [],AV.osl 0 0 0 p.1,AV.list 2 c,AV.int .i64 d,AV.int .i64 e] [bF 0 3 54 p.2]))) (0,[]) λ(_,_,_,c,d,e,f,g,_,_) _ (b,h,a,i,j)=>((((),b,(),c,d,e,f,g,h,()),(a,((i,j,()),()),())),xe6 c d e f g b h a i j none)
def xeJ(a:LA)(e:Int)(d:Nat)(b:Int)(c:LA):=Iter (xbL a e b ((xfn (gC a b 1).toList).getD []) (↑((xfn (gC a b 1).toList).getD []).length:Int)) (d,0,c,(gC a b 0).toList,(gC a b 1).toList)
def xe5{T:Type}(d:LA)(e:Int)(c:Nat)(b:Int)(a:LA)(δ:T)(κl:(Nat×Int×LA)->T)(κr:(Nat×LA)->T):T:=br (decide (b<e)) (br (ixI d b) (br (ixT d b 2 [Sh.list 3,Sh.list 2] 0) (br ((xfn (gC d b 1).toList).isSome) (br ((xeJ d e c b a).isSome) (κl (((xeJ d e c b a).getD (0,[])).fst,i64.wrap (b+1),((xeJ d e c b a).getD (0,[])).snd)) δ) δ) δ) δ) (κr (c,a))
def xcz(c:LA)(d:Int):StT (Nat×Int×LA) (Nat×LA):=λ(b,e,a)=>xe5 c d b e a none inL inR
def xkV:=xyu.l 38 0 [54] [(6,xeK.lp)] Tryz.f89 0 (lk1 xeK.ok) [1,5,11,12,13] [5] [(5,3,54)] (q5 (xLR 115 xMd) (xMn 0 0 0) (qL 2) qI qI) (q1 (qB 0 3 54 xMf)) (λ(_,b,c,d,e,_) (a,_)=>(xcz c d,(b,e,a),λ p=>(.leaf (.exit 0) [AV.osl 0 0 0 p.1] [bF 0 3 54 p.2]))) (0,[]) λ(_,_,c,d,_,_) _ (b,e,a)=>((((),b,c,d,e,()),(a,())),xe5 c d b e a none)
def xiG(l:LA):=Iter (xcz ((xd9 l).getD []) (↑((xd9 l).getD []).length:Int)) (0,0,[])
def xei(l:LA):=(xiG l).getD (0,[])
def xjr{T:Type}(l:LA)(δ:T)(κ:LA->T):T:=br ((xd9 l).isSome) (br ((xiG l).isSome) (br (decide (0+((xei l).fst)<=((xei l).snd).length)&&true) (κ (List.take ((xei l).fst) (List.drop 0 ((xei l).snd)))) δ) δ) δ
def xln(l:LA):=xjr l none some
def xHM:EO:=xyu.f Tryz.func89 38 0 [54] [(6,xeK.lp),(3,xkV.lp)] (lks (lkC xkV.ok (lkC xeK.ok lkN))) (u2 (uL 3) (sEq (xLR (115:FuncId) xMd))) (λ(l,_,_) _=>xjr l) (λ _ p=>AV.list 3 p) []
def xnd{T:Type}(l:LA)(δ:T)(κ:LA->T):T:=br ((xln l).isSome) (κ ((xln l).getD [])) δ
def xbK(l:LA):=xnd l none some
def xyv:EO:=xHM.f Tryz.func78 5 0 [] [] lk0 (u1 (uL 3)) (λ(l,_) _=>xnd l) (λ _ p=>AV.list 3 p) []
def xlL{T:Type}(h:LA)(i j:Int)(e:LA)(f:Int)(d:Nat)(c:Int)(a b g:LA)(δ:T)(κl:(Nat×Int×LA×LA×LA)->T)(κr:(Nat×LA)->T):T:=br (decide (c<f)) (br (ixI e c) (br (ixT e c 2 [Sh.int .i64,Sh.int .i64] 0) (br (decide (b.length*32<=140737488355328)&&decide (b.length<=4611686018427387904)) (br (decide (0+b.length<=b.length)&&true&&true&&true&&true) (br (rmB d a 1 40) (κl (d+1,i64.wrap (c+1),a++[AV.agg [AV.list 3 (List.take b.length (List.drop 0 b)),AV.int .i64 (gC e c 0).toInt,AV.int .i64 (gC e c 1).toInt]],b,g)) δ) δ) δ) δ) δ) (κr (d,a))
def xf6(c:LA)(d e:Int)(f:LA)(g:Int):StT (Nat×Int×LA×LA×LA) (Nat×LA):=λ(b,h,a,i,j)=>xlL c d e f g b h a i j none inL inR
def xeM:=xyv.l 38 0 [54] [] Tryz.f89 1 lk0 [1,5,7,11,12,13,20,21,22] [1,5,11,12,13] [(5,3,54)] (q9 (xLR 61 xMd) (xMn 0 0 0) (xMo 1 0 0 0) (qL 2) qI qI (qL 2) qI qI) (q2 (qB 0 3 54 xMf) (qB 0 2 148 (q1 (xMp (q2 (qL 3) (qL 2)))))) (λ(_,b,_,c,d,e,f,g,h,_) (a,((i,j,_),_),_)=>(xf6 c d e f g,(b,h,a,i,j),λ p=>(.leaf (.exit 2) [AV.func 61 [],AV.osl 0 0 0 p.1,AV.list 2 c,AV.int .i64 d,AV.int .i64 e] [bF 0 3 54 p.2]))) (0,[]) λ(_,_,_,c,d,e,f,g,_,_) _ (b,h,a,i,j)=>((((),b,(),c,d,e,f,g,h,()),(a,((i,j,()),()),())),xlL c d e f g b h a i j none)
def xeL(a:LA)(e:Int)(d:Nat)(b:Int)(c:LA):=Iter (xf6 a e b ((xiE (gC a b 1).toList).getD []) (↑((xiE (gC a b 1).toList).getD []).length:Int)) (d,0,c,(gC a b 0).toList,(gC a b 1).toList)
def xe7{T:Type}(d:LA)(e:Int)(c:Nat)(b:Int)(a:LA)(δ:T)(κl:(Nat×Int×LA)->T)(κr:(Nat×LA)->T):T:=br (decide (b<e)) (br (ixI d b) (br (ixT d b 2 [Sh.list 3,Sh.list 2] 0) (br ((xiE (gC d b 1).toList).isSome) (br ((xeL d e c b a).isSome) (κl (((xeL d e c b a).getD (0,[])).fst,i64.wrap (b+1),((xeL d e c b a).getD (0,[])).snd)) δ) δ) δ) δ) (κr (c,a))
def xcA(c:LA)(d:Int):StT (Nat×Int×LA) (Nat×LA):=λ(b,e,a)=>xe7 c d b e a none inL inR
def xkW:=xyv.l 38 0 [54] [(6,xeM.lp)] Tryz.f89 0 (lk1 xeM.ok) [1,5,11,12,13] [5] [(5,3,54)] (q5 (xLR 61 xMd) (xMn 0 0 0) (qL 2) qI qI) (q1 (qB 0 3 54 xMf)) (λ(_,b,c,d,e,_) (a,_)=>(xcA c d,(b,e,a),λ p=>(.leaf (.exit 0) [AV.osl 0 0 0 p.1] [bF 0 3 54 p.2]))) (0,[]) λ(_,_,c,d,_,_) _ (b,e,a)=>((((),b,c,d,e,()),(a,())),xe7 c d b e a none)
def xiH(l:LA):=Iter (xcA ((xd9 l).getD []) (↑((xd9 l).getD []).length:Int)) (0,0,[])
def xej(l:LA):=(xiH l).getD (0,[])
def xjs{T:Type}(l:LA)(δ:T)(κ:LA->T):T:=br ((xd9 l).isSome) (br ((xiH l).isSome) (br (decide (0+((xej l).fst)<=((xej l).snd).length)&&true) (κ (List.take ((xej l).fst) (List.drop 0 ((xej l).snd)))) δ) δ) δ
def xlo(l:LA):=xjs l none some
def xHN:EO:=xyv.f Tryz.func89 38 0 [54] [(6,xeM.lp),(3,xkW.lp)] (lks (lkC xkW.ok (lkC xeM.ok lkN))) (u2 (uL 3) (sEq (xLR (61:FuncId) xMd))) (λ(l,_,_) _=>xjs l) (λ _ p=>AV.list 3 p) []
def xne{T:Type}(l:LA)(δ:T)(κ:LA->T):T:=br ((xlo l).isSome) (κ ((xlo l).getD [])) δ
def xhG(l:LA):=xne l none some
def xHO:EO:=xHN.f Tryz.func55 5 0 [] [] lk0 (u1 (uL 3)) (λ(l,_) _=>xne l) (λ _ p=>AV.list 3 p) []
def xm4(a b:Int):Int:=((a))
def xzV{T:Type}(a b:Int)(δ:T)(κ:Int->T):T:=κ (a)
def xCO:EO:=xHO.fT Tryz.func118 5 0 [] [] lk0 (λ((a,b,_),_)=>xzV a b none) (u1 (xMs (u2 uI uI))) (λ((a,b,_),_)=>xm4 a b) (λ _ p=>(AV.int .i64 p))
def xoN(b:Nat)(a:LA):=decide (0+(i64.wrap ((↑b:Int) - 1)).toNat<a.length)&&xLr (Sh.int .i64) ((a.getD (0+(i64.wrap ((↑b:Int) - 1)).toNat) .top).cells.getD 0 .top)
def xoO(a:Nat):=decide (0<=i64.wrap ((↑a:Int) - 1))&&decide (i64.wrap ((↑a:Int) - 1)<(↑a:Int))
def xhB(b:LA)(k:Int):=decide (k.toNat<b.length)&&((b.getD k.toNat .top).cells.length==2&&xLz [Sh.int .i64,Sh.int .i64] (b.getD k.toNat .top).cells 0)
def xhC(a:LA)(i:Int):=decide (i.toNat<a.length)&&((a.getD i.toNat .top).cells.length==2&&xLz [Sh.int .i64,Sh.int .i64] (a.getD i.toNat .top).cells 0)
def xhD(b:LA)(k:Int):=ixI b k
def xhE(a:LA)(i:Int):=ixI a i
def xoP(a:Nat):=(↑a:Int)==0
def xeZ(b:LA)(k:Int):=xm4 (gC b k 0).toInt (gC b k 1).toInt
def xex(a:LA)(i:Int):=xm4 (gC a i 0).toInt (gC a i 1).toInt
def xkS(a:LA)(c:Nat)(i:Int)(b:LA):=((b.getD (0+(i64.wrap ((↑c:Int) - 1)).toNat) .top).cells.getD 0 .top).toInt !=xex a i
def xkT(b:LA)(c:Nat)(k:Int)(a:LA):=((a.getD (0+(i64.wrap ((↑c:Int) - 1)).toNat) .top).cells.getD 0 .top).toInt !=xeZ b k
def xfA(a b:LA)(i k:Int):=decide (xex a i<=xeZ b k)
def xeX{T:Type}(a:LA)(c:Nat)(i k:Int)(b:LA)(δ:T)(κl:(Nat×Int×Int×LA)->T):T:=br (rmB c b 1 8) (κl (c+1,i64.wrap (i+1),k,b++[AV.int .i64 (xex a i)])) δ
def xeV{T:Type}(a:LA)(b:Nat)(i k:Int)(c:LA)(δ:T)(κl:(Nat×Int×Int×LA)->T):T:=br (xhE a i) (br (xhC a i) (br (xoP b) (xeX a b i k c δ κl) (br (xoO b) (br (xoN b c) (br (xkS a b i c) (xeX a b i k c δ κl) (κl (b,i64.wrap (i+1),k,c))) δ) δ)) δ) δ
def xeY{T:Type}(b:LA)(c:Nat)(i k:Int)(a:LA)(δ:T)(κl:(Nat×Int×Int×LA)->T):T:=br (rmB c a 1 8) (κl (c+1,i,i64.wrap (k+1),a++[AV.int .i64 (xeZ b k)])) δ
def xeW{T:Type}(b:LA)(a:Nat)(i k:Int)(c:LA)(δ:T)(κl:(Nat×Int×Int×LA)->T):T:=br (xhD b k) (br (xhB b k) (br (xoP a) (xeY b a i k c δ κl) (br (xoO a) (br (xoN a c) (br (xkT b a k c) (xeY b a i k c δ κl) (κl (a,i,i64.wrap (k+1),c))) δ) δ)) δ) δ
def xeU{T:Type}(a b:LA)(d:Nat)(i k:Int)(c:LA)(δ:T)(κl:(Nat×Int×Int×LA)->T):T:=br (k==(↑b.length:Int)) (xeV a d i k c δ κl) (br (decide (i<a.length)) (br (xhE a i) (br (xhC a i) (br (xhD b k) (br (xhB b k) (br (xfA a b i k) (xeV a d i k c δ κl) (xeW b d i k c δ κl)) δ) δ) δ) δ) (xeW b d i k c δ κl))
def xgg{T:Type}(a b:LA)(d:Nat)(i k:Int)(c:LA)(δ:T)(κl:(Nat×Int×Int×LA)->T)(κr:(Nat×LA)->T):T:=br (decide (i<a.length)) (xeU a b d i k c δ κl) (br (decide (k<b.length)) (xeU a b d i k c δ κl) (κr (d,c)))
def xbe(a b:LA):StT (Nat×Int×Int×LA) (Nat×LA):=λ(d,i,k,c)=>xgg a b d i k c none inL inR
def xoM:=xCO.l 83 0 [] [] Tryz.f117 0 lk0 [0,1,2,3,9,10,11] [9] [(9,1,3)] (q7 (qL 2) (qL 2) (xLR 118 xMd) (xLR 118 xMd) (xMn 0 0 0) qI qI) (q1 (qB 0 1 3 xMf)) (λ(a,b,_,_,d,i,k,_) (c,_)=>(xbe a b,(d,i,k,c),λ p=>(.leaf (.exit 0) [AV.osl 0 0 0 p.1] [bF 0 1 3 p.2]))) (0,[]) λ(a,b,_,_,_,_,_,_) _ (d,i,k,c)=>(((a,b,(),(),d,i,k,()),(c,())),xgg a b d i k c none)
def xf4(a b:LA):=Iter (xbe a b) (0,0,0,[])
def xoC{T:Type}(a b:LA)(δ:T)(κ:LA->T):T:=br ((xf4 a b).isSome) (br (decide (0+(((xf4 a b).getD (0,[])).fst)<=(((xf4 a b).getD (0,[])).snd).length)&&true) (κ (List.take (((xf4 a b).getD (0,[])).fst) (List.drop 0 (((xf4 a b).getD (0,[])).snd)))) δ) δ
def xbC(a b:LA):=xoC a b none some
def xHv:EO:=xCO.f Tryz.func117 83 0 [] [(3,xoM.lp)] (lk1 xoM.ok) (u4 (uL 2) (uL 2) (sEq (xLR (118:FuncId) xMd)) (sEq (xLR (118:FuncId) xMd))) (λ(a,b,_,_,_) _=>xoC a b) (λ _ p=>AV.list 1 p) []
def xhg(a b t:Int):Int:=((xcN a t))
def xyn{T:Type}(a b t:Int)(δ:T)(κ:Int->T):T:=κ (xcN a t)
def xCP:EO:=xHv.fT Tryz.func170 9 0 [] [] lk0 (λ((a,b,_),t,_)=>xyn a b t none) (u2 (xMs (u2 uI uI)) uI) (λ((a,b,_),t,_)=>xhg a b t) (λ _ p=>(AV.int .i64 p))
def xaC(i j:Int):=i64.wrap ((u64.wrap (i64.wrap (i+j))).fdiv 2)
def xa0(x:LA)(i j:Int):=(x.getD (xaC i j).toNat .top).cells
def xa9{T:Type}(x:LA)(a n i j:Int)(δ:T)(κl:(Int×Int)->T)(κr:(Int)->T):T:=br (decide (i<j)) (br (decide (0<=xaC i j)&&decide (xaC i j<x.length)) (br (decide ((xaC i j).toNat<x.length)&&((xa0 x i j).length==2&&xLz [Sh.int .i64,Sh.int .i64] (xa0 x i j) 0)) (br (decide (xhg ((xa0 x i j).getD 0 .top).toInt ((xa0 x i j).getD 1 .top).toInt a<0)) (κl (i64.wrap (xaC i j+1),j)) (κl (i,xaC i j))) δ) δ) (κr (i))
def xao(x:LA)(a n:Int):StT (Int×Int) (Int):=λ(i,j)=>xa9 x a n i j none inL inR
def xhj:=xCP.l 49 0 [] [] Tryz.f169 0 lk0 [0,1,2,8,9,10] [0,1,2,8,9] [] (q6 (qL 2) qI (xLR 170 xMd) qI qI qI) xMd (λ(x,a,_,n,i,j,_) _=>(xao x a n,(i,j),λ p=>(.leaf (.exit 0) [AV.list 2 x,AV.int .i64 a,AV.func 170 [],AV.int .i64 n,AV.int .i64 p] []))) 0 λ(x,a,_,n,_,_,_) _ (i,j)=>(((x,a,(),n,i,j,()),()),xa9 x a n i j none)
def xaD(l:LA)(t:Int):=(Iter (xao l t (↑l.length:Int)) (0,(↑l.length:Int))).getD 0
def xbl(l:LA)(t:Int):=(l.getD (xaD l t).toNat .top).cells
def xdO{T:Type}(l:LA)(t:Int)(δ:T)(κ:Int×Bool->T):T:=br ((Iter (xao l t (↑l.length:Int)) (0,(↑l.length:Int))).isSome) (br (decide (xaD l t<l.length)) (br (decide (0<=xaD l t)&&decide (xaD l t<l.length)) (br (decide ((xaD l t).toNat<l.length)&&((xbl l t).length==2&&xLz [Sh.int .i64,Sh.int .i64] (xbl l t) 0)) (κ (xaD l t,xhg ((xbl l t).getD 0 .top).toInt ((xbl l t).getD 1 .top).toInt t==0)) δ) δ) (κ (xaD l t,false))) δ
def xbx(l:LA)(t:Int):=xdO l t none some
def xHw:EO:=xCP.f Tryz.func169 49 0 [] [(3,xhj.lp)] (lk1 xhj.ok) (u3 (uL 2) uI (sEq (xLR (170:FuncId) xMd))) (λ(l,t,_,_) _=>xdO l t) (λ _ p=>AV.tuple [AV.int .i64 p.1,AV.bool p.2]) (0,false)
def xm3{T:Type}(l:LA)(t:Int)(δ:T)(κ:Int->T):T:=br ((xbx l t).isSome) (br (((xbx l t).getD (0,false)).snd) (κ (((xbx l t).getD (0,false)).fst)) (κ (i64.wrap (((xbx l t).getD (0,false)).fst - 1)))) δ
def xd3(l:LA)(t:Int):=xm3 l t none some
def xHy:EO:=xHw.f Tryz.func140 17 0 [] [] lk0 (u2 (uL 2) uI) (λ(l,t,_) _=>xm3 l t) (λ _ p=>AV.int .i64 p) 0
def xo0{T:Type}(l:LA)(t:Int)(δ:T)(κ:Int->T):T:=br (decide (t<0)) (κ (0)) (br (decide (t>=1099511627776)) (κ (0)) (br ((xd3 l t).isSome) (br (decide ((xd3 l t).getD 0<0)) (κ (0)) (br (decide (0<=(xd3 l t).getD 0)&&decide ((xd3 l t).getD 0<(↑l.length:Int))) (br (decide (((xd3 l t).getD 0).toNat<l.length)&&xLr (Sh.int .i64) ((l.getD ((xd3 l t).getD 0).toNat .top).cells.getD 1 .top)) (κ (((l.getD ((xd3 l t).getD 0).toNat .top).cells.getD 1 .top).toInt)) δ) δ)) δ))
def xbB(l:LA)(t:Int):=xo0 l t none some
def xHz:EO:=xHy.f Tryz.func119 22 0 [] [] lk0 (u2 (uL 2) uI) (λ(l,t,_) _=>xo0 l t) (λ _ p=>AV.int .i64 p) 0
def xmZ(x y:Int):Int:=((i64.wrap (x+y)))
def xzS{T:Type}(x y:Int)(δ:T)(κ:Int->T):T:=κ (i64.wrap (x+y))
def xHA:EO:=xHz.fT Tryz.func80 8 0 [] [] lk0 (λ(x,y,_)=>xzS x y none) (u2 uI uI) (λ(x,y,_)=>xmZ x y) (λ _ p=>(AV.int .i64 p))
def xm2(x y:Int):Int:=((i64.wrap (x - y)))
def xzU{T:Type}(x y:Int)(δ:T)(κ:Int->T):T:=κ (i64.wrap (x - y))
def xHB:EO:=xHA.fT Tryz.func82 8 0 [] [] lk0 (λ(x,y,_)=>xzU x y none) (u2 uI uI) (λ(x,y,_)=>xm2 x y) (λ _ p=>(AV.int .i64 p))
def xm1(x y:Int):Int:=((if y<x then y else x))
def xzT{T:Type}(x y:Int)(δ:T)(κ:Int->T):T:=κ (if y<x then y else x)
def xHC:EO:=xHB.fT Tryz.func88 8 0 [] [] lk0 (λ(x,y,_)=>xzT x y none) (u2 uI uI) (λ(x,y,_)=>xm1 x y) (λ _ p=>(AV.int .i64 p))
def xk4(x a:Int):Int:=((if 0>x then 0 else x))
def xym{T:Type}(x a:Int)(δ:T)(κ:Int->T):T:=κ (if 0>x then 0 else x)
def xCQ:EO:=xHC.fT Tryz.func81 7 0 [] [] lk0 (λ(x,a,_)=>xym x a none) (u2 uI uI) (λ(x,a,_)=>xk4 x a) (λ _ p=>(AV.int .i64 p))
def xh5(a b c:LA)(f:Nat)(d:Int)(e:LA):=xax f (gC c d 0).toInt (xmZ ((xbB a (gC c d 0).toInt).getD 0) ((xbB b (gC c d 0).toInt).getD 0)) e
def xbQ(a b e:LA)(d:Nat)(f:Int)(c:LA):=(xh5 a b e d f c).getD (false,(0,[]),0,[])
def xfP{T:Type}(a b f:LA)(g:Int)(d:Nat)(e:Int)(c:LA)(δ:T)(κl:(Nat×Int×LA)->T)(κr:(Nat×LA)->T):T:=br (decide (e<g)) (br (ixI f e) (br (ixS f e (Sh.int .i64) 0) (br ((xbB a (gC f e 0).toInt).isSome) (br ((xbB b (gC f e 0).toInt).isSome) (br ((xh5 a b f d e c).isSome) (κl (br ((xbQ a b f d e c).fst) (((xbQ a b f d e c).snd).fst).fst (((xbQ a b f d e c).snd).snd).fst,i64.wrap (e+1),br ((xbQ a b f d e c).fst) (((xbQ a b f d e c).snd).fst).snd (((xbQ a b f d e c).snd).snd).snd)) δ) δ) δ) δ) δ) (κr (d,c))
def xb1(a b e:LA)(f:Int):StT (Nat×Int×LA) (Nat×LA):=λ(d,g,c)=>xfP a b e f d g c none inL inR
def xl1:=xCQ.l 38 0 [] [] Tryz.f79 0 lk0 [0,1,2,7,12,13,14] [2,7] [(7,2,132)] (q7 (qL 2) (qL 2) (xLR 80 xMd) (xMn 0 0 0) (qL 1) qI qI) (q1 (qB 0 2 132 xMf)) (λ(a,b,_,d,e,f,g,_) (c,_)=>(xb1 a b e f,(d,g,c),λ p=>(.leaf (.exit 0) [AV.func 80 [],AV.osl 0 0 0 p.1] [bF 0 2 132 p.2]))) (0,[]) λ(a,b,_,_,e,f,_,_) _ (d,g,c)=>(((a,b,(),d,e,f,g,()),(c,())),xfP a b e f d g c none)
def xj3(a b:LA):=Iter (xb1 a b ((xbC a b).getD []) (↑((xbC a b).getD []).length:Int)) (0,0,[])
def xdK(a b:LA):=(xj3 a b).getD (0,[])
def xkO{T:Type}(a b:LA)(δ:T)(κ:LA->T):T:=br ((xbC a b).isSome) (br ((xj3 a b).isSome) (br ((↑((xdK a b).fst):Int)==0) (κ ([AV.agg [AV.int .i64 0,AV.int .i64 0]])) (br (decide (0+((xdK a b).fst)<=((xdK a b).snd).length)&&true) (κ (List.take ((xdK a b).fst) (List.drop 0 ((xdK a b).snd)))) δ)) δ) δ
def xjm(a b:LA):=xkO a b none some
def xCR:EO:=xCQ.f Tryz.func79 38 0 [] [(3,xl1.lp)] (lk1 xl1.ok) (u3 (uL 2) (uL 2) (sEq (xLR (80:FuncId) xMd))) (λ(a,b,_,_) _=>xkO a b) (λ _ p=>AV.list 2 p) []
def xh8(a b c:LA)(f:Nat)(d:Int)(e:LA):=xax f (gC c d 0).toInt (xm2 ((xbB a (gC c d 0).toInt).getD 0) ((xbB b (gC c d 0).toInt).getD 0)) e
def xbT(a b e:LA)(d:Nat)(f:Int)(c:LA):=(xh8 a b e d f c).getD (false,(0,[]),0,[])
def xfS{T:Type}(a b f:LA)(g:Int)(d:Nat)(e:Int)(c:LA)(δ:T)(κl:(Nat×Int×LA)->T)(κr:(Nat×LA)->T):T:=br (decide (e<g)) (br (ixI f e) (br (ixS f e (Sh.int .i64) 0) (br ((xbB a (gC f e 0).toInt).isSome) (br ((xbB b (gC f e 0).toInt).isSome) (br ((xh8 a b f d e c).isSome) (κl (br ((xbT a b f d e c).fst) (((xbT a b f d e c).snd).fst).fst (((xbT a b f d e c).snd).snd).fst,i64.wrap (e+1),br ((xbT a b f d e c).fst) (((xbT a b f d e c).snd).fst).snd (((xbT a b f d e c).snd).snd).snd)) δ) δ) δ) δ) δ) (κr (d,c))
def xb4(a b e:LA)(f:Int):StT (Nat×Int×LA) (Nat×LA):=λ(d,g,c)=>xfS a b e f d g c none inL inR
def xl4:=xCR.l 38 0 [] [] Tryz.f79 0 lk0 [0,1,2,7,12,13,14] [2,7] [(7,2,132)] (q7 (qL 2) (qL 2) (xLR 82 xMd) (xMn 0 0 0) (qL 1) qI qI) (q1 (qB 0 2 132 xMf)) (λ(a,b,_,d,e,f,g,_) (c,_)=>(xb4 a b e f,(d,g,c),λ p=>(.leaf (.exit 0) [AV.func 82 [],AV.osl 0 0 0 p.1] [bF 0 2 132 p.2]))) (0,[]) λ(a,b,_,_,e,f,_,_) _ (d,g,c)=>(((a,b,(),d,e,f,g,()),(c,())),xfS a b e f d g c none)
def xj6(a b:LA):=Iter (xb4 a b ((xbC a b).getD []) (↑((xbC a b).getD []).length:Int)) (0,0,[])
def xdN(a b:LA):=(xj6 a b).getD (0,[])
def xkR{T:Type}(a b:LA)(δ:T)(κ:LA->T):T:=br ((xbC a b).isSome) (br ((xj6 a b).isSome) (br ((↑((xdN a b).fst):Int)==0) (κ ([AV.agg [AV.int .i64 0,AV.int .i64 0]])) (br (decide (0+((xdN a b).fst)<=((xdN a b).snd).length)&&true) (κ (List.take ((xdN a b).fst) (List.drop 0 ((xdN a b).snd)))) δ)) δ) δ
def xjo(a b:LA):=xkR a b none some
def xCS:EO:=xCR.f Tryz.func79 38 0 [] [(3,xl4.lp)] (lk1 xl4.ok) (u3 (uL 2) (uL 2) (sEq (xLR (82:FuncId) xMd))) (λ(a,b,_,_) _=>xkR a b) (λ _ p=>AV.list 2 p) []
def xh7(a b c:LA)(f:Nat)(d:Int)(e:LA):=xax f (gC c d 0).toInt (xm1 ((xbB a (gC c d 0).toInt).getD 0) ((xbB b (gC c d 0).toInt).getD 0)) e
def xbS(a b e:LA)(d:Nat)(f:Int)(c:LA):=(xh7 a b e d f c).getD (false,(0,[]),0,[])
def xfR{T:Type}(a b f:LA)(g:Int)(d:Nat)(e:Int)(c:LA)(δ:T)(κl:(Nat×Int×LA)->T)(κr:(Nat×LA)->T):T:=br (decide (e<g)) (br (ixI f e) (br (ixS f e (Sh.int .i64) 0) (br ((xbB a (gC f e 0).toInt).isSome) (br ((xbB b (gC f e 0).toInt).isSome) (br ((xh7 a b f d e c).isSome) (κl (br ((xbS a b f d e c).fst) (((xbS a b f d e c).snd).fst).fst (((xbS a b f d e c).snd).snd).fst,i64.wrap (e+1),br ((xbS a b f d e c).fst) (((xbS a b f d e c).snd).fst).snd (((xbS a b f d e c).snd).snd).snd)) δ) δ) δ) δ) δ) (κr (d,c))
def xb3(a b e:LA)(f:Int):StT (Nat×Int×LA) (Nat×LA):=λ(d,g,c)=>xfR a b e f d g c none inL inR
def xl3:=xCS.l 38 0 [] [] Tryz.f79 0 lk0 [0,1,2,7,12,13,14] [2,7] [(7,2,132)] (q7 (qL 2) (qL 2) (xLR 88 xMd) (xMn 0 0 0) (qL 1) qI qI) (q1 (qB 0 2 132 xMf)) (λ(a,b,_,d,e,f,g,_) (c,_)=>(xb3 a b e f,(d,g,c),λ p=>(.leaf (.exit 0) [AV.func 88 [],AV.osl 0 0 0 p.1] [bF 0 2 132 p.2]))) (0,[]) λ(a,b,_,_,e,f,_,_) _ (d,g,c)=>(((a,b,(),d,e,f,g,()),(c,())),xfR a b e f d g c none)
def xj5(a b:LA):=Iter (xb3 a b ((xbC a b).getD []) (↑((xbC a b).getD []).length:Int)) (0,0,[])
def xdM(a b:LA):=(xj5 a b).getD (0,[])
def xkQ{T:Type}(a b:LA)(δ:T)(κ:LA->T):T:=br ((xbC a b).isSome) (br ((xj5 a b).isSome) (br ((↑((xdM a b).fst):Int)==0) (κ ([AV.agg [AV.int .i64 0,AV.int .i64 0]])) (br (decide (0+((xdM a b).fst)<=((xdM a b).snd).length)&&true) (κ (List.take ((xdM a b).fst) (List.drop 0 ((xdM a b).snd)))) δ)) δ) δ
def xjn(a b:LA):=xkQ a b none some
def xCT:EO:=xCS.f Tryz.func79 38 0 [] [(3,xl3.lp)] (lk1 xl3.ok) (u3 (uL 2) (uL 2) (sEq (xLR (88:FuncId) xMd))) (λ(a,b,_,_) _=>xkQ a b) (λ _ p=>AV.list 2 p) []
def xh6(a b c:LA)(f:Nat)(d:Int)(e:LA):=xax f (gC c d 0).toInt (xk4 ((xbB a (gC c d 0).toInt).getD 0) ((xbB b (gC c d 0).toInt).getD 0)) e
def xbR(a b e:LA)(d:Nat)(f:Int)(c:LA):=(xh6 a b e d f c).getD (false,(0,[]),0,[])
def xfQ{T:Type}(a b f:LA)(g:Int)(d:Nat)(e:Int)(c:LA)(δ:T)(κl:(Nat×Int×LA)->T)(κr:(Nat×LA)->T):T:=br (decide (e<g)) (br (ixI f e) (br (ixS f e (Sh.int .i64) 0) (br ((xbB a (gC f e 0).toInt).isSome) (br ((xbB b (gC f e 0).toInt).isSome) (br ((xh6 a b f d e c).isSome) (κl (br ((xbR a b f d e c).fst) (((xbR a b f d e c).snd).fst).fst (((xbR a b f d e c).snd).snd).fst,i64.wrap (e+1),br ((xbR a b f d e c).fst) (((xbR a b f d e c).snd).fst).snd (((xbR a b f d e c).snd).snd).snd)) δ) δ) δ) δ) δ) (κr (d,c))
def xb2(a b e:LA)(f:Int):StT (Nat×Int×LA) (Nat×LA):=λ(d,g,c)=>xfQ a b e f d g c none inL inR
def xl2:=xCT.l 38 0 [] [] Tryz.f79 0 lk0 [0,1,2,7,12,13,14] [2,7] [(7,2,132)] (q7 (qL 2) (qL 2) (xLR 81 xMd) (xMn 0 0 0) (qL 1) qI qI) (q1 (qB 0 2 132 xMf)) (λ(a,b,_,d,e,f,g,_) (c,_)=>(xb2 a b e f,(d,g,c),λ p=>(.leaf (.exit 0) [AV.func 81 [],AV.osl 0 0 0 p.1] [bF 0 2 132 p.2]))) (0,[]) λ(a,b,_,_,e,f,_,_) _ (d,g,c)=>(((a,b,(),d,e,f,g,()),(c,())),xfQ a b e f d g c none)
def xj4(a b:LA):=Iter (xb2 a b ((xbC a b).getD []) (↑((xbC a b).getD []).length:Int)) (0,0,[])
def xdL(a b:LA):=(xj4 a b).getD (0,[])
def xkP{T:Type}(a b:LA)(δ:T)(κ:LA->T):T:=br ((xbC a b).isSome) (br ((xj4 a b).isSome) (br ((↑((xdL a b).fst):Int)==0) (κ ([AV.agg [AV.int .i64 0,AV.int .i64 0]])) (br (decide (0+((xdL a b).fst)<=((xdL a b).snd).length)&&true) (κ (List.take ((xdL a b).fst) (List.drop 0 ((xdL a b).snd)))) δ)) δ) δ
def xg8(a b:LA):=xkP a b none some
def xHD:EO:=xCT.f Tryz.func79 38 0 [] [(3,xl2.lp)] (lk1 xl2.ok) (u3 (uL 2) (uL 2) (sEq (xLR (81:FuncId) xMd))) (λ(a,b,_,_) _=>xkP a b) (λ _ p=>AV.list 2 p) []
def xqC{T:Type}(a b:LA)(δ:T)(κ:LA->T):T:=br ((xjm a b).isSome) (κ ((xjm a b).getD [])) δ
def xoe(a b:LA):=xqC a b none some
def xHE:EO:=xHD.f Tryz.func43 8 0 [] [] lk0 (u2 (uL 2) (uL 2)) (λ(a,b,_) _=>xqC a b) (λ _ p=>AV.list 2 p) []
def xqG{T:Type}(a b:LA)(δ:T)(κ:LA->T):T:=br ((xjo a b).isSome) (κ ((xjo a b).getD [])) δ
def xoh(a b:LA):=xqG a b none some
def xGk:EO:=xHE.f Tryz.func47 8 0 [] [] lk0 (u2 (uL 2) (uL 2)) (λ(a,b,_) _=>xqG a b) (λ _ p=>AV.list 2 p) []
def xqD{T:Type}(a b:LA)(δ:T)(κ:LA->T):T:=br ((xjn a b).isSome) (κ ((xjn a b).getD [])) δ
def xog(a b:LA):=xqD a b none some
def xGl:EO:=xGk.f Tryz.func53 8 0 [] [] lk0 (u2 (uL 2) (uL 2)) (λ(a,b,_) _=>xqD a b) (λ _ p=>AV.list 2 p) []
def xpR{T:Type}(l:LA)(δ:T)(κ:LA->T):T:=br ((xg8 l []).isSome) (κ ((xg8 l []).getD [])) δ
def xo1(l:LA):=xpR l none some
def xGm:EO:=xGl.f Tryz.func46 5 0 [] [] lk0 (u1 (uL 2)) (λ(l,_) _=>xpR l) (λ _ p=>AV.list 2 p) []
def xlG{T:Type}(x y:LA)(δ:T)(κ:LA->T):T:=br ((xoh x y).isSome) (br ((xo1 ((xoh x y).getD [])).isSome) (κ ((xo1 ((xoh x y).getD [])).getD [])) δ) δ
def xhX(x y:LA):=xlG x y none some
def xvD:EO:=xGm.f Tryz.func45 9 0 [] [] lk0 (u2 (uL 2) (uL 2)) (λ(x,y,_) _=>xlG x y) (λ _ p=>AV.list 2 p) []
def xgM(b a:Bool):Int:=(br (b) (((-1))) (br (a) ((1)) ((0))))
def xzG{T:Type}(b a:Bool)(δ:T)(κ:Int->T):T:=br (b) (κ ((-1))) (br (a) (κ (1)) (κ (0)))
def xHP:EO:=xvD.fT Tryz.func134 7 0 [] [] lk0 (λ(b,a,_)=>xzG b a none) (u2 (sEq pBool) (sEq pBool)) (λ(b,a,_)=>xgM b a) (λ _ p=>(AV.int .i64 p))
def xgu(a b:Int)(c:List UInt8)(d e:Int)(f:List UInt8):Int:=(br (a !=d) ((xgM (decide (a<d)) (decide (a>d)))) (br (b !=e) ((xgM (decide (b<e)) (decide (b>e)))) ((xgM (Op.bytesLess c f) !(Op.bytesLess c f || c==f)))))
def xu6{T:Type}(a b:Int)(c:List UInt8)(d e:Int)(f:List UInt8)(δ:T)(κ:Int->T):T:=br (a !=d) (κ (xgM (decide (a<d)) (decide (a>d)))) (br (b !=e) (κ (xgM (decide (b<e)) (decide (b>e)))) (κ (xgM (Op.bytesLess c f) !(Op.bytesLess c f || c==f))))
def xCX:EO:=xHP.fT Tryz.func103 48 0 [] [] lk0 (λ((a,b,c,_),(d,e,f,_),_)=>xu6 a b c d e f none) (u2 (xMs (u3 uI uI (sEq pStr))) (xMs (u3 uI uI (sEq pStr)))) (λ((a,b,c,_),(d,e,f,_),_)=>xgu a b c d e f) (λ _ p=>(AV.int .i64 p))
def xdj(a b:LA)(i:Int):=xgu (gC a i 0).toInt (gC a i 1).toInt (gC a i 2).toStr (gC b i 0).toInt (gC b i 1).toInt (gC b i 2).toStr
def xdB{T:Type}(a b:LA)(i:Int)(δ:T)(κl:(Int)->T)(κr:(Bool×(Int)×(Unit))->T):T:=br (decide (i<a.length)) (br (decide (i<b.length)) (br (ixI a i) (br (ixT a i 3 [Sh.int .i64,Sh.int .i64,Sh.str] 0) (br (ixI b i) (br (ixT b i 3 [Sh.int .i64,Sh.int .i64,Sh.str] 0) (br (xdj a b i !=0) (κr (true,(xdj a b i),())) (κl (i64.wrap (i+1)))) δ) δ) δ) δ) (κr (false,0,()))) (κr (false,0,()))
def xaV(a b:LA):StT (Int) (Bool×(Int)×(Unit)):=λ(i)=>xdB a b i none inL inR
def xnc:=xCX.l 41 0 [] [] Tryz.f73 0 lk0 [0,1,5] [0,1,4] [] (q3 (qL 3) (qL 3) qI) xMd (λ(a,b,i,_) _=>(xaV a b,(i),λ p=>(.node p.1 (.leaf .ret [AV.list 3 a,AV.list 3 b,AV.int .i64 p.2.1] []) (.leaf (.exit 0) [AV.list 3 a,AV.list 3 b,.top] [])))) (false,0,()) λ(a,b,_,_) _ (i)=>(((a,b,i,()),()),xdB a b i none)
def xmB{T:Type}(a b:LA)(δ:T)(κ:Int->T):T:=br ((Iter (xaV a b) 0).isSome) (br (((Iter (xaV a b) 0).getD (false,0,())).fst) (κ (((Iter (xaV a b) 0).getD (false,0,())).snd.fst)) (br (decide ((↑a.length:Int)<(↑b.length:Int))) (κ ((-1))) (br (decide ((↑a.length:Int)>(↑b.length:Int))) (κ (1)) (κ (0))))) δ
def xaP(a b:LA):=xmB a b none some
def xHQ:EO:=xCX.f Tryz.func73 41 0 [] [(2,xnc.lp)] (lk1 xnc.ok) (u2 (uL 3) (uL 3)) (λ(a,b,_) _=>xmB a b) (λ _ p=>AV.int .i64 p) 0
def xos{T:Type}(a b:LA)(δ:T)(κ:Bool->T):T:=br ((xaP a b).isSome) (κ ((xaP a b).getD 0==0)) δ
def xk2(a b:LA):=xos a b none some
def xCY:EO:=xHQ.f Tryz.func71 9 0 [] [] lk0 (u2 (uL 3) (uL 3)) (λ(a,b,_) _=>xos a b) (λ _ p=>AV.bool p) false
def xfI{T:Type}(a b:LA)(i:Int)(δ:T)(κl:(Int)->T)(κr:(Bool×(Bool)×(Unit))->T):T:=br (decide (i<a.length)) (br (ixI a i) (br (ixT a i 3 [Sh.int .i64,Sh.int .i64] 1) (br (ixI b i) (br (ixT b i 3 [Sh.int .i64,Sh.int .i64] 1) (br (!((gC a i 1).toInt==(gC b i 1).toInt&&((gC a i 2).toInt==(gC b i 2).toInt&&true))) (κr (true,(false),())) (br (ixI a i) (br (ixS a i (Sh.list 3) 0) (br (ixI b i) (br (ixS b i (Sh.list 3) 0) (br ((xaP (gC a i 0).toList (gC b i 0).toList).isSome) (br ((xaP (gC a i 0).toList (gC b i 0).toList).getD 0 !=0) (κr (true,(false),())) (κl (i64.wrap (i+1)))) δ) δ) δ) δ) δ)) δ) δ) δ) δ) (κr (false,false,()))
def xbk(a b:LA):StT (Int) (Bool×(Bool)×(Unit)):=λ(i)=>xfI a b i none inL inR
def xlY:=xCY.l 42 0 [] [] Tryz.f35 0 lk0 [0,1,5] [4] [] (q3 (qL 3) (qL 3) qI) xMd (λ(a,b,i,_) _=>(xbk a b,(i),λ p=>(.node p.1 (.leaf .ret [AV.bool p.2.1] []) (.leaf (.exit 0) [.top] [])))) (false,false,()) λ(a,b,_,_) _ (i)=>(((a,b,i,()),()),xfI a b i none)
def xkK{T:Type}(a b:LA)(δ:T)(κ:Bool->T):T:=br ((↑a.length:Int) !=(↑b.length:Int)) (κ (false)) (br ((Iter (xbk a b) 0).isSome) (br (((Iter (xbk a b) 0).getD (false,false,())).fst) (κ (((Iter (xbk a b) 0).getD (false,false,())).snd.fst)) (κ (true))) δ)
def xbr(a b:LA):=xkK a b none some
def xCZ:EO:=xCY.f Tryz.func35 42 0 [] [(4,xlY.lp)] (lk1 xlY.ok) (u2 (uL 3) (uL 3)) (λ(a,b,_) _=>xkK a b) (λ _ p=>AV.bool p) false
def xdF(a b:LA)(i k:Int):=decide ((xaP (gC b k 0).toList (gC a i 0).toList).getD 0<0)
def xdG(a:LA)(i:Int):=decide (i.toNat<a.length)&&((a.getD i.toNat .top).cells.length==3&&xLz [Sh.list 3,Sh.int .i64,Sh.int .i64] (a.getD i.toNat .top).cells 0)
def xdH(b:LA)(k:Int):=decide (k.toNat<b.length)&&((b.getD k.toNat .top).cells.length==3&&xLz [Sh.list 3,Sh.int .i64,Sh.int .i64] (b.getD k.toNat .top).cells 0)
def xcp{T:Type}(b:LA)(c:Nat)(i k:Int)(a:LA)(δ:T)(κl:(Nat×Int×Int×LA)->T):T:=br (ixI b k) (br (xdH b k) (br (rmB c a 1 40) (κl (c+1,i,i64.wrap (k+1),a++[AV.agg [AV.list 3 (gC b k 0).toList,AV.int .i64 (gC b k 1).toInt,AV.int .i64 (gC b k 2).toInt]])) δ) δ) δ
def xcq{T:Type}(a:LA)(c:Nat)(i k:Int)(b:LA)(δ:T)(κl:(Nat×Int×Int×LA)->T):T:=br (ixI a i) (br (xdG a i) (br (rmB c b 1 40) (κl (c+1,i64.wrap (i+1),k,b++[AV.agg [AV.list 3 (gC a i 0).toList,AV.int .i64 (gC a i 1).toInt,AV.int .i64 (gC a i 2).toInt]])) δ) δ) δ
def xco{T:Type}(a b:LA)(d:Nat)(i k:Int)(c:LA)(δ:T)(κl:(Nat×Int×Int×LA)->T):T:=br (i==(↑a.length:Int)) (xcp b d i k c δ κl) (br (decide (k<b.length)) (br (ixI b k) (br (ixS b k (Sh.list 3) 0) (br (ixI a i) (br (ixS a i (Sh.list 3) 0) (br ((xaP (gC b k 0).toList (gC a i 0).toList).isSome) (br (xdF a b i k) (xcp b d i k c δ κl) (xcq a d i k c δ κl)) δ) δ) δ) δ) δ) (xcq a d i k c δ κl))
def xdd{T:Type}(a b:LA)(d:Nat)(i k:Int)(c:LA)(δ:T)(κl:(Nat×Int×Int×LA)->T)(κr:(Nat×LA)->T):T:=br (decide (i<a.length)) (xco a b d i k c δ κl) (br (decide (k<b.length)) (xco a b d i k c δ κl) (κr (d,c)))
def xa5(a b:LA):StT (Nat×Int×Int×LA) (Nat×LA):=λ(d,i,k,c)=>xdd a b d i k c none inL inR
def xn6:=xCZ.l 61 0 [] [] Tryz.f135 0 lk0 [0,1,5,6,7] [5] [(5,3,54)] (q5 (qL 3) (qL 3) (xMn 0 0 0) qI qI) (q1 (qB 0 3 54 xMf)) (λ(a,b,d,i,k,_) (c,_)=>(xa5 a b,(d,i,k,c),λ p=>(.leaf (.exit 0) [AV.osl 0 0 0 p.1] [bF 0 3 54 p.2]))) (0,[]) λ(a,b,_,_,_,_) _ (d,i,k,c)=>(((a,b,d,i,k,()),(c,())),xdd a b d i k c none)
def xmJ(a b:LA):=Iter (xa5 a b) (0,0,0,[])
def xgT(a b:LA):=(xmJ a b).getD (0,[])
def xnu{T:Type}(a b:LA)(δ:T)(κ:LA->T):T:=br ((xmJ a b).isSome) (br (decide (0+((xgT a b).fst)<=((xgT a b).snd).length)&&true) (κ (List.take ((xgT a b).fst) (List.drop 0 ((xgT a b).snd)))) δ) δ
def xpC(a b:LA):=xnu a b none some
def xum:EO:=xCZ.f Tryz.func135 61 0 [] [(3,xn6.lp)] (lk1 xn6.ok) (u2 (uL 3) (uL 3)) (λ(a,b,_) _=>xnu a b) (λ _ p=>AV.list 3 p) []
def xjX(R:LA->Option (LA)):LA->Option (Bool×AV):=ocOf (xMc (xMr 3 xMf) xMe) λ(l,_)=>((R l).isSome,AV.list 3 ((R l).getD []))
def xgm(R:LA->Option (LA)):Prop:=OcOk P0 xMa 104 (xjX R)
def xeF(R:LA->Option (LA)):Env:=(xum.E.with 104 (xjX R)).fn 20 0 (lsOf []) (xLQ [])
def xr6(R:LA->Option (LA))(a:xgm R):xLt P0 (xMa.at 0) (xeF R):=(xum.ok.with a).fn
def xqw(R:LA->Option (LA))(a:xgm R):LoOk P0 (xMa.at (xeF R).pin) (xeF R) (Tryz.f104.body.getD .skip):=xfq (by kernel_rfl)
def xlC(l:LA):=decide (0<=i64.wrap ((↑l.length:Int).tdiv 2))&&decide (i64.wrap ((↑l.length:Int).tdiv 2)<=(↑l.length:Int))
def xlD(R:LA->Option (LA))(l:LA):Option (LA):=R (List.take (l.length - (i64.wrap ((↑l.length:Int).tdiv 2)).toNat) (List.drop (i64.wrap ((↑l.length:Int).tdiv 2)).toNat l))
def xlB(R:LA->Option (LA))(l:LA):Option (LA):=xpC ((R (List.take ((i64.wrap ((↑l.length:Int).tdiv 2)).toNat - 0) (List.drop 0 l))).getD []) ((xlD R l).getD [])
def xfd{T:Type}(R:LA->Option (LA))(l:LA)(δ:T)(κ:LA->T):T:=br (decide ((↑l.length:Int)<2)) (κ (l)) (br (xlC l&&true) (br ((R (List.take ((i64.wrap ((↑l.length:Int).tdiv 2)).toNat - 0) (List.drop 0 l))).isSome) (br (xlC l) (br ((xlD R l).isSome) (br ((xlB R l).isSome) (κ ((xlB R l).getD [])) δ) δ) δ) δ) δ)
def xcb(R:LA->Option (LA))(l:LA):=xfd R l none some
def xva(R:LA->Option (LA))(l:LA):Enc (λ(p:LA)=>((AV.list 3 p):AV)) (xcb R l) (XF P0 (xeF R) Tryz.f104 (Tryz.f104.body.getD .skip) [AV.list 3 l]):=by(have h:XF P0 (xeF R) Tryz.f104 (Tryz.f104.body.getD .skip) [AV.list 3 l]=xfd R l none (λ(p:LA)=>some ((AV.list 3 p):AV)):=by kernel_rfl);rw[h];unfold xcb xfd;repeat' (first|refine Enc.br ?_ ?_|exact Enc.none|exact Enc.some rfl)
def xu9(R:LA->Option (LA)):LA->Option (Bool×AV):=ocOf (xMc (xMr 3 xMf) xMe) λ(l,_)=>((xcb R l).isSome,(AV.list 3 ((xcb R l).getD [])))
def xu8(R:LA->Option (LA))(a:xgm R):OcOk P0 xMa 104 (xu9 R):=xko λ e g f=>by obtain⟨l,_⟩:=e;obtain⟨b,c⟩:=Prod.mk.inj f;refine xlr (p:=(xeF R).pin) (xo4 xLD (xLE P0 _) rfl (xr6 R a) Tryz.func104 rfl (by kernel_rfl) (xqw R a) ((xva R _ _ (xce (d:=[]) b)).trans ?_));exact congrArg some c
def xbt:Nat->LA->Option (LA)|0=>λ _=>none|fu_+1=>λ l=>xcb (xbt fu_) l
def xn7:∀n,xgm (xbt n)|0=>xko λ _ _ h=>absurd (Prod.mk.inj h).1 Bool.false_ne_true|fu_+1=>λ a r h=>xu8 (xbt fu_) (xn7 fu_) a r h
def xCx:Env:=xum.E.with 104 (xjX (xbt 100))
def xC1:xLt P0 xMa xCx:=xum.ok.with (xn7 _)
def xC0:EO:=EO.mk xCx xC1
def xfW(a b:Int):Bool:=(br (decide (a>=0)) (br (decide (a<b)) ((decide (b<=1099511627776))) ((false))) ((false)))
def xyg{T:Type}(a b:Int)(δ:T)(κ:Bool->T):T:=br (decide (a>=0)) (br (decide (a<b)) (κ (decide (b<=1099511627776))) (κ (false))) (κ (false))
def xHR:EO:=xC0.fT Tryz.func83 18 0 [] [] lk0 (λ((a,b,_),_)=>xyg a b none) (u1 (xMs (u2 uI uI))) (λ((a,b,_),_)=>xfW a b) (λ _ p=>(AV.bool p))
def xhJ(a b t:Int):Bool:=(br (xfW a b) (br (decide (a<=t)) ((decide (t<b))) ((false))) ((false)))
def xt9{T:Type}(a b t:Int)(δ:T)(κ:Bool->T):T:=br (xfW a b) (br (decide (a<=t)) (κ (decide (t<b))) (κ (false))) (κ (false))
def xHS:EO:=xHR.fT Tryz.func72 19 0 [] [] lk0 (λ((a,b,_),t,_)=>xt9 a b t none) (u2 (xMs (u2 uI uI)) uI) (λ((a,b,_),t,_)=>xhJ a b t) (λ _ p=>(AV.bool p))
def xk8(a b c d:Int):Int:=(br (a==c&&(b==d&&true)) ((0)) (br (decide (a<c)) (((-1))) (br (a==c) (br (decide (b<d)) (((-1))) ((1))) ((1)))))
def xu4{T:Type}(a b c d:Int)(δ:T)(κ:Int->T):T:=br (a==c&&(b==d&&true)) (κ (0)) (br (decide (a<c)) (κ ((-1))) (br (a==c) (br (decide (b<d)) (κ ((-1))) (κ (1))) (κ (1))))
def xGn:EO:=xHS.fT Tryz.func125 27 0 [] [] lk0 (λ((a,b,_),(c,d,_),_)=>xu4 a b c d none) (u2 (xMs (u2 uI uI)) (xMs (u2 uI uI))) (λ((a,b,_),(c,d,_),_)=>xk8 a b c d) (λ _ p=>(AV.int .i64 p))
def xCt:Int×Int×List UInt8:=((0,0,[]))
def xzF{T:Type}(δ:T)(κ:Int×Int×List UInt8->T):T:=κ (0,0,[])
def xGo:EO:=xGn.fT Tryz.func203 2 0 [] [] lk0 (λ _=>xzF none) xMe (λ _=>xCt) (λ _ p=>(AV.agg [AV.int .i64 p.1,AV.int .i64 p.2.1,AV.str p.2.2]))
def xu7{T:Type}(a:LA)(i:Int)(δ:T)(κ:Int×Int×List UInt8->T):T:=br (decide (i<0)) (κ (0,0,[])) (br (decide (i>=a.length)) (κ (0,0,[])) (br (ixI a i) (br (ixT a i 3 [Sh.int .i64,Sh.int .i64,Sh.str] 0) (κ ((gC a i 0).toInt,(gC a i 1).toInt,(gC a i 2).toStr)) δ) δ))
def xrr(a:LA)(i:Int):=xu7 a i none some
def xAM:EO:=xGo.f Tryz.func179 18 0 [] [] lk0 (u2 (uL 3) uI) (λ(a,i,_) _=>xu7 a i) (λ _ p=>AV.agg [AV.int .i64 p.1,AV.int .i64 p.2.1,AV.str p.2.2]) (0,0,[])
def xjS(b o:LA)(i:Int):=(xrr b (gC o i 0).toInt).getD (0,0,[])
def xjT(a o:LA)(i:Int):=(xrr a (gC o i 0).toInt).getD (0,0,[])
def xn0(a b o:LA)(i:Int):=xgu (xjT a o i).fst ((xjT a o i).snd).fst ((xjT a o i).snd).snd (xjS b o i).fst ((xjS b o i).snd).fst ((xjS b o i).snd).snd
def xkH{T:Type}(a b o:LA)(i:Int)(δ:T)(κl:(Int)->T)(κr:(Bool×(Bool)×(Unit))->T):T:=br (decide (i<o.length)) (br (ixI o i) (br (ixS o i (Sh.int .i64) 0) (br ((xrr a (gC o i 0).toInt).isSome) (br (ixI o i) (br (ixS o i (Sh.int .i64) 0) (br ((xrr b (gC o i 0).toInt).isSome) (br (xn0 a b o i !=0) (br (ixI o i) (br (decide (i.toNat<o.length)&&xLr Sh.bool (gC o i 1)) (κr (true,(!decide (xn0 a b o i<0)==(gC o i 1).toBool),())) δ) δ) (κl (i64.wrap (i+1)))) δ) δ) δ) δ) δ) δ) (κr (false,false,()))
def xcW(a b o:LA):StT (Int) (Bool×(Bool)×(Unit)):=λ(i)=>xkH a b o i none inL inR
def xnx:=xAM.l 44 0 [] [] Tryz.f150 0 lk0 [0,1,2,7] [0,1,6] [] (q4 (qL 3) (qL 3) (qL 2) qI) xMd (λ(a,b,o,i,_) _=>(xcW a b o,(i),λ p=>(.node p.1 (.leaf .ret [AV.list 3 a,AV.list 3 b,AV.bool p.2.1] []) (.leaf (.exit 0) [AV.list 3 a,AV.list 3 b,.top] [])))) (false,false,()) λ(a,b,o,_,_) _ (i)=>(((a,b,o,i,()),()),xkH a b o i none)
def xnp{T:Type}(a b o:LA)(δ:T)(κ:Bool->T):T:=br ((Iter (xcW a b o) 0).isSome) (br (((Iter (xcW a b o) 0).getD (false,false,())).fst) (κ (((Iter (xcW a b o) 0).getD (false,false,())).snd.fst)) (br ((xaP a b).isSome) (κ (decide ((xaP a b).getD 0<0))) δ)) δ
def xmD(a b o:LA):=xnp a b o none some
def xAN:EO:=xAM.f Tryz.func150 44 0 [] [(2,xnx.lp)] (lk1 xnx.ok) (u3 (uL 3) (uL 3) (uL 2)) (λ(a,b,o,_) _=>xnp a b o) (λ _ p=>AV.bool p) false
def xcm{T:Type}(b:LA)(c:Nat)(i k:Int)(a:LA)(δ:T)(κl:(Nat×Int×Int×LA)->T):T:=br (ixI b k) (br (ixS b k (Sh.list 3) 0) (br (rmB c a 1 24) (κl (c+1,i,i64.wrap (k+1),a++[AV.list 3 (gC b k 0).toList])) δ) δ) δ
def xcn{T:Type}(a:LA)(c:Nat)(i k:Int)(b:LA)(δ:T)(κl:(Nat×Int×Int×LA)->T):T:=br (ixI a i) (br (ixS a i (Sh.list 3) 0) (br (rmB c b 1 24) (κl (c+1,i64.wrap (i+1),k,b++[AV.list 3 (gC a i 0).toList])) δ) δ) δ
def xcl{T:Type}(a b o:LA)(d:Nat)(i k:Int)(c:LA)(δ:T)(κl:(Nat×Int×Int×LA)->T):T:=br (i==(↑a.length:Int)) (xcm b d i k c δ κl) (br (decide (k<b.length)) (br (ixI b k) (br (ixS b k (Sh.list 3) 0) (br (ixI a i) (br (ixS a i (Sh.list 3) 0) (br ((xmD (gC b k 0).toList (gC a i 0).toList o).isSome) (br ((xmD (gC b k 0).toList (gC a i 0).toList o).getD false) (xcm b d i k c δ κl) (xcn a d i k c δ κl)) δ) δ) δ) δ) δ) (xcn a d i k c δ κl))
def xdc{T:Type}(a b o:LA)(d:Nat)(i k:Int)(c:LA)(δ:T)(κl:(Nat×Int×Int×LA)->T)(κr:(Nat×LA)->T):T:=br (decide (i<a.length)) (xcl a b o d i k c δ κl) (br (decide (k<b.length)) (xcl a b o d i k c δ κl) (κr (d,c)))
def xa4(a b o:LA):StT (Nat×Int×Int×LA) (Nat×LA):=λ(d,i,k,c)=>xdc a b o d i k c none inL inR
def xn1:=xAN.l 62 0 [] [] Tryz.f133 0 lk0 [0,1,2,7,8,9] [7] [(7,1,47)] (q6 (qL 1) (qL 1) (qL 2) (xMn 0 0 0) qI qI) (q1 (qB 0 1 47 xMf)) (λ(a,b,o,d,i,k,_) (c,_)=>(xa4 a b o,(d,i,k,c),λ p=>(.leaf (.exit 0) [AV.osl 0 0 0 p.1] [bF 0 1 47 p.2]))) (0,[]) λ(a,b,o,_,_,_,_) _ (d,i,k,c)=>(((a,b,o,d,i,k,()),(c,())),xdc a b o d i k c none)
def xfc(a b o:LA):=Iter (xa4 a b o) (0,0,0,[])
def xnq{T:Type}(a b o:LA)(δ:T)(κ:LA->T):T:=br ((xfc a b o).isSome) (br (decide (0+(((xfc a b o).getD (0,[])).fst)<=(((xfc a b o).getD (0,[])).snd).length)&&true) (κ (List.take (((xfc a b o).getD (0,[])).fst) (List.drop 0 (((xfc a b o).getD (0,[])).snd)))) δ) δ
def xpz(a b o:LA):=xnq a b o none some
def xsX:EO:=xAN.f Tryz.func133 62 0 [] [(3,xn1.lp)] (lk1 xn1.ok) (u3 (uL 1) (uL 1) (uL 2)) (λ(a,b,o,_) _=>xnq a b o) (λ _ p=>AV.list 1 p) []
def xlz(R:LA->LA->Option (LA)):LA->Option (Bool×AV):=ocOf (xMc (xMr 1 xMf) (xMc (xMr 2 xMf) xMe)) λ(l,(o,_))=>((R l o).isSome,AV.list 1 ((R l o).getD []))
def xhs(R:LA->LA->Option (LA)):Prop:=OcOk P0 xMa 101 (xlz R)
def xf1(R:LA->LA->Option (LA)):Env:=(xsX.E.with 101 (xlz R)).fn 34 0 (lsOf []) (xLQ [])
def xtb(R:LA->LA->Option (LA))(a:xhs R):xLt P0 (xMa.at 0) (xf1 R):=(xsX.ok.with a).fn
def xrs(R:LA->LA->Option (LA))(a:xhs R):LoOk P0 (xMa.at (xf1 R).pin) (xf1 R) (Tryz.f101.body.getD .skip):=xfq (by kernel_rfl)
def xhR(l:LA):=decide (0<=i64.wrap ((↑l.length:Int).tdiv 2))&&decide (i64.wrap ((↑l.length:Int).tdiv 2)<=(↑l.length:Int))
def xeC(l:LA):Nat:=0+((l.getD 0 .top).cells.getD 0 .top).toList.length
def xhS(R:LA->LA->Option (LA))(l o:LA):Option (LA):=R (List.take (l.length - (i64.wrap ((↑l.length:Int).tdiv 2)).toNat) (List.drop (i64.wrap ((↑l.length:Int).tdiv 2)).toNat l)) o
def xhQ(R:LA->LA->Option (LA))(l o:LA):Option (LA):=xpz ((R (List.take ((i64.wrap ((↑l.length:Int).tdiv 2)).toNat - 0) (List.drop 0 l)) o).getD []) ((xhS R l o).getD []) o
def xed{T:Type}(R:LA->LA->Option (LA))(l o:LA)(δ:T)(κ:LA->T):T:=br ((↑l.length:Int)==0) (κ ([])) (br ((↑l.length:Int)==1) (br (decide (0<(↑l.length:Int))) (br (decide (0<l.length)&&xLr (Sh.list 3) ((l.getD 0 .top).cells.getD 0 .top)) (br (decide (xeC l*32<=140737488355328)&&decide (xeC l<=4611686018427387904)) (br (decide (0+xeC l<=([]++((l.getD 0 .top).cells.getD 0 .top).toList).length)&&true&&true&&true) (κ ([AV.list 3 (List.take (xeC l) (List.drop 0 ([]++((l.getD 0 .top).cells.getD 0 .top).toList)))])) δ) δ) δ) δ) (br (xhR l&&true) (br ((R (List.take ((i64.wrap ((↑l.length:Int).tdiv 2)).toNat - 0) (List.drop 0 l)) o).isSome) (br (xhR l) (br ((xhS R l o).isSome) (br ((xhQ R l o).isSome) (κ ((xhQ R l o).getD [])) δ) δ) δ) δ) δ))
def xbU(R:LA->LA->Option (LA))(l o:LA):=xed R l o none some
def xyj(R:LA->LA->Option (LA))(l o:LA):Enc (λ(p:LA)=>((AV.list 1 p):AV)) (xbU R l o) (XF P0 (xf1 R) Tryz.f101 (Tryz.f101.body.getD .skip) [AV.list 1 l,AV.list 2 o]):=by(have h:XF P0 (xf1 R) Tryz.f101 (Tryz.f101.body.getD .skip) [AV.list 1 l,AV.list 2 o]=xed R l o none (λ(p:LA)=>some ((AV.list 1 p):AV)):=by kernel_rfl);rw[h];unfold xbU xed;repeat' (first|refine Enc.br ?_ ?_|exact Enc.none|exact Enc.some rfl)
def xyi(R:LA->LA->Option (LA)):LA->Option (Bool×AV):=ocOf (xMc (xMr 1 xMf) (xMc (xMr 2 xMf) xMe)) λ(l,(o,_))=>((xbU R l o).isSome,(AV.list 1 ((xbU R l o).getD [])))
def xyh(R:LA->LA->Option (LA))(a:xhs R):OcOk P0 xMa 101 (xyi R):=xko λ e g f=>by obtain⟨l,⟨o,_⟩⟩:=e;obtain⟨b,c⟩:=Prod.mk.inj f;refine xlr (p:=(xf1 R).pin) (xo4 xLD (xLE P0 _) rfl (xtb R a) Tryz.func101 rfl (by kernel_rfl) (xrs R a) ((xyj R _ _ _ (xce (d:=[]) b)).trans ?_));exact congrArg some c
def xbJ:Nat->LA->LA->Option (LA)|0=>λ _ _=>none|fu_+1=>λ l o=>xbU (xbJ fu_) l o
def xpw:∀n,xhs (xbJ n)|0=>xko λ _ _ h=>absurd (Prod.mk.inj h).1 Bool.false_ne_true|fu_+1=>λ a r h=>xyh (xbJ fu_) (xpw fu_) a r h
def xAO:Env:=xsX.E.with 101 (xlz (xbJ 1000))
def xBN:xLt P0 xMa xAO:=xsX.ok.with (xpw _)
def xBM:EO:=EO.mk xAO xBN
def xpy{T:Type}(l:LA)(δ:T)(κ:LA->T):T:=br ((xbJ 1000 l []).isSome) (κ ((xbJ 1000 l []).getD [])) δ
def xku(l:LA):=xpy l none some
def xAP:EO:=xBM.f Tryz.func67 5 0 [] [] lk0 (u1 (uL 1)) (λ(l,_) _=>xpy l) (λ _ p=>AV.list 1 p) []
def xfG(a:LA)(i:Int):=xk2 ((a.getD (i64.wrap (i - 1)).toNat .top).cells.getD 0 .top).toList (gC a i 0).toList
def xdC{T:Type}(c:LA)(b:Nat)(i:Int)(a:LA)(δ:T)(κl:(Nat×Int×LA)->T):T:=br (ixI c i) (br (ixS c i (Sh.list 3) 0) (br (rmB b a 1 24) (κl (b+1,i64.wrap (i+1),a++[AV.list 3 (gC c i 0).toList])) δ) δ) δ
def xeo{T:Type}(a:LA)(c:Nat)(i:Int)(b:LA)(δ:T)(κl:(Nat×Int×LA)->T)(κr:(Nat×LA)->T):T:=br (decide (i<a.length)) (br (i==0) (xdC a c i b δ κl) (br (decide (0<=i64.wrap (i - 1))&&decide (i64.wrap (i - 1)<(↑a.length:Int))) (br (decide ((i64.wrap (i - 1)).toNat<a.length)&&xLr (Sh.list 3) ((a.getD (i64.wrap (i - 1)).toNat .top).cells.getD 0 .top)) (br (ixI a i) (br (ixS a i (Sh.list 3) 0) (br ((xfG a i).isSome) (br (!(xfG a i).getD false) (xdC a c i b δ κl) (κl (c,i64.wrap (i+1),b))) δ) δ) δ) δ) δ)) (κr (c,b))
def xbz(c:LA):StT (Nat×Int×LA) (Nat×LA):=λ(b,i,a)=>xeo c b i a none inL inR
def xmC:=xAP.l 38 0 [] [] Tryz.f70 0 lk0 [3,4,5] [4] [(4,1,47)] (q3 (qL 1) (xMn 0 0 0) qI) (q1 (qB 0 1 47 xMf)) (λ(c,b,i,_) (a,_)=>(xbz c,(b,i,a),λ p=>(.leaf (.exit 0) [AV.osl 0 0 0 p.1] [bF 0 1 47 p.2]))) (0,[]) λ(c,_,_,_) _ (b,i,a)=>(((c,b,i,()),(a,())),xeo c b i a none)
def xft(l:LA):=(Iter (xbz ((xku l).getD [])) (0,0,[])).getD (0,[])
def xly{T:Type}(l:LA)(δ:T)(κ:LA->T):T:=br ((xku l).isSome) (br ((Iter (xbz ((xku l).getD [])) (0,0,[])).isSome) (br (decide (0+((xft l).fst)<=((xft l).snd).length)&&true) (κ (List.take ((xft l).fst) (List.drop 0 ((xft l).snd)))) δ) δ) δ
def xkt(l:LA):=xly l none some
def xAQ:EO:=xAP.f Tryz.func70 38 0 [] [(4,xmC.lp)] (lk1 xmC.ok) (u1 (uL 1)) (λ(l,_) _=>xly l) (λ _ p=>AV.list 1 p) []
def xjb{T:Type}(l:LA)(b:Nat)(i:Int)(a:LA)(δ:T)(κl:(Nat×Int×LA)->T)(κr:(Nat×LA)->T):T:=br (decide (i<l.length)) (br (ixI l i) (br (ixT l i 3 [Sh.int .i64,Sh.int .i64] 1) (br (xfW (gC l i 1).toInt (gC l i 2).toInt) (br (ixI l i) (br (ixS l i (Sh.list 3) 0) (br (rmB b a 1 24) (κl (b+1,i64.wrap (i+1),a++[AV.list 3 (gC l i 0).toList])) δ) δ) δ) (κl (b,i64.wrap (i+1),a))) δ) δ) (κr (b,a))
def xdD(l:LA):StT (Nat×Int×LA) (Nat×LA):=λ(b,i,a)=>xjb l b i a none inL inR
def xpA:=xAQ.l 27 0 [] [] Tryz.f48 0 lk0 [0,3,4] [3] [(3,1,47)] (q3 (qL 3) (xMn 0 0 0) qI) (q1 (qB 0 1 47 xMf)) (λ(l,b,i,_) (a,_)=>(xdD l,(b,i,a),λ p=>(.leaf (.exit 0) [AV.osl 0 0 0 p.1] [bF 0 1 47 p.2]))) (0,[]) λ(l,_,_,_) _ (b,i,a)=>(((l,b,i,()),(a,())),xjb l b i a none)
def xiy(l:LA):=(Iter (xdD l) (0,0,[])).getD (0,[])
def xov(l:LA):=xkt (List.take ((xiy l).fst) (List.drop 0 ((xiy l).snd)))
def xpB{T:Type}(l:LA)(δ:T)(κ:LA->T):T:=br ((Iter (xdD l) (0,0,[])).isSome) (br (decide (0+((xiy l).fst)<=((xiy l).snd).length)&&true) (br ((xov l).isSome) (κ ((xov l).getD [])) δ) δ) δ
def xoY(l:LA):=xpB l none some
def xvF:EO:=xAQ.f Tryz.func48 27 0 [] [(3,xpA.lp)] (lk1 xpA.ok) (u1 (uL 3)) (λ(l,_) _=>xpB l) (λ _ p=>AV.list 1 p) []
def xgs:Env:=xvF.E.fn 51 1 (lsOf []) (xLQ [])
def xua:xLt P0 (xMa.at 1) xgs:=xvF.ok.fn
def xr5:LoOk P0 (xMa.at xgs.pin) xgs (Tryz.f124.body.getD .skip):=xfq (by kernel_rfl)
def xdn(k:Nat)(a:LA):=(List.take ((i64.wrap ((↑k:Int) - 1)).toNat - 0) (List.drop 0 a)).length
def xla(k:Nat)(a:LA):=decide (0+(i64.wrap ((↑k:Int) - 1)).toNat<a.length)
def xiv(k:Nat)(a:LA):=((a.getD (0+(i64.wrap ((↑k:Int) - 1)).toNat) .top).cells.getD 1 .top).toInt
def xlb(k:Nat):=decide (0<=i64.wrap ((↑k:Int) - 1))
def xiu(k:Nat):=xlb k&&decide (i64.wrap ((↑k:Int) - 1)<(↑k:Int))
def xk9(k:Nat)(a:LA):=xla k a&&xLr (Sh.int .i64) ((a.getD (0+(i64.wrap ((↑k:Int) - 1)).toNat) .top).cells.getD 1 .top)
def xhK{T:Type}(k:Nat)(a b:Int)(c:LA)(δ:T)(κ:Bool×(Nat×LA×LA)×(Nat×LA)->T):T:=br (rmB k c 1 16) (κ (false,(0,[],[]),(k+1,c++[AV.agg [AV.int .i64 a,AV.int .i64 b]]))) δ
def xjQ{T:Type}(k:Nat)(b c:Int)(a:LA)(δ:T)(κ:Bool×(Nat×LA×LA)×(Nat×LA)->T):T:=br (decide ((↑k:Int)>0)) (br (xiu k) (br (xk9 k a) (br (decide (xiv k a>=b)) (br (xlb k&&decide (i64.wrap ((↑k:Int) - 1)<=(↑k:Int))&&true) (br (decide (0+((i64.wrap ((↑k:Int) - 1)).toNat - 0)<=a.length)&&(decide (xdn k a*16<=140737488355328)&&decide (xdn k a<=4611686018427387904))) (br (xiu k) (br (xla k a&&xLr (Sh.int .i64) ((a.getD (0+(i64.wrap ((↑k:Int) - 1)).toNat) .top).cells.getD 0 .top)) (br (xiu k) (br (xk9 k a) (br (xdn k a==xdn k a&&(decide ((xdn k a+1)*16<=140737488355328)&&decide (xdn k a+1<=4611686018427387904))) (κ (true,(xdn k a+1,a,List.take ((i64.wrap ((↑k:Int) - 1)).toNat - 0) (List.drop 0 a)++[AV.agg [AV.int .i64 ((a.getD (0+(i64.wrap ((↑k:Int) - 1)).toNat) .top).cells.getD 0 .top).toInt,AV.int .i64 (if c>xiv k a then c else xiv k a)]]),(0,[]))) δ) δ) δ) δ) δ) δ) δ) (xhK k b c a δ κ)) δ) δ) (xhK k b c a δ κ)
def xbH(k:Nat)(a b:Int)(c:LA):=xjQ k a b c none some
def xzE(k:Nat)(a b:Int)(xs:LA):Enc (λ(p:Bool×(Nat×LA×LA)×(Nat×LA))=>((br p.1 ((AV.osl 1 0 0 p.2.1.1,([⟨0,2,52,p.2.1.2.1,false,true⟩,⟨0,2,52,p.2.1.2.2,false,true⟩]:List Box))) ((AV.osl 0 1 0 p.2.2.1,([⟨1,2,52,p.2.2.2,false,true⟩]:List Box)))):(AV×List Box))) (xbH k a b xs) (XFM P0 xgs Tryz.f124 (Tryz.f124.body.getD .skip) [AV.osl (0:Id) 0 0 k,AV.agg [AV.int .i64 a,AV.int .i64 b]] [{ver:=0,sz:=2,ty:=(52:TypeId),xs:=xs,frz:=false,pm:=true}]):=by(have h:XFM P0 xgs Tryz.f124 (Tryz.f124.body.getD .skip) [AV.osl (0:Id) 0 0 k,AV.agg [AV.int .i64 a,AV.int .i64 b]] [{ver:=0,sz:=2,ty:=(52:TypeId),xs:=xs,frz:=false,pm:=true}]=xjQ k a b xs none (λ(p:Bool×(Nat×LA×LA)×(Nat×LA))=>some ((br p.1 ((AV.osl 1 0 0 p.2.1.1,([⟨0,2,52,p.2.1.2.1,false,true⟩,⟨0,2,52,p.2.1.2.2,false,true⟩]:List Box))) ((AV.osl 0 1 0 p.2.2.1,([⟨1,2,52,p.2.2.2,false,true⟩]:List Box)))):(AV×List Box))):=by kernel_rfl);rw[h];unfold xbH xjQ xhK;repeat' (first|refine Enc.br ?_ ?_|exact Enc.none|exact Enc.some rfl)
def xzD:LA->List Box->Option (Bool×AV×List Box):=omOf (xMc (sEq (xMn 0 0 0)) (xMc (xMs (xMc (sEq (pInt .i64)) (xMc (sEq (pInt .i64)) xMe))) xMe)) (xMb (xMq 0 2 (52:TypeId) false true xMf) xMd) λ(k,((a,(b,_)),_)) (c,_)=>((xbH k a b c).isSome,(AV.osl 1 0 0 (br ((xbH k a b c).getD (false,(0,[],[]),(0,[]))).1 ((xbH k a b c).getD (false,(0,[],[]),(0,[]))).2.1.1 ((xbH k a b c).getD (false,(0,[],[]),(0,[]))).2.2.1),([⟨2,2,52,[],false,true⟩,⟨0,2,52,br ((xbH k a b c).getD (false,(0,[],[]),(0,[]))).1 ((xbH k a b c).getD (false,(0,[],[]),(0,[]))).2.1.2.2 ((xbH k a b c).getD (false,(0,[],[]),(0,[]))).2.2.2,false,true⟩]:List Box)))
def xzC:OmOk P0 xMa 124 (xzD):=xkp λ e f j h g=>by obtain⟨k,⟨⟨c,⟨i,_⟩⟩,_⟩⟩:=e;obtain⟨l,_⟩:=f;obtain⟨b,a⟩:=Prod.mk.inj g;have hx:=xzE _ _ _ _ _ (xce (d:=(false,(0,[],[]),(0,[]))) b);revert hx a;generalize ((xbH _ _ _ _).getD (false,(0,[],[]),(0,[])))=p;intro a hx;obtain⟨rfl,rfl⟩:=Prod.mk.inj a;obtain⟨t,⟨m,n,o⟩,q,r⟩:=p;have hg:GoodM P0 xMa 124 _ _ _ _:=xlR (p:=xgs.pin) (xlQ xLD (xLE P0 _) rfl xua rfl Tryz.func124 rfl (by kernel_rfl) xr5 hx);cases t;exact GoodM.move0 rfl (by decide) hg;exact GoodM.drop0 rfl (by decide) hg
def xBL:EO:=xvF.wM xzC
def xfs{T:Type}(l:LA)(n:Int)(b:Nat)(i:Int)(a:LA)(δ:T)(κl:(Nat×Int×LA)->T)(κr:(Nat×Int×LA)->T):T:=br (decide (i<l.length)) (br (ixI l i) (br (ixS l i (Sh.int .i64) 0) (br (decide ((gC l i 0).toInt<n)) (br (ixI l i) (br (ixS l i (Sh.int .i64) 0) (br (rmB b a 1 8) (κl (b+1,i64.wrap (i+1),a++[AV.int .i64 (gC l i 0).toInt])) δ) δ) δ) (κr (b,i,a))) δ) δ) (κr (b,i,a))
def xb6(l:LA)(n:Int):StT (Nat×Int×LA) (Nat×Int×LA):=λ(b,i,a)=>xfs l n b i a none inL inR
def xjP:=xBL.l 58 0 [] [] Tryz.f120 0 lk0 [0,1,5,6] [0,1,5,6] [(5,1,3)] (q4 (qL 1) qI (xMn 0 0 0) qI) (q1 (qB 0 1 3 xMf)) (λ(l,n,b,i,_) (a,_)=>(xb6 l n,(b,i,a),λ p=>(.leaf (.exit 0) [AV.list 1 l,AV.int .i64 n,AV.osl 0 0 0 p.1,AV.int .i64 p.2.1] [bF 0 1 3 p.2.2]))) (0,0,[]) λ(l,n,_,_,_) _ (b,i,a)=>(((l,n,b,i,()),(a,())),xfs l n b i a none)
def xho{T:Type}(l:LA)(b:Nat)(i:Int)(a:LA)(δ:T)(κl:(Nat×Int×LA)->T)(κr:(Nat×LA)->T):T:=br (decide (i<l.length)) (br (ixI l i) (br (ixS l i (Sh.int .i64) 0) (br (rmB b a 1 8) (κl (b+1,i64.wrap (i+1),a++[AV.int .i64 (gC l i 0).toInt])) δ) δ) δ) (κr (b,a))
def xb7(l:LA):StT (Nat×Int×LA) (Nat×LA):=λ(b,i,a)=>xho l b i a none inL inR
def xnY:=xBL.l 58 0 [] [(3,xjP.lp)] Tryz.f120 1 lk0 [0,5,6] [5] [(5,1,3)] (q3 (qL 1) (xMn 0 0 0) qI) (q1 (qB 0 1 3 xMf)) (λ(l,b,i,_) (a,_)=>(xb7 l,(b,i,a),λ p=>(.leaf (.exit 2) [AV.osl 0 0 0 p.1] [bF 0 1 3 p.2]))) (0,[]) λ(l,_,_,_) _ (b,i,a)=>(((l,b,i,()),(a,())),xho l b i a none)
def xby(l:LA)(n:Int):=(Iter (xb6 l n) (0,0,[])).getD (0,0,[])
def xbp(l:LA)(n:Int):=((xby l n).snd).fst
def xew(l:LA)(n:Int):=((xby l n).fst)+1
def xgJ(l:LA)(n:Int):=Iter (xb7 l) (xew l n,xbp l n,(((xby l n).snd).snd)++[AV.int .i64 n])
def xgK(l:LA)(n:Int):=Iter (xb7 l) (((xby l n).fst),xbp l n,(((xby l n).snd).snd))
def xik(l:LA)(n:Int):=((xby l n).fst)==(((xby l n).snd).snd).length
def xdX(l:LA)(n:Int):=(xgJ l n).getD (0,[])
def xdY(l:LA)(n:Int):=(xgK l n).getD (0,[])
def xlw{T:Type}(l:LA)(n:Int)(δ:T)(κ:LA->T):T:=br (xik l n&&(decide (xew l n*8<=140737488355328)&&decide (xew l n<=4611686018427387904))) (br ((xgJ l n).isSome) (br (decide (0+((xdX l n).fst)<=((xdX l n).snd).length)&&true) (κ (List.take ((xdX l n).fst) (List.drop 0 ((xdX l n).snd)))) δ) δ) δ
def xnj{T:Type}(l:LA)(n:Int)(δ:T)(κ:LA->T):T:=br ((Iter (xb6 l n) (0,0,[])).isSome) (br (xbp l n==(↑l.length:Int)) (xlw l n δ κ) (br (decide (0<=xbp l n)&&decide (xbp l n<l.length)) (br (decide ((xbp l n).toNat<l.length)&&xLr (Sh.int .i64) ((l.getD (xbp l n).toNat .top).cells.getD 0 .top)) (br (decide (((l.getD (xbp l n).toNat .top).cells.getD 0 .top).toInt>n)) (xlw l n δ κ) (br ((xgK l n).isSome) (br (decide (0+((xdY l n).fst)<=((xdY l n).snd).length)&&true) (κ (List.take ((xdY l n).fst) (List.drop 0 ((xdY l n).snd)))) δ) δ)) δ) δ)) δ
def xf9(l:LA)(n:Int):=xnj l n none some
def xyw:EO:=xBL.f Tryz.func120 58 0 [] [(3,xjP.lp),(8,xnY.lp)] (lks (lkC xjP.ok (lkC xnY.ok lkN))) (u2 (uL 1) uI) (λ(l,n,_) _=>xnj l n) (λ _ p=>AV.list 1 p) []
def xhP:Env:=xyw.E.fn 28 1 (lsOf []) (xLQ [])
def xu5:xLt P0 (xMa.at 1) xhP:=xyw.ok.fn
def xsI:LoOk P0 (xMa.at xhP.pin) xhP (Tryz.f121.body.getD .skip):=xfq (by kernel_rfl)
def xgt{T:Type}(k:Nat)(a n:Int)(b:LA)(δ:T)(κ:Bool×(Nat×LA)×(Nat×LA)->T):T:=br (rmB k b 1 16) (κ (false,(0,[]),(k+1,b++[AV.agg [AV.int .i64 a,AV.int .i64 n]]))) δ
def xiD{T:Type}(k:Nat)(a n:Int)(b:LA)(δ:T)(κ:Bool×(Nat×LA)×(Nat×LA)->T):T:=br (decide ((↑k:Int)>0)) (br (decide (0<=i64.wrap ((↑k:Int) - 1))&&decide (i64.wrap ((↑k:Int) - 1)<(↑k:Int))) (br (decide (0+(i64.wrap ((↑k:Int) - 1)).toNat<b.length)&&xLr (Sh.int .i64) ((b.getD (0+(i64.wrap ((↑k:Int) - 1)).toNat) .top).cells.getD 1 .top)) (br (((b.getD (0+(i64.wrap ((↑k:Int) - 1)).toNat) .top).cells.getD 1 .top).toInt==n) (κ (true,(k,b),(0,[]))) (xgt k a n b δ κ)) δ) δ) (xgt k a n b δ κ)
def xcH(k:Nat)(a n:Int)(b:LA):=xiD k a n b none some
def xAu(k:Nat)(a n:Int)(xs:LA):Enc (λ(p:Bool×(Nat×LA)×(Nat×LA))=>((br p.1 ((AV.osl 0 0 0 p.2.1.1,([⟨0,2,132,p.2.1.2,false,true⟩]:List Box))) ((AV.osl 0 1 0 p.2.2.1,([⟨1,2,132,p.2.2.2,false,true⟩]:List Box)))):(AV×List Box))) (xcH k a n xs) (XFM P0 xhP Tryz.f121 (Tryz.f121.body.getD .skip) [AV.osl (0:Id) 0 0 k,AV.int .i64 a,AV.int .i64 n] [{ver:=0,sz:=2,ty:=(132:TypeId),xs:=xs,frz:=false,pm:=true}]):=by(have h:XFM P0 xhP Tryz.f121 (Tryz.f121.body.getD .skip) [AV.osl (0:Id) 0 0 k,AV.int .i64 a,AV.int .i64 n] [{ver:=0,sz:=2,ty:=(132:TypeId),xs:=xs,frz:=false,pm:=true}]=xiD k a n xs none (λ(p:Bool×(Nat×LA)×(Nat×LA))=>some ((br p.1 ((AV.osl 0 0 0 p.2.1.1,([⟨0,2,132,p.2.1.2,false,true⟩]:List Box))) ((AV.osl 0 1 0 p.2.2.1,([⟨1,2,132,p.2.2.2,false,true⟩]:List Box)))):(AV×List Box))):=by kernel_rfl);rw[h];unfold xcH xiD xgt;repeat' (first|refine Enc.br ?_ ?_|exact Enc.none|exact Enc.some rfl)
def xAt:LA->List Box->Option (Bool×AV×List Box):=omOf (xMc (sEq (xMn 0 0 0)) (xMc (sEq (pInt .i64)) (xMc (sEq (pInt .i64)) xMe))) (xMb (xMq 0 2 (132:TypeId) false true xMf) xMd) λ(k,(a,(n,_))) (b,_)=>((xcH k a n b).isSome,(AV.osl 0 1 0 (br ((xcH k a n b).getD (false,(0,[]),(0,[]))).1 ((xcH k a n b).getD (false,(0,[]),(0,[]))).2.1.1 ((xcH k a n b).getD (false,(0,[]),(0,[]))).2.2.1),([⟨1,2,132,(br ((xcH k a n b).getD (false,(0,[]),(0,[]))).1 ((xcH k a n b).getD (false,(0,[]),(0,[]))).2.1.2 ((xcH k a n b).getD (false,(0,[]),(0,[]))).2.2.2),false,true⟩]:List Box)))
def xAs:OmOk P0 xMa 121 (xAt):=xkp λ e f j i g=>by obtain⟨k,⟨b,⟨n,_⟩⟩⟩:=e;obtain⟨h,_⟩:=f;obtain⟨c,a⟩:=Prod.mk.inj g;have hx:=xAu _ _ _ _ _ (xce (d:=(false,(0,[]),(0,[]))) c);revert hx a;generalize ((xcH k b n h).getD (false,(0,[]),(0,[])))=p;intro a hx;obtain⟨rfl,rfl⟩:=Prod.mk.inj a;obtain⟨t,⟨l,m⟩,o,q⟩:=p;have hg:GoodM P0 xMa 121 _ _ _ _:=xlR (p:=xhP.pin) (xlQ xLD (xLE P0 _) rfl xu5 rfl Tryz.func121 rfl (by kernel_rfl) xsI hx);cases t;exact hg;exact GoodM.bump1 rfl (by decide) hg
def xun:EO:=xyw.wM xAs
def xlc{T:Type}(l a:LA)(i:Int)(δ:T)(κl:(LA×Int)->T)(κr:(LA)->T):T:=br (decide (i<l.length)) (br (ixI l i) (br (ixT l i 3 [Sh.int .i64,Sh.int .i64] 0) (br (xfW (gC l i 0).toInt (gC l i 1).toInt) (br (ixI l i) (br (ixS l i (Sh.int .i64) 0) (br ((xf9 a (gC l i 0).toInt).isSome) (br (ixI l i) (br (ixS l i (Sh.int .i64) 1) (br ((xf9 ((xf9 a (gC l i 0).toInt).getD []) (gC l i 1).toInt).isSome) (κl ((xf9 ((xf9 a (gC l i 0).toInt).getD []) (gC l i 1).toInt).getD [],i64.wrap (i+1))) δ) δ) δ) δ) δ) δ) (κl (a,i64.wrap (i+1)))) δ) δ) (κr (a))
def xey(l:LA):StT (LA×Int) (LA):=λ(a,i)=>xlc l a i none inL inR
def xkr:=xun.l 82 0 [] [] Tryz.f85 0 lk0 [0,3,4] [0,3] [(3,1,1073741824)] (q3 (qL 3) (qL 1) qI) xMd (λ(l,a,i,_) _=>(xey l,(a,i),λ p=>(.leaf (.exit 0) [AV.list 3 l,AV.list 1 p] []))) [] λ(l,_,_,_) _ (a,i)=>(((l,a,i,()),()),xlc l a i none)
def xld{T:Type}(l b:LA)(c:Nat)(k n i:Int)(a:LA)(δ:T)(κl:(Int×Int×LA)->T)(κr:(Int×LA)->T):T:=br (decide (i<l.length)) (br (ixI l i) (br (ixT l i 3 [Sh.int .i64,Sh.int .i64] 0) (br (ixI b k) (br (ixS b k (Sh.int .i64) 0) (br (xhJ (gC l i 0).toInt (gC l i 1).toInt (gC b k 0).toInt) (br (ixI l i) (br (ixS l i (Sh.int .i64) 2) (κl (i64.wrap (n+(gC l i 2).toInt),i64.wrap (i+1),a)) δ) δ) (κl (n,i64.wrap (i+1),a))) δ) δ) δ) δ) (κr (n,a))
def xeA(l c:LA)(b:Nat)(k:Int):StT (Int×Int×LA) (Int×LA):=λ(n,i,a)=>xld l c b k n i a none inL inR
def xks:=xun.l 82 0 [] [(3,xkr.lp)] Tryz.f85 2 lk0 [0,3,5,6,7,8] [0,3,5,6,7] [(5,2,132),(3,1,1073741824)] (q6 (qL 3) (qL 1) (xMn 0 0 0) qI qI qI) (q1 (qB 0 2 132 xMf)) (λ(l,c,a,k,n,i,_) (b,_)=>(xeA l c a k,(n,i,b),λ p=>(.leaf (.exit 4) [AV.list 3 l,AV.list 1 c,AV.osl 0 0 0 a,AV.int .i64 k,AV.int .i64 p.1] [bF 0 2 132 p.2]))) (0,[]) λ(l,c,a,k,_,_,_) _ (n,i,b)=>(((l,c,a,k,n,i,()),(b,())),xld l c a k n i b none)
def xhM(l c:LA)(b:Nat)(k:Int)(a:LA):=(Iter (xeA l c b k) (0,0,a)).getD (0,[])
def xhL(l c:LA)(a:Nat)(k:Int)(b:LA):=xcH a (gC c k 0).toInt (xhM l c a k b).fst (xhM l c a k b).snd
def xcU(l c:LA)(b:Nat)(k:Int)(a:LA):=(xhL l c b k a).getD (false,(0,[]),0,[])
def xiw{T:Type}(l c:LA)(b:Nat)(k:Int)(a:LA)(δ:T)(κl:(Nat×Int×LA)->T)(κr:(Nat×LA)->T):T:=br (decide (k<c.length)) (br (ixI c k) (br (ixS c k (Sh.int .i64) 0) (br (decide ((gC c k 0).toInt<1099511627776)) (br ((Iter (xeA l c b k) (0,0,a)).isSome) (br (ixI c k) (br (ixS c k (Sh.int .i64) 0) (br ((xhL l c b k a).isSome) (κl (br ((xcU l c b k a).fst) (((xcU l c b k a).snd).fst).fst (((xcU l c b k a).snd).snd).fst,i64.wrap (k+1),br ((xcU l c b k a).fst) (((xcU l c b k a).snd).fst).snd (((xcU l c b k a).snd).snd).snd)) δ) δ) δ) δ) (κr (b,a))) δ) δ) (κr (b,a))
def xez(l c:LA):StT (Nat×Int×LA) (Nat×LA):=λ(b,k,a)=>xiw l c b k a none inL inR
def xqU:=xun.l 82 0 [] [(3,xkr.lp),(14,xks.lp)] Tryz.f85 1 (lk1 xks.ok) [0,3,5,6] [5] [(5,2,132),(3,1,1073741824)] (q4 (qL 3) (qL 1) (xMn 0 0 0) qI) (q1 (qB 0 2 132 xMf)) (λ(l,c,b,k,_) (a,_)=>(xez l c,(b,k,a),λ p=>(.leaf (.exit 2) [AV.osl 0 0 0 p.1] [bF 0 2 132 p.2]))) (0,[]) λ(l,c,_,_,_) _ (b,k,a)=>(((l,c,b,k,()),(a,())),xiw l c b k a none)
def xqr(l:LA):=Iter (xez l ((Iter (xey l) ([AV.int .i64 0],0)).getD [])) (0,0,[])
def xk1(l:LA):=(xqr l).getD (0,[])
def xrq{T:Type}(l:LA)(δ:T)(κ:LA->T):T:=br ((Iter (xey l) ([AV.int .i64 0],0)).isSome) (br ((xqr l).isSome) (br (decide (0+((xk1 l).fst)<=((xk1 l).snd).length)&&true) (κ (List.take ((xk1 l).fst) (List.drop 0 ((xk1 l).snd)))) δ) δ) δ
def xub(l:LA):=xrq l none some
def xC2:EO:=xun.f Tryz.func85 82 0 [] [(3,xkr.lp),(14,xks.lp),(10,xqU.lp)] (lks (lkC xkr.ok (lkC xqU.ok (lkC xks.ok lkN)))) (u1 (uL 3)) (λ(l,_) _=>xrq l) (λ _ p=>AV.list 2 p) []
def xht{T:Type}(l c:LA)(b:Nat)(i:Int)(a:LA)(δ:T)(κl:(Nat×Int×LA)->T)(κr:(Nat×LA)->T):T:=br (decide (i<l.length)) (br (ixI l i) (br (ixS l i (Sh.list 3) 0) (br ((xaP (gC l i 0).toList c).isSome) (br ((xaP (gC l i 0).toList c).getD 0==0) (br (ixI l i) (br (ixT l i 3 [Sh.int .i64,Sh.int .i64] 1) (br (rmB b a 1 24) (κl (b+1,i64.wrap (i+1),a++[AV.agg [AV.int .i64 (gC l i 1).toInt,AV.int .i64 (gC l i 2).toInt,AV.int .i64 1]])) δ) δ) δ) (κl (b,i64.wrap (i+1),a))) δ) δ) δ) (κr (b,a))
def xcX(l b:LA):StT (Nat×Int×LA) (Nat×LA):=λ(c,i,a)=>xht l b c i a none inL inR
def xn3:=xC2.l 32 0 [] [] Tryz.f50 0 lk0 [0,1,5,6] [5] [(5,3,100)] (q4 (qL 3) (qL 3) (xMn 0 0 0) qI) (q1 (qB 0 3 100 xMf)) (λ(l,b,c,i,_) (a,_)=>(xcX l b,(c,i,a),λ p=>(.leaf (.exit 0) [AV.osl 0 0 0 p.1] [bF 0 3 100 p.2]))) (0,[]) λ(l,b,_,_,_) _ (c,i,a)=>(((l,b,c,i,()),(a,())),xht l b c i a none)
def xgO(l a:LA):=(Iter (xcX l a) (0,0,[])).getD (0,[])
def xmH(l a:LA):=xub (List.take ((xgO l a).fst) (List.drop 0 ((xgO l a).snd)))
def xnr{T:Type}(l a:LA)(δ:T)(κ:LA->T):T:=br ((Iter (xcX l a) (0,0,[])).isSome) (br (decide (0+((xgO l a).fst)<=((xgO l a).snd).length)&&true) (br ((xmH l a).isSome) (κ ((xmH l a).getD [])) δ) δ) δ
def xmG(l a:LA):=xnr l a none some
def xuo:EO:=xC2.f Tryz.func50 32 0 [] [(3,xn3.lp)] (lk1 xn3.ok) (u2 (uL 3) (uL 3)) (λ(l,a,_) _=>xnr l a) (λ _ p=>AV.list 2 p) []
def xfu{T:Type}(a:LA)(c:Nat)(i k:Int)(b:LA)(δ:T)(κl:(Int×LA)->T)(κr:(Int×LA)->T):T:=br (decide (k<a.length)) (br (ixI a k) (br (ixS a k (Sh.list 3) 0) (br (ixI a i) (br (ixS a i (Sh.list 3) 0) (br ((xaP (gC a k 0).toList (gC a i 0).toList).isSome) (br ((xaP (gC a k 0).toList (gC a i 0).toList).getD 0==0) (κl (i64.wrap (k+1),b)) (κr (k,b))) δ) δ) δ) δ) δ) (κr (k,b))
def xbs(c:LA)(b:Nat)(i:Int):StT (Int×LA) (Int×LA):=λ(k,a)=>xfu c b i k a none inL inR
def xeP:=xuo.l 66 0 [] [] Tryz.f74 1 lk0 [3,4,5,6] [3,4,5,6] [(4,2,85)] (q4 (qL 3) (xMn 0 0 0) qI qI) (q1 (qB 0 2 85 xMf)) (λ(c,a,i,k,_) (b,_)=>(xbs c a i,(k,b),λ p=>(.leaf (.exit 2) [AV.list 3 c,AV.osl 0 0 0 a,AV.int .i64 i,AV.int .i64 p.1] [bF 0 2 85 p.2]))) (0,[]) λ(c,a,i,_,_) _ (k,b)=>(((c,a,i,k,()),(b,())),xfu c a i k b none)
def xfv{T:Type}(d:LA)(i k:Int)(a:LA)(c:Nat)(n:Int)(b:LA)(δ:T)(κl:(Nat×Int×LA)->T)(κr:(Nat×LA)->T):T:=br (decide (n<a.length)) (br (ixI a n) (br (ixS a n (Sh.list 3) 0) (br (decide (0<=k)&&decide (k<=d.length)&&(decide (0<=i)&&decide (i<=(↑k.toNat:Int)))) (br (ixI a n) (br (ixS a n (Sh.list 3) 0) (br ((xmG (List.take (k.toNat - i.toNat) (List.drop i.toNat d)) (gC a n 0).toList).isSome) (br (rmB c b 1 48) (κl (c+1,i64.wrap (n+1),b++[AV.agg [AV.list 3 (gC a n 0).toList,AV.list 2 ((xmG (List.take (k.toNat - i.toNat) (List.drop i.toNat d)) (gC a n 0).toList).getD [])]])) δ) δ) δ) δ) δ) δ) δ) (κr (c,b))
def xcZ(d:LA)(i k:Int)(c:LA):StT (Nat×Int×LA) (Nat×LA):=λ(b,n,a)=>xfv d i k c b n a none inL inR
def xgR:=xuo.l 66 0 [] [(6,xeP.lp)] Tryz.f74 2 lk0 [3,4,5,6,7,8] [3,4,6] [(4,2,85)] (q6 (qL 3) (xMn 0 0 0) qI qI (qL 1) qI) (q1 (qB 0 2 85 xMf)) (λ(d,b,i,k,c,n,_) (a,_)=>(xcZ d i k c,(b,n,a),λ p=>(.leaf (.exit 4) [AV.list 3 d,AV.osl 0 0 0 p.1,AV.int .i64 k] [bF 0 2 85 p.2]))) (0,[]) λ(d,_,i,k,c,_,_) _ (b,n,a)=>(((d,b,i,k,c,n,()),(a,())),xfv d i k c b n a none)
def xbY(c:LA)(b:Nat)(i:Int)(a:LA):=((Iter (xbs c b i) (i,a)).getD (0,[])).fst
def xgQ(c:LA)(a:Nat)(i:Int)(b:LA):=Iter (xcZ c i (xbY c a i b) ((xoY (List.take ((xbY c a i b).toNat - i.toNat) (List.drop i.toNat c))).getD [])) (a,0,((Iter (xbs c a i) (i,b)).getD (0,[])).snd)
def xhv{T:Type}(c:LA)(b:Nat)(i:Int)(a:LA)(δ:T)(κl:(Nat×Int×LA)->T)(κr:(Nat×LA)->T):T:=br (decide (i<c.length)) (br ((Iter (xbs c b i) (i,a)).isSome) (br (decide (0<=xbY c b i a)&&decide (xbY c b i a<=c.length)&&(decide (0<=i)&&decide (i<=(↑(xbY c b i a).toNat:Int)))) (br ((xoY (List.take ((xbY c b i a).toNat - i.toNat) (List.drop i.toNat c))).isSome) (br ((xgQ c b i a).isSome) (κl (((xgQ c b i a).getD (0,[])).fst,xbY c b i a,((xgQ c b i a).getD (0,[])).snd)) δ) δ) δ) δ) (κr (b,a))
def xcY(c:LA):StT (Nat×Int×LA) (Nat×LA):=λ(b,i,a)=>xhv c b i a none inL inR
def xn5:=xuo.l 66 0 [] [(6,xeP.lp),(10,xgR.lp)] Tryz.f74 0 (lks (lkC xeP.ok (lkC xgR.ok lkN))) [3,4,5] [4] [(4,2,85)] (q3 (qL 3) (xMn 0 0 0) qI) (q1 (qB 0 2 85 xMf)) (λ(c,b,i,_) (a,_)=>(xcY c,(b,i,a),λ p=>(.leaf (.exit 0) [AV.osl 0 0 0 p.1] [bF 0 2 85 p.2]))) (0,[]) λ(c,_,_,_) _ (b,i,a)=>(((c,b,i,()),(a,())),xhv c b i a none)
def xmI(l:LA):=Iter (xcY ((xbt 100 l).getD [])) (0,0,[])
def xgS(l:LA):=(xmI l).getD (0,[])
def xnt{T:Type}(l:LA)(δ:T)(κ:LA->T):T:=br ((xbt 100 l).isSome) (br ((xmI l).isSome) (br (decide (0+((xgS l).fst)<=((xgS l).snd).length)&&true) (κ (List.take ((xgS l).fst) (List.drop 0 ((xgS l).snd)))) δ) δ) δ
def xjW(l:LA):=xnt l none some
def xC3:EO:=xuo.f Tryz.func74 66 0 [] [(6,xeP.lp),(10,xgR.lp),(4,xn5.lp)] (lks (lkC xn5.ok (lkC xeP.ok (lkC xgR.ok lkN)))) (u1 (uL 3)) (λ(l,_) _=>xnt l) (λ _ p=>AV.list 2 p) []
def xdi(l:LA)(n i:Int):=decide ((gC l i 1).toInt>=n)
def xaR(l:LA)(b:Nat)(i:Int)(a:LA):=(xbH b (gC l i 0).toInt 1099511627776 a).getD (false,(0,[],[]),0,[])
def xcS(l:LA)(b:Nat)(i:Int)(a:LA):=xbH b (gC l i 0).toInt ((l.getD (i64.wrap (i+1)).toNat .top).cells.getD 0 .top).toInt a
def xcT(l:LA)(i:Int):=decide (i64.wrap (i+1)<(↑l.length:Int))
def xaX(l:LA)(b:Nat)(i:Int)(a:LA):=(xcS l b i a).getD (false,(0,[],[]),0,[])
def xcG{T:Type}(l:LA)(n:Int)(b:Nat)(i:Int)(a:LA)(δ:T)(κl:(Nat×Int×LA)->T)(κr:(Nat×LA)->T):T:=br (decide (i<l.length)) (br (xcT l i) (br (decide (0<=i64.wrap (i+1))&&xcT l i) (br (decide ((i64.wrap (i+1)).toNat<l.length)&&xLr (Sh.int .i64) ((l.getD (i64.wrap (i+1)).toNat .top).cells.getD 0 .top)) (br (ixI l i) (br (ixS l i (Sh.int .i64) 1) (br (xdi l n i) (br (ixI l i) (br (ixS l i (Sh.int .i64) 0) (br ((xcS l b i a).isSome) (κl (br ((xaX l b i a).fst) (((xaX l b i a).snd).fst).fst (((xaX l b i a).snd).snd).fst,i64.wrap (i+1),br ((xaX l b i a).fst) (((xaX l b i a).snd).fst).snd.snd (((xaX l b i a).snd).snd).snd)) δ) δ) δ) (κl (b,i64.wrap (i+1),a))) δ) δ) δ) δ) (br (ixI l i) (br (ixS l i (Sh.int .i64) 1) (br (xdi l n i) (br (ixI l i) (br (ixS l i (Sh.int .i64) 0) (br ((xbH b (gC l i 0).toInt 1099511627776 a).isSome) (κl (br ((xaR l b i a).fst) (((xaR l b i a).snd).fst).fst (((xaR l b i a).snd).snd).fst,i64.wrap (i+1),br ((xaR l b i a).fst) (((xaR l b i a).snd).fst).snd.snd (((xaR l b i a).snd).snd).snd)) δ) δ) δ) (κl (b,i64.wrap (i+1),a))) δ) δ)) (κr (b,a))
def xaK(l:LA)(n:Int):StT (Nat×Int×LA) (Nat×LA):=λ(b,i,a)=>xcG l n b i a none inL inR
def xnb:=xC3.l 42 0 [] [] Tryz.f86 0 lk0 [0,1,5,6] [5] [(5,2,52)] (q4 (qL 2) qI (xMn 0 0 0) qI) (q1 (qB 0 2 52 xMf)) (λ(l,n,b,i,_) (a,_)=>(xaK l n,(b,i,a),λ p=>(.leaf (.exit 0) [AV.osl 0 0 0 p.1] [bF 0 2 52 p.2]))) (0,[]) λ(l,n,_,_,_) _ (b,i,a)=>(((l,n,b,i,()),(a,())),xcG l n b i a none)
def xga(l:LA)(n:Int):=(Iter (xaK l n) (0,0,[])).getD (0,[])
def xmz{T:Type}(l:LA)(n:Int)(δ:T)(κ:LA->T):T:=br ((Iter (xaK l n) (0,0,[])).isSome) (br (decide (0+((xga l n).fst)<=((xga l n).snd).length)&&true) (κ (List.take ((xga l n).fst) (List.drop 0 ((xga l n).snd)))) δ) δ
def xec(l:LA)(n:Int):=xmz l n none some
def xC4:EO:=xC3.f Tryz.func86 42 0 [] [(3,xnb.lp)] (lk1 xnb.ok) (u2 (uL 2) uI) (λ(l,n,_) _=>xmz l n) (λ _ p=>AV.list 2 p) []
def xhr(l:LA)(i:Int):=decide (i.toNat<l.length)&&((l.getD i.toNat .top).cells.length==2&&xLz [Sh.int .i64,Sh.int .i64] (l.getD i.toNat .top).cells 0)
def xgb{T:Type}(l:LA)(b:Nat)(i c d:Int)(a:LA)(δ:T)(κl:(Nat×Int×Int×Int×LA)->T)(κr:(Nat×Int×Int×Int×LA)->T):T:=br (decide (i<l.length)) (br (ixI l i) (br (xhr l i) (br (decide (xk8 (gC l i 0).toInt (gC l i 1).toInt c d<=0)) (br (ixI l i) (br (xhr l i) (br (rmB b a 1 16) (κl (b+1,i64.wrap (i+1),c,d,a++[AV.agg [AV.int .i64 (gC l i 0).toInt,AV.int .i64 (gC l i 1).toInt]])) δ) δ) δ) (κr (b,i,c,d,a))) δ) δ) (κr (b,i,c,d,a))
def xck(l:LA):StT (Nat×Int×Int×Int×LA) (Nat×Int×Int×Int×LA):=λ(b,i,c,d,a)=>xgb l b i c d a none inL inR
def xoE:=xC4.l 38 0 [] [] Tryz.f87 0 lk0 [0,3,5,6] [0,3,5,6] [(5,2,52)] (q4 (qL 2) (xMo 0 0 0 0) (xMn 1 0 0) qI) (q2 (qB 0 2 52 (q1 (xMp (q2 qI qI)))) (qB 0 2 52 xMf)) (λ(l,_,b,i,_) (((c,d,_),_),a,_)=>(xck l,(b,i,c,d,a),λ p=>(.leaf (.exit 0) [AV.list 2 l,AV.own 0 0 0 0,AV.osl 1 0 0 p.1,AV.int .i64 p.2.1] [bF 0 2 52 [AV.agg [AV.int .i64 p.2.2.1,AV.int .i64 p.2.2.2.1]],bF 0 2 52 p.2.2.2.2]))) (0,0,0,0,[]) λ(l,_,_,_,_) _ (b,i,c,d,a)=>(((l,(),b,i,()),(((c,d,()),()),a,())),xgb l b i c d a none)
def xmA(l:LA)(a b:Int):=Iter (xck l) (0,0,a,b,[])
def xbq(l:LA)(a b:Int):=(xmA l a b).getD (0,0,0,0,[])
def xhO(l:LA)(a b:Int):=((xbq l a b).fst)+1
def xnn(l:LA)(a b:Int):=List.take (l.length - (((xbq l a b).snd).fst).toNat) (List.drop (((xbq l a b).snd).fst).toNat l)
def xhN(l:LA)(a b:Int):=xhO l a b+(xnn l a b).length
def xnm(l:LA)(a b:Int):=(((((xbq l a b).snd).snd).snd).snd)++[AV.agg [AV.int .i64 (((xbq l a b).snd).snd).fst,AV.int .i64 ((((xbq l a b).snd).snd).snd).fst]]
def xnl(l:LA)(a b:Int):=xnm l a b++xnn l a b
def xoq{T:Type}(l:LA)(a b:Int)(δ:T)(κ:LA->T):T:=br ((xmA l a b).isSome) (br (((xbq l a b).fst)==(((((xbq l a b).snd).snd).snd).snd).length&&(decide (xhO l a b*16<=140737488355328)&&decide (xhO l a b<=4611686018427387904))) (br (decide (0<=(((xbq l a b).snd).fst))&&decide ((((xbq l a b).snd).fst)<=(↑l.length:Int))) (br (xhO l a b==(xnm l a b).length&&(decide (xhN l a b*16<=140737488355328)&&decide (xhN l a b<=4611686018427387904))) (br (decide (0+xhN l a b<=(xnl l a b).length)&&true) (κ (List.take (xhN l a b) (List.drop 0 (xnl l a b)))) δ) δ) δ) δ) δ
def xnK(l:LA)(a b:Int):=xoq l a b none some
def xyy:EO:=xC4.f Tryz.func87 38 0 [] [(3,xoE.lp)] (lk1 xoE.ok) (u2 (uL 2) (xMs (u2 uI uI))) (λ(l,(a,b,_),_) _=>xoq l a b) (λ _ p=>AV.list 2 p) []
def xhq{T:Type}(l:LA)(n:Int)(a b:LA)(i:Int)(δ:T)(κl:(LA×Int)->T)(κr:(LA)->T):T:=br (decide (i<a.length)) (br (ixI a i) (br (ixT a i 2 [Sh.int .i64,Sh.int .i64] 0) (br ((xnK b (gC a i 0).toInt (gC a i 1).toInt).isSome) (κl ((xnK b (gC a i 0).toInt (gC a i 1).toInt).getD [],i64.wrap (i+1))) δ) δ) δ) (κr (b))
def xb9(l:LA)(n:Int)(b:LA):StT (LA×Int) (LA):=λ(a,i)=>xhq l n b a i none inL inR
def xgL:=xyy.l 31 0 [] [] Tryz.f52 1 lk0 [0,3,4,5,6] [0,3,4] [(3,2,1073741824)] (q5 (qL 2) (qL 2) qI (qL 2) qI) xMd (λ(l,a,n,b,i,_) _=>(xb9 l n b,(a,i),λ p=>(.leaf (.exit 2) [AV.list 2 l,AV.list 2 p,AV.int .i64 n] []))) [] λ(l,_,n,b,_,_) _ (a,i)=>(((l,a,n,b,i,()),()),xhq l n b a i none)
def xhp{T:Type}(l a:LA)(n:Int)(δ:T)(κl:(LA×Int)->T)(κr:(Bool×(LA×LA)×(LA))->T):T:=br (decide (n<=1048576)) (br ((xec l n).isSome) (br ((↑((xec l n).getD []).length:Int)==0) (κr (true,(a,a),[])) (br ((Iter (xb9 l n ((xec l n).getD [])) (a,0)).isSome) (κl ((Iter (xb9 l n ((xec l n).getD [])) (a,0)).getD [],i64.wrap (n+1))) δ)) δ) (κr (false,([],[]),(a)))
def xb8(l:LA):StT (LA×Int) (Bool×(LA×LA)×(LA)):=λ(a,n)=>xhp l a n none inL inR
def xnZ:=xyy.l 31 0 [] [(9,xgL.lp)] Tryz.f52 0 (lk1 xgL.ok) [0,3,4] [2,3] [(3,2,1073741824)] (q3 (qL 2) (qL 2) qI) xMd (λ(l,a,n,_) _=>(xb8 l,(a,n),λ p=>(.node p.1 (.leaf .ret [AV.list 2 p.2.1.1,AV.list 2 p.2.1.2] []) (.leaf (.exit 0) [.top,AV.list 2 p.2.2] [])))) (false,([],[]),[]) λ(l,_,_,_) _ (a,n)=>(((l,a,n,()),()),xhp l a n none)
def xi7(l:LA):=(Iter (xb8 l) ([],1)).getD (false,([],[]),[])
def xnk{T:Type}(l:LA)(δ:T)(κ:LA->T):T:=br ((Iter (xb8 l) ([],1)).isSome) (br ((xi7 l).fst) (κ (((xi7 l).snd).fst.fst)) (κ (((xi7 l).snd).snd))) δ
def xdZ(l:LA):=xnk l none some
def xC5:EO:=xyy.f Tryz.func52 31 0 [] [(9,xgL.lp),(3,xnZ.lp)] (lks (lkC xnZ.ok (lkC xgL.ok lkN))) (u1 (uL 2)) (λ(l,_) _=>xnk l) (λ _ p=>AV.list 2 p) []
def xhu{T:Type}(d c:LA)(b:Nat)(i:Int)(a:LA)(δ:T)(κl:(Nat×Int×LA)->T)(κr:(Nat×LA)->T):T:=br (decide (i<c.length)) (br (ixI c i) (br (ixT c i 2 [Sh.int .i64,Sh.int .i64] 0) (br (rmB b a 1 40) (κl (b+1,i64.wrap (i+1),a++[AV.agg [AV.list 3 d,AV.int .i64 (gC c i 0).toInt,AV.int .i64 (gC c i 1).toInt]])) δ) δ) δ) (κr (b,a))
def xca(c d:LA):StT (Nat×Int×LA) (Nat×LA):=λ(b,i,a)=>xhu c d b i a none inL inR
def xn4:=xC5.l 23 0 [] [] Tryz.f51 0 lk0 [0,1,5,6] [5] [(5,3,54)] (q4 (qL 3) (qL 2) (xMn 0 0 0) qI) (q1 (qB 0 3 54 xMf)) (λ(c,d,b,i,_) (a,_)=>(xca c d,(b,i,a),λ p=>(.leaf (.exit 0) [AV.osl 0 0 0 p.1] [bF 0 3 54 p.2]))) (0,[]) λ(c,d,_,_,_) _ (b,i,a)=>(((c,d,b,i,()),(a,())),xhu c d b i a none)
def xgP(a b:LA):=(Iter (xca a b) (0,0,[])).getD (0,[])
def xns{T:Type}(a b:LA)(δ:T)(κ:LA->T):T:=br ((Iter (xca a b) (0,0,[])).isSome) (br (decide (0+((xgP a b).fst)<=((xgP a b).snd).length)&&true) (κ (List.take ((xgP a b).fst) (List.drop 0 ((xgP a b).snd)))) δ) δ
def xjV(a b:LA):=xns a b none some
def xC6:EO:=xC5.f Tryz.func51 23 0 [] [(3,xn4.lp)] (lk1 xn4.ok) (u2 (uL 3) (uL 2)) (λ(a,b,_) _=>xns a b) (λ _ p=>AV.list 3 p) []
def xi9(g:LA)(a:Nat)(i:Int):=a+((xjV (gC g i 0).toList ((xdZ (gC g i 1).toList).getD [])).getD []).length
def xkv{T:Type}(g:LA)(a:Nat)(i:Int)(b:LA)(δ:T)(κl:(Nat×Int×LA)->T)(κr:(Nat×LA)->T):T:=br (decide (i<g.length)) (br (ixI g i) (br (ixS g i (Sh.list 3) 0) (br (ixI g i) (br (ixS g i (Sh.list 2) 1) (br ((xdZ (gC g i 1).toList).isSome) (br ((xjV (gC g i 0).toList ((xdZ (gC g i 1).toList).getD [])).isSome) (br (a==b.length&&(decide (xi9 g a i*40<=140737488355328)&&decide (xi9 g a i<=4611686018427387904))) (κl (xi9 g a i,i64.wrap (i+1),b++(xjV (gC g i 0).toList ((xdZ (gC g i 1).toList).getD [])).getD [])) δ) δ) δ) δ) δ) δ) δ) (κr (a,b))
def xd6(g:LA):StT (Nat×Int×LA) (Nat×LA):=λ(b,i,a)=>xkv g b i a none inL inR
def xp6:=xC6.l 29 0 [] [] Tryz.f36 0 lk0 [3,4,5] [4] [(4,3,54)] (q3 (qL 2) (xMn 0 0 0) qI) (q1 (qB 0 3 54 xMf)) (λ(g,b,i,_) (a,_)=>(xd6 g,(b,i,a),λ p=>(.leaf (.exit 0) [AV.osl 0 0 0 p.1] [bF 0 3 54 p.2]))) (0,[]) λ(g,_,_,_) _ (b,i,a)=>(((g,b,i,()),(a,())),xkv g b i a none)
def xjU(l:LA):=(Iter (xd6 ((xjW l).getD [])) (0,0,[])).getD (0,[])
def xqv{T:Type}(l:LA)(δ:T)(κ:LA->T):T:=br ((xjW l).isSome) (br ((Iter (xd6 ((xjW l).getD [])) (0,0,[])).isSome) (br (decide (0+((xjU l).fst)<=((xjU l).snd).length)&&true) (κ (List.take ((xjU l).fst) (List.drop 0 ((xjU l).snd)))) δ) δ) δ
def xn2(l:LA):=xqv l none some
def xHT:EO:=xC6.f Tryz.func36 29 0 [] [(4,xp6.lp)] (lk1 xp6.ok) (u1 (uL 3)) (λ(l,_) _=>xqv l) (λ _ p=>AV.list 3 p) []
def xkJ{T:Type}(l:LA)(δ:T)(κ:Bool->T):T:=br ((xn2 l).isSome) (br ((xbr l ((xn2 l).getD [])).isSome) (κ ((xbr l ((xn2 l).getD [])).getD false)) δ) δ
def xja(l:LA):=xkJ l none some
def xC7:EO:=xHT.f Tryz.func26 7 0 [] [] lk0 (u1 (uL 3)) (λ(l,_) _=>xkJ l) (λ _ p=>AV.bool p) false
def xle{T:Type}(l:LA)(t:Int)(b:Nat)(i:Int)(a:LA)(δ:T)(κl:(Nat×Int×LA)->T)(κr:(Nat×LA)->T):T:=br (decide (i<l.length)) (br (ixI l i) (br (ixT l i 3 [Sh.int .i64,Sh.int .i64] 1) (br (xhJ (gC l i 1).toInt (gC l i 2).toInt t) (br (ixI l i) (br (ixS l i (Sh.list 3) 0) (br (rmB b a 1 24) (κl (b+1,i64.wrap (i+1),a++[AV.list 3 (gC l i 0).toList])) δ) δ) δ) (κl (b,i64.wrap (i+1),a))) δ) δ) (κr (b,a))
def xeD(l:LA)(t:Int):StT (Nat×Int×LA) (Nat×LA):=λ(b,i,a)=>xle l t b i a none inL inR
def xqV:=xC7.l 30 0 [] [] Tryz.f33 0 lk0 [0,1,5,6] [5] [(5,1,47)] (q4 (qL 3) qI (xMn 0 0 0) qI) (q1 (qB 0 1 47 xMf)) (λ(l,t,b,i,_) (a,_)=>(xeD l t,(b,i,a),λ p=>(.leaf (.exit 0) [AV.osl 0 0 0 p.1] [bF 0 1 47 p.2]))) (0,[]) λ(l,t,_,_,_) _ (b,i,a)=>(((l,t,b,i,()),(a,())),xle l t b i a none)
def xk3(l:LA)(t:Int):=(Iter (xeD l t) (0,0,[])).getD (0,[])
def xqu(l:LA)(t:Int):=xku (List.take ((xk3 l t).fst) (List.drop 0 ((xk3 l t).snd)))
def xru{T:Type}(l:LA)(t:Int)(δ:T)(κ:LA->T):T:=br ((Iter (xeD l t) (0,0,[])).isSome) (br (decide (0+((xk3 l t).fst)<=((xk3 l t).snd).length)&&true) (br ((xqu l t).isSome) (κ ((xqu l t).getD [])) δ) δ) δ
def xd0(l:LA)(t:Int):=xru l t none some
def xC8:EO:=xC7.f Tryz.func33 30 0 [] [(3,xqV.lp)] (lk1 xqV.ok) (u2 (uL 3) uI) (λ(l,t,_) _=>xru l t) (λ _ p=>AV.list 1 p) []
def xgl{T:Type}(a b:LA)(i:Int)(δ:T)(κl:(Int)->T)(κr:(Bool×(Bool)×(Unit))->T):T:=br (decide (i<a.length)) (br (ixI a i) (br (ixS a i (Sh.list 3) 0) (br (ixI b i) (br (ixS b i (Sh.list 3) 0) (br ((xk2 (gC a i 0).toList (gC b i 0).toList).isSome) (br (!(xk2 (gC a i 0).toList (gC b i 0).toList).getD false) (κr (true,(false),())) (κl (i64.wrap (i+1)))) δ) δ) δ) δ) δ) (κr (false,false,()))
def xbA(a b:LA):StT (Int) (Bool×(Bool)×(Unit)):=λ(i)=>xgl a b i none inL inR
def xmF:=xC8.l 27 0 [] [] Tryz.f32 0 lk0 [0,1,5] [4] [] (q3 (qL 1) (qL 1) qI) xMd (λ(a,b,i,_) _=>(xbA a b,(i),λ p=>(.node p.1 (.leaf .ret [AV.bool p.2.1] []) (.leaf (.exit 0) [.top] [])))) (false,false,()) λ(a,b,_,_) _ (i)=>(((a,b,i,()),()),xgl a b i none)
def xlA{T:Type}(a b:LA)(δ:T)(κ:Bool->T):T:=br ((↑a.length:Int) !=(↑b.length:Int)) (κ (false)) (br ((Iter (xbA a b) 0).isSome) (br (((Iter (xbA a b) 0).getD (false,false,())).fst) (κ (((Iter (xbA a b) 0).getD (false,false,())).snd.fst)) (κ (true))) δ)
def xhT(a b:LA):=xlA a b none some
def xC9:EO:=xC8.f Tryz.func32 27 0 [] [(4,xmF.lp)] (lk1 xmF.ok) (u2 (uL 1) (uL 1)) (λ(a,b,_) _=>xlA a b) (λ _ p=>AV.bool p) false
def xcV{T:Type}(a:List UInt8)(i:Int)(δ:T)(κl:(Int)->T)(κr:(Bool×(Bool)×(Unit))->T):T:=br (decide (i<a.length)) (br (decide (0<=i)&&decide (i<a.length)) (br (decide ((↑(a.getD i.toNat (0:UInt8)).toNat:Int)<32)) (κr (true,(false),())) (br (decide (0<=i)&&decide (i<a.length)) (br (decide ((↑(a.getD i.toNat (0:UInt8)).toNat:Int)>126)) (κr (true,(false),())) (κl (i64.wrap (i+1)))) δ)) δ) (κr (false,false,()))
def xaH(a:List UInt8):StT (Int) (Bool×(Bool)×(Unit)):=λ(i)=>xcV a i none inL inR
def xlW:=xC9.l 20 0 [] [] Tryz.f145 0 lk0 [0,3] [2] [] (q2 pStr qI) xMd (λ(a,i,_) _=>(xaH a,(i),λ p=>(.node p.1 (.leaf .ret [AV.bool p.2.1] []) (.leaf (.exit 0) [.top] [])))) (false,false,()) λ(a,_,_) _ (i)=>(((a,i,()),()),xcV a i none)
def xkG{T:Type}(a:List UInt8)(δ:T)(κ:Bool->T):T:=br ((Iter (xaH a) 0).isSome) (br (((Iter (xaH a) 0).getD (false,false,())).fst) (κ (((Iter (xaH a) 0).getD (false,false,())).snd.fst)) (κ (true))) δ
def xi8(a:List UInt8):=xkG a none some
def xHx:EO:=xC9.f Tryz.func145 20 0 [] [(2,xlW.lp)] (lk1 xlW.ok) (u1 (sEq pStr)) (λ(a,_) _=>xkG a) (λ _ p=>AV.bool p) false
def xor{T:Type}(c a:Int)(b:List UInt8)(δ:T)(κ:Bool->T):T:=br (c==0) (br (a==0) (κ (b==[])) (κ (false))) (br (c==1) (br (b==[]) (br (decide (a>=(-1125899906842624))) (κ (decide (a<=1125899906842624))) (κ (false))) (κ (false))) (br (c==2) (br (a==0) (br (decide ((↑b.length:Int)<=200)) (br ((xi8 b).isSome) (κ ((xi8 b).getD false)) δ) (κ (false))) (κ (false))) (br (c==3) (br (b==[]) (br (a==0) (κ (true)) (κ (a==1))) (κ (false))) (κ (false)))))
def xqs(a b:Int)(c:List UInt8):=xor a b c none some
def xDb:EO:=xHx.f Tryz.func127 61 0 [] [] lk0 (u1 (xMs (u3 uI uI (sEq pStr)))) (λ((a,b,c,_),_) _=>xor a b c) (λ _ p=>AV.bool p) false
def xeB(a:LA)(i:Int):=xqs (gC a i 0).toInt (gC a i 1).toInt (gC a i 2).toStr
def xdx{T:Type}(a b:LA)(i:Int)(δ:T)(κl:(Int)->T)(κr:(Bool×(Bool)×(Unit))->T):T:=br (decide (i<a.length)) (br (ixI a i) (br (ixT a i 3 [Sh.int .i64,Sh.int .i64,Sh.str] 0) (br ((xeB a i).isSome) (br (!(xeB a i).getD false) (κr (true,(false),())) (br (ixI a i) (br (ixS a i (Sh.int .i64) 0) (br ((gC a i 0).toInt !=0) (br (ixI a i) (br (ixS a i (Sh.int .i64) 0) (br (ixI b i) (br (ixS b i (Sh.int .i64) 0) (br ((gC a i 0).toInt !=(gC b i 0).toInt) (κr (true,(false),())) (κl (i64.wrap (i+1)))) δ) δ) δ) δ) (κl (i64.wrap (i+1)))) δ) δ)) δ) δ) δ) (κr (false,false,()))
def xaS(b a:LA):StT (Int) (Bool×(Bool)×(Unit)):=λ(i)=>xdx b a i none inL inR
def xpu:=xDb.l 43 0 [] [] Tryz.f90 0 lk0 [0,1,5] [4] [] (q3 (qL 3) (qL 1) qI) xMd (λ(b,a,i,_) _=>(xaS b a,(i),λ p=>(.node p.1 (.leaf .ret [AV.bool p.2.1] []) (.leaf (.exit 0) [.top] [])))) (false,false,()) λ(b,a,_,_) _ (i)=>(((b,a,i,()),()),xdx b a i none)
def xpv{T:Type}(b a:LA)(δ:T)(κ:Bool->T):T:=br ((↑b.length:Int) !=(↑a.length:Int)) (κ (false)) (br ((Iter (xaS b a) 0).isSome) (br (((Iter (xaS b a) 0).getD (false,false,())).fst) (κ (((Iter (xaS b a) 0).getD (false,false,())).snd.fst)) (κ (true))) δ)
def xoX(b a:LA):=xpv b a none some
def xH0:EO:=xDb.f Tryz.func90 43 0 [] [(4,xpu.lp)] (lk1 xpu.ok) (u2 (uL 3) (uL 1)) (λ(b,a,_) _=>xpv b a) (λ _ p=>AV.bool p) false
def xgN(a b:LA):Nat:=0+a.length+b.length
def xno{T:Type}(a b:LA)(δ:T)(κ:LA->T):T:=br (decide ((0+a.length)*32<=140737488355328)&&decide (0+a.length<=4611686018427387904)) (br (0+a.length==([]++a).length&&(decide (xgN a b*32<=140737488355328)&&decide (xgN a b<=4611686018427387904))) (br (decide (0+xgN a b<=([]++a++b).length)&&true) (κ (List.take (xgN a b) (List.drop 0 ([]++a++b)))) δ) δ) δ
def xjR(a b:LA):=xno a b none some
def xH1:EO:=xH0.f Tryz.func38 13 0 [] [] lk0 (u2 (uL 3) (uL 3)) (λ(a,b,_) _=>xno a b) (λ _ p=>AV.list 3 p) []
def xrt(k:Int):Bool:=(br (k==1) ((true)) (br (k==2) ((true)) ((k==3))))
def xzH{T:Type}(k:Int)(δ:T)(κ:Bool->T):T:=br (k==1) (κ (true)) (br (k==2) (κ (true)) (κ (k==3)))
def xDc:EO:=xH1.fT Tryz.func128 13 0 [] [] lk0 (λ(k,_)=>xzH k none) (u1 uI) (λ(k,_)=>xrt k) (λ _ p=>(AV.bool p))
def xgc{T:Type}(l:LA)(i:Int)(δ:T)(κl:(Int)->T)(κr:(Bool×(Bool)×(Unit))->T):T:=br (decide (i<l.length)) (br (ixI l i) (br (ixS l i (Sh.int .i64) 0) (br (!xrt (gC l i 0).toInt) (κr (true,(false),())) (κl (i64.wrap (i+1)))) δ) δ) (κr (false,false,()))
def xbc(l:LA):StT (Int) (Bool×(Bool)×(Unit)):=λ(i)=>xgc l i none inL inR
def xoF:=xDc.l 16 0 [] [] Tryz.f91 0 lk0 [0,3] [2] [] (q2 (qL 1) qI) xMd (λ(l,i,_) _=>(xbc l,(i),λ p=>(.node p.1 (.leaf .ret [AV.bool p.2.1] []) (.leaf (.exit 0) [.top] [])))) (false,false,()) λ(l,_,_) _ (i)=>(((l,i,()),()),xgc l i none)
def xot{T:Type}(l:LA)(δ:T)(κ:Bool->T):T:=br ((Iter (xbc l) 0).isSome) (br (((Iter (xbc l) 0).getD (false,false,())).fst) (κ (((Iter (xbc l) 0).getD (false,false,())).snd.fst)) (κ (true))) δ
def xnL(l:LA):=xot l none some
def xDd:EO:=xDc.f Tryz.func91 16 0 [] [(2,xoF.lp)] (lk1 xoF.ok) (u1 (uL 1)) (λ(l,_) _=>xot l) (λ _ p=>AV.bool p) false
def xeE{T:Type}(i:Int)(b a:LA)(δ:T)(κl:(Int×LA×LA)->T)(κr:(Bool×(Bool×LA×LA)×(LA×LA))->T):T:=br (decide (i<a.length)) (br (ixI a i) (br (ixT a i 3 [Sh.int .i64,Sh.int .i64] 1) (br (!xfW (gC a i 1).toInt (gC a i 2).toInt) (κr (true,(false,b,a),([],[]))) (br (ixI a i) (br (ixS a i (Sh.list 3) 0) (br ((xoX (gC a i 0).toList b).isSome) (br (!(xoX (gC a i 0).toList b).getD false) (κr (true,(false,b,a),([],[]))) (κl (i64.wrap (i+1),b,a))) δ) δ) δ)) δ) δ) (κr (false,(false,[],[]),(b,a)))
def xbd:StT (Int×LA×LA) (Bool×(Bool×LA×LA)×(LA×LA)):=λ(i,a,b)=>xeE i a b none inL inR
def xoH:=xDd.l 46 0 [] [] Tryz.f57 0 lk0 [1,3] [1,2] [] (q2 (xMo 0 0 0 0) qI) (q1 (qB 0 2 25 (q1 (xMp (q2 (qL 1) (qL 3)))))) (λ(_,i,_) (((a,b,_),_),_)=>(xbd,(i,a,b),λ p=>(.node p.1 (.leaf .ret [AV.own 0 0 0 0,AV.bool p.2.1.1] [bF 0 2 25 [AV.agg [AV.list 1 p.2.1.2.1,AV.list 3 p.2.1.2.2]]]) (.leaf (.exit 0) [AV.own 0 0 0 0,.top] [bF 0 2 25 [AV.agg [AV.list 1 p.2.2.1,AV.list 3 p.2.2.2]]])))) (false,(false,[],[]),([],[])) λ _ _ (i,a,b)=>((((),i,()),(((a,b,()),()),())),xeE i a b none)
def xdE(a b:LA):=(Iter xbd (0,a,b)).getD (false,(false,[],[]),[],[])
def xhU(a b:LA):=(↑(((xdE a b).snd).snd.fst).length:Int)
def xow{T:Type}(a b:LA)(δ:T)(κ:Bool->T):T:=br ((Iter xbd (0,a,b)).isSome) (br ((xdE a b).fst) (κ (((xdE a b).snd).fst.fst)) (br (decide (xhU a b>0)) (br (decide (xhU a b<=48)) (br ((xnL (((xdE a b).snd).snd.fst)).isSome) (κ ((xnL (((xdE a b).snd).snd.fst)).getD false)) δ) (κ (false))) (κ (false)))) δ
def xfX(a b:LA):=xow a b none some
def xDe:EO:=xDd.f Tryz.func57 46 0 [] [(2,xoH.lp)] (lk1 xoH.ok) (u1 (xMs (u2 (uL 1) (uL 3)))) (λ((a,b,_),_) _=>xow a b) (λ _ p=>AV.bool p) false
def xfH{T:Type}(a b:LA)(i:Int)(δ:T)(κl:(Int)->T)(κr:(Bool×(Bool)×(Unit))->T):T:=br (decide (i<a.length)) (br (ixI a i) (br (ixS a i (Sh.int .i64) 0) (br (ixI b i) (br (ixS b i (Sh.int .i64) 0) (br ((gC a i 0).toInt !=(gC b i 0).toInt) (κr (true,(false),())) (κl (i64.wrap (i+1)))) δ) δ) δ) δ) (κr (false,false,()))
def xbj(a b:LA):StT (Int) (Bool×(Bool)×(Unit)):=λ(i)=>xfH a b i none inL inR
def xlX:=xDe.l 26 0 [] [] Tryz.f39 0 lk0 [0,1,5] [4] [] (q3 (qL 1) (qL 1) qI) xMd (λ(a,b,i,_) _=>(xbj a b,(i),λ p=>(.node p.1 (.leaf .ret [AV.bool p.2.1] []) (.leaf (.exit 0) [.top] [])))) (false,false,()) λ(a,b,_,_) _ (i)=>(((a,b,i,()),()),xfH a b i none)
def xkI{T:Type}(a b:LA)(δ:T)(κ:Bool->T):T:=br ((↑a.length:Int) !=(↑b.length:Int)) (κ (false)) (br ((Iter (xbj a b) 0).isSome) (br (((Iter (xbj a b) 0).getD (false,false,())).fst) (κ (((Iter (xbj a b) 0).getD (false,false,())).snd.fst)) (κ (true))) δ)
def xmE(a b:LA):=xkI a b none some
def xDf:EO:=xDe.f Tryz.func39 26 0 [] [(4,xlX.lp)] (lk1 xlX.ok) (u2 (uL 1) (uL 1)) (λ(a,b,_) _=>xkI a b) (λ _ p=>AV.bool p) false
def xgd{T:Type}(l a:LA)(n i:Int)(δ:T)(κl:(Int×Int)->T)(κr:(Int)->T):T:=br (decide (i<l.length)) (br (ixI l i) (br (ixS l i (Sh.list 3) 0) (br ((xaP (gC l i 0).toList a).isSome) (br ((xaP (gC l i 0).toList a).getD 0==0) (κl (i64.wrap (n+1),i64.wrap (i+1))) (κl (n,i64.wrap (i+1)))) δ) δ) δ) (κr (n))
def xbG(l a:LA):StT (Int×Int) (Int):=λ(n,i)=>xgd l a n i none inL inR
def xoG:=xDf.l 23 0 [] [] Tryz.f37 0 lk0 [0,1,5,6] [5] [] (q4 (qL 1) (qL 3) qI qI) xMd (λ(l,a,n,i,_) _=>(xbG l a,(n,i),λ p=>(.leaf (.exit 0) [AV.int .i64 p] []))) 0 λ(l,a,_,_,_) _ (n,i)=>(((l,a,n,i,()),()),xgd l a n i none)
def xou{T:Type}(l a:LA)(δ:T)(κ:Int->T):T:=br ((Iter (xbG l a) (0,0)).isSome) (κ ((Iter (xbG l a) (0,0)).getD 0)) δ
def xnM(l a:LA):=xou l a none some
def xGq:EO:=xDf.f Tryz.func37 23 0 [] [(3,xoG.lp)] (lk1 xoG.ok) (u2 (uL 1) (uL 3)) (λ(l,a,_) _=>xou l a) (λ _ p=>AV.int .i64 p) 0
def xcI(a b:LA):=i64.wrap ((↑a.length:Int) - (↑b.length:Int))
def xgU(a b:LA):=xmE (List.take (a.length - (xcI a b).toNat) (List.drop (xcI a b).toNat a)) b
def xkL{T:Type}(a c b d:LA)(δ:T)(κ:Bool->T):T:=br (decide (xcI a b>0)) (br ((xfX a c).isSome) (br ((xfX a c).getD false) (br ((xfX b d).isSome) (br ((xfX b d).getD false) (br (decide (0<=xcI a b)&&decide (xcI a b<=a.length)) (br ((xgU a b).isSome) (κ ((xgU a b).getD false)) δ) δ) (κ (false))) δ) (κ (false))) δ) (κ (false))
def xjc(a b c d:LA):=xkL a b c d none some
def xur:EO:=xGq.f Tryz.func22 32 0 [] [] lk0 (u2 (xMs (u2 (uL 1) (uL 3))) (xMs (u2 (uL 1) (uL 3)))) (λ((a,b,_),(c,d,_),_) _=>xkL a b c d) (λ _ p=>AV.bool p) false
def xgn{T:Type}(a b:LA)(n:Int)(d:Nat)(i:Int)(c:LA)(δ:T)(κl:(Nat×Int×LA)->T)(κr:(Nat×LA)->T):T:=br (decide (i<a.length)) (br (ixI a i) (br (ixS a i (Sh.list 3) 0) (br (decide (0<=n)&&decide (n<=(↑(gC a i 0).toList.length:Int))&&true) (br (rmB d c 1 24) (κl (d+1,i64.wrap (i+1),c++[AV.list 3 (List.take (n.toNat - 0) (List.drop 0 (gC a i 0).toList))])) δ) δ) δ) δ) (κr (d,c))
def xcg(a b:LA)(n:Int):StT (Nat×Int×LA) (Nat×LA):=λ(d,i,c)=>xgn a b n d i c none inL inR
def xfJ:=xur.l 66 0 [] [] Tryz.f34 0 lk0 [0,1,2,7,8] [0,1,7] [(7,1,47)] (q5 (qL 1) (qL 1) qI (xMn 0 0 0) qI) (q1 (qB 0 1 47 xMf)) (λ(a,b,n,d,i,_) (c,_)=>(xcg a b n,(d,i,c),λ p=>(.leaf (.exit 0) [AV.list 1 a,AV.list 1 b,AV.osl 0 0 0 p.1] [bF 0 1 47 p.2]))) (0,[]) λ(a,b,n,_,_,_) _ (d,i,c)=>(((a,b,n,d,i,()),(c,())),xgn a b n d i c none)
def xeq{T:Type}(a b c:LA)(f:Nat)(i:Int)(e:Bool)(k:Int)(d:LA)(δ:T)(κl:(Bool×Int×LA)->T)(κr:(Bool×LA)->T):T:=br (decide (k<b.length)) (br (e) (br (ixI c i) (br (ixS c i (Sh.list 3) 0) (br (ixI b k) (br (ixS b k (Sh.list 3) 0) (br ((xjR (gC c i 0).toList (gC b k 0).toList).isSome) (br ((xnM a ((xjR (gC c i 0).toList (gC b k 0).toList).getD [])).isSome) (κl (decide ((xnM a ((xjR (gC c i 0).toList (gC b k 0).toList).getD [])).getD 0>0),i64.wrap (k+1),d)) δ) δ) δ) δ) δ) δ) (κl (false,i64.wrap (k+1),d))) (κr (e,d))
def xa7(a b d:LA)(e:Nat)(i:Int):StT (Bool×Int×LA) (Bool×LA):=λ(f,k,c)=>xeq a b d e i f k c none inL inR
def xfK:=xur.l 66 0 [] [(3,xfJ.lp)] Tryz.f34 2 lk0 [0,1,7,9,10,11,12] [0,1,7,9,10,11] [(7,1,47),(9,1,47)] (q7 (qL 1) (qL 1) (qL 1) (xMn 0 0 0) qI pBool qI) (q1 (qB 0 1 47 xMf)) (λ(a,b,c,d,i,f,k,_) (e,_)=>(xa7 a b c d i,(f,k,e),λ p=>(.leaf (.exit 4) [AV.list 1 a,AV.list 1 b,AV.list 1 c,AV.osl 0 0 0 d,AV.int .i64 i,AV.bool p.1] [bF 0 1 47 p.2]))) (false,[]) λ(a,b,c,d,i,_,_,_) _ (f,k,e)=>(((a,b,c,d,i,f,k,()),(e,())),xeq a b c d i f k e none)
def xcx(a b d:LA)(e:Nat)(i:Int)(c:LA):=(Iter (xa7 a b d e i) (true,0,c)).getD (false,[])
def xep{T:Type}(a b d:LA)(c:Nat)(i:Int)(e:LA)(δ:T)(κl:(Nat×Int×LA)->T)(κr:(Nat×LA)->T):T:=br (decide (i<d.length)) (br ((Iter (xa7 a b d c i) (true,0,e)).isSome) (br ((xcx a b d c i e).fst) (br (ixI d i) (br (ixS d i (Sh.list 3) 0) (br (c==((xcx a b d c i e).snd).length&&(decide ((c+1)*24<=140737488355328)&&decide (c+1<=4611686018427387904))) (κl (c+1,i64.wrap (i+1),((xcx a b d c i e).snd)++[AV.list 3 (gC d i 0).toList])) δ) δ) δ) (κl (c,i64.wrap (i+1),((xcx a b d c i e).snd)))) δ) (κr (c,e))
def xch(a b d:LA):StT (Nat×Int×LA) (Nat×LA):=λ(e,i,c)=>xep a b d e i c none inL inR
def xmK:=xur.l 66 0 [] [(3,xfJ.lp),(13,xfK.lp)] Tryz.f34 1 (lk1 xfK.ok) [0,1,7,9,10] [9] [(7,1,47),(9,1,47)] (q5 (qL 1) (qL 1) (qL 1) (xMn 0 0 0) qI) (q1 (qB 0 1 47 xMf)) (λ(a,b,d,e,i,_) (c,_)=>(xch a b d,(e,i,c),λ p=>(.leaf (.exit 2) [AV.osl 0 0 0 p.1] [bF 0 1 47 p.2]))) (0,[]) λ(a,b,d,_,_,_) _ (e,i,c)=>(((a,b,d,e,i,()),(c,())),xep a b d e i c none)
def xfw(a b:LA)(n:Int):=(Iter (xcg a b n) (0,0,[])).getD (0,[])
def xkM(a b:LA)(n:Int):=xkt (List.take ((xfw a b n).fst) (List.drop 0 ((xfw a b n).snd)))
def xd7(a b:LA)(n:Int):=Iter (xch a b ((xkM a b n).getD [])) (0,0,[])
def xlE{T:Type}(a b:LA)(n:Int)(δ:T)(κ:LA->T):T:=br ((Iter (xcg a b n) (0,0,[])).isSome) (br (decide (0+((xfw a b n).fst)<=((xfw a b n).snd).length)&&true) (br ((xkM a b n).isSome) (br ((xd7 a b n).isSome) (br (decide (0+(((xd7 a b n).getD (0,[])).fst)<=(((xd7 a b n).getD (0,[])).snd).length)&&true) (κ (List.take (((xd7 a b n).getD (0,[])).fst) (List.drop 0 (((xd7 a b n).getD (0,[])).snd)))) δ) δ) δ) δ) δ
def xf2(a b:LA)(n:Int):=xlE a b n none some
def xH2:EO:=xur.f Tryz.func34 66 0 [] [(3,xfJ.lp),(13,xfK.lp),(9,xmK.lp)] (lks (lkC xfJ.ok (lkC xmK.ok (lkC xfK.ok lkN)))) (u3 (uL 1) (uL 1) uI) (λ(a,b,n,_) _=>xlE a b n) (λ _ p=>AV.list 1 p) []
def xqm{T:Type}(a b:LA)(δ:T)(κ:Bool->T):T:=br (decide ((↑b.length:Int)<=16)) (br (decide ((↑a.length:Int)<=48)) (br ((xfX a b).isSome) (κ ((xfX a b).getD false)) δ) (κ (false))) (κ (false))
def xlT(a b:LA):=xqm a b none some
def xCU:EO:=xH2.f Tryz.func21 17 0 [] [] lk0 (u1 (xMs (u2 (uL 1) (uL 3)))) (λ((a,b,_),_) _=>xqm a b) (λ _ p=>AV.bool p) false
end Go.Sim.M
