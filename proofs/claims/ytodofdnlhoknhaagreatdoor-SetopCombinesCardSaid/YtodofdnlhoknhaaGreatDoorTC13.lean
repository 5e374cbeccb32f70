/- Part 13 of the proof of the law. -/
import Derived.Test.YtodofdnlhoknhaaGreatDoorTC12
import Derived.StillTailTactics
set_option linter.defProp false
set_option linter.unusedVariables false
set_option linter.unusedSimpArgs false
set_option maxRecDepth 100000
noncomputable section
namespace Go.Sim.M
def kK(x y:Int):Int:=if x<y then -1 else if y<x then 1 else 0
def wz(x y:Int):Int:=if x=0 then y else x
end Go.Sim.M
namespace Go.Proofs
open Go.RowKit Go.Sim Go.Sim.M Go.Sort Go.Lib
def Tryz.cmp_walk(x y:Int)(w:World):Calls Tryz.prog 110 #[.int .i64 x,.int .i64 y] w λ e w'=>e=.returned (.int .i64 (kK x y))/\w'=w:=by unfold kK;go_enter Tryz.func110,Tryz.ntmps110;go_wp2;all_goals (go_ret;exact⟨rfl,rfl⟩)
def Tryz.or_walk(x y:Int)(b off c:Nat)(w:World)(h0:w.cell? ⟨b,off,none⟩=some (.int .i64 x))(h1:w.cell? ⟨b,off+1,none⟩=some (.int .i64 y)):Calls Tryz.prog 109 #[.slice (some ⟨b,off,none⟩) 2 c] w λ e w'=>e=.returned (.int .i64 (wz x y))/\w'=w:=by
 unfold wz;by_cases hx:x=0
 . subst hx;rw[if_pos rfl];by_cases hy:y=0
   . subst hy
     go_enter Tryz.func109,Tryz.ntmps109
     go_wp2
     refine wp_loop_rounds 3 ?_;rw[rounds_succ]
     go_wp2
     rw[rounds_succ]
     go_wp2
     rw[rounds_succ]
     go_wp2
     go_ret
     exact⟨rfl,rfl⟩
   . have hy':(y !=0)=true:=by simpa using hy
     go_enter Tryz.func109,Tryz.ntmps109
     go_wp2
     refine wp_loop_rounds 3 ?_;rw[rounds_succ]
     go_wp2
     rw[rounds_succ]
     go_wp2
     go_ret
     exact⟨rfl,rfl⟩
 . have hx':(x !=0)=true:=by simpa using hx
   rw[if_neg hx]
   go_enter Tryz.func109,Tryz.ntmps109
   go_wp2
   refine wp_loop_rounds 3 ?_;rw[rounds_succ]
   go_wp2
   go_ret
   exact⟨rfl,rfl⟩
def wo(u1 u2:Int):Instr.fill (λ i=>some (i*1,1)) ((Array.range (2*1)).map (λ x=>(Value.int .i64 0).cells[x % (Value.int .i64 0).cells.size]!)) [(0,.int .i64 u1),(1,.int .i64 u2)]=some #[.int .i64 u1,.int .i64 u2]:=by simp[Instr.fill,Array.range,Value.cells];apply Array.ext;simp;intro i h1 h2;rcases i with _|_|i;simp;simp;simp at h2;omega
set_option maxHeartbeats 2000000 in
def Tryz.levels2_walk(a b c d:Int)(w:World):Calls Tryz.prog 108 #[.agg #[.int .i64 a,.int .i64 b],.agg #[.int .i64 c,.int .i64 d]] w λ e w'=>e=.returned (.int .i64 (wz (kK a c) (kK b d)))/\∃q J,w'=Sort.grow (w.drewN q) J:=by
 go_enter Tryz.func108,Tryz.ntmps108;go_wp2_with (go_at_call 110;skip);have g0:(w.alloc (.cells #[.int .i64 a,.int .i64 b] 52)).heap[w.heap.size]?=some (.cells #[.int .i64 a,.int .i64 b] 52 (0,0)):=heap_alloc_new w _;have g1:((w.alloc (.cells #[.int .i64 a,.int .i64 b] 52)).alloc (.cells #[.int .i64 c,.int .i64 d] 52)).heap[w.heap.size+1]?=some (.cells #[.int .i64 c,.int .i64 d] 52 (0,0)):=by(have:=heap_alloc_new (w.alloc (.cells #[.int .i64 a,.int .i64 b] 52)) (.cells #[.int .i64 c,.int .i64 d] 52);have e:(w.alloc (.cells #[.int .i64 a,.int .i64 b] 52)).heap.size=w.heap.size+1:=by simp);rwa [e]at this
 have f0:((w.alloc (.cells #[.int .i64 a,.int .i64 b] 52)).alloc (.cells #[.int .i64 c,.int .i64 d] 52)).cell? ⟨w.heap.size,0,none⟩=some (.int .i64 a):=by rw[World.cell?_alloc_past _ _ _ (by simp)];simp only[World.cell?,g0];rfl
 have f1:((w.alloc (.cells #[.int .i64 a,.int .i64 b] 52)).alloc (.cells #[.int .i64 c,.int .i64 d] 52)).cell? ⟨w.heap.size,1,none⟩=some (.int .i64 b):=by rw[World.cell?_alloc_past _ _ _ (by simp)];simp only[World.cell?,g0];rfl
 have f2:((w.alloc (.cells #[.int .i64 a,.int .i64 b] 52)).alloc (.cells #[.int .i64 c,.int .i64 d] 52)).cell? ⟨w.heap.size+1,0,none⟩=some (.int .i64 c):=by simp only[World.cell?,g1];rfl
 have f3:((w.alloc (.cells #[.int .i64 a,.int .i64 b] 52)).alloc (.cells #[.int .i64 c,.int .i64 d] 52)).cell? ⟨w.heap.size+1,1,none⟩=some (.int .i64 d):=by simp only[World.cell?,g1];rfl
 have f4:∃q J,((w.alloc (.cells #[.int .i64 a,.int .i64 b] 52)).alloc (.cells #[.int .i64 c,.int .i64 d] 52))=Sort.grow (w.drewN q) J:=⟨0,_,by rw[alloc_eq_grow,alloc_eq_grow,grow_grow];rfl⟩;generalize ((w.alloc (.cells #[.int .i64 a,.int .i64 b] 52)).alloc (.cells #[.int .i64 c,.int .i64 d] 52))=W2 at f0 f1 f2 f3 f4|-;refine wp_region_still_tail 10 (by kernel_rfl) (by kernel_rfl) ?_;simp only[List.take_succ_cons,List.take_zero,List.drop_succ_cons,List.drop_zero];change wpStill _ _ (World.drew W2) _ _ _;have f0':W2.drew.cell? ⟨w.heap.size,0,none⟩=some (.int .i64 a):=f0;have f1':W2.drew.cell? ⟨w.heap.size,1,none⟩=some (.int .i64 b):=f1;have f2':W2.drew.cell? ⟨w.heap.size+1,0,none⟩=some (.int .i64 c):=f2;have f3':W2.drew.cell? ⟨w.heap.size+1,1,none⟩=some (.int .i64 d):=f3;have f4':∃q J,W2.drew=Sort.grow (w.drewN q) J:=by obtain⟨q,J,e⟩:=f4;exact⟨q+1,J,by rw[e];rfl⟩
 iterate 4 still_step
 still_call (Tryz.cmp_walk _ _ _);iterate 4 still_step
 still_call (Tryz.cmp_walk _ _ _);refine wpStill_nil ?_;change wpList _ _ _ _ _ (World.drew W2);generalize World.drew W2=W at f0' f1' f2' f3' f4'|-;generalize O:kK a c=u1;generalize Q:kK b d=u2;obtain⟨ie,q1,q2,q3⟩:∃ie,Tryz.prog.info? 3=some ie/\ie.zero=some (.int .i64 0)/\ie.size=1:=⟨(Tryz.prog.info? 3).get (by kernel_rfl),(Option.some_get _).symm,by kernel_rfl,by kernel_rfl⟩;refine wpList_buildSlice rfl 22 3 2 _ rfl #[.int .i64 u1,.int .i64 u2] ie (.int .i64 0) (by kernel_rfl) q1 q2 (by rw[q3];decide) (by rw[q3];decide) (by rw[q3];refine Eq.trans (congrArg _ ?_) (wo u1 u2);simp[Act.eval]) ?_;simp only[Act.put];go_wp2_with fail;have g2:(W.alloc (.cells #[.int .i64 u1,.int .i64 u2] 3)).heap[W.heap.size]?=some (.cells #[.int .i64 u1,.int .i64 u2] 3 (0,0)):=heap_alloc_new W _;refine(Tryz.or_walk u1 u2 W.heap.size 0 2 (W.alloc (.cells #[.int .i64 u1,.int .i64 u2] 3)) (by simp only[World.cell?,g2];rfl) (by simp only[World.cell?,g2];rfl)).mono ?_;rintro e w' ⟨rfl,rfl⟩;go_wp2;go_ret;obtain⟨q,J,hq⟩:=f4';exact⟨by rw[O,Q];rfl,q,_,by rw[hq,alloc_eq_grow,grow_grow]⟩
end Go.Proofs
namespace Go.Sim.M
abbrev yE:Type:=Fin 1099511627777×Int×Int
def mn(x:yE):List Int:=[(x.1.val:Int),x.2.1,x.2.2]
def kh(x y:yE):Int:=(x.1.val:Int) - (y.1.val:Int)
end Go.Sim.M
namespace Go.Proofs
open Go.RowKit Go.Sim Go.Sim.M Go.Sort
set_option maxHeartbeats 1000000 in
def Tryz.walkE(a b c a' b' c' r:Int)(hr:IntKind.i64.wrap (a - a')=r)(W:World):Calls Tryz.prog 147 #[.agg #[.int .i64 a,.int .i64 b,.int .i64 c],.agg #[.int .i64 a',.int .i64 b',.int .i64 c']] W λ e w'=>e=.returned (.int .i64 r)/\∃q os',w'=Sort.grow (W.drewN q) os':=by go_enter Tryz.func147,Tryz.ntmps147;go_wp2;go_ret;subst hr;exact⟨rfl,0,_,by rw[alloc_eq_grow,alloc_eq_grow,grow_grow];rfl⟩
end Go.Proofs
namespace Go.Sim.M
open Go.RowKit Go.Proofs Go.Sort
def yH:AV->Bool|.agg [.int .i64 a,.int .i64 _,.int .i64 _]=>decide (0<=a)&&decide (a<=1099511627776)|_=>false
def oS:AV->yE|.agg [.int _ a,.int _ b,.int _ c]=>(Fin.ofNat 1099511627777 a.toNat,b,c)|_=>default
noncomputable def qy(xs:List AV):List AV:=(pdqL kh (xs.map oS)).map (encI mn)
def xHF{x:AV}(h:yH x):encI mn (oS x)=x:=by unfold yH at h;split at h;rename_i a b c;simp only[Bool.and_eq_true,decide_eq_true_eq]at h;have:a.toNat % 1099511627777=a.toNat:=Nat.mod_eq_of_lt Ω;simp only[oS,encI,mn,List.map_cons,List.map_nil,Fin.ofNat,this,Int.toNat_of_nonneg h.1];simp at h
def xF2{xs:List AV}(h:xs.all yH):(xs.map oS).map (encI mn)=xs:=by rw[List.map_map];(conv=>rhs;rw[<-List.map_id xs]);refine List.map_congr_left λ x hx=>?_;exact xHF (List.all_eq_true.1 h x hx)
def LJ(x y:yE):ltOf kh x y=decide (x.1.val<y.1.val):=by unfold ltOf kh;by_cases h:x.1.val<y.1.val;rw[decide_eq_true h,decide_eq_true Ω];rw[decide_eq_false h,decide_eq_false Ω]
def wG:SWO (ltOf kh) where
 irrefl x:=by rw[LJ];simp
 trans x y z h1 h2:=by rw[LJ]at *;simp at *;omega
 ntrans x y z h1 h2:=by rw[LJ]at *;simp at *;omega
noncomputable def Su:List AV->List aC->Option (Bool×AV×List aC)|[.osl (.b 0) ver 0 n,.func g []],[⟨ver',3,ty,xs,false,true⟩]=>(match Nat.beq g 147&&Nat.beq ty 154 with|true=>some (Nat.beq ver ver'&&(Nat.beq n xs.length&&(decide (n<4611686018427387904)&&xs.all yH)),.tuple [],[⟨ver',3,154,qy xs,false,true⟩])|false=>none)|_,_=>none
def xJY:fP Tryz.prog xO6 146 Su:=λ Q H r H' h=>by
 unfold Su at h;split at h;rename_i ver n g O ty xs;split at h;case h_2=>simp at h
 rename_i hg;simp only[Bool.and_eq_true]at hg;obtain rfl:=Nat.eq_of_beq_eq_true hg.1;obtain rfl:=Nat.eq_of_beq_eq_true hg.2;simp only[Option.some.injEq,Prod.mk.injEq,Bool.and_eq_true,decide_eq_true_eq]at h;obtain⟨⟨h1,h2,h3,h4⟩,rfl,rfl⟩:=h;obtain rfl:=Nat.eq_of_beq_eq_true h1;obtain rfl:=Nat.eq_of_beq_eq_true h2;have q:∃ti,bN Tryz.prog 154=some ti/\ti.sz=3/\ti.agg=true:=by(have h:(match bN Tryz.prog 154 with|some ti=>(ti.sz==3)&&ti.agg|none=>false)=true:=by kernel_rfl);split at h;rename_i ti q;simp only[Bool.and_eq_true,beq_iff_eq]at h;exact⟨ti,q,h.1,h.2⟩;simp at h
 obtain⟨ti,q,hz,ha⟩:=q;have J:=Py (P:=Tryz.prog) (Inv:=xO6) Tryz.srl146 3 (by decide) (λ w=>by rw[<-ha];exact tL q w) (λ w=>by rw[<-hz];exact m7 q w)
  mn (λ _=>rfl) kh wG 147 rfl (xeI Tryz.func146 rfl (by kernel_rfl)) (Jp (xeI Tryz.func147 rfl (by kernel_rfl)))
  (fun x y W=>Tryz.walkE _ _ _ _ _ _ (kh x y) (by
   have:=x.1.isLt;have:=y.1.isLt;unfold kh;exact il (by omega) (by omega)) W)
  ver 154 rfl (xs.map oS) (by simpa using h3)
 rw[List.length_map,xF2 h4]at J;exact J;simp at h
end Go.Sim.M
namespace Go.Sim.M
abbrev yF:Type:=Fin 1099511627777×Int
def mq(x:yF):List Int:=[(x.1.val:Int),x.2]
def ki(x y:yF):Int:=(x.1.val:Int) - (y.1.val:Int)
end Go.Sim.M
namespace Go.Proofs
open Go.RowKit Go.Sim Go.Sim.M Go.Sort
set_option maxHeartbeats 1000000 in
def Tryz.walkS(a b a' b' r:Int)(hr:IntKind.i64.wrap (a - a')=r)(W:World):Calls Tryz.prog 113 #[.agg #[.int .i64 a,.int .i64 b],.agg #[.int .i64 a',.int .i64 b']] W λ e w'=>e=.returned (.int .i64 r)/\∃q os',w'=Sort.grow (W.drewN q) os':=by go_enter Tryz.func113,Tryz.ntmps113;go_wp2;go_ret;subst hr;exact⟨rfl,0,_,by rw[alloc_eq_grow,alloc_eq_grow,grow_grow];rfl⟩
end Go.Proofs
namespace Go.Sim.M
open Go.RowKit Go.Proofs Go.Sort
def isS:AV->Bool|.agg [.int .i64 a,.int .i64 _]=>decide (0<=a)&&decide (a<=1099511627776)|_=>false
def oT:AV->yF|.agg [.int _ a,.int _ b]=>(Fin.ofNat 1099511627777 a.toNat,b)|_=>default
noncomputable def sH(xs:List AV):List AV:=(pdqL ki (xs.map oT)).map (encI mq)
def xHH{x:AV}(h:isS x):encI mq (oT x)=x:=by unfold isS at h;split at h;rename_i a b;simp only[Bool.and_eq_true,decide_eq_true_eq]at h;have:a.toNat % 1099511627777=a.toNat:=Nat.mod_eq_of_lt Ω;simp only[oT,encI,mq,List.map_cons,List.map_nil,Fin.ofNat,this,Int.toNat_of_nonneg h.1];simp at h
def xF4{xs:List AV}(h:xs.all isS):(xs.map oT).map (encI mq)=xs:=by rw[List.map_map];(conv=>rhs;rw[<-List.map_id xs]);refine List.map_congr_left λ x hx=>?_;exact xHH (List.all_eq_true.1 h x hx)
def LL(x y:yF):ltOf ki x y=decide (x.1.val<y.1.val):=by unfold ltOf ki;by_cases h:x.1.val<y.1.val;rw[decide_eq_true h,decide_eq_true Ω];rw[decide_eq_false h,decide_eq_false Ω]
def wI:SWO (ltOf ki) where
 irrefl x:=by rw[LL];simp
 trans x y z h1 h2:=by rw[LL]at *;simp at *;omega
 ntrans x y z h1 h2:=by rw[LL]at *;simp at *;omega
noncomputable def Sw:List AV->List aC->Option (Bool×AV×List aC)|[.osl (.b 0) ver 0 n,.func g []],[⟨ver',2,ty,xs,false,true⟩]=>(match Nat.beq g 113&&Nat.beq ty 132 with|true=>some (Nat.beq ver ver'&&(Nat.beq n xs.length&&(decide (n<4611686018427387904)&&xs.all isS)),.tuple [],[⟨ver',2,132,sH xs,false,true⟩])|false=>none)|_,_=>none
def xJx:fP Tryz.prog xO6 112 Sw:=λ Q H r H' h=>by
 unfold Sw at h;split at h;rename_i ver n g O ty xs;split at h;case h_2=>simp at h
 rename_i hg;simp only[Bool.and_eq_true]at hg;obtain rfl:=Nat.eq_of_beq_eq_true hg.1;obtain rfl:=Nat.eq_of_beq_eq_true hg.2;simp only[Option.some.injEq,Prod.mk.injEq,Bool.and_eq_true,decide_eq_true_eq]at h;obtain⟨⟨h1,h2,h3,h4⟩,rfl,rfl⟩:=h;obtain rfl:=Nat.eq_of_beq_eq_true h1;obtain rfl:=Nat.eq_of_beq_eq_true h2;have q:∃ti,bN Tryz.prog 132=some ti/\ti.sz=2/\ti.agg=true:=by(have h:(match bN Tryz.prog 132 with|some ti=>(ti.sz==2)&&ti.agg|none=>false)=true:=by kernel_rfl);split at h;rename_i ti q;simp only[Bool.and_eq_true,beq_iff_eq]at h;exact⟨ti,q,h.1,h.2⟩;simp at h
 obtain⟨ti,q,hz,ha⟩:=q;have J:=Py (P:=Tryz.prog) (Inv:=xO6) Tryz.srl112 2 (by decide) (λ w=>by rw[<-ha];exact tL q w) (λ w=>by rw[<-hz];exact m7 q w)
  mq (λ _=>rfl) ki wI 113 rfl (xeI Tryz.func112 rfl (by kernel_rfl)) (Jp (xeI Tryz.func113 rfl (by kernel_rfl)))
  (fun x y W=>Tryz.walkS _ _ _ _ (ki x y) (by
   have:=x.1.isLt;have:=y.1.isLt;unfold ki;exact il (by omega) (by omega)) W)
  ver 132 rfl (xs.map oT) (by simpa using h3)
 rw[List.length_map,xF4 h4]at J;exact J;simp at h
end Go.Sim.M
namespace Go.Sim.M
abbrev FP:Type:=Int×Int
def n4(x:FP):List Int:=[x.1,x.2]
def de(x y:FP):Int:=wz (kK x.1 y.1) (kK x.2 y.2)
open Go.RowKit Go.Proofs Go.Sort
def yI:AV->Bool|.agg [.int .i64 _,.int .i64 _]=>true|_=>false
def qd:AV->FP|.agg [.int _ a,.int _ b]=>(a,b)|_=>default
noncomputable def qz(xs:List AV):List AV:=(pdqL de (xs.map qd)).map (encI n4)
def xHG{x:AV}(h:yI x):encI n4 (qd x)=x:=by unfold yI at h;split at h;rfl;simp at h
def xF3{xs:List AV}(h:xs.all yI):(xs.map qd).map (encI n4)=xs:=by rw[List.map_map];(conv=>rhs;rw[<-List.map_id xs]);refine List.map_congr_left λ x hx=>?_;exact xHG (List.all_eq_true.1 h x hx)
def LK(x y:FP):ltOf de x y=decide (x.1<y.1\/x.1=y.1/\x.2<y.2):=by unfold ltOf de wz kK;by_cases h:x.1<y.1\/x.1=y.1/\x.2<y.2;rw[decide_eq_true h];simp only[decide_eq_true_eq];rcases h with h|⟨h,h'⟩;simp[h];simp[h,h'];rw[decide_eq_false h];simp only[decide_eq_false_iff_not];have h1:¬ x.1<y.1:=λ e=>h (.inl e);by_cases h2:y.1<x.1;simp[h1,h2];(have h3:x.1=y.1:=Ω);have h4:¬ x.2<y.2:=λ e=>h (.inr ⟨h3,e⟩);by_cases h5:y.2<x.2;simp[h1,h2,h4,h5];simp[h1,h2,h4,h5]
def wH:SWO (ltOf de) where
 irrefl x:=by rw[LK];simp
 trans x y z h1 h2:=by rw[LK]at *;simp only[decide_eq_true_eq]at *;omega
 ntrans x y z h1 h2:=by rw[LK]at *;simp only[decide_eq_true_eq,decide_eq_false_iff_not]at *;omega
noncomputable def Sv:List AV->List aC->Option (Bool×AV×List aC)|[.osl (.b 0) ver 0 n,.func g []],[⟨ver',2,ty,xs,false,true⟩]=>(match Nat.beq g 108&&Nat.beq ty 52 with|true=>some (Nat.beq ver ver'&&(Nat.beq n xs.length&&(decide (n<4611686018427387904)&&xs.all yI)),.tuple [],[⟨ver',2,52,qz xs,false,true⟩])|false=>none)|_,_=>none
def xJZ:fP Tryz.prog xO6 107 Sv:=λ Q H r H' h=>by
 unfold Sv at h;split at h;rename_i ver n g O ty xs;split at h;case h_2=>simp at h
 rename_i hg;simp only[Bool.and_eq_true]at hg;obtain rfl:=Nat.eq_of_beq_eq_true hg.1;obtain rfl:=Nat.eq_of_beq_eq_true hg.2;simp only[Option.some.injEq,Prod.mk.injEq,Bool.and_eq_true,decide_eq_true_eq]at h;obtain⟨⟨h1,h2,h3,h4⟩,rfl,rfl⟩:=h;obtain rfl:=Nat.eq_of_beq_eq_true h1;obtain rfl:=Nat.eq_of_beq_eq_true h2;have q:∃ti,bN Tryz.prog 52=some ti/\ti.sz=2/\ti.agg=true:=by(have h:(match bN Tryz.prog 52 with|some ti=>(ti.sz==2)&&ti.agg|none=>false)=true:=by kernel_rfl);split at h;rename_i ti q;simp only[Bool.and_eq_true,beq_iff_eq]at h;exact⟨ti,q,h.1,h.2⟩;simp at h
 obtain⟨ti,q,hz,ha⟩:=q;have J:=Py (P:=Tryz.prog) (Inv:=xO6) Tryz.srl107 2 (by decide) (λ w=>by rw[<-ha];exact tL q w) (λ w=>by rw[<-hz];exact m7 q w) n4 (λ _=>rfl) de wH 108 rfl (xeI Tryz.func107 rfl (by kernel_rfl)) (Jp (xeI Tryz.func108 rfl (by kernel_rfl))) (λ x y W=>Tryz.levels2_walk _ _ _ _ W) ver 52 rfl (xs.map qd) (by simpa using h3);rw[List.length_map,xF3 h4]at J;exact J;simp at h
end Go.Sim.M
namespace Go.Sim.M
open Go.RowKit Go.Proofs
noncomputable def E1:dp:=((Wc.E.withM 112 Sw).withM 146 Su).withM 107 Sv
def V6:dA Tryz.prog xO6 E1:=((Wc.ok.withM xJx).withM xJY).withM xJZ
noncomputable def xL7:EO:=EO.mk E1 V6
open Go.IntKind (i64 u64 u8)
def BL:dp:=E1.fn 29 1 (eX []) (jL [])
def xyL:dA P0 (xO6.at 1) BL:=V6.fn
def xu8:dw P0 (xO6.at BL.pin) BL (Tryz.f114.body.getD .skip):=pM Θ
def PA{T:Type}(k:Nat)(a n:Int)(b:LA)(δ:T)(κ:Bool×(Nat×LA)×(Nat×LA)->T):T:=br (iH k b 1 16) (κ (false,(0,[]),(k+1,b++[AV.agg [AV.int .i64 a,AV.int .i64 n]]))) δ
def QE{T:Type}(k:Nat)(b n:Int)(a:LA)(δ:T)(κ:Bool×(Nat×LA)×(Nat×LA)->T):T:=br (decide ((↑k:Int)>0)) (br (decide (0<=i64.wrap ((↑k:Int) - 1))&&decide (i64.wrap ((↑k:Int) - 1)<(↑k:Int))) (br (decide (0+(i64.wrap ((↑k:Int) - 1)).toNat<a.length)&&cX (Sh.int .i64) ((a.getD (0+(i64.wrap ((↑k:Int) - 1)).toNat) .top).cells.getD 1 .top)) (br (((a.getD (0+(i64.wrap ((↑k:Int) - 1)).toNat) .top).cells.getD 1 .top).toInt==n) (κ (true,(k,a),(0,[]))) (PA k b n a δ κ)) δ) δ) (PA k b n a δ κ)
def kG(k:Nat)(a n:Int)(b:LA):=QE k a n b none some
def xC3(k:Nat)(a n:Int)(xs:LA):dQ (λ(p:Bool×(Nat×LA)×(Nat×LA))=>((br p.1 ((AV.osl 0 0 0 p.2.1.1,([⟨0,2,132,p.2.1.2,false,true⟩]:List aC))) ((AV.osl 0 1 0 p.2.2.1,([⟨1,2,132,p.2.2.2,false,true⟩]:List aC)))):(AV×List aC))) (kG k a n xs) (mQ P0 BL Tryz.f114 (Tryz.f114.body.getD .skip) [AV.osl (0:Id) 0 0 k,AV.int .i64 a,AV.int .i64 n] [{ver:=0,sz:=2,ty:=(132:TypeId),xs:=xs,frz:=false,pm:=true}]):=by(have h:mQ P0 BL Tryz.f114 (Tryz.f114.body.getD .skip) [AV.osl (0:Id) 0 0 k,AV.int .i64 a,AV.int .i64 n] [{ver:=0,sz:=2,ty:=(132:TypeId),xs:=xs,frz:=false,pm:=true}]=QE k a n xs none (λ(p:Bool×(Nat×LA)×(Nat×LA))=>some ((br p.1 ((AV.osl 0 0 0 p.2.1.1,([⟨0,2,132,p.2.1.2,false,true⟩]:List aC))) ((AV.osl 0 1 0 p.2.2.1,([⟨1,2,132,p.2.2.2,false,true⟩]:List aC)))):(AV×List aC))):=by kernel_rfl);rw[h];unfold kG QE PA;repeat' (first|refine dQ.br ?_ ?_|exact dQ.none|exact dQ.some rfl)
def xC2:LA->List aC->Option (Bool×AV×List aC):=ju (cY (sEq (cJ 0 0 0)) (cY (sEq (pInt .i64)) (cY (sEq (pInt .i64)) jj))) (bL (fY 0 2 (132:TypeId) false true bG) bT) λ(k,(a,(n,_))) (b,_)=>((kG k a n b).isSome,(AV.osl 0 1 0 (br ((kG k a n b).getD (false,(0,[]),(0,[]))).1 ((kG k a n b).getD (false,(0,[]),(0,[]))).2.1.1 ((kG k a n b).getD (false,(0,[]),(0,[]))).2.2.1),([⟨1,2,132,(br ((kG k a n b).getD (false,(0,[]),(0,[]))).1 ((kG k a n b).getD (false,(0,[]),(0,[]))).2.1.2 ((kG k a n b).getD (false,(0,[]),(0,[]))).2.2.2),false,true⟩]:List aC)))
def xC1:fP P0 xO6 114 (xC2):=rt λ e f j i g=>by obtain⟨k,⟨b,⟨n,_⟩⟩⟩:=e;obtain⟨h,_⟩:=f;obtain⟨c,a⟩:=Prod.mk.inj g;have hx:=xC3 _ _ _ _ _ (qS (d:=(false,(0,[]),(0,[]))) c);revert hx a;generalize ((kG k b n h).getD (false,(0,[]),(0,[])))=p;intro a hx;obtain⟨rfl,rfl⟩:=Prod.mk.inj a;obtain⟨t,⟨l,m⟩,o,q⟩:=p;have hg:bH P0 xO6 114 _ _ _ _:=yn (p:=BL.pin) (ym xOz (xOA P0 _) rfl xyL rfl Tryz.func114 rfl Θ xu8 hx);cases t;exact hg;exact bH.bump1 rfl (by decide) hg
def FI:EO:=xL7.wM xC1
def Jf{T:Type}(d:LA)(e:Int)(b:Nat)(c:Int)(a:LA)(δ:T)(κl:(Nat×Int×LA)->T)(κr:(Nat×LA)->T):T:=br (decide (c<e)) (br (bX d c) (br (jl d c 3 [Sh.int .i64,Sh.int .i64,Sh.int .i64] 0) (br (x6 (gC d c 0).toInt (gC d c 1).toInt) (br (iH b a 2 16) (κl (b+2,i64.wrap (c+1),a++[AV.agg [AV.int .i64 (gC d c 0).toInt,AV.int .i64 (gC d c 2).toInt],AV.agg [AV.int .i64 (gC d c 1).toInt,AV.int .i64 (i64.wrap (0 - (gC d c 2).toInt))]])) δ) (κl (b,i64.wrap (c+1),a))) δ) δ) (κr (b,a))
def Bf(c:LA)(d:Int):cS (Nat×Int×LA) (Nat×LA):=λ(b,e,a)=>Jf c d b e a none inL inR
def Ea:=FI.l 106 0 [] [] Tryz.f77 0 lk0 [3,10,11,12] [3] [(3,2,132)] (q4 (cJ 0 0 0) (qL 3) qI qI) (q1 (qB 0 2 132 bG)) (λ(b,c,d,e,_) (a,_)=>(Bf c d,(b,e,a),λ p=>(.leaf (.exit 0) [AV.osl 0 0 0 p.1] [bF 0 2 132 p.2]))) (0,[]) λ(_,c,d,_,_) _ (b,e,a)=>(((b,c,d,e,()),(a,())),Jf c d b e a none)
def YC(i:Int)(a:LA):=decide (0+i.toNat<a.length)
def YS{T:Type}(b e:Nat)(d i:Int)(a c:LA)(δ:T)(κl:(Int×Int×LA×LA)->T)(κr:(Int×Int×LA×LA)->T):T:=br (decide (i<(↑b:Int))) (br (decide (0<=i)&&decide (i<(↑b:Int))) (br (YC i a&&cX (Sh.int .i64) ((a.getD (0+i.toNat) .top).cells.getD 0 .top)) (br (((a.getD (0+i.toNat) .top).cells.getD 0 .top).toInt==0) (br (decide (0<=i)&&decide (i<(↑b:Int))) (br (YC i a&&cX (Sh.int .i64) ((a.getD (0+i.toNat) .top).cells.getD 1 .top)) (κl (i64.wrap (d+((a.getD (0+i.toNat) .top).cells.getD 1 .top).toInt),i64.wrap (i+1),a,c)) δ) δ) (κr (d,i,a,c))) δ) δ) (κr (d,i,a,c))
def IB(b d:Nat):cS (Int×Int×LA×LA) (Int×Int×LA×LA):=λ(e,i,a,c)=>YS b d e i a c none inL inR
def IL:=FI.l 106 0 [] [(3,Ea.lp)] Tryz.f77 1 lk0 [3,6,7,8] [3,6,7,8] [(3,2,132),(6,2,132)] (q4 (cJ 0 0 0) (cJ 1 0 0) qI qI) (q2 (qB 0 2 132 bG) (qB 0 2 132 bG)) (λ(a,c,e,i,_) (b,d,_)=>(IB a c,(e,i,b,d),λ p=>(.leaf (.exit 2) [AV.osl 0 0 0 a,AV.osl 1 0 0 c,AV.int .i64 p.1,AV.int .i64 p.2.1] [bF 0 2 132 p.2.2.1,bF 0 2 132 p.2.2.2]))) (0,0,[],[]) λ(a,c,_,_,_) _ (e,i,b,d)=>(((a,c,e,i,()),(b,d,())),YS a c e i b d none)
def Ec(i:Int)(a:LA):=decide (0+i.toNat<a.length)
def Es{T:Type}(b f:Nat)(e d i:Int)(a c:LA)(δ:T)(κl:(Int×Int×LA×LA)->T)(κr:(Int×Int×LA×LA)->T):T:=br (decide (i<(↑b:Int))) (br (decide (0<=i)&&decide (i<(↑b:Int))) (br (Ec i a&&cX (Sh.int .i64) ((a.getD (0+i.toNat) .top).cells.getD 0 .top)) (br (((a.getD (0+i.toNat) .top).cells.getD 0 .top).toInt==e) (br (decide (0<=i)&&decide (i<(↑b:Int))) (br (Ec i a&&cX (Sh.int .i64) ((a.getD (0+i.toNat) .top).cells.getD 1 .top)) (κl (i64.wrap (d+((a.getD (0+i.toNat) .top).cells.getD 1 .top).toInt),i64.wrap (i+1),a,c)) δ) δ) (κr (d,i,a,c))) δ) δ) (κr (d,i,a,c))
def xP(b d:Nat)(e:Int):cS (Int×Int×LA×LA) (Int×Int×LA×LA):=λ(f,i,a,c)=>Es b d e f i a c none inL inR
def IM:=FI.l 106 0 [] [(3,Ea.lp),(11,IL.lp)] Tryz.f77 3 lk0 [3,6,7,8,9] [3,6,7,8,9] [(3,2,132),(6,2,132)] (q5 (cJ 0 0 0) (cJ 1 0 0) qI qI qI) (q2 (qB 0 2 132 bG) (qB 0 2 132 bG)) (λ(a,c,f,i,e,_) (b,d,_)=>(xP a c e,(f,i,b,d),λ p=>(.leaf (.exit 6) [AV.osl 0 0 0 a,AV.osl 1 0 0 c,AV.int .i64 p.1,AV.int .i64 p.2.1,AV.int .i64 e] [bF 0 2 132 p.2.2.1,bF 0 2 132 p.2.2.2]))) (0,0,[],[]) λ(a,c,_,_,e,_) _ (f,i,b,d)=>(((a,c,f,i,e,()),(b,d,())),Es a c e f i b d none)
def DU(i:Int)(a:LA):=decide (0+i.toNat<a.length)&&cX (Sh.int .i64) ((a.getD (0+i.toNat) .top).cells.getD 0 .top)
def Bp(i:Int)(a:LA):=((a.getD (0+i.toNat) .top).cells.getD 0 .top).toInt
def DV(b d:Nat)(e i:Int)(a c:LA):=aB (xP b d (Bp i a)) (e,i,a,c)
def uJ(b d:Nat)(e i:Int)(a c:LA):=(DV b d e i a c).getD (0,0,[],[])
def Eb(b c:Nat)(e i:Int)(a d:LA):=kG c (Bp i a) ((uJ b c e i a d).fst) (((uJ b c e i a d).snd).snd).snd
def tr(b d:Nat)(e i:Int)(a c:LA):=(Eb b d e i a c).getD (false,(0,[]),0,[])
def Er{T:Type}(b d:Nat)(e i:Int)(a c:LA)(δ:T)(κl:(Nat×Int×Int×LA×LA)->T)(κr:(Nat×LA)->T):T:=br (decide (i<(↑b:Int))) (br (decide (0<=i)&&decide (i<(↑b:Int))) (br (DU i a) (br (decide (Bp i a<1099511627776)) (br (decide (0<=i)&&decide (i<(↑b:Int))) (br (DU i a) (br ((DV b d e i a c).isSome) (br ((Eb b d e i a c).isSome) (κl (br ((tr b d e i a c).fst) (((tr b d e i a c).snd).fst).fst (((tr b d e i a c).snd).snd).fst,((uJ b d e i a c).fst),((uJ b d e i a c).snd).fst,(((uJ b d e i a c).snd).snd).fst,br ((tr b d e i a c).fst) (((tr b d e i a c).snd).fst).snd (((tr b d e i a c).snd).snd).snd)) δ) δ) δ) δ) (κr (d,c))) δ) δ) (κr (d,c))
def Bg(b:Nat):cS (Nat×Int×Int×LA×LA) (Nat×LA):=λ(d,e,i,a,c)=>Er b d e i a c none inL inR
def YD:=FI.l 106 0 [] [(3,Ea.lp),(11,IL.lp),(17,IM.lp)] Tryz.f77 2 (fh IM.ok) [3,6,7,8] [6] [(3,2,132),(6,2,132)] (q4 (cJ 0 0 0) (cJ 1 0 0) qI qI) (q2 (qB 0 2 132 bG) (qB 0 2 132 bG)) (λ(b,d,e,i,_) (a,c,_)=>(Bg b,(d,e,i,a,c),λ p=>(.leaf (.exit 4) [AV.osl 0 0 0 p.1] [bF 0 2 132 p.2]))) (0,[]) λ(b,_,_,_,_) _ (d,e,i,a,c)=>(((b,d,e,i,()),(a,c,())),Er b d e i a c none)
def uM(l:LA):=(aB (Bf l (↑l.length:Int)) (0,0,[])).getD (0,[])
def Qk(l:LA):=aB (IB ((uM l).fst) 0) (0,0,sH ((uM l).snd),[])
def BK(l:LA):=(Qk l).getD (0,0,[],[])
def QC(l:LA):=kG 0 0 ((BK l).fst) (((BK l).snd).snd).snd
def ya(l:LA):=(QC l).getD (false,(0,[]),0,[])
def QB(l:LA):=aB (Bg ((uM l).fst)) (br ((ya l).fst) (((ya l).snd).fst).fst (((ya l).snd).snd).fst,((BK l).fst),((BK l).snd).fst,(((BK l).snd).snd).fst,br ((ya l).fst) (((ya l).snd).fst).snd (((ya l).snd).snd).snd)
def EQ(l:LA):=(QB l).getD (0,[])
def QZ{T:Type}(l:LA)(δ:T)(κ:LA->T):T:=br ((aB (Bf l (↑l.length:Int)) (0,0,[])).isSome) (br (((uM l).fst).beq ((uM l).snd).length&&(decide (((uM l).fst)<4611686018427387904)&&((uM l).snd).all isS)) (br ((Qk l).isSome) (br ((QC l).isSome) (br ((QB l).isSome) (br (decide (0+((EQ l).fst)<=((EQ l).snd).length)&&true) (κ (List.take ((EQ l).fst) (List.drop 0 ((EQ l).snd)))) δ) δ) δ) δ) δ) δ
def e7(l:LA):=QZ l none some
def Vu:EO:=FI.f Tryz.func77 106 0 [] [(3,Ea.lp),(11,IL.lp),(17,IM.lp),(15,YD.lp)] (lW (fp Ea.ok (fp IL.ok (fp YD.ok (fp IM.ok kU))))) (u1 (uL 3)) (λ(l,_) _=>QZ l) (λ _ p=>AV.list 2 p) []
def G1{T:Type}(d:LA)(e:Int)(c:Nat)(b:Int)(a:LA)(δ:T)(κl:(Nat×Int×LA)->T)(κr:(Nat×LA)->T):T:=br (decide (b<e)) (br (bX d b) (br (jl d b 2 [Sh.int .i64,Sh.int .i64] 0) (br (iH c a 1 24) (κl (c+1,i64.wrap (b+1),a++[AV.agg [AV.int .i64 (gC d b 0).toInt,AV.int .i64 (gC d b 1).toInt,AV.int .i64 1]])) δ) δ) δ) (κr (c,a))
def Ad(c:LA)(d:Int):cS (Nat×Int×LA) (Nat×LA):=λ(b,e,a)=>G1 c d b e a none inL inR
def Xm:=Vu.l 20 0 [] [] Tryz.f116 0 lk0 [3,6,7,8] [3] [(3,3,100)] (q4 (cJ 0 0 0) (qL 2) qI qI) (q1 (qB 0 3 100 bG)) (λ(b,c,d,e,_) (a,_)=>(Ad c d,(b,e,a),λ p=>(.leaf (.exit 0) [AV.osl 0 0 0 p.1] [bF 0 3 100 p.2]))) (0,[]) λ(_,c,d,_,_) _ (b,e,a)=>(((b,c,d,e,()),(a,())),G1 c d b e a none)
def Ds(l:LA):=(aB (Ad l (↑l.length:Int)) (0,0,[])).getD (0,[])
def NG(l:LA):=e7 (List.take ((Ds l).fst) (List.drop 0 ((Ds l).snd)))
def N0{T:Type}(l:LA)(δ:T)(κ:LA->T):T:=br ((aB (Ad l (↑l.length:Int)) (0,0,[])).isSome) (br (decide (0+((Ds l).fst)<=((Ds l).snd).length)&&true) (br ((NG l).isSome) (κ ((NG l).getD [])) δ) δ) δ
def AS(l:LA):=N0 l none some
def Cn:EO:=Vu.f Tryz.func116 20 0 [] [(3,Xm.lp)] (fh Xm.ok) (u1 (uL 2)) (λ(l,_) _=>N0 l) (λ _ p=>AV.list 2 p) []
def IC{T:Type}(o n:Int)(e f:Nat)(k p m j:Int)(h l i g a:Nat)(b:LA)(d:Nat)(c:LA)(δ:T)(κl:(Int×Int×Nat×Nat×Nat×Nat×Nat×LA×Nat×LA)->T)(κr:(Int×Nat×Nat×Nat×Nat×LA×Nat×LA×Nat)->T):T:=br (decide (m<p)) (br (a==e) (br (a==e) (br (a==e&&(decide (f<b.length)&&cX (Sh.int .i64) ((b.getD f .top).cells.getD 0 .top))) (br (d==g&&(iH i c 1 16)) (κl (i64.wrap (m+1),j,h,l,i+1,g+1,a,List.take h b,g+1,c++[AV.agg [AV.int .i64 ((b.getD f .top).cells.getD 0 .top).toInt,AV.int .i64 o]])) δ) δ) δ) δ) (κr (j,l,h,g,i,b,a,c,d))
def xA(m n:Int)(e f:Nat)(k o:Int):cS (Int×Int×Nat×Nat×Nat×Nat×Nat×LA×Nat×LA) (Int×Nat×Nat×Nat×Nat×LA×Nat×LA×Nat):=λ(p,g,h,i,j,l,a,b,c,d)=>IC m n e f k o p g h i j l a b c d none inL inR
def HH:=Cn.l 71 5 [] [] Tryz.f106 1 lk0 [0,1,2,3,4,7,8,37,38] [0,1,2,3,4,7,8] [(3,0,0)] (q9 qI qI (dz 0 0 0 0) (dz 1 0 0 0) (dz 2 0 0 0) (CV 3 0) qI qI qI) (q5 (qB 0 1 3 (q1 qI)) (fY 0 1 126 false false (q1 (mD 3 0))) (fY 0 1 64 false false (q1 (mD 4 0))) (mC 2 128 false true bG) (mC 2 52 false true bG)) (λ(o,n,_,_,_,(e,f),k,q,r,_) ((g,_),((h,i),_),((j,m),_),(a,b),(c,d),_)=>(xA o n e f k q,(r,g,i,h,m,j,a,b,c,d),λ p=>(.leaf (.exit 2) [AV.int .i64 o,AV.int .i64 n,AV.own 0 0 0 0,AV.own 1 0 0 0,AV.own 2 0 0 0,AV.own 3 e f 0,AV.int .i64 k] [bF 0 1 3 [AV.int .i64 p.1],⟨0,1,126,[AV.osl 3 p.2.1 0 p.2.2.1],false,false⟩,⟨0,1,64,[AV.osl 4 p.2.2.2.1 0 p.2.2.2.2.1],false,false⟩,bF p.2.2.2.2.2.2.1 2 128 p.2.2.2.2.2.1,bF p.2.2.2.2.2.2.2.2 2 52 p.2.2.2.2.2.2.2.1]))) (0,0,0,0,0,[],0,[],0) λ(o,n,_,_,_,(e,f),k,q,_,_) _ (r,g,i,h,m,j,a,b,c,d)=>(((o,n,(),(),(),(e,f),k,q,r,()),((g,()),((h,i),()),((j,m),()),(a,b),(c,d),())),IC o n e f k q r g i h m j a b c d none)
def oA(a:Nat):Nat:=0+(i64.wrap ((↑a:Int) - 1)).toNat
def xQ(n b:Int)(c d:Nat)(a:LA):Int:=if i64.wrap (b - n)<((a.getD (oA c) .top).cells.getD 1 .top).toInt then i64.wrap (b - n)else((a.getD (oA c) .top).cells.getD 1 .top).toInt
def Hm(j n d:Int)(c g h i a:Nat)(b:LA)(e:Nat)(f:LA):=aB (xA j n g (oA c) (xQ n d c a b) (xQ n d c a b)) (0,d,c,g,h,i,a,List.take c b,e,f)
def jO(j n e:Int)(f g h i a:Nat)(b:LA)(c:Nat)(d:LA):=(Hm j n e f g h i a b c d).getD (0,0,0,0,0,[],0,[],0)
def AW(j n e:Int)(f g h i a:Nat)(b:LA)(c:Nat)(d:LA):=i64.wrap ((↑((((jO j n e f g h i a b c d).snd).snd).fst):Int) - 1)
def uz(j n f:Int)(g e h i a:Nat)(b:LA)(c:Nat)(d:LA):=(((((((jO j n f g e h i a b c d).snd).snd).snd).snd).snd).snd).fst==e
def AU(j n f:Int)(e g h i a:Nat)(b:LA)(c:Nat)(d:LA):=((((((((jO j n f e g h i a b c d).snd).snd).snd).snd).snd).fst).getD (oA e) .top).cells
def xO(j n f:Int)(e g h i a:Nat)(b:LA)(c:Nat)(d:LA):=(((((((jO j n f e g h i a b c d).snd).snd).snd).snd).snd).fst).set (oA e) (AV.agg (List.take 1 (AU j n f e g h i a b c d)++[AV.int .i64 (i64.wrap (((AU j n f e g h i a b c d).getD 1 .top).toInt - xQ n f e a b))]++List.drop 2 (AU j n f e g h i a b c d)))
def Bs{T:Type}(j n g:Int)(f e h i a:Nat)(b:LA)(c:Nat)(d:LA)(δ:T)(κl:(Int×Nat×Nat×Nat×Nat×Nat×LA×Nat×LA)->T)(κr:(Int×Nat×Nat×Nat×Nat×LA×Nat×LA×Nat)->T):T:=br (decide (g>n)) (br (a==e) (br (a==e&&(decide (0<=i64.wrap ((↑f:Int) - 1))&&decide (i64.wrap ((↑f:Int) - 1)<(↑f:Int)))) (br (a==e) (br (a==e) (br (a==e&&(decide (oA f<b.length)&&cX (Sh.int .i64) ((b.getD (oA f) .top).cells.getD 1 .top))) (br ((Hm j n g f e h i a b c d).isSome) (br (uz j n g f e h i a b c d) (br (uz j n g f e h i a b c d) (br (uz j n g f e h i a b c d&&((decide (oA f<(((((((jO j n g f e h i a b c d).snd).snd).snd).snd).snd).fst).length))&&cX (Sh.int .i64) ((AU j n g f e h i a b c d).getD 1 .top))) (br (uz j n g f e h i a b c d) (br (uz j n g f e h i a b c d) (br (uz j n g f e h i a b c d&&(decide (oA f<(((((((jO j n g f e h i a b c d).snd).snd).snd).snd).snd).fst).length))) (br (e==e) (br (e==e) (br (e==e&&(decide (oA f<(xO j n g f e h i a b c d).length)&&cX (Sh.int .i64) (((xO j n g f e h i a b c d).getD (oA f) .top).cells.getD 1 .top))) (br ((((xO j n g f e h i a b c d).getD (oA f) .top).cells.getD 1 .top).toInt==0) (br (e==(((jO j n g f e h i a b c d).snd).fst)) (br (e==(((jO j n g f e h i a b c d).snd).fst)&&(decide (0<=AW j n g f e h i a b c d)&&decide (AW j n g f e h i a b c d<=(↑((((jO j n g f e h i a b c d).snd).snd).fst):Int))&&true)) (κl (i64.wrap ((jO j n g f e h i a b c d).fst - xQ n g f a b),(AW j n g f e h i a b c d).toNat - 0,(((jO j n g f e h i a b c d).snd).fst),(((((jO j n g f e h i a b c d).snd).snd).snd).snd).fst,((((jO j n g f e h i a b c d).snd).snd).snd).fst,e,List.take ((AW j n g f e h i a b c d).toNat - 0) (xO j n g f e h i a b c d),((((((((jO j n g f e h i a b c d).snd).snd).snd).snd).snd).snd).snd).snd,((((((((jO j n g f e h i a b c d).snd).snd).snd).snd).snd).snd).snd).fst)) δ) δ) (κl (i64.wrap ((jO j n g f e h i a b c d).fst - xQ n g f a b),((((jO j n g f e h i a b c d).snd).snd).fst),(((jO j n g f e h i a b c d).snd).fst),(((((jO j n g f e h i a b c d).snd).snd).snd).snd).fst,((((jO j n g f e h i a b c d).snd).snd).snd).fst,e,List.take ((((jO j n g f e h i a b c d).snd).snd).fst) (xO j n g f e h i a b c d),((((((((jO j n g f e h i a b c d).snd).snd).snd).snd).snd).snd).snd).snd,((((((((jO j n g f e h i a b c d).snd).snd).snd).snd).snd).snd).snd).fst))) δ) δ) δ) δ) δ) δ) δ) δ) δ) δ) δ) δ) δ) δ) δ) (κr (g,e,f,i,h,b,a,d,c))
def uq(j n:Int):cS (Int×Nat×Nat×Nat×Nat×Nat×LA×Nat×LA) (Int×Nat×Nat×Nat×Nat×LA×Nat×LA×Nat):=λ(e,f,g,h,i,a,b,c,d)=>Bs j n e f g h i a b c d none inL inR
def Yj:=Cn.l 71 5 [] [(7,HH.lp)] Tryz.f106 0 (fh HH.ok) [0,1,2,3,4] [] [(3,0,0)] (q5 qI qI (dz 0 0 0 0) (dz 1 0 0 0) (dz 2 0 0 0)) (q5 (qB 0 1 3 (q1 qI)) (fY 0 1 126 false false (q1 (mD 3 0))) (fY 0 1 64 false false (q1 (mD 4 0))) (mC 2 128 false true bG) (mC 2 52 false true bG)) (λ(j,n,_,_,_,_) ((e,_),((f,g),_),((h,i),_),(a,b),(c,d),_)=>(uq j n,(e,g,f,i,h,a,b,c,d),λ p=>(.leaf (.exit 0) [] [bF 0 1 3 [AV.int .i64 p.1],⟨0,1,126,[AV.osl 3 p.2.1 0 p.2.2.1],false,false⟩,⟨0,1,64,[AV.osl 4 p.2.2.2.1 0 p.2.2.2.2.1],false,false⟩,bF p.2.2.2.2.2.2.1 2 128 p.2.2.2.2.2.1,bF p.2.2.2.2.2.2.2.2 2 52 p.2.2.2.2.2.2.2.1]))) (0,0,0,0,0,[],0,[],0) λ(j,n,_,_,_,_) _ (e,g,f,i,h,a,b,c,d)=>(((j,n,(),(),(),()),((e,()),((f,g),()),((h,i),()),(a,b),(c,d),())),Bs j n e g f i h a b c d none)
def Bx:dp:=Cn.E.fn 71 5 (eX []) (jL [(7,HH.lp),(3,Yj.lp)])
def xwk:dA P0 (xO6.at 5) Bx:=Cn.ok.fn
def xuj:dw P0 (xO6.at Bx.pin) Bx (Tryz.f106.body.getD .skip):=yu (ls:=[kL Tryz.f106 0,kL Tryz.f106 1]) Θ (fp Yj.ok (fp HH.ok kU))
def IX(a n h:Int)(b c:Nat)(d e:LA):=aB (uq a n) (n,b+1,1,c,0,1,List.take (b+1) (d++[AV.agg [AV.int .i64 a,AV.int .i64 (i64.wrap (n - h))]]),0,e)
def IY(a n h:Int)(b c:Nat)(d e:LA):=aB (uq a n) (h,b,0,c,0,0,List.take b d,0,e)
def qT(a n h:Int)(b c:Nat)(d e:LA):=(IX a n h b c d e).getD (0,0,0,0,0,[],0,[],0)
def qU(a n h:Int)(b c:Nat)(d e:LA):=(IY a n h b c d e).getD (0,0,0,0,0,[],0,[],0)
def Ew{T:Type}(a n h:Int)(b d:Nat)(c e:LA)(δ:T)(κ:Int×Nat×Nat×Nat×Nat×LA×Nat×LA×Nat->T):T:=br (decide (n>h)) (br (iH b c 1 16) (br ((IX a n h b d c e).isSome) (κ ((qT a n h b d c e).fst,((qT a n h b d c e).snd).fst,(((qT a n h b d c e).snd).snd).fst,((((qT a n h b d c e).snd).snd).snd).fst,(((((qT a n h b d c e).snd).snd).snd).snd).fst,((((((qT a n h b d c e).snd).snd).snd).snd).snd).fst,(((((((qT a n h b d c e).snd).snd).snd).snd).snd).snd).fst,((((((((qT a n h b d c e).snd).snd).snd).snd).snd).snd).snd).fst,((((((((qT a n h b d c e).snd).snd).snd).snd).snd).snd).snd).snd)) δ) δ) (br ((IY a n h b d c e).isSome) (κ ((qU a n h b d c e).fst,((qU a n h b d c e).snd).fst,(((qU a n h b d c e).snd).snd).fst,((((qU a n h b d c e).snd).snd).snd).fst,(((((qU a n h b d c e).snd).snd).snd).snd).fst,((((((qU a n h b d c e).snd).snd).snd).snd).snd).fst,(((((((qU a n h b d c e).snd).snd).snd).snd).snd).snd).fst,((((((((qU a n h b d c e).snd).snd).snd).snd).snd).snd).snd).fst,((((((((qU a n h b d c e).snd).snd).snd).snd).snd).snd).snd).snd)) δ)
def BV(a n h:Int)(b c:Nat)(d e:LA):=Ew a n h b c d e none some
def xBz(a n h:Int)(b c:Nat)(d e:LA):dQ (λ(p:Int×Nat×Nat×Nat×Nat×LA×Nat×LA×Nat)=>(((AV.tuple [],([⟨0,1,3,[AV.int .i64 p.1],false,true⟩,⟨0,1,126,[AV.osl 3 p.2.1 0 p.2.2.1],false,false⟩,⟨0,1,64,[AV.osl 4 p.2.2.2.1 0 p.2.2.2.2.1],false,false⟩,⟨p.2.2.2.2.2.2.1,2,128,p.2.2.2.2.2.1,false,true⟩,⟨p.2.2.2.2.2.2.2.2,2,52,p.2.2.2.2.2.2.2.1,false,true⟩]:List aC))):(AV×List aC))) (BV a n h b c d e) (mQ P0 Bx Tryz.f106 (Tryz.f106.body.getD .skip) [AV.int .i64 a,AV.int .i64 n,AV.own (0:Id) 0 0 0,AV.own (1:Id) 0 0 0,AV.own (2:Id) 0 0 0] [{ver:=0,sz:=1,ty:=(3:TypeId),xs:=[AV.int .i64 h],frz:=false,pm:=true},{ver:=0,sz:=1,ty:=(126:TypeId),xs:=[AV.osl (3:Id) 0 0 b],frz:=false,pm:=false},{ver:=0,sz:=1,ty:=(64:TypeId),xs:=[AV.osl (4:Id) 0 0 c],frz:=false,pm:=false},{ver:=0,sz:=2,ty:=(128:TypeId),xs:=d,frz:=false,pm:=true},{ver:=0,sz:=2,ty:=(52:TypeId),xs:=e,frz:=false,pm:=true}]):=by(have h:mQ P0 Bx Tryz.f106 (Tryz.f106.body.getD .skip) [AV.int .i64 a,AV.int .i64 n,AV.own (0:Id) 0 0 0,AV.own (1:Id) 0 0 0,AV.own (2:Id) 0 0 0] [{ver:=0,sz:=1,ty:=(3:TypeId),xs:=[AV.int .i64 h],frz:=false,pm:=true},{ver:=0,sz:=1,ty:=(126:TypeId),xs:=[AV.osl (3:Id) 0 0 b],frz:=false,pm:=false},{ver:=0,sz:=1,ty:=(64:TypeId),xs:=[AV.osl (4:Id) 0 0 c],frz:=false,pm:=false},{ver:=0,sz:=2,ty:=(128:TypeId),xs:=d,frz:=false,pm:=true},{ver:=0,sz:=2,ty:=(52:TypeId),xs:=e,frz:=false,pm:=true}]=Ew a n h b c d e none (λ(p:Int×Nat×Nat×Nat×Nat×LA×Nat×LA×Nat)=>some (((AV.tuple [],([⟨0,1,3,[AV.int .i64 p.1],false,true⟩,⟨0,1,126,[AV.osl 3 p.2.1 0 p.2.2.1],false,false⟩,⟨0,1,64,[AV.osl 4 p.2.2.2.1 0 p.2.2.2.2.1],false,false⟩,⟨p.2.2.2.2.2.2.1,2,128,p.2.2.2.2.2.1,false,true⟩,⟨p.2.2.2.2.2.2.2.2,2,52,p.2.2.2.2.2.2.2.1,false,true⟩]:List aC))):(AV×List aC))):=by kernel_rfl);rw[h];unfold BV Ew;repeat' (first|refine dQ.br ?_ ?_|exact dQ.none|exact dQ.some rfl)
end Go.Sim.M
namespace Go.Sim
open Go.RowKit
def bH.aged{P:Program}{Inv:IV}{f:FuncId}{args:List AV}{H E:List aC}{p q v k t s y:Nat}{xs:List AV}(h:bH P Inv f args H (.tuple []) E)(hz:∀bx,H[q]?=some bx->bx.ver=0)(ep:E[p]?=some ⟨0,1,t,[.osl (.b q) v 0 k],false,false⟩)(eq:E[q]?=some ⟨v,s,y,xs,false,true⟩)(pt:bW t=false)(py:bW y=false)(ho:∀n bx,E[n]?=some bx->bW bx.ty=false/\(n=p\/n=q\/bx.pm\/∃n' v' k',n'≠q/\bx.xs=[.osl (.b n') v' 0 k'])):bH P Inv f args H (.tuple []) ((E.set p ⟨0,1,t,[.osl (.b q) 1 0 k],false,false⟩).set q ⟨1,s,y,xs,false,true⟩):=by
 have pq:p≠q:=λ e=>by subst e;rw[ep]at eq;simp at eq
 refine⟨h.1,λ w0 w A M vs hI hB hR ab=>(h.2 w0 w A M vs hI hB hR ab).mono ?_⟩;rintro e w' ⟨u,A',M',rfl,h1,h2,h3,h4,h5⟩;let M'':Id->Option MB:=λ id=>if id=.b q then(M' id).map λ m=>⟨m.b,1,m.sz,m.cap,m.ty⟩else M' id;have eo:∀id,id≠.b q->M'' id=M' id:=λ id g1=>if_neg g1;have e4:∀m,M' (.b q)=some m->M'' (.b q)=some ⟨m.b,1,m.sz,m.cap,m.ty⟩:=λ m hm=>(if_pos rfl).trans (by rw[hm];rfl);have Q:∀id m1,M'' id=some m1->∃m0,M' id=some m0/\m1.b=m0.b/\m1.cap=m0.cap:=λ id m1 J=>by by_cases g3:id=.b q;(subst g3;cases hm:M' (.b q)with|none=>simp[M'',hm]at J|some m=>rw[e4 m hm]at J;simp only[z6]at J;subst J;exact⟨m,rfl,rfl,rfl⟩);exact⟨m1,eo id g3▸J,rfl,rfl⟩
 have O:∀n bx m,E[n]?=some bx->M' (.b n)=some m->BoxAt w' A' M' w0.heap.size (.b n) m bx:=λ n bx m hn hm=>by obtain⟨bx',g1,g2⟩:=h4.box _ m hm;rw[iN,hn]at g1;cases g1;exact g2
 have hv:∀m,M' (.b q)=some m->v=m.ver:=λ m hm=>(O q _ m eq hm).ver;have hx:∀c n' v' k',n'≠q->aD w' A' M' c (.osl (.b n') v' 0 k')->aD w' A' M'' c (.osl (.b n') v' 0 k'):=λ c n' v' k' hn hr=>by obtain⟨m0,g1,g2,g3,g4⟩:=aD.osl_inv hr;exact .osl c _ v' 0 k' m0 ((eo _ λ e=>hn (by cases e;rfl)).trans g1) g2 g3 g4
 have hy:∀c,aD w' A' M' c (.osl (.b q) v 0 k)->aD w' A' M'' c (.osl (.b q) 1 0 k):=λ c hr=>by obtain⟨m0,g1,g2,g3,g4⟩:=aD.osl_inv hr;exact .osl c _ 1 0 k _ (e4 m0 g1) (zd _) g3 λ _=>g4 (hv m0 g1)
 have hb:∀id(bx bx':aC)(m m':MB),bW bx.ty=false->bx'=⟨m'.ver,bx.sz,bx.ty,bx'.xs,bx.frz,bx.pm⟩->m'=⟨m.b,m'.ver,m.sz,m.cap,m.ty⟩->bx'.xs.length=bx.xs.length->(∀x,x∈bx'.xs->x.okElem m.sz)->
   (∀c i j,aD w' A' (MP M' bx.pm) c ((bx.xs.getD i .top).cells.getD j .top)->aD w' A' (MP M'' bx.pm) c ((bx'.xs.getD i .top).cells.getD j .top))->BoxAt w' A' M' w0.heap.size id m bx->BoxAt w' A' M'' w0.heap.size id m' bx':=λ id bx bx' m m' V ad Y hl aa hc g=>by
  rw[ad,Y];have W:dy m.ty=false:=g.nomap (kE V);refine⟨rfl,g.sz,g.ty,g.capm,hl▸g.fits,aa,g.low,g.lt,λ h0=>?_,g.guard⟩
  obtain⟨c,c1,c2,c3⟩:=g.cells h0;refine⟨c,.of W (c1.plain W),c2,λ i j hi hj=>?_⟩
  have:=c3 i j (hl▸hi) hj;rw[jH V,jX V]at this;rw[jH V,jX (bx:=⟨m'.ver,bx.sz,bx.ty,bx'.xs,bx.frz,bx.pm⟩) V];exact hc _ i j this
 have ht:∀a v1 v2 d,(∀c,aD w' A' M' c (.osl a v1 0 d)->aD w' A' M'' c (.osl a v2 0 d))->∀c i j,aD w' A' M' c ((([.osl a v1 0 d]:List AV).getD i .top).cells.getD j .top)->aD w' A' M'' c ((([.osl a v2 0 d]:List AV).getD i .top).cells.getD j .top):=λ a v1 v2 d hh c i j hr=>by match i,j with|0,0=>exact hh c hr|0,j+1=>exact .top _|i+1,0=>exact .top _|i+1,j+1=>exact .top _
 have hg:∀n bx,E[n]?=some bx->∃bx',((E.set p ⟨0,1,t,[.osl (.b q) 1 0 k],false,false⟩).set q ⟨1,s,y,xs,false,true⟩)[n]?=some bx'/\bW bx'.ty=false/\(∀m m1,M' (.b n)=some m->M'' (.b n)=some m1->BoxAt w' A' M'' w0.heap.size (.b n) m1 bx'):=λ n bx hn=>by have hn':=jZ hn;obtain⟨hC,hc⟩:=ho n bx hn;by_cases g1:n=q;subst g1;rw[hn]at eq;cases eq;refine⟨_,zL (by simpa using hn'),py,λ m m1 e1 e2=>?_⟩;rw[e4 m e1]at e2;cases e2;have g:=O n _ m hn e1;exact hb _ ⟨v,s,y,xs,false,true⟩ ⟨1,s,y,xs,false,true⟩ m _ py rfl rfl rfl g.ok (λ c i j hr=>hr) g;(have ge:∀m m1,M' (.b n)=some m->M'' (.b n)=some m1->m1=m:=λ m m1 e1 e2=>by rw[eo _ λ e=>g1 (by cases e;rfl),e1]at e2;cases e2;rfl);by_cases g2:n=p;subst g2;rw[hn]at ep;cases ep;refine⟨_,(zX (Ne.symm g1)).trans (zL hn'),pt,λ m m1 e1 e2=>?_⟩;cases ge m m1 e1 e2;have g:=O n _ m hn e1;have hv:0=m.ver:=g.ver;have hz:m.sz=1:=g.sz.symm;exact hb _ ⟨0,1,t,[.osl (.b q) v 0 k],false,false⟩ ⟨0,1,t,[.osl (.b q) 1 0 k],false,false⟩ m m pt (by rw[<-hv]) rfl rfl (λ x hx=>by simp only[zv]at hx;subst hx;rw[hz];rfl) (ht _ _ _ _ hy) g;refine⟨bx,(zX (Ne.symm g1)).trans ((zX (Ne.symm g2)).trans hn),hC,λ m m1 e1 e2=>?_⟩;cases ge m m1 e1 e2;have g:=O n _ m hn e1;refine hb _ bx bx m m hC (by rw[<-g.ver]) rfl rfl g.ok ?_ g;rcases hc with hc|hc|hc|⟨n',v',k',hc,hd⟩;exact absurd hc g2;exact absurd hc g1;rw[hc];exact λ c i j hr=>hr;cases ae:bx.pm with|true=>exact λ c i j hr=>hr|false=>rw[hd];exact ht _ _ _ _ λ c=>hx c n' v' k' hc
 have hR':HR w' A' M'' w0.heap.size ((E.set p ⟨0,1,t,[.osl (.b q) 1 0 k],false,false⟩).set q ⟨1,s,y,xs,false,true⟩):=by refine⟨λ id m1 J=>?_,λ id id' m1 m2 k1 k2 c1 c2 he=>?_,h4.lt⟩;(obtain⟨m0,g1,_⟩:=Q id m1 J;obtain⟨bx,q1,q2⟩:=h4.box _ m0 g1;cases id with|r n i j=>(rw[eo _ (λ e=>by cases e),g1]at J;cases J;obtain⟨c0,r1,_⟩:=tO q1;obtain⟨bx',r2,r3,_⟩:=hg n c0 r1;rw[pf r1 (ho n c0 r1).1]at q1;cases q1;exact⟨_,pf r2 r3,hb _ fW fW m1 m1 rfl (by rw[<-q2.ver]) rfl rfl q2.ok (λ c i j hr=>hr) q2⟩)|b n=>obtain⟨bx',r2,_,r3⟩:=hg n bx q1;exact⟨bx',r2,r3 _ _ g1 J⟩);obtain⟨n1,a1,a2,a3⟩:=Q id m1 k1;obtain⟨n2,b1,b2,b3⟩:=Q id' m2 k2;exact h4.inj id id' n1 n2 a1 b1 (a3▸c1) (b3▸c2) (by rw[<-a2,<-b2,he])
 refine⟨u,A',M'',rfl,h1,h2,⟨h3.size,h3.keep,h3.less,h3.more,λ id m ac hm=>?_,λ id m1 J h0=>?_⟩,hR',?_⟩;obtain⟨m',g1,g2⟩:=h3.ids id m ac hm;by_cases q4:id=.b q;subst q4;obtain⟨bx,r1,r2⟩:=hR.box _ m hm;exact⟨_,e4 m' g1,.inr (by rw[<-r2.ver,hz bx r1];exact Nat.zero_lt_one)⟩;exact⟨m',(eo id q4).trans g1,g2⟩;obtain⟨m0,g1,g2,g3⟩:=Q id m1 J;rw[g2];exact h3.src id m0 g1 (g3▸h0);obtain⟨Z,rfl,q1,_⟩:=h5.tuple_inv;exact .tuple Z [] q1 Ψ
namespace M
open Go.Proofs
noncomputable def set2(q n h:Int)(ns no:Nat)(sx ox:List AV):Option (Int×Nat×Nat×List AV×List AV):=(BV q n h ns no sx ox).bind λ p=>
 br (Nat.beq p.2.1 p.2.2.2.2.2.2.1&&Nat.beq p.2.2.2.1 p.2.2.2.2.2.2.2.2) (some (p.1,p.2.2.1,p.2.2.2.2.1,p.2.2.2.2.2.1,p.2.2.2.2.2.2.2.1)) none
noncomputable def VI:List AV->List aC->Option (Bool×AV×List aC):=ju (cY (sEq (pInt IntKind.i64)) (cY (sEq (pInt IntKind.i64)) (cY (sEq (dz 0 0 0 0)) (cY (sEq (dz 1 0 0 0)) (cY (sEq (dz 2 0 0 0)) jj))))) (bL (fY 0 1 3 false true (bL (pInt IntKind.i64) bT)) (bL (fY 0 1 126 false false (bL (cJ 3 0 0) bT)) (bL (fY 0 1 64 false false (bL (cJ 4 0 0) bT)) (bL (fY 0 2 128 false true bG) (bL (fY 0 2 52 false true bG) bT))))) λ(q,(n,(_,(_,(_,_))))) ((h,_),((ns,_),((no,_),(sx,(ox,_)))))=>((set2 q n h ns no sx ox).isSome,(.tuple [],[⟨0,1,3,[.int .i64 ((set2 q n h ns no sx ox).getD (0,0,0,[],[])).1],false,true⟩,⟨0,1,126,[.osl (.b 3) 1 0 ((set2 q n h ns no sx ox).getD (0,0,0,[],[])).2.1],false,false⟩,⟨0,1,64,[.osl (.b 4) 1 0 ((set2 q n h ns no sx ox).getD (0,0,0,[],[])).2.2.1],false,false⟩,⟨1,2,128,((set2 q n h ns no sx ox).getD (0,0,0,[],[])).2.2.2.1,false,true⟩,⟨1,2,52,((set2 q n h ns no sx ox).getD (0,0,0,[],[])).2.2.2.2,false,true⟩]))
def xLW:fP P0 xO6 106 VI:=rt λ vv bb rr Z hh=>by obtain⟨J,⟨n,⟨_,⟨_,⟨_,_⟩⟩⟩⟩⟩:=vv;obtain⟨⟨h,_⟩,⟨⟨ns,_⟩,⟨⟨no,_⟩,⟨sx,⟨ox,_⟩⟩⟩⟩⟩:=bb;obtain⟨O,Q⟩:=Prod.mk.inj hh;cases hs:BV J n h ns no sx ox with|none=>rw[show set2 J n h ns no sx ox=none by unfold set2;rw[hs];rfl]at O;simp at O|some p=>(have W:set2 J n h ns no sx ox=br (Nat.beq p.2.1 p.2.2.2.2.2.2.1&&Nat.beq p.2.2.2.1 p.2.2.2.2.2.2.2.2) (some (p.1,p.2.2.1,p.2.2.2.2.1,p.2.2.2.2.2.1,p.2.2.2.2.2.2.2.1)) none:=by unfold set2;rw[hs];rfl);cases ht:Nat.beq p.2.1 p.2.2.2.2.2.2.1&&Nat.beq p.2.2.2.1 p.2.2.2.2.2.2.2.2 with|false=>rw[W,ht]at O;simp[br]at O|true=>
 rw[ht]at W;have Y:set2 J n h ns no sx ox=some (p.1,p.2.2.1,p.2.2.2.2.1,p.2.2.2.2.2.1,p.2.2.2.2.2.2.2.1):=W;rw[Y]at Q;simp only[zh]at Q;simp only[zf]at ht;have e1:=zg ht.1;have e2:=zg ht.2;have hx:=xBz J n h ns no sx ox p hs;have hg:bH P0 xO6 106 _ _ _ _:=yn (p:=Bx.pin) (ym xOz (xOA P0 _) rfl xwk rfl Tryz.func106 rfl Θ xuj hx);rw [<-e1,<-e2] at hg;have V:=bH.aged (p:=1) (q:=3) hg (fun bx hb=>by cases hb;rfl) rfl rfl rfl rfl (fun n bx hn=>by
  match n with
  | 0=>cases hn;exact⟨rfl,.inr (.inr (.inl rfl))⟩
  | 1=>cases hn;exact⟨rfl,.inl rfl⟩
  | 2=>cases hn;exact⟨rfl,.inr (.inr (.inr ⟨_,_,_,by decide,rfl⟩))⟩
  | 3=>cases hn;exact⟨rfl,.inr (.inl rfl)⟩
  | 4=>cases hn;exact⟨rfl,.inr (.inr (.inl rfl))⟩
  | n+5=>simp at hn)
 have V:=bH.aged (p:=2) (q:=4) V (fun bx hb=>by cases hb;rfl) rfl rfl rfl rfl (fun n bx hn=>by
  match n with
  | 0=>cases hn;exact⟨rfl,.inr (.inr (.inl rfl))⟩
  | 1=>cases hn;exact⟨rfl,.inr (.inr (.inr ⟨_,_,_,by decide,rfl⟩))⟩
  | 2=>cases hn;exact⟨rfl,.inl rfl⟩
  | 3=>cases hn;exact⟨rfl,.inr (.inr (.inl rfl))⟩
  | 4=>cases hn;exact⟨rfl,.inr (.inl rfl)⟩
  | n+5=>simp at hn)
 obtain⟨rfl,rfl⟩:=Prod.mk.inj Q;exact V
noncomputable def Cr:dp:=Cn.E.withM 106 VI
def xIx:dA P0 xO6 Cr:=Cn.ok.withM xLW
noncomputable def UN:EO:=EO.mk Cr xIx
end M
end Go.Sim
namespace Go.Sim.M
open Go.RowKit Go.Proofs
open Go.IntKind (i64 u64 u8)
def NO(a:LA)(h b:Int)(f c:Nat)(g:Int)(d e:LA):Int:=if 0>(gC a b 1).toInt then 0 else(gC a b 1).toInt
def NN(f:LA)(h g:Int)(d a:Nat)(e:Int)(b c:LA):=set2 (gC f g 0).toInt (if 1048576<NO f h g d a e b c then 1048576 else NO f h g d a e b c) e a d c b
def xD(f:LA)(g h:Int)(d a:Nat)(e:Int)(b c:LA):=(NN f g h d a e b c).getD (0,0,0,[],[])
def HQ{T:Type}(g:LA)(h e:Int)(d a:Nat)(f:Int)(b c:LA)(δ:T)(κl:(Int×Nat×Nat×Int×LA×LA)->T)(κr:(Nat×Int×Nat×LA×LA)->T):T:=br (decide (e<h)) (br (bX g e) (br (jl g e 2 [Sh.int .i64,Sh.int .i64] 0) (br ((NN g h e d a f b c).isSome) (κl (i64.wrap (e+1),(((xD g h e d a f b c).snd).snd).fst,(((xD g h e d a f b c).snd).fst),(xD g h e d a f b c).fst,((((xD g h e d a f b c).snd).snd).snd).snd,List.take (((xD g h e d a f b c).snd).fst) ((((xD g h e d a f b c).snd).snd).snd).fst)) δ) δ) δ) (κr (d,f,a,b,c))
def AM(f:LA)(g:Int):cS (Int×Nat×Nat×Int×LA×LA) (Nat×Int×Nat×LA×LA):=λ(h,d,a,e,b,c)=>HQ f g h d a e b c none inL inR
def Yc:=UN.l 30 0 [] [] Tryz.f76 0 lk0 [3,4,6,10,11,12] [3,6] [(3,2,52),(4,2,128),(4,0,0)] (q6 (dz 0 0 0 0) (dz 1 0 0 0) (em 106 (q3 (dz 2 0 0 0) (dz 1 0 0 0) (dz 0 0 0 0))) (qL 2) qI qI) (q5 (fY 0 1 64 false false (q1 (cJ 3 0 0))) (fY 0 1 126 false false (q1 (cJ 4 0 0))) (qB 0 1 3 (q1 qI)) (qB 0 2 52 bG) (qB 0 2 128 bG)) (λ(_,_,(_,_,_,_),f,g,h,_) ((d,_),(a,_),(e,_),b,c,_)=>(AM f g,(h,d,a,e,b,c),λ p=>(.leaf (.exit 0) [AV.own 0 0 0 0,AV.func 106 [AV.own 1 0 0 0,AV.own 2 0 0 0,AV.own 0 0 0 0]] [⟨0,1,64,[AV.osl 3 0 0 p.1],false,false⟩,bF 0 1 3 [AV.int .i64 p.2.1],⟨0,1,126,[AV.osl 4 0 0 p.2.2.1],false,false⟩,bF 0 2 52 p.2.2.2.1,bF 0 2 128 p.2.2.2.2]))) (0,0,0,[],[]) λ(_,_,(_,_,_,_),f,g,_,_) _ (h,d,a,e,b,c)=>((((),(),((),(),(),()),f,g,h,()),((d,()),(a,()),(e,()),b,c,())),HQ f g h d a e b c none)
def OJ(l:LA):=aB (AM l (↑l.length:Int)) (0,0,0,0,[],[])
def Bo(l:LA):=(OJ l).getD (0,0,0,[],[])
def OI(l:LA):=set2 1099511627776 0 ((Bo l).snd).fst (((Bo l).snd).snd).fst (Bo l).fst ((((Bo l).snd).snd).snd).snd ((((Bo l).snd).snd).snd).fst
def tm(l:LA):=((OI l).getD (0,0,0,[],[])).snd.snd
def Pd{T:Type}(l:LA)(δ:T)(κ:LA->T):T:=br ((OJ l).isSome) (br ((OI l).isSome) (br (((tm l).fst).beq ((tm l).snd.snd).length&&(decide (((tm l).fst)<4611686018427387904)&&((tm l).snd.snd).all yI)) (br (decide (0+((tm l).fst)<=(qz ((tm l).snd.snd)).length)&&true) (κ (List.take ((tm l).fst) (List.drop 0 (qz ((tm l).snd.snd))))) δ) δ) δ) δ
def kD(l:LA):=Pd l none some
def xKk:EO:=UN.f Tryz.func76 30 0 [] [(6,Yc.lp)] (fh Yc.ok) (u1 (uL 2)) (λ(l,_) _=>Pd l) (λ _ p=>AV.list 2 p) []
def OY{T:Type}(a:LA)(δ:T)(κ:LA->T):T:=br ((↑a.length:Int)==1) (κ (a)) (br ((AS a).isSome) (br ((kD ((AS a).getD [])).isSome) (κ ((kD ((AS a).getD [])).getD [])) δ) δ)
def xZ(a:LA):=OY a none some
def Md:EO:=xKk.f Tryz.func115 10 0 [] [] lk0 (u1 (uL 2)) (λ(a,_) _=>OY a) (λ _ p=>AV.list 2 p) []
def H8{T:Type}(b e:LA)(f:Int)(c:Nat)(a:Int)(d:LA)(δ:T)(κl:(Nat×Int×LA)->T)(κr:(Nat×LA)->T):T:=br (decide (a<f)) (br (decide (0<=a)&&decide (a<e.length)) (br (decide (a.toNat<e.length)&&((e.getD a.toNat .top).cells.length==2&&ef [Sh.int .i64,Sh.int .i64] (e.getD a.toNat .top).cells 0)) (br (x6 ((e.getD a.toNat .top).cells.getD 0 .top).toInt ((e.getD a.toNat .top).cells.getD 1 .top).toInt) (br (c==d.length&&(decide ((c+2)*24<=140737488355328)&&decide (c+2<=4611686018427387904))) (κl (c+2,i64.wrap (a+1),d++[AV.agg [AV.int .i64 ((e.getD a.toNat .top).cells.getD 0 .top).toInt,AV.int .i64 1,AV.int .i64 0],AV.agg [AV.int .i64 ((e.getD a.toNat .top).cells.getD 1 .top).toInt,AV.int .i64 (-1),AV.int .i64 0]])) δ) (κl (c,i64.wrap (a+1),d))) δ) δ) (κr (c,d))
def ut(b d:LA)(e:Int):cS (Nat×Int×LA) (Nat×LA):=λ(c,f,a)=>H8 b d e c f a none inL inR
def Ox:=Md.l 49 0 [] [] Tryz.f129 0 lk0 [1,5,10,11,12] [1,5] [(5,3,154)] (q5 (qL 2) (cJ 0 0 0) (qL 2) qI qI) (q1 (qB 0 3 154 bG)) (λ(b,c,d,e,f,_) (a,_)=>(ut b d e,(c,f,a),λ p=>(.leaf (.exit 0) [AV.list 2 b,AV.osl 0 0 0 p.1] [bF 0 3 154 p.2]))) (0,[]) λ(b,_,d,e,_,_) _ (c,f,a)=>(((b,c,d,e,f,()),(a,())),H8 b d e c f a none)
def ID{T:Type}(d:LA)(e:Int)(b:Nat)(a:Int)(c:LA)(δ:T)(κl:(Nat×Int×LA)->T)(κr:(Nat×LA)->T):T:=br (decide (a<e)) (br (decide (0<=a)&&decide (a<d.length)) (br (decide (a.toNat<d.length)&&((d.getD a.toNat .top).cells.length==2&&ef [Sh.int .i64,Sh.int .i64] (d.getD a.toNat .top).cells 0)) (br (x6 ((d.getD a.toNat .top).cells.getD 0 .top).toInt ((d.getD a.toNat .top).cells.getD 1 .top).toInt) (br (b==c.length&&(decide ((b+2)*24<=140737488355328)&&decide (b+2<=4611686018427387904))) (κl (b+2,i64.wrap (a+1),c++[AV.agg [AV.int .i64 ((d.getD a.toNat .top).cells.getD 0 .top).toInt,AV.int .i64 0,AV.int .i64 1],AV.agg [AV.int .i64 ((d.getD a.toNat .top).cells.getD 1 .top).toInt,AV.int .i64 0,AV.int .i64 (-1)]])) δ) (κl (b,i64.wrap (a+1),c))) δ) δ) (κr (b,c))
def AG(c:LA)(d:Int):cS (Nat×Int×LA) (Nat×LA):=λ(b,e,a)=>ID c d b e a none inL inR
def Yh:=Md.l 49 0 [] [(3,Ox.lp)] Tryz.f129 1 lk0 [5,28,29,30] [5] [(5,3,154)] (q4 (cJ 0 0 0) (qL 2) qI qI) (q1 (qB 0 3 154 bG)) (λ(b,c,d,e,_) (a,_)=>(AG c d,(b,e,a),λ p=>(.leaf (.exit 2) [AV.osl 0 0 0 p.1] [bF 0 3 154 p.2]))) (0,[]) λ(_,c,d,_,_) _ (b,e,a)=>(((b,c,d,e,()),(a,())),ID c d b e a none)
def Jd(a b:LA):=(aB (ut b a (↑a.length:Int)) (0,0,[])).getD (0,[])
def Jc(a b:LA):=aB (AG b (↑b.length:Int)) ((Jd a b).fst,0,(Jd a b).snd)
def Jb(a b:LA):=(Jc a b).getD (0,[])
def BB(a b:LA):=(Jb a b).fst
def BC(a b:LA):=(Jb a b).snd
def P7{T:Type}(a b:LA)(δ:T)(κ:LA->T):T:=br ((aB (ut b a (↑a.length:Int)) (0,0,[])).isSome) (br ((Jc a b).isSome) (br ((BB a b).beq (BC a b).length&&(decide (BB a b<4611686018427387904)&&(BC a b).all yH)) (br (decide (0+BB a b<=(qy (BC a b)).length)&&true) (κ (List.take (BB a b) (List.drop 0 (qy (BC a b))))) δ) δ) δ) δ
def ve(a b:LA):=P7 a b none some
def xKl:EO:=Md.f Tryz.func129 49 0 [] [(3,Ox.lp),(9,Yh.lp)] (lW (fp Ox.ok (fp Yh.ok kU))) (u2 (uL 2) (uL 2)) (λ(a,b,_) _=>P7 a b) (λ _ p=>AV.list 3 p) []
def BZ(a b:Bool):Bool:=((a))
def xCZ{T:Type}(a b:Bool)(δ:T)(κ:Bool->T):T:=κ (a)
def xKm:EO:=xKl.fT Tryz.func93 6 0 [] [] lk0 (λ(a,b,_)=>xCZ a b none) (u2 (sEq kV) (sEq kV)) (λ(a,b,_)=>BZ a b) (λ _ p=>(AV.bool p))
def Bn(a b:Bool):Bool:=(br (a) ((!b)) ((false)))
def xvu{T:Type}(a b:Bool)(δ:T)(κ:Bool->T):T:=br (a) (κ (!b)) (κ (false))
def Me:EO:=xKm.fT Tryz.func98 10 0 [] [] lk0 (λ(a,b,_)=>xvu a b none) (u2 (sEq kV) (sEq kV)) (λ(a,b,_)=>Bn a b) (λ _ p=>(AV.bool p))
def XY{T:Type}(l:LA)(e:Nat)(d b c i:Int)(a:LA)(δ:T)(κl:(Int×Int×Int×LA)->T)(κr:(Int×Int×Int×LA)->T):T:=br (decide (i<l.length)) (br (decide (0<=i)&&decide (i<l.length)) (br (decide (i.toNat<l.length)&&cX (Sh.int .i64) ((l.getD i.toNat .top).cells.getD 0 .top)) (br (((l.getD i.toNat .top).cells.getD 0 .top).toInt==d) (br (decide (0<=i)&&decide (i<l.length)) (br (decide (i.toNat<l.length)&&cX (Sh.int .i64) ((l.getD i.toNat .top).cells.getD 1 .top)) (br (decide (0<=i)&&decide (i<l.length)) (br (decide (i.toNat<l.length)&&cX (Sh.int .i64) ((l.getD i.toNat .top).cells.getD 2 .top)) (κl (i64.wrap (b+((l.getD i.toNat .top).cells.getD 1 .top).toInt),i64.wrap (c+((l.getD i.toNat .top).cells.getD 2 .top).toInt),i64.wrap (i+1),a)) δ) δ) δ) δ) (κr (b,c,i,a))) δ) δ) (κr (b,c,i,a))
def NJ(l:LA)(b:Nat)(c:Int):cS (Int×Int×Int×LA) (Int×Int×Int×LA):=λ(d,e,i,a)=>XY l b c d e i a none inL inR
def Hw:=Me.l 92 0 [] [] Tryz.f92 1 lk0 [2,7,8,9,10,11,12] [2,7,8,9,10,11,12] [(8,2,52)] (q7 (em 93 bT) (qL 3) (cJ 0 0 0) qI qI qI qI) (q1 (qB 0 2 52 bG)) (λ(_,l,a,d,e,i,c,_) (b,_)=>(NJ l a c,(d,e,i,b),λ p=>(.leaf (.exit 2) [AV.func 93 [],AV.list 3 l,AV.osl 0 0 0 a,AV.int .i64 p.1,AV.int .i64 p.2.1,AV.int .i64 p.2.2.1,AV.int .i64 c] [bF 0 2 52 p.2.2.2]))) (0,0,0,[]) λ(_,l,a,_,_,_,c,_) _ (d,e,i,b)=>((((),l,a,d,e,i,c,()),(b,())),XY l a c d e i b none)
def Hv(a:Nat):=decide (0<=i64.wrap ((↑a:Int) - 1))&&decide (i64.wrap ((↑a:Int) - 1)<(↑a:Int))
def kZ(l:LA)(b:Nat)(d e i c:Int)(a:LA):=(aB (NJ l b c) (d,e,i,a)).getD (0,0,0,[])
def qN(a:Nat):Nat:=0+(i64.wrap ((↑a:Int) - 1)).toNat
def kN(l:LA)(b:Nat)(d e i c:Int)(a:LA):=(((kZ l b d e i c a).snd).snd).snd
def X9(l:LA)(b:Nat)(d e i c:Int)(a:LA):=BZ (decide (((kZ l b d e i c a).fst)>0)) (decide ((((kZ l b d e i c a).snd).fst)>0))
def lc(l:LA)(b:Nat)(d e i c:Int)(a:LA):=(((kZ l b d e i c a).snd).snd).fst
def Hu(l:LA)(a:Nat)(d e i c:Int)(b:LA):=decide (qN a<(kN l a d e i c b).length)
def XX{T:Type}(l:LA)(a:Nat)(d e i c:Int)(b:LA)(δ:T)(κl:(Nat×Int×Int×Int×Int×LA)->T)(κr:(Nat×LA)->T):T:=br (decide (c<1099511627776)) (br ((aB (NJ l a c) (d,e,i,b)).isSome) (br (decide (lc l a d e i c b<l.length)) (br (decide (0<=lc l a d e i c b)&&(decide (lc l a d e i c b<l.length))) (br (decide ((lc l a d e i c b).toNat<l.length)&&cX (Sh.int .i64) ((l.getD (lc l a d e i c b).toNat .top).cells.getD 0 .top)) (br (X9 l a d e i c b) (br (decide ((↑a:Int)>0)) (br (Hv a) (br (Hu l a d e i c b&&cX (Sh.int .i64) (((kN l a d e i c b).getD (qN a) .top).cells.getD 1 .top)) (br ((((kN l a d e i c b).getD (qN a) .top).cells.getD 1 .top).toInt==c) (br (Hv a) (br (Hu l a d e i c b) (κl (a,((kZ l a d e i c b).fst),(((kZ l a d e i c b).snd).fst),lc l a d e i c b,((l.getD (lc l a d e i c b).toNat .top).cells.getD 0 .top).toInt,(kN l a d e i c b).set (qN a) (AV.agg (List.take 1 ((kN l a d e i c b).getD (qN a) .top).cells++[AV.int .i64 ((l.getD (lc l a d e i c b).toNat .top).cells.getD 0 .top).toInt]++List.drop 2 ((kN l a d e i c b).getD (qN a) .top).cells)))) δ) δ) (br (a==(kN l a d e i c b).length&&(decide ((a+1)*16<=140737488355328)&&decide (a+1<=4611686018427387904))) (κl (a+1,((kZ l a d e i c b).fst),(((kZ l a d e i c b).snd).fst),lc l a d e i c b,((l.getD (lc l a d e i c b).toNat .top).cells.getD 0 .top).toInt,kN l a d e i c b++[AV.agg [AV.int .i64 c,AV.int .i64 ((l.getD (lc l a d e i c b).toNat .top).cells.getD 0 .top).toInt]])) δ)) δ) δ) (br (a==(kN l a d e i c b).length&&(decide ((a+1)*16<=140737488355328)&&decide (a+1<=4611686018427387904))) (κl (a+1,((kZ l a d e i c b).fst),(((kZ l a d e i c b).snd).fst),lc l a d e i c b,((l.getD (lc l a d e i c b).toNat .top).cells.getD 0 .top).toInt,kN l a d e i c b++[AV.agg [AV.int .i64 c,AV.int .i64 ((l.getD (lc l a d e i c b).toNat .top).cells.getD 0 .top).toInt]])) δ)) (κl (a,((kZ l a d e i c b).fst),(((kZ l a d e i c b).snd).fst),lc l a d e i c b,((l.getD (lc l a d e i c b).toNat .top).cells.getD 0 .top).toInt,kN l a d e i c b))) δ) δ) (br (X9 l a d e i c b) (br (decide ((↑a:Int)>0)) (br (Hv a) (br (Hu l a d e i c b&&cX (Sh.int .i64) (((kN l a d e i c b).getD (qN a) .top).cells.getD 1 .top)) (br ((((kN l a d e i c b).getD (qN a) .top).cells.getD 1 .top).toInt==c) (br (Hv a) (br (Hu l a d e i c b) (κl (a,((kZ l a d e i c b).fst),(((kZ l a d e i c b).snd).fst),lc l a d e i c b,1099511627776,(kN l a d e i c b).set (qN a) (AV.agg (List.take 1 ((kN l a d e i c b).getD (qN a) .top).cells++[AV.int .i64 1099511627776]++List.drop 2 ((kN l a d e i c b).getD (qN a) .top).cells)))) δ) δ) (br (a==(kN l a d e i c b).length&&(decide ((a+1)*16<=140737488355328)&&decide (a+1<=4611686018427387904))) (κl (a+1,((kZ l a d e i c b).fst),(((kZ l a d e i c b).snd).fst),lc l a d e i c b,1099511627776,kN l a d e i c b++[AV.agg [AV.int .i64 c,AV.int .i64 1099511627776]])) δ)) δ) δ) (br (a==(kN l a d e i c b).length&&(decide ((a+1)*16<=140737488355328)&&decide (a+1<=4611686018427387904))) (κl (a+1,((kZ l a d e i c b).fst),(((kZ l a d e i c b).snd).fst),lc l a d e i c b,1099511627776,kN l a d e i c b++[AV.agg [AV.int .i64 c,AV.int .i64 1099511627776]])) δ)) (κl (a,((kZ l a d e i c b).fst),(((kZ l a d e i c b).snd).fst),lc l a d e i c b,1099511627776,kN l a d e i c b)))) δ) (κr (a,b))
def Xw(l:LA):cS (Nat×Int×Int×Int×Int×LA) (Nat×LA):=λ(b,d,e,i,c,a)=>XX l b d e i c a none inL inR
def X8:=Me.l 92 0 [] [(6,Hw.lp)] Tryz.f92 0 (fh Hw.ok) [2,7,8,9,10,11,12] [8] [(8,2,52)] (q7 (em 93 bT) (qL 3) (cJ 0 0 0) qI qI qI qI) (q1 (qB 0 2 52 bG)) (λ(_,l,b,d,e,i,c,_) (a,_)=>(Xw l,(b,d,e,i,c,a),λ p=>(.leaf (.exit 0) [AV.osl 0 0 0 p.1] [bF 0 2 52 p.2]))) (0,[]) λ(_,l,_,_,_,_,_,_) _ (b,d,e,i,c,a)=>((((),l,b,d,e,i,c,()),(a,())),XX l b d e i c a none)
def Yq(a b:LA):=aB (Xw ((ve a b).getD [])) (0,0,0,0,0,[])
def IE(a b:LA):=(Yq a b).getD (0,[])
def YA{T:Type}(a b:LA)(δ:T)(κ:LA->T):T:=br ((ve a b).isSome) (br ((Yq a b).isSome) (br (decide (0+((IE a b).fst)<=((IE a b).snd).length)&&true) (κ (List.take ((IE a b).fst) (List.drop 0 ((IE a b).snd)))) δ) δ) δ
def P8(a b:LA):=YA a b none some
def xKn:EO:=Me.f Tryz.func92 92 0 [] [(6,Hw.lp),(5,X8.lp)] (lW (fp X8.ok (fp Hw.ok kU))) (u3 (uL 2) (uL 2) (sEq (em (93:FuncId) bT))) (λ(a,b,_,_) _=>YA a b) (λ _ p=>AV.list 2 p) []
def Rf{T:Type}(l:LA)(δ:T)(κ:LA->T):T:=br ((P8 l []).isSome) (κ ((P8 l []).getD [])) δ
def r7(l:LA):=Rf l none some
def Mf:EO:=xKn.f Tryz.func61 5 0 [] [] lk0 (u1 (uL 2)) (λ(l,_) _=>Rf l) (λ _ p=>AV.list 2 p) []
def X0{T:Type}(l:LA)(e:Nat)(d b c i:Int)(a:LA)(δ:T)(κl:(Int×Int×Int×LA)->T)(κr:(Int×Int×Int×LA)->T):T:=br (decide (i<l.length)) (br (decide (0<=i)&&decide (i<l.length)) (br (decide (i.toNat<l.length)&&cX (Sh.int .i64) ((l.getD i.toNat .top).cells.getD 0 .top)) (br (((l.getD i.toNat .top).cells.getD 0 .top).toInt==d) (br (decide (0<=i)&&decide (i<l.length)) (br (decide (i.toNat<l.length)&&cX (Sh.int .i64) ((l.getD i.toNat .top).cells.getD 1 .top)) (br (decide (0<=i)&&decide (i<l.length)) (br (decide (i.toNat<l.length)&&cX (Sh.int .i64) ((l.getD i.toNat .top).cells.getD 2 .top)) (κl (i64.wrap (b+((l.getD i.toNat .top).cells.getD 1 .top).toInt),i64.wrap (c+((l.getD i.toNat .top).cells.getD 2 .top).toInt),i64.wrap (i+1),a)) δ) δ) δ) δ) (κr (b,c,i,a))) δ) δ) (κr (b,c,i,a))
def NK(l:LA)(b:Nat)(c:Int):cS (Int×Int×Int×LA) (Int×Int×Int×LA):=λ(d,e,i,a)=>X0 l b c d e i a none inL inR
def Hz:=Mf.l 92 0 [] [] Tryz.f92 1 lk0 [2,7,8,9,10,11,12] [2,7,8,9,10,11,12] [(8,2,52)] (q7 (em 98 bT) (qL 3) (cJ 0 0 0) qI qI qI qI) (q1 (qB 0 2 52 bG)) (λ(_,l,a,d,e,i,c,_) (b,_)=>(NK l a c,(d,e,i,b),λ p=>(.leaf (.exit 2) [AV.func 98 [],AV.list 3 l,AV.osl 0 0 0 a,AV.int .i64 p.1,AV.int .i64 p.2.1,AV.int .i64 p.2.2.1,AV.int .i64 c] [bF 0 2 52 p.2.2.2]))) (0,0,0,[]) λ(_,l,a,_,_,_,c,_) _ (d,e,i,b)=>((((),l,a,d,e,i,c,()),(b,())),X0 l a c d e i b none)
def Hy(a:Nat):=decide (0<=i64.wrap ((↑a:Int) - 1))&&decide (i64.wrap ((↑a:Int) - 1)<(↑a:Int))
def k9(l:LA)(b:Nat)(d e i c:Int)(a:LA):=(aB (NK l b c) (d,e,i,a)).getD (0,0,0,[])
def qO(a:Nat):Nat:=0+(i64.wrap ((↑a:Int) - 1)).toNat
def kO(l:LA)(b:Nat)(d e i c:Int)(a:LA):=(((k9 l b d e i c a).snd).snd).snd
def Yb(l:LA)(b:Nat)(d e i c:Int)(a:LA):=Bn (decide (((k9 l b d e i c a).fst)>0)) (decide ((((k9 l b d e i c a).snd).fst)>0))
def ld(l:LA)(b:Nat)(d e i c:Int)(a:LA):=(((k9 l b d e i c a).snd).snd).fst
def Hx(l:LA)(a:Nat)(d e i c:Int)(b:LA):=decide (qO a<(kO l a d e i c b).length)
def XZ{T:Type}(l:LA)(a:Nat)(d e i c:Int)(b:LA)(δ:T)(κl:(Nat×Int×Int×Int×Int×LA)->T)(κr:(Nat×LA)->T):T:=br (decide (c<1099511627776)) (br ((aB (NK l a c) (d,e,i,b)).isSome) (br (decide (ld l a d e i c b<l.length)) (br (decide (0<=ld l a d e i c b)&&(decide (ld l a d e i c b<l.length))) (br (decide ((ld l a d e i c b).toNat<l.length)&&cX (Sh.int .i64) ((l.getD (ld l a d e i c b).toNat .top).cells.getD 0 .top)) (br (Yb l a d e i c b) (br (decide ((↑a:Int)>0)) (br (Hy a) (br (Hx l a d e i c b&&cX (Sh.int .i64) (((kO l a d e i c b).getD (qO a) .top).cells.getD 1 .top)) (br ((((kO l a d e i c b).getD (qO a) .top).cells.getD 1 .top).toInt==c) (br (Hy a) (br (Hx l a d e i c b) (κl (a,((k9 l a d e i c b).fst),(((k9 l a d e i c b).snd).fst),ld l a d e i c b,((l.getD (ld l a d e i c b).toNat .top).cells.getD 0 .top).toInt,(kO l a d e i c b).set (qO a) (AV.agg (List.take 1 ((kO l a d e i c b).getD (qO a) .top).cells++[AV.int .i64 ((l.getD (ld l a d e i c b).toNat .top).cells.getD 0 .top).toInt]++List.drop 2 ((kO l a d e i c b).getD (qO a) .top).cells)))) δ) δ) (br (a==(kO l a d e i c b).length&&(decide ((a+1)*16<=140737488355328)&&decide (a+1<=4611686018427387904))) (κl (a+1,((k9 l a d e i c b).fst),(((k9 l a d e i c b).snd).fst),ld l a d e i c b,((l.getD (ld l a d e i c b).toNat .top).cells.getD 0 .top).toInt,kO l a d e i c b++[AV.agg [AV.int .i64 c,AV.int .i64 ((l.getD (ld l a d e i c b).toNat .top).cells.getD 0 .top).toInt]])) δ)) δ) δ) (br (a==(kO l a d e i c b).length&&(decide ((a+1)*16<=140737488355328)&&decide (a+1<=4611686018427387904))) (κl (a+1,((k9 l a d e i c b).fst),(((k9 l a d e i c b).snd).fst),ld l a d e i c b,((l.getD (ld l a d e i c b).toNat .top).cells.getD 0 .top).toInt,kO l a d e i c b++[AV.agg [AV.int .i64 c,AV.int .i64 ((l.getD (ld l a d e i c b).toNat .top).cells.getD 0 .top).toInt]])) δ)) (κl (a,((k9 l a d e i c b).fst),(((k9 l a d e i c b).snd).fst),ld l a d e i c b,((l.getD (ld l a d e i c b).toNat .top).cells.getD 0 .top).toInt,kO l a d e i c b))) δ) δ) (br (Yb l a d e i c b) (br (decide ((↑a:Int)>0)) (br (Hy a) (br (Hx l a d e i c b&&cX (Sh.int .i64) (((kO l a d e i c b).getD (qO a) .top).cells.getD 1 .top)) (br ((((kO l a d e i c b).getD (qO a) .top).cells.getD 1 .top).toInt==c) (br (Hy a) (br (Hx l a d e i c b) (κl (a,((k9 l a d e i c b).fst),(((k9 l a d e i c b).snd).fst),ld l a d e i c b,1099511627776,(kO l a d e i c b).set (qO a) (AV.agg (List.take 1 ((kO l a d e i c b).getD (qO a) .top).cells++[AV.int .i64 1099511627776]++List.drop 2 ((kO l a d e i c b).getD (qO a) .top).cells)))) δ) δ) (br (a==(kO l a d e i c b).length&&(decide ((a+1)*16<=140737488355328)&&decide (a+1<=4611686018427387904))) (κl (a+1,((k9 l a d e i c b).fst),(((k9 l a d e i c b).snd).fst),ld l a d e i c b,1099511627776,kO l a d e i c b++[AV.agg [AV.int .i64 c,AV.int .i64 1099511627776]])) δ)) δ) δ) (br (a==(kO l a d e i c b).length&&(decide ((a+1)*16<=140737488355328)&&decide (a+1<=4611686018427387904))) (κl (a+1,((k9 l a d e i c b).fst),(((k9 l a d e i c b).snd).fst),ld l a d e i c b,1099511627776,kO l a d e i c b++[AV.agg [AV.int .i64 c,AV.int .i64 1099511627776]])) δ)) (κl (a,((k9 l a d e i c b).fst),(((k9 l a d e i c b).snd).fst),ld l a d e i c b,1099511627776,kO l a d e i c b)))) δ) (κr (a,b))
def Xx(l:LA):cS (Nat×Int×Int×Int×Int×LA) (Nat×LA):=λ(b,d,e,i,c,a)=>XZ l b d e i c a none inL inR
def Ya:=Mf.l 92 0 [] [(6,Hz.lp)] Tryz.f92 0 (fh Hz.ok) [2,7,8,9,10,11,12] [8] [(8,2,52)] (q7 (em 98 bT) (qL 3) (cJ 0 0 0) qI qI qI qI) (q1 (qB 0 2 52 bG)) (λ(_,l,b,d,e,i,c,_) (a,_)=>(Xx l,(b,d,e,i,c,a),λ p=>(.leaf (.exit 0) [AV.osl 0 0 0 p.1] [bF 0 2 52 p.2]))) (0,[]) λ(_,l,_,_,_,_,_,_) _ (b,d,e,i,c,a)=>((((),l,b,d,e,i,c,()),(a,())),XZ l b d e i c a none)
def Yr(a b:LA):=aB (Xx ((ve a b).getD [])) (0,0,0,0,0,[])
def IF(a b:LA):=(Yr a b).getD (0,[])
def YB{T:Type}(a b:LA)(δ:T)(κ:LA->T):T:=br ((ve a b).isSome) (br ((Yr a b).isSome) (br (decide (0+((IF a b).fst)<=((IF a b).snd).length)&&true) (κ (List.take ((IF a b).fst) (List.drop 0 ((IF a b).snd)))) δ) δ) δ
def P9(a b:LA):=YB a b none some
def xKo:EO:=Mf.f Tryz.func92 92 0 [] [(6,Hz.lp),(5,Ya.lp)] (lW (fp Ya.ok (fp Hz.ok kU))) (u3 (uL 2) (uL 2) (sEq (em (98:FuncId) bT))) (λ(a,b,_,_) _=>YB a b) (λ _ p=>AV.list 2 p) []
def OH{T:Type}(a b:LA)(δ:T)(κ:LA->T):T:=br ((P9 a b).isSome) (κ ((P9 a b).getD [])) δ
def x4(a b:LA):=OH a b none some
def Mg:EO:=xKo.f Tryz.func63 8 0 [] [] lk0 (u2 (uL 2) (uL 2)) (λ(a,b,_) _=>OH a b) (λ _ p=>AV.list 2 p) []
def GZ{T:Type}(h:LA)(i j:Int)(e:LA)(f:Int)(d:Nat)(c:Int)(a b g:LA)(δ:T)(κl:(Nat×Int×LA×LA×LA)->T)(κr:(Nat×LA)->T):T:=br (decide (c<f)) (br (bX e c) (br (jl e c 2 [Sh.int .i64,Sh.int .i64] 0) (br (decide (b.length*32<=140737488355328)&&decide (b.length<=4611686018427387904)) (br (decide (0+b.length<=b.length)&&true&&true&&true&&true) (br (iH d a 1 40) (κl (d+1,i64.wrap (c+1),a++[AV.agg [AV.list 3 (List.take b.length (List.drop 0 b)),AV.int .i64 (gC e c 0).toInt,AV.int .i64 (gC e c 1).toInt]],b,g)) δ) δ) δ) δ) δ) (κr (d,a))
def Ac(c:LA)(d e:Int)(f:LA)(g:Int):cS (Nat×Int×LA×LA×LA) (Nat×LA):=λ(b,h,a,i,j)=>GZ c d e f g b h a i j none inL inR
def GK:=Mg.l 38 0 [54] [] Tryz.f89 1 lk0 [1,5,7,11,12,13,20,21,22] [1,5,11,12,13] [(5,3,54)] (q9 (em 115 bT) (cJ 0 0 0) (dz 1 0 0 0) (qL 2) qI qI (qL 2) qI qI) (q2 (qB 0 3 54 bG) (qB 0 2 148 (q1 (gA (q2 (qL 3) (qL 2)))))) (λ(_,b,_,c,d,e,f,g,h,_) (a,((i,j,_),_),_)=>(Ac c d e f g,(b,h,a,i,j),λ p=>(.leaf (.exit 2) [AV.func 115 [],AV.osl 0 0 0 p.1,AV.list 2 c,AV.int .i64 d,AV.int .i64 e] [bF 0 3 54 p.2]))) (0,[]) λ(_,_,_,c,d,e,f,g,_,_) _ (b,h,a,i,j)=>((((),b,(),c,d,e,f,g,h,()),(a,((i,j,()),()),())),GZ c d e f g b h a i j none)
def GJ(a:LA)(e:Int)(d:Nat)(b:Int)(c:LA):=aB (Ac a e b ((xZ (gC a b 1).toList).getD []) (↑((xZ (gC a b 1).toList).getD []).length:Int)) (d,0,c,(gC a b 0).toList,(gC a b 1).toList)
def GY{T:Type}(d:LA)(e:Int)(c:Nat)(b:Int)(a:LA)(δ:T)(κl:(Nat×Int×LA)->T)(κr:(Nat×LA)->T):T:=br (decide (b<e)) (br (bX d b) (br (jl d b 2 [Sh.list 3,Sh.list 2] 0) (br ((xZ (gC d b 1).toList).isSome) (br ((GJ d e c b a).isSome) (κl (((GJ d e c b a).getD (0,[])).fst,i64.wrap (b+1),((GJ d e c b a).getD (0,[])).snd)) δ) δ) δ) δ) (κr (c,a))
def Dh(c:LA)(d:Int):cS (Nat×Int×LA) (Nat×LA):=λ(b,e,a)=>GY c d b e a none inL inR
def Xk:=Mg.l 38 0 [54] [(6,GK.lp)] Tryz.f89 0 (fh GK.ok) [1,5,11,12,13] [5] [(5,3,54)] (q5 (em 115 bT) (cJ 0 0 0) (qL 2) qI qI) (q1 (qB 0 3 54 bG)) (λ(_,b,c,d,e,_) (a,_)=>(Dh c d,(b,e,a),λ p=>(.leaf (.exit 0) [AV.osl 0 0 0 p.1] [bF 0 3 54 p.2]))) (0,[]) λ(_,_,c,d,_,_) _ (b,e,a)=>((((),b,c,d,e,()),(a,())),GY c d b e a none)
def NL(l:LA):=aB (Dh ((uN l).getD []) (↑((uN l).getD []).length:Int)) (0,0,[])
def Dy(l:LA):=(NL l).getD (0,[])
def NY{T:Type}(l:LA)(δ:T)(κ:LA->T):T:=br ((uN l).isSome) (br ((NL l).isSome) (br (decide (0+((Dy l).fst)<=((Dy l).snd).length)&&true) (κ (List.take ((Dy l).fst) (List.drop 0 ((Dy l).snd)))) δ) δ) δ
def Oz(l:LA):=NY l none some
def xKp:EO:=Mg.f Tryz.func89 38 0 [54] [(6,GK.lp),(3,Xk.lp)] (lW (fp Xk.ok (fp GK.ok kU))) (u2 (uL 3) (sEq (em (115:FuncId) bT))) (λ(l,_,_) _=>NY l) (λ _ p=>AV.list 3 p) []
def Ph{T:Type}(l:LA)(δ:T)(κ:LA->T):T:=br ((Oz l).isSome) (κ ((Oz l).getD [])) δ
def o8(l:LA):=Ph l none some
def Mh:EO:=xKp.f Tryz.func78 5 0 [] [] lk0 (u1 (uL 3)) (λ(l,_) _=>Ph l) (λ _ p=>AV.list 3 p) []
def Xr{T:Type}(h:LA)(i j:Int)(e:LA)(f:Int)(d:Nat)(c:Int)(a b g:LA)(δ:T)(κl:(Nat×Int×LA×LA×LA)->T)(κr:(Nat×LA)->T):T:=br (decide (c<f)) (br (bX e c) (br (jl e c 2 [Sh.int .i64,Sh.int .i64] 0) (br (decide (b.length*32<=140737488355328)&&decide (b.length<=4611686018427387904)) (br (decide (0+b.length<=b.length)&&true&&true&&true&&true) (br (iH d a 1 40) (κl (d+1,i64.wrap (c+1),a++[AV.agg [AV.list 3 (List.take b.length (List.drop 0 b)),AV.int .i64 (gC e c 0).toInt,AV.int .i64 (gC e c 1).toInt]],b,g)) δ) δ) δ) δ) δ) (κr (d,a))
def Nu(c:LA)(d e:Int)(f:LA)(g:Int):cS (Nat×Int×LA×LA×LA) (Nat×LA):=λ(b,h,a,i,j)=>Xr c d e f g b h a i j none inL inR
def GM:=Mh.l 38 0 [54] [] Tryz.f89 1 lk0 [1,5,7,11,12,13,20,21,22] [1,5,11,12,13] [(5,3,54)] (q9 (em 61 bT) (cJ 0 0 0) (dz 1 0 0 0) (qL 2) qI qI (qL 2) qI qI) (q2 (qB 0 3 54 bG) (qB 0 2 148 (q1 (gA (q2 (qL 3) (qL 2)))))) (λ(_,b,_,c,d,e,f,g,h,_) (a,((i,j,_),_),_)=>(Nu c d e f g,(b,h,a,i,j),λ p=>(.leaf (.exit 2) [AV.func 61 [],AV.osl 0 0 0 p.1,AV.list 2 c,AV.int .i64 d,AV.int .i64 e] [bF 0 3 54 p.2]))) (0,[]) λ(_,_,_,c,d,e,f,g,_,_) _ (b,h,a,i,j)=>((((),b,(),c,d,e,f,g,h,()),(a,((i,j,()),()),())),Xr c d e f g b h a i j none)
def GL(a:LA)(e:Int)(d:Nat)(b:Int)(c:LA):=aB (Nu a e b ((r7 (gC a b 1).toList).getD []) (↑((r7 (gC a b 1).toList).getD []).length:Int)) (d,0,c,(gC a b 0).toList,(gC a b 1).toList)
def G0{T:Type}(d:LA)(e:Int)(c:Nat)(b:Int)(a:LA)(δ:T)(κl:(Nat×Int×LA)->T)(κr:(Nat×LA)->T):T:=br (decide (b<e)) (br (bX d b) (br (jl d b 2 [Sh.list 3,Sh.list 2] 0) (br ((r7 (gC d b 1).toList).isSome) (br ((GL d e c b a).isSome) (κl (((GL d e c b a).getD (0,[])).fst,i64.wrap (b+1),((GL d e c b a).getD (0,[])).snd)) δ) δ) δ) δ) (κr (c,a))
def Di(c:LA)(d:Int):cS (Nat×Int×LA) (Nat×LA):=λ(b,e,a)=>G0 c d b e a none inL inR
def Xl:=Mh.l 38 0 [54] [(6,GM.lp)] Tryz.f89 0 (fh GM.ok) [1,5,11,12,13] [5] [(5,3,54)] (q5 (em 61 bT) (cJ 0 0 0) (qL 2) qI qI) (q1 (qB 0 3 54 bG)) (λ(_,b,c,d,e,_) (a,_)=>(Di c d,(b,e,a),λ p=>(.leaf (.exit 0) [AV.osl 0 0 0 p.1] [bF 0 3 54 p.2]))) (0,[]) λ(_,_,c,d,_,_) _ (b,e,a)=>((((),b,c,d,e,()),(a,())),G0 c d b e a none)
def NM(l:LA):=aB (Di ((uN l).getD []) (↑((uN l).getD []).length:Int)) (0,0,[])
def Dr(l:LA):=(NM l).getD (0,[])
def NZ{T:Type}(l:LA)(δ:T)(κ:LA->T):T:=br ((uN l).isSome) (br ((NM l).isSome) (br (decide (0+((Dr l).fst)<=((Dr l).snd).length)&&true) (κ (List.take ((Dr l).fst) (List.drop 0 ((Dr l).snd)))) δ) δ) δ
def OA(l:LA):=NZ l none some
def xKq:EO:=Mh.f Tryz.func89 38 0 [54] [(6,GM.lp),(3,Xl.lp)] (lW (fp Xl.ok (fp GM.ok kU))) (u2 (uL 3) (sEq (em (61:FuncId) bT))) (λ(l,_,_) _=>NZ l) (λ _ p=>AV.list 3 p) []
def Pi{T:Type}(l:LA)(δ:T)(κ:LA->T):T:=br ((OA l).isSome) (κ ((OA l).getD [])) δ
def BM(l:LA):=Pi l none some
def xKr:EO:=xKq.f Tryz.func55 5 0 [] [] lk0 (u1 (uL 3)) (λ(l,_) _=>Pi l) (λ _ p=>AV.list 3 p) []
def EY(a b:Int):Int:=((a))
def xCf{T:Type}(a b:Int)(δ:T)(κ:Int->T):T:=κ (a)
def Vm:EO:=xKr.fT Tryz.func118 5 0 [] [] lk0 (λ((a,b,_),_)=>xCf a b none) (u1 (fO (u2 uI uI))) (λ((a,b,_),_)=>EY a b) (λ _ p=>(AV.int .i64 p))
def X4(b:Nat)(a:LA):=decide (0+(i64.wrap ((↑b:Int) - 1)).toNat<a.length)&&cX (Sh.int .i64) ((a.getD (0+(i64.wrap ((↑b:Int) - 1)).toNat) .top).cells.getD 0 .top)
def X5(a:Nat):=decide (0<=i64.wrap ((↑a:Int) - 1))&&decide (i64.wrap ((↑a:Int) - 1)<(↑a:Int))
def HS(b:LA)(k:Int):=decide (k.toNat<b.length)&&((b.getD k.toNat .top).cells.length==2&&ef [Sh.int .i64,Sh.int .i64] (b.getD k.toNat .top).cells 0)
def HT(a:LA)(i:Int):=decide (i.toNat<a.length)&&((a.getD i.toNat .top).cells.length==2&&ef [Sh.int .i64,Sh.int .i64] (a.getD i.toNat .top).cells 0)
def HU(b:LA)(k:Int):=bX b k
def HV(a:LA)(i:Int):=bX a i
def X6(a:Nat):=(↑a:Int)==0
def DJ(b:LA)(k:Int):=EY (gC b k 0).toInt (gC b k 1).toInt
def DK(a:LA)(i:Int):=EY (gC a i 0).toInt (gC a i 1).toInt
def Ok(a:LA)(c:Nat)(i:Int)(b:LA):=((b.getD (0+(i64.wrap ((↑c:Int) - 1)).toNat) .top).cells.getD 0 .top).toInt !=DK a i
def Ol(b:LA)(c:Nat)(k:Int)(a:LA):=((a.getD (0+(i64.wrap ((↑c:Int) - 1)).toNat) .top).cells.getD 0 .top).toInt !=DJ b k
def DE(a b:LA)(i k:Int):=decide (DK a i<=DJ b k)
def DH{T:Type}(a:LA)(c:Nat)(i k:Int)(b:LA)(δ:T)(κl:(Nat×Int×Int×LA)->T):T:=br (iH c b 1 8) (κl (c+1,i64.wrap (i+1),k,b++[AV.int .i64 (DK a i)])) δ
def DF{T:Type}(a:LA)(b:Nat)(i k:Int)(c:LA)(δ:T)(κl:(Nat×Int×Int×LA)->T):T:=br (HV a i) (br (HT a i) (br (X6 b) (DH a b i k c δ κl) (br (X5 b) (br (X4 b c) (br (Ok a b i c) (DH a b i k c δ κl) (κl (b,i64.wrap (i+1),k,c))) δ) δ)) δ) δ
def DI{T:Type}(b:LA)(c:Nat)(i k:Int)(a:LA)(δ:T)(κl:(Nat×Int×Int×LA)->T):T:=br (iH c a 1 8) (κl (c+1,i,i64.wrap (k+1),a++[AV.int .i64 (DJ b k)])) δ
def DG{T:Type}(b:LA)(a:Nat)(i k:Int)(c:LA)(δ:T)(κl:(Nat×Int×Int×LA)->T):T:=br (HU b k) (br (HS b k) (br (X6 a) (DI b a i k c δ κl) (br (X5 a) (br (X4 a c) (br (Ol b a k c) (DI b a i k c δ κl) (κl (a,i,i64.wrap (k+1),c))) δ) δ)) δ) δ
def Dq{T:Type}(a b:LA)(d:Nat)(i k:Int)(c:LA)(δ:T)(κl:(Nat×Int×Int×LA)->T):T:=br (k==(↑b.length:Int)) (DF a d i k c δ κl) (br (decide (i<a.length)) (br (HV a i) (br (HT a i) (br (HU b k) (br (HS b k) (br (DE a b i k) (DF a d i k c δ κl) (DG b d i k c δ κl)) δ) δ) δ) δ) (DG b d i k c δ κl))
def DT{T:Type}(a b:LA)(d:Nat)(i k:Int)(c:LA)(δ:T)(κl:(Nat×Int×Int×LA)->T)(κr:(Nat×LA)->T):T:=br (decide (i<a.length)) (Dq a b d i k c δ κl) (br (decide (k<b.length)) (Dq a b d i k c δ κl) (κr (d,c)))
def sW(a b:LA):cS (Nat×Int×Int×LA) (Nat×LA):=λ(d,i,k,c)=>DT a b d i k c none inL inR
def X3:=Vm.l 83 0 [] [] Tryz.f117 0 lk0 [0,1,2,3,9,10,11] [9] [(9,1,3)] (q7 (qL 2) (qL 2) (em 118 bT) (em 118 bT) (cJ 0 0 0) qI qI) (q1 (qB 0 1 3 bG)) (λ(a,b,_,_,d,i,k,_) (c,_)=>(sW a b,(d,i,k,c),λ p=>(.leaf (.exit 0) [AV.osl 0 0 0 p.1] [bF 0 1 3 p.2]))) (0,[]) λ(a,b,_,_,_,_,_,_) _ (d,i,k,c)=>(((a,b,(),(),d,i,k,()),(c,())),DT a b d i k c none)
def BG(a b:LA):=aB (sW a b) (0,0,0,[])
def Pz{T:Type}(a b:LA)(δ:T)(κ:LA->T):T:=br ((BG a b).isSome) (br (decide (0+(((BG a b).getD (0,[])).fst)<=(((BG a b).getD (0,[])).snd).length)&&true) (κ (List.take (((BG a b).getD (0,[])).fst) (List.drop 0 (((BG a b).getD (0,[])).snd)))) δ) δ
def nS(a b:LA):=Pz a b none some
def xJ8:EO:=Vm.f Tryz.func117 83 0 [] [(3,X3.lp)] (fh X3.ok) (u4 (uL 2) (uL 2) (sEq (em (118:FuncId) bT)) (sEq (em (118:FuncId) bT))) (λ(a,b,_,_,_) _=>Pz a b) (λ _ p=>AV.list 1 p) []
def yb(a b t:Int):Int:=((pF a t))
def xAK{T:Type}(a b t:Int)(δ:T)(κ:Int->T):T:=κ (pF a t)
def Vn:EO:=xJ8.fT Tryz.func170 9 0 [] [] lk0 (λ((a,b,_),t,_)=>xAK a b t none) (u2 (fO (u2 uI uI)) uI) (λ((a,b,_),t,_)=>yb a b t) (λ _ p=>(AV.int .i64 p))
def ul(i j:Int):=i64.wrap ((u64.wrap (i64.wrap (i+j))).fdiv 2)
def yP(x:LA)(i j:Int):=(x.getD (ul i j).toNat .top).cells
def yR{T:Type}(x:LA)(a n i j:Int)(δ:T)(κl:(Int×Int)->T)(κr:(Int)->T):T:=br (decide (i<j)) (br (decide (0<=ul i j)&&decide (ul i j<x.length)) (br (decide ((ul i j).toNat<x.length)&&((yP x i j).length==2&&ef [Sh.int .i64,Sh.int .i64] (yP x i j) 0)) (br (decide (yb ((yP x i j).getD 0 .top).toInt ((yP x i j).getD 1 .top).toInt a<0)) (κl (i64.wrap (ul i j+1),j)) (κl (i,ul i j))) δ) δ) (κr (i))
def rL(x:LA)(a n:Int):cS (Int×Int) (Int):=λ(i,j)=>yR x a n i j none inL inR
def WW:=Vn.l 49 0 [] [] Tryz.f169 0 lk0 [0,1,2,8,9,10] [0,1,2,8,9] [] (q6 (qL 2) qI (em 170 bT) qI qI qI) bT (λ(x,a,_,n,i,j,_) _=>(rL x a n,(i,j),λ p=>(.leaf (.exit 0) [AV.list 2 x,AV.int .i64 a,AV.func 170 [],AV.int .i64 n,AV.int .i64 p] []))) 0 λ(x,a,_,n,_,_,_) _ (i,j)=>(((x,a,(),n,i,j,()),()),yR x a n i j none)
def sR(l:LA)(t:Int):=(aB (rL l t (↑l.length:Int)) (0,(↑l.length:Int))).getD 0
def Al(l:LA)(t:Int):=(l.getD (sR l t).toNat .top).cells
def Gx{T:Type}(l:LA)(t:Int)(δ:T)(κ:Int×Bool->T):T:=br ((aB (rL l t (↑l.length:Int)) (0,(↑l.length:Int))).isSome) (br (decide (sR l t<l.length)) (br (decide (0<=sR l t)&&decide (sR l t<l.length)) (br (decide ((sR l t).toNat<l.length)&&((Al l t).length==2&&ef [Sh.int .i64,Sh.int .i64] (Al l t) 0)) (κ (sR l t,yb ((Al l t).getD 0 .top).toInt ((Al l t).getD 1 .top).toInt t==0)) δ) δ) (κ (sR l t,false))) δ
def Ag(l:LA)(t:Int):=Gx l t none some
def xJ9:EO:=Vn.f Tryz.func169 49 0 [] [(3,WW.lp)] (fh WW.ok) (u3 (uL 2) uI (sEq (em (170:FuncId) bT))) (λ(l,t,_,_) _=>Gx l t) (λ _ p=>AV.tuple [AV.int .i64 p.1,AV.bool p.2]) (0,false)
def Jh{T:Type}(l:LA)(t:Int)(δ:T)(κ:Int->T):T:=br ((Ag l t).isSome) (br (((Ag l t).getD (0,false)).snd) (κ (((Ag l t).getD (0,false)).fst)) (κ (i64.wrap (((Ag l t).getD (0,false)).fst - 1)))) δ
def ri(l:LA)(t:Int):=Jh l t none some
def xKa:EO:=xJ9.f Tryz.func140 17 0 [] [] lk0 (u2 (uL 2) uI) (λ(l,t,_) _=>Jh l t) (λ _ p=>AV.int .i64 p) 0
def JI{T:Type}(l:LA)(t:Int)(δ:T)(κ:Int->T):T:=br (decide (t<0)) (κ (0)) (br (decide (t>=1099511627776)) (κ (0)) (br ((ri l t).isSome) (br (decide ((ri l t).getD 0<0)) (κ (0)) (br (decide (0<=(ri l t).getD 0)&&decide ((ri l t).getD 0<(↑l.length:Int))) (br (decide (((ri l t).getD 0).toNat<l.length)&&cX (Sh.int .i64) ((l.getD ((ri l t).getD 0).toNat .top).cells.getD 1 .top)) (κ (((l.getD ((ri l t).getD 0).toNat .top).cells.getD 1 .top).toInt)) δ) δ)) δ))
def kQ(l:LA)(t:Int):=JI l t none some
def xKb:EO:=xKa.f Tryz.func119 22 0 [] [] lk0 (u2 (uL 2) uI) (λ(l,t,_) _=>JI l t) (λ _ p=>AV.int .i64 p) 0
def EV(x y:Int):Int:=((i64.wrap (x+y)))
def xCc{T:Type}(x y:Int)(δ:T)(κ:Int->T):T:=κ (i64.wrap (x+y))
def xKc:EO:=xKb.fT Tryz.func80 8 0 [] [] lk0 (λ(x,y,_)=>xCc x y none) (u2 uI uI) (λ(x,y,_)=>EV x y) (λ _ p=>(AV.int .i64 p))
def EX(x y:Int):Int:=((i64.wrap (x - y)))
def xCe{T:Type}(x y:Int)(δ:T)(κ:Int->T):T:=κ (i64.wrap (x - y))
def xKd:EO:=xKc.fT Tryz.func82 8 0 [] [] lk0 (λ(x,y,_)=>xCe x y none) (u2 uI uI) (λ(x,y,_)=>EX x y) (λ _ p=>(AV.int .i64 p))
def EW(x y:Int):Int:=((if y<x then y else x))
def xCd{T:Type}(x y:Int)(δ:T)(κ:Int->T):T:=κ (if y<x then y else x)
def xKe:EO:=xKd.fT Tryz.func88 8 0 [] [] lk0 (λ(x,y,_)=>xCd x y none) (u2 uI uI) (λ(x,y,_)=>EW x y) (λ _ p=>(AV.int .i64 p))
def EP(x a:Int):Int:=((if 0>x then 0 else x))
def xAJ{T:Type}(x a:Int)(δ:T)(κ:Int->T):T:=κ (if 0>x then 0 else x)
def Vo:EO:=xKe.fT Tryz.func81 7 0 [] [] lk0 (λ(x,a,_)=>xAJ x a none) (u2 uI uI) (λ(x,a,_)=>EP x a) (λ _ p=>(AV.int .i64 p))
def NB(a b c:LA)(f:Nat)(d:Int)(e:LA):=kG f (gC c d 0).toInt (EV ((kQ a (gC c d 0).toInt).getD 0) ((kQ b (gC c d 0).toInt).getD 0)) e
def xq(a b e:LA)(d:Nat)(f:Int)(c:LA):=(NB a b e d f c).getD (false,(0,[]),0,[])
def GS{T:Type}(a b f:LA)(g:Int)(d:Nat)(e:Int)(c:LA)(δ:T)(κl:(Nat×Int×LA)->T)(κr:(Nat×LA)->T):T:=br (decide (e<g)) (br (bX f e) (br (dG f e (Sh.int .i64) 0) (br ((kQ a (gC f e 0).toInt).isSome) (br ((kQ b (gC f e 0).toInt).isSome) (br ((NB a b f d e c).isSome) (κl (br ((xq a b f d e c).fst) (((xq a b f d e c).snd).fst).fst (((xq a b f d e c).snd).snd).fst,i64.wrap (e+1),br ((xq a b f d e c).fst) (((xq a b f d e c).snd).fst).snd (((xq a b f d e c).snd).snd).snd)) δ) δ) δ) δ) δ) (κr (d,c))
def Ai(a b e:LA)(f:Int):cS (Nat×Int×LA) (Nat×LA):=λ(d,g,c)=>GS a b e f d g c none inL inR
def Xn:=Vo.l 38 0 [] [] Tryz.f79 0 lk0 [0,1,2,7,12,13,14] [2,7] [(7,2,132)] (q7 (qL 2) (qL 2) (em 80 bT) (cJ 0 0 0) (qL 1) qI qI) (q1 (qB 0 2 132 bG)) (λ(a,b,_,d,e,f,g,_) (c,_)=>(Ai a b e f,(d,g,c),λ p=>(.leaf (.exit 0) [AV.func 80 [],AV.osl 0 0 0 p.1] [bF 0 2 132 p.2]))) (0,[]) λ(a,b,_,_,e,f,_,_) _ (d,g,c)=>(((a,b,(),d,e,f,g,()),(c,())),GS a b e f d g c none)
def NP(a b:LA):=aB (Ai a b ((nS a b).getD []) (↑((nS a b).getD []).length:Int)) (0,0,[])
def AH(a b:LA):=(NP a b).getD (0,[])
def Og{T:Type}(a b:LA)(δ:T)(κ:LA->T):T:=br ((nS a b).isSome) (br ((NP a b).isSome) (br ((↑((AH a b).fst):Int)==0) (κ ([AV.agg [AV.int .i64 0,AV.int .i64 0]])) (br (decide (0+((AH a b).fst)<=((AH a b).snd).length)&&true) (κ (List.take ((AH a b).fst) (List.drop 0 ((AH a b).snd)))) δ)) δ) δ
def IG(a b:LA):=Og a b none some
def Vp:EO:=Vo.f Tryz.func79 38 0 [] [(3,Xn.lp)] (fh Xn.ok) (u3 (uL 2) (uL 2) (sEq (em (80:FuncId) bT))) (λ(a,b,_,_) _=>Og a b) (λ _ p=>AV.list 2 p) []
def NE(a b c:LA)(f:Nat)(d:Int)(e:LA):=kG f (gC c d 0).toInt (EX ((kQ a (gC c d 0).toInt).getD 0) ((kQ b (gC c d 0).toInt).getD 0)) e
def xu(a b e:LA)(d:Nat)(f:Int)(c:LA):=(NE a b e d f c).getD (false,(0,[]),0,[])
def Hi{T:Type}(a b f:LA)(g:Int)(d:Nat)(e:Int)(c:LA)(δ:T)(κl:(Nat×Int×LA)->T)(κr:(Nat×LA)->T):T:=br (decide (e<g)) (br (bX f e) (br (dG f e (Sh.int .i64) 0) (br ((kQ a (gC f e 0).toInt).isSome) (br ((kQ b (gC f e 0).toInt).isSome) (br ((NE a b f d e c).isSome) (κl (br ((xu a b f d e c).fst) (((xu a b f d e c).snd).fst).fst (((xu a b f d e c).snd).snd).fst,i64.wrap (e+1),br ((xu a b f d e c).fst) (((xu a b f d e c).snd).fst).snd (((xu a b f d e c).snd).snd).snd)) δ) δ) δ) δ) δ) (κr (d,c))
def Am(a b e:LA)(f:Int):cS (Nat×Int×LA) (Nat×LA):=λ(d,g,c)=>Hi a b e f d g c none inL inR
def Xq:=Vp.l 38 0 [] [] Tryz.f79 0 lk0 [0,1,2,7,12,13,14] [2,7] [(7,2,132)] (q7 (qL 2) (qL 2) (em 82 bT) (cJ 0 0 0) (qL 1) qI qI) (q1 (qB 0 2 132 bG)) (λ(a,b,_,d,e,f,g,_) (c,_)=>(Am a b e f,(d,g,c),λ p=>(.leaf (.exit 0) [AV.func 82 [],AV.osl 0 0 0 p.1] [bF 0 2 132 p.2]))) (0,[]) λ(a,b,_,_,e,f,_,_) _ (d,g,c)=>(((a,b,(),d,e,f,g,()),(c,())),Hi a b e f d g c none)
def NS(a b:LA):=aB (Am a b ((nS a b).getD []) (↑((nS a b).getD []).length:Int)) (0,0,[])
def Ax(a b:LA):=(NS a b).getD (0,[])
def Oj{T:Type}(a b:LA)(δ:T)(κ:LA->T):T:=br ((nS a b).isSome) (br ((NS a b).isSome) (br ((↑((Ax a b).fst):Int)==0) (κ ([AV.agg [AV.int .i64 0,AV.int .i64 0]])) (br (decide (0+((Ax a b).fst)<=((Ax a b).snd).length)&&true) (κ (List.take ((Ax a b).fst) (List.drop 0 ((Ax a b).snd)))) δ)) δ) δ
def II(a b:LA):=Oj a b none some
def Vq:EO:=Vp.f Tryz.func79 38 0 [] [(3,Xq.lp)] (fh Xq.ok) (u3 (uL 2) (uL 2) (sEq (em (82:FuncId) bT))) (λ(a,b,_,_) _=>Oj a b) (λ _ p=>AV.list 2 p) []
def ND(a b c:LA)(f:Nat)(d:Int)(e:LA):=kG f (gC c d 0).toInt (EW ((kQ a (gC c d 0).toInt).getD 0) ((kQ b (gC c d 0).toInt).getD 0)) e
def xt(a b e:LA)(d:Nat)(f:Int)(c:LA):=(ND a b e d f c).getD (false,(0,[]),0,[])
def Hh{T:Type}(a b f:LA)(g:Int)(d:Nat)(e:Int)(c:LA)(δ:T)(κl:(Nat×Int×LA)->T)(κr:(Nat×LA)->T):T:=br (decide (e<g)) (br (bX f e) (br (dG f e (Sh.int .i64) 0) (br ((kQ a (gC f e 0).toInt).isSome) (br ((kQ b (gC f e 0).toInt).isSome) (br ((ND a b f d e c).isSome) (κl (br ((xt a b f d e c).fst) (((xt a b f d e c).snd).fst).fst (((xt a b f d e c).snd).snd).fst,i64.wrap (e+1),br ((xt a b f d e c).fst) (((xt a b f d e c).snd).fst).snd (((xt a b f d e c).snd).snd).snd)) δ) δ) δ) δ) δ) (κr (d,c))
def Ak(a b e:LA)(f:Int):cS (Nat×Int×LA) (Nat×LA):=λ(d,g,c)=>Hh a b e f d g c none inL inR
def Xp:=Vq.l 38 0 [] [] Tryz.f79 0 lk0 [0,1,2,7,12,13,14] [2,7] [(7,2,132)] (q7 (qL 2) (qL 2) (em 88 bT) (cJ 0 0 0) (qL 1) qI qI) (q1 (qB 0 2 132 bG)) (λ(a,b,_,d,e,f,g,_) (c,_)=>(Ak a b e f,(d,g,c),λ p=>(.leaf (.exit 0) [AV.func 88 [],AV.osl 0 0 0 p.1] [bF 0 2 132 p.2]))) (0,[]) λ(a,b,_,_,e,f,_,_) _ (d,g,c)=>(((a,b,(),d,e,f,g,()),(c,())),Hh a b e f d g c none)
def NR(a b:LA):=aB (Ak a b ((nS a b).getD []) (↑((nS a b).getD []).length:Int)) (0,0,[])
def AR(a b:LA):=(NR a b).getD (0,[])
def Oi{T:Type}(a b:LA)(δ:T)(κ:LA->T):T:=br ((nS a b).isSome) (br ((NR a b).isSome) (br ((↑((AR a b).fst):Int)==0) (κ ([AV.agg [AV.int .i64 0,AV.int .i64 0]])) (br (decide (0+((AR a b).fst)<=((AR a b).snd).length)&&true) (κ (List.take ((AR a b).fst) (List.drop 0 ((AR a b).snd)))) δ)) δ) δ
def IH(a b:LA):=Oi a b none some
def Vr:EO:=Vq.f Tryz.func79 38 0 [] [(3,Xp.lp)] (fh Xp.ok) (u3 (uL 2) (uL 2) (sEq (em (88:FuncId) bT))) (λ(a,b,_,_) _=>Oi a b) (λ _ p=>AV.list 2 p) []
def NC(a b c:LA)(f:Nat)(d:Int)(e:LA):=kG f (gC c d 0).toInt (EP ((kQ a (gC c d 0).toInt).getD 0) ((kQ b (gC c d 0).toInt).getD 0)) e
def xr(a b e:LA)(d:Nat)(f:Int)(c:LA):=(NC a b e d f c).getD (false,(0,[]),0,[])
def GT{T:Type}(a b f:LA)(g:Int)(d:Nat)(e:Int)(c:LA)(δ:T)(κl:(Nat×Int×LA)->T)(κr:(Nat×LA)->T):T:=br (decide (e<g)) (br (bX f e) (br (dG f e (Sh.int .i64) 0) (br ((kQ a (gC f e 0).toInt).isSome) (br ((kQ b (gC f e 0).toInt).isSome) (br ((NC a b f d e c).isSome) (κl (br ((xr a b f d e c).fst) (((xr a b f d e c).snd).fst).fst (((xr a b f d e c).snd).snd).fst,i64.wrap (e+1),br ((xr a b f d e c).fst) (((xr a b f d e c).snd).fst).snd (((xr a b f d e c).snd).snd).snd)) δ) δ) δ) δ) δ) (κr (d,c))
def Aj(a b e:LA)(f:Int):cS (Nat×Int×LA) (Nat×LA):=λ(d,g,c)=>GT a b e f d g c none inL inR
def Xo:=Vr.l 38 0 [] [] Tryz.f79 0 lk0 [0,1,2,7,12,13,14] [2,7] [(7,2,132)] (q7 (qL 2) (qL 2) (em 81 bT) (cJ 0 0 0) (qL 1) qI qI) (q1 (qB 0 2 132 bG)) (λ(a,b,_,d,e,f,g,_) (c,_)=>(Aj a b e f,(d,g,c),λ p=>(.leaf (.exit 0) [AV.func 81 [],AV.osl 0 0 0 p.1] [bF 0 2 132 p.2]))) (0,[]) λ(a,b,_,_,e,f,_,_) _ (d,g,c)=>(((a,b,(),d,e,f,g,()),(c,())),GT a b e f d g c none)
def NQ(a b:LA):=aB (Aj a b ((nS a b).getD []) (↑((nS a b).getD []).length:Int)) (0,0,[])
def AI(a b:LA):=(NQ a b).getD (0,[])
def Oh{T:Type}(a b:LA)(δ:T)(κ:LA->T):T:=br ((nS a b).isSome) (br ((NQ a b).isSome) (br ((↑((AI a b).fst):Int)==0) (κ ([AV.agg [AV.int .i64 0,AV.int .i64 0]])) (br (decide (0+((AI a b).fst)<=((AI a b).snd).length)&&true) (κ (List.take ((AI a b).fst) (List.drop 0 ((AI a b).snd)))) δ)) δ) δ
def DW(a b:LA):=Oh a b none some
def xKf:EO:=Vr.f Tryz.func79 38 0 [] [(3,Xo.lp)] (fh Xo.ok) (u3 (uL 2) (uL 2) (sEq (em (81:FuncId) bT))) (λ(a,b,_,_) _=>Oh a b) (λ _ p=>AV.list 2 p) []
def Qz{T:Type}(a b:LA)(δ:T)(κ:LA->T):T:=br ((IG a b).isSome) (κ ((IG a b).getD [])) δ
def Fl(a b:LA):=Qz a b none some
def xKg:EO:=xKf.f Tryz.func43 8 0 [] [] lk0 (u2 (uL 2) (uL 2)) (λ(a,b,_) _=>Qz a b) (λ _ p=>AV.list 2 p) []
def QD{T:Type}(a b:LA)(δ:T)(κ:LA->T):T:=br ((II a b).isSome) (κ ((II a b).getD [])) δ
def Fn(a b:LA):=QD a b none some
def xIU:EO:=xKg.f Tryz.func47 8 0 [] [] lk0 (u2 (uL 2) (uL 2)) (λ(a,b,_) _=>QD a b) (λ _ p=>AV.list 2 p) []
def QA{T:Type}(a b:LA)(δ:T)(κ:LA->T):T:=br ((IH a b).isSome) (κ ((IH a b).getD [])) δ
def Fm(a b:LA):=QA a b none some
def xIV:EO:=xIU.f Tryz.func53 8 0 [] [] lk0 (u2 (uL 2) (uL 2)) (λ(a,b,_) _=>QA a b) (λ _ p=>AV.list 2 p) []
def Qa{T:Type}(l:LA)(δ:T)(κ:LA->T):T:=br ((DW l []).isSome) (κ ((DW l []).getD [])) δ
def JJ(l:LA):=Qa l none some
def xIW:EO:=xIV.f Tryz.func46 5 0 [] [] lk0 (u1 (uL 2)) (λ(l,_) _=>Qa l) (λ _ p=>AV.list 2 p) []
def Ow{T:Type}(x y:LA)(δ:T)(κ:LA->T):T:=br ((Fn x y).isSome) (br ((JJ ((Fn x y).getD [])).isSome) (κ ((JJ ((Fn x y).getD [])).getD [])) δ) δ
def D9(x y:LA):=Ow x y none some
def Se:EO:=xIW.f Tryz.func45 9 0 [] [] lk0 (u2 (uL 2) (uL 2)) (λ(x,y,_) _=>Ow x y) (λ _ p=>AV.list 2 p) []
def vg(b a:Bool):Int:=(br (b) (((-1))) (br (a) ((1)) ((0))))
def xBZ{T:Type}(b a:Bool)(δ:T)(κ:Int->T):T:=br (b) (κ ((-1))) (br (a) (κ (1)) (κ (0)))
def xKs:EO:=Se.fT Tryz.func134 7 0 [] [] lk0 (λ(b,a,_)=>xBZ b a none) (u2 (sEq kV) (sEq kV)) (λ(b,a,_)=>vg b a) (λ _ p=>(AV.int .i64 p))
def BA(a b:Int)(c:List UInt8)(d e:Int)(f:List UInt8):Int:=(br (a !=d) ((vg (decide (a<d)) (decide (a>d)))) (br (b !=e) ((vg (decide (b<e)) (decide (b>e)))) ((vg (Op.bytesLess c f) !(Op.bytesLess c f || c==f)))))
def xyq{T:Type}(a b:Int)(c:List UInt8)(d e:Int)(f:List UInt8)(δ:T)(κ:Int->T):T:=br (a !=d) (κ (vg (decide (a<d)) (decide (a>d)))) (br (b !=e) (κ (vg (decide (b<e)) (decide (b>e)))) (κ (vg (Op.bytesLess c f) !(Op.bytesLess c f || c==f))))
def Vv:EO:=xKs.fT Tryz.func103 48 0 [] [] lk0 (λ((a,b,c,_),(d,e,f,_),_)=>xyq a b c d e f none) (u2 (fO (u3 uI uI (sEq pStr))) (fO (u3 uI uI (sEq pStr)))) (λ((a,b,c,_),(d,e,f,_),_)=>BA a b c d e f) (λ _ p=>(AV.int .i64 p))
def AP(a b:LA)(i:Int):=BA (gC a i 0).toInt (gC a i 1).toInt (gC a i 2).toStr (gC b i 0).toInt (gC b i 1).toInt (gC b i 2).toStr
def AA{T:Type}(a b:LA)(i:Int)(δ:T)(κl:(Int)->T)(κr:(Bool×(Int)×(Unit))->T):T:=br (decide (i<a.length)) (br (decide (i<b.length)) (br (bX a i) (br (jl a i 3 [Sh.int .i64,Sh.int .i64,Sh.str] 0) (br (bX b i) (br (jl b i 3 [Sh.int .i64,Sh.int .i64,Sh.str] 0) (br (AP a b i !=0) (κr (true,(AP a b i),())) (κl (i64.wrap (i+1)))) δ) δ) δ) δ) (κr (false,0,()))) (κr (false,0,()))
def s8(a b:LA):cS (Int) (Bool×(Int)×(Unit)):=λ(i)=>AA a b i none inL inR
def XS:=Vv.l 41 0 [] [] Tryz.f73 0 lk0 [0,1,5] [0,1,4] [] (q3 (qL 3) (qL 3) qI) bT (λ(a,b,i,_) _=>(s8 a b,(i),λ p=>(.node p.1 (.leaf .ret [AV.list 3 a,AV.list 3 b,AV.int .i64 p.2.1] []) (.leaf (.exit 0) [AV.list 3 a,AV.list 3 b,.top] [])))) (false,0,()) λ(a,b,_,_) _ (i)=>(((a,b,i,()),()),AA a b i none)
def OL{T:Type}(a b:LA)(δ:T)(κ:Int->T):T:=br ((aB (s8 a b) 0).isSome) (br (((aB (s8 a b) 0).getD (false,0,())).fst) (κ (((aB (s8 a b) 0).getD (false,0,())).snd.fst)) (br (decide ((↑a.length:Int)<(↑b.length:Int))) (κ ((-1))) (br (decide ((↑a.length:Int)>(↑b.length:Int))) (κ (1)) (κ (0))))) δ
def oB(a b:LA):=OL a b none some
def xKt:EO:=Vv.f Tryz.func73 41 0 [] [(2,XS.lp)] (fh XS.ok) (u2 (uL 3) (uL 3)) (λ(a,b,_) _=>OL a b) (λ _ p=>AV.int .i64 p) 0
def PM{T:Type}(a b:LA)(δ:T)(κ:Bool->T):T:=br ((oB a b).isSome) (κ ((oB a b).getD 0==0)) δ
def Qt(a b:LA):=PM a b none some
def Vw:EO:=xKt.f Tryz.func71 9 0 [] [] lk0 (u2 (uL 3) (uL 3)) (λ(a,b,_) _=>PM a b) (λ _ p=>AV.bool p) false
def GQ{T:Type}(a b:LA)(i:Int)(δ:T)(κl:(Int)->T)(κr:(Bool×(Bool)×(Unit))->T):T:=br (decide (i<a.length)) (br (bX a i) (br (jl a i 3 [Sh.int .i64,Sh.int .i64] 1) (br (bX b i) (br (jl b i 3 [Sh.int .i64,Sh.int .i64] 1) (br (!((gC a i 1).toInt==(gC b i 1).toInt&&((gC a i 2).toInt==(gC b i 2).toInt&&true))) (κr (true,(false),())) (br (bX a i) (br (dG a i (Sh.list 3) 0) (br (bX b i) (br (dG b i (Sh.list 3) 0) (br ((oB (gC a i 0).toList (gC b i 0).toList).isSome) (br ((oB (gC a i 0).toList (gC b i 0).toList).getD 0 !=0) (κr (true,(false),())) (κl (i64.wrap (i+1)))) δ) δ) δ) δ) δ)) δ) δ) δ) δ) (κr (false,false,()))
def xw(a b:LA):cS (Int) (Bool×(Bool)×(Unit)):=λ(i)=>GQ a b i none inL inR
def Xu:=Vw.l 42 0 [] [] Tryz.f35 0 lk0 [0,1,5] [4] [] (q3 (qL 3) (qL 3) qI) bT (λ(a,b,i,_) _=>(xw a b,(i),λ p=>(.node p.1 (.leaf .ret [AV.bool p.2.1] []) (.leaf (.exit 0) [.top] [])))) (false,false,()) λ(a,b,_,_) _ (i)=>(((a,b,i,()),()),GQ a b i none)
def Od{T:Type}(a b:LA)(δ:T)(κ:Bool->T):T:=br ((↑a.length:Int) !=(↑b.length:Int)) (κ (false)) (br ((aB (xw a b) 0).isSome) (br (((aB (xw a b) 0).getD (false,false,())).fst) (κ (((aB (xw a b) 0).getD (false,false,())).snd.fst)) (κ (true))) δ)
def qZ(a b:LA):=Od a b none some
def Vx:EO:=Vw.f Tryz.func35 42 0 [] [(4,Xu.lp)] (fh Xu.ok) (u2 (uL 3) (uL 3)) (λ(a,b,_) _=>Od a b) (λ _ p=>AV.bool p) false
def AC(a b:LA)(i k:Int):=decide ((oB (gC b k 0).toList (gC a i 0).toList).getD 0<0)
def AD(a:LA)(i:Int):=decide (i.toNat<a.length)&&((a.getD i.toNat .top).cells.length==3&&ef [Sh.list 3,Sh.int .i64,Sh.int .i64] (a.getD i.toNat .top).cells 0)
def AE(b:LA)(k:Int):=decide (k.toNat<b.length)&&((b.getD k.toNat .top).cells.length==3&&ef [Sh.list 3,Sh.int .i64,Sh.int .i64] (b.getD k.toNat .top).cells 0)
def xJ{T:Type}(b:LA)(c:Nat)(i k:Int)(a:LA)(δ:T)(κl:(Nat×Int×Int×LA)->T):T:=br (bX b k) (br (AE b k) (br (iH c a 1 40) (κl (c+1,i,i64.wrap (k+1),a++[AV.agg [AV.list 3 (gC b k 0).toList,AV.int .i64 (gC b k 1).toInt,AV.int .i64 (gC b k 2).toInt]])) δ) δ) δ
def xK{T:Type}(a:LA)(c:Nat)(i k:Int)(b:LA)(δ:T)(κl:(Nat×Int×Int×LA)->T):T:=br (bX a i) (br (AD a i) (br (iH c b 1 40) (κl (c+1,i64.wrap (i+1),k,b++[AV.agg [AV.list 3 (gC a i 0).toList,AV.int .i64 (gC a i 1).toInt,AV.int .i64 (gC a i 2).toInt]])) δ) δ) δ
def xI{T:Type}(a b:LA)(d:Nat)(i k:Int)(c:LA)(δ:T)(κl:(Nat×Int×Int×LA)->T):T:=br (i==(↑a.length:Int)) (xJ b d i k c δ κl) (br (decide (k<b.length)) (br (bX b k) (br (dG b k (Sh.list 3) 0) (br (bX a i) (br (dG a i (Sh.list 3) 0) (br ((oB (gC b k 0).toList (gC a i 0).toList).isSome) (br (AC a b i k) (xJ b d i k c δ κl) (xK a d i k c δ κl)) δ) δ) δ) δ) δ) (xK a d i k c δ κl))
def xS{T:Type}(a b:LA)(d:Nat)(i k:Int)(c:LA)(δ:T)(κl:(Nat×Int×Int×LA)->T)(κr:(Nat×LA)->T):T:=br (decide (i<a.length)) (xI a b d i k c δ κl) (br (decide (k<b.length)) (xI a b d i k c δ κl) (κr (d,c)))
def s7(a b:LA):cS (Nat×Int×Int×LA) (Nat×LA):=λ(d,i,k,c)=>xS a b d i k c none inL inR
def XK:=Vx.l 61 0 [] [] Tryz.f135 0 lk0 [0,1,5,6,7] [5] [(5,3,54)] (q5 (qL 3) (qL 3) (cJ 0 0 0) qI qI) (q1 (qB 0 3 54 bG)) (λ(a,b,d,i,k,_) (c,_)=>(s7 a b,(d,i,k,c),λ p=>(.leaf (.exit 0) [AV.osl 0 0 0 p.1] [bF 0 3 54 p.2]))) (0,[]) λ(a,b,_,_,_,_) _ (d,i,k,c)=>(((a,b,d,i,k,()),(c,())),xS a b d i k c none)
def OP(a b:LA):=aB (s7 a b) (0,0,0,[])
def D0(a b:LA):=(OP a b).getD (0,[])
def O8{T:Type}(a b:LA)(δ:T)(κ:LA->T):T:=br ((OP a b).isSome) (br (decide (0+((D0 a b).fst)<=((D0 a b).snd).length)&&true) (κ (List.take ((D0 a b).fst) (List.drop 0 ((D0 a b).snd)))) δ) δ
def PY(a b:LA):=O8 a b none some
def KH:EO:=Vx.f Tryz.func135 61 0 [] [(3,XK.lp)] (fh XK.ok) (u2 (uL 3) (uL 3)) (λ(a,b,_) _=>O8 a b) (λ _ p=>AV.list 3 p) []
def NW(R:LA->Option (LA)):LA->Option (Bool×AV):=kr (cY (mL 3 bG) jj) λ(l,_)=>((R l).isSome,AV.list 3 ((R l).getD []))
def Hc(R:LA->Option (LA)):Prop:=iz P0 xO6 104 (NW R)
def Be(R:LA->Option (LA)):dp:=(KH.E.with 104 (NW R)).fn 20 0 (eX []) (jL [])
def xul(R:LA->Option (LA))(a:Hc R):dA P0 (xO6.at 0) (Be R):=(KH.ok.with a).fn
def xsL(R:LA->Option (LA))(a:Hc R):dw P0 (xO6.at (Be R).pin) (Be R) (Tryz.f104.body.getD .skip):=pM Θ
def Oq(l:LA):=decide (0<=i64.wrap ((↑l.length:Int).tdiv 2))&&decide (i64.wrap ((↑l.length:Int).tdiv 2)<=(↑l.length:Int))
def Ot(R:LA->Option (LA))(l:LA):Option (LA):=R (List.take (l.length - (i64.wrap ((↑l.length:Int).tdiv 2)).toNat) (List.drop (i64.wrap ((↑l.length:Int).tdiv 2)).toNat l))
def Oo(R:LA->Option (LA))(l:LA):Option (LA):=PY ((R (List.take ((i64.wrap ((↑l.length:Int).tdiv 2)).toNat - 0) (List.drop 0 l))).getD []) ((Ot R l).getD [])
def Bv{T:Type}(R:LA->Option (LA))(l:LA)(δ:T)(κ:LA->T):T:=br (decide ((↑l.length:Int)<2)) (κ (l)) (br (Oq l&&true) (br ((R (List.take ((i64.wrap ((↑l.length:Int).tdiv 2)).toNat - 0) (List.drop 0 l))).isSome) (br (Oq l) (br ((Ot R l).isSome) (br ((Oo R l).isSome) (κ ((Oo R l).getD [])) δ) δ) δ) δ) δ)
def qR(R:LA->Option (LA))(l:LA):=Bv R l none some
def xyu(R:LA->Option (LA))(l:LA):dQ (λ(p:LA)=>((AV.list 3 p):AV)) (qR R l) (XF P0 (Be R) Tryz.f104 (Tryz.f104.body.getD .skip) [AV.list 3 l]):=by(have h:XF P0 (Be R) Tryz.f104 (Tryz.f104.body.getD .skip) [AV.list 3 l]=Bv R l none (λ(p:LA)=>some ((AV.list 3 p):AV)):=by kernel_rfl);rw[h];unfold qR Bv;repeat' (first|refine dQ.br ?_ ?_|exact dQ.none|exact dQ.some rfl)
def xyt(R:LA->Option (LA)):LA->Option (Bool×AV):=kr (cY (mL 3 bG) jj) λ(l,_)=>((qR R l).isSome,(AV.list 3 ((qR R l).getD [])))
def xys(R:LA->Option (LA))(a:Hc R):iz P0 xO6 104 (xyt R):=tK λ e g f=>by obtain⟨l,_⟩:=e;obtain⟨b,c⟩:=Prod.mk.inj f;refine yr (p:=(Be R).pin) (Ce xOz (xOA P0 _) rfl (xul R a) Tryz.func104 rfl Θ (xsL R a) ((xyu R _ _ (qS (d:=[]) b)).trans ?_));exact congrArg some c
def rd:Nat->LA->Option (LA)|0=>λ _=>none|fu_+1=>λ l=>qR (rd fu_) l
def XL:∀n,Hc (rd n)|0=>tK λ _ _ h=>absurd (Prod.mk.inj h).1 Bool.false_ne_true|fu_+1=>λ a r h=>xys (rd fu_) (XL fu_) a r h
def Vy:dp:=KH.E.with 104 (NW (rd 100))
def xFq:dA P0 xO6 Vy:=KH.ok.with (XL _)
def xFp:EO:=EO.mk Vy xFq
def u9(a b:Int):Bool:=(br (decide (a>=0)) (br (decide (a<b)) ((decide (b<=1099511627776))) ((false))) ((false)))
def xAC{T:Type}(a b:Int)(δ:T)(κ:Bool->T):T:=br (decide (a>=0)) (br (decide (a<b)) (κ (decide (b<=1099511627776))) (κ (false))) (κ (false))
def xKu:EO:=xFp.fT Tryz.func83 18 0 [] [] lk0 (λ((a,b,_),_)=>xAC a b none) (u1 (fO (u2 uI uI))) (λ((a,b,_),_)=>u9 a b) (λ _ p=>(AV.bool p))
def IZ(a b t:Int):Bool:=(br (u9 a b) (br (decide (a<=t)) ((decide (t<b))) ((false))) ((false)))
def xws{T:Type}(a b t:Int)(δ:T)(κ:Bool->T):T:=br (u9 a b) (br (decide (a<=t)) (κ (decide (t<b))) (κ (false))) (κ (false))
def xKv:EO:=xKu.fT Tryz.func72 19 0 [] [] lk0 (λ((a,b,_),t,_)=>xws a b t none) (u2 (fO (u2 uI uI)) uI) (λ((a,b,_),t,_)=>IZ a b t) (λ _ p=>(AV.bool p))
def I5(a b c d:Int):Int:=(br (a==c&&(b==d&&true)) ((0)) (br (decide (a<c)) (((-1))) (br (a==c) (br (decide (b<d)) (((-1))) ((1))) ((1)))))
def xyo{T:Type}(a b c d:Int)(δ:T)(κ:Int->T):T:=br (a==c&&(b==d&&true)) (κ (0)) (br (decide (a<c)) (κ ((-1))) (br (a==c) (br (decide (b<d)) (κ ((-1))) (κ (1))) (κ (1))))
def xIX:EO:=xKv.fT Tryz.func125 27 0 [] [] lk0 (λ((a,b,_),(c,d,_),_)=>xyo a b c d none) (u2 (fO (u2 uI uI)) (fO (u2 uI uI))) (λ((a,b,_),(c,d,_),_)=>I5 a b c d) (λ _ p=>(AV.int .i64 p))
def xET:Int×Int×List UInt8:=((0,0,[]))
def xBY{T:Type}(δ:T)(κ:Int×Int×List UInt8->T):T:=κ (0,0,[])
def xIY:EO:=xIX.fT Tryz.func203 2 0 [] [] lk0 (λ _=>xBY none) jj (λ _=>xET) (λ _ p=>(AV.agg [AV.int .i64 p.1,AV.int .i64 p.2.1,AV.str p.2.2]))
def xyr{T:Type}(a:LA)(i:Int)(δ:T)(κ:Int×Int×List UInt8->T):T:=br (decide (i<0)) (κ (0,0,[])) (br (decide (i>=a.length)) (κ (0,0,[])) (br (bX a i) (br (jl a i 3 [Sh.int .i64,Sh.int .i64,Sh.str] 0) (κ ((gC a i 0).toInt,(gC a i 1).toInt,(gC a i 2).toStr)) δ) δ))
def Kg(a:LA)(i:Int):=xyr a i none some
def T3:EO:=xIY.f Tryz.func179 18 0 [] [] lk0 (u2 (uL 3) uI) (λ(a,i,_) _=>xyr a i) (λ _ p=>AV.agg [AV.int .i64 p.1,AV.int .i64 p.2.1,AV.str p.2.2]) (0,0,[])
def NU(b o:LA)(i:Int):=(Kg b (gC o i 0).toInt).getD (0,0,[])
def NV(a o:LA)(i:Int):=(Kg a (gC o i 0).toInt).getD (0,0,[])
def XE(a b o:LA)(i:Int):=BA (NV a o i).fst ((NV a o i).snd).fst ((NV a o i).snd).snd (NU b o i).fst ((NU b o i).snd).fst ((NU b o i).snd).snd
def Ob{T:Type}(a b o:LA)(i:Int)(δ:T)(κl:(Int)->T)(κr:(Bool×(Bool)×(Unit))->T):T:=br (decide (i<o.length)) (br (bX o i) (br (dG o i (Sh.int .i64) 0) (br ((Kg a (gC o i 0).toInt).isSome) (br (bX o i) (br (dG o i (Sh.int .i64) 0) (br ((Kg b (gC o i 0).toInt).isSome) (br (XE a b o i !=0) (br (bX o i) (br (decide (i.toNat<o.length)&&cX Sh.bool (gC o i 1)) (κr (true,(!decide (XE a b o i<0)==(gC o i 1).toBool),())) δ) δ) (κl (i64.wrap (i+1)))) δ) δ) δ) δ) δ) δ) (κr (false,false,()))
def Ap(a b o:LA):cS (Int) (Bool×(Bool)×(Unit)):=λ(i)=>Ob a b o i none inL inR
def XD:=T3.l 44 0 [] [] Tryz.f150 0 lk0 [0,1,2,7] [0,1,6] [] (q4 (qL 3) (qL 3) (qL 2) qI) bT (λ(a,b,o,i,_) _=>(Ap a b o,(i),λ p=>(.node p.1 (.leaf .ret [AV.list 3 a,AV.list 3 b,AV.bool p.2.1] []) (.leaf (.exit 0) [AV.list 3 a,AV.list 3 b,.top] [])))) (false,false,()) λ(a,b,o,_,_) _ (i)=>(((a,b,o,i,()),()),Ob a b o i none)
def Pq{T:Type}(a b o:LA)(δ:T)(κ:Bool->T):T:=br ((aB (Ap a b o) 0).isSome) (br (((aB (Ap a b o) 0).getD (false,false,())).fst) (κ (((aB (Ap a b o) 0).getD (false,false,())).snd.fst)) (br ((oB a b).isSome) (κ (decide ((oB a b).getD 0<0))) δ)) δ
def Jj(a b o:LA):=Pq a b o none some
def UI:EO:=T3.f Tryz.func150 44 0 [] [(2,XD.lp)] (fh XD.ok) (u3 (uL 3) (uL 3) (uL 2)) (λ(a,b,o,_) _=>Pq a b o) (λ _ p=>AV.bool p) false
def xG{T:Type}(b:LA)(c:Nat)(i k:Int)(a:LA)(δ:T)(κl:(Nat×Int×Int×LA)->T):T:=br (bX b k) (br (dG b k (Sh.list 3) 0) (br (iH c a 1 24) (κl (c+1,i,i64.wrap (k+1),a++[AV.list 3 (gC b k 0).toList])) δ) δ) δ
def xH{T:Type}(a:LA)(c:Nat)(i k:Int)(b:LA)(δ:T)(κl:(Nat×Int×Int×LA)->T):T:=br (bX a i) (br (dG a i (Sh.list 3) 0) (br (iH c b 1 24) (κl (c+1,i64.wrap (i+1),k,b++[AV.list 3 (gC a i 0).toList])) δ) δ) δ
def xF{T:Type}(a b o:LA)(d:Nat)(i k:Int)(c:LA)(δ:T)(κl:(Nat×Int×Int×LA)->T):T:=br (i==(↑a.length:Int)) (xG b d i k c δ κl) (br (decide (k<b.length)) (br (bX b k) (br (dG b k (Sh.list 3) 0) (br (bX a i) (br (dG a i (Sh.list 3) 0) (br ((Jj (gC b k 0).toList (gC a i 0).toList o).isSome) (br ((Jj (gC b k 0).toList (gC a i 0).toList o).getD false) (xG b d i k c δ κl) (xH a d i k c δ κl)) δ) δ) δ) δ) δ) (xH a d i k c δ κl))
def xR{T:Type}(a b o:LA)(d:Nat)(i k:Int)(c:LA)(δ:T)(κl:(Nat×Int×Int×LA)->T)(κr:(Nat×LA)->T):T:=br (decide (i<a.length)) (xF a b o d i k c δ κl) (br (decide (k<b.length)) (xF a b o d i k c δ κl) (κr (d,c)))
def s6(a b o:LA):cS (Nat×Int×Int×LA) (Nat×LA):=λ(d,i,k,c)=>xR a b o d i k c none inL inR
def XG:=UI.l 62 0 [] [] Tryz.f133 0 lk0 [0,1,2,7,8,9] [7] [(7,1,47)] (q6 (qL 1) (qL 1) (qL 2) (cJ 0 0 0) qI qI) (q1 (qB 0 1 47 bG)) (λ(a,b,o,d,i,k,_) (c,_)=>(s6 a b o,(d,i,k,c),λ p=>(.leaf (.exit 0) [AV.osl 0 0 0 p.1] [bF 0 1 47 p.2]))) (0,[]) λ(a,b,o,_,_,_,_) _ (d,i,k,c)=>(((a,b,o,d,i,k,()),(c,())),xR a b o d i k c none)
def Bt(a b o:LA):=aB (s6 a b o) (0,0,0,[])
def Pr{T:Type}(a b o:LA)(δ:T)(κ:LA->T):T:=br ((Bt a b o).isSome) (br (decide (0+(((Bt a b o).getD (0,[])).fst)<=(((Bt a b o).getD (0,[])).snd).length)&&true) (κ (List.take (((Bt a b o).getD (0,[])).fst) (List.drop 0 (((Bt a b o).getD (0,[])).snd)))) δ) δ
def PW(a b o:LA):=Pr a b o none some
def Ku:EO:=UI.f Tryz.func133 62 0 [] [(3,XG.lp)] (fh XG.ok) (u3 (uL 1) (uL 1) (uL 2)) (λ(a,b,o,_) _=>Pr a b o) (λ _ p=>AV.list 1 p) []
def On(R:LA->LA->Option (LA)):LA->Option (Bool×AV):=kr (cY (mL 1 bG) (cY (mL 2 bG) jj)) λ(l,(o,_))=>((R l o).isSome,AV.list 1 ((R l o).getD []))
def Hs(R:LA->LA->Option (LA)):Prop:=iz P0 xO6 101 (On R)
def BF(R:LA->LA->Option (LA)):dp:=(Ku.E.with 101 (On R)).fn 34 0 (eX []) (jL [])
def xvt(R:LA->LA->Option (LA))(a:Hs R):dA P0 (xO6.at 0) (BF R):=(Ku.ok.with a).fn
def xtK(R:LA->LA->Option (LA))(a:Hs R):dw P0 (xO6.at (BF R).pin) (BF R) (Tryz.f101.body.getD .skip):=pM Θ
def D4(l:LA):=decide (0<=i64.wrap ((↑l.length:Int).tdiv 2))&&decide (i64.wrap ((↑l.length:Int).tdiv 2)<=(↑l.length:Int))
def xT(l:LA):Nat:=0+((l.getD 0 .top).cells.getD 0 .top).toList.length
def D5(R:LA->LA->Option (LA))(l o:LA):Option (LA):=R (List.take (l.length - (i64.wrap ((↑l.length:Int).tdiv 2)).toNat) (List.drop (i64.wrap ((↑l.length:Int).tdiv 2)).toNat l)) o
def Ej(R:LA->LA->Option (LA))(l o:LA):Option (LA):=PW ((R (List.take ((i64.wrap ((↑l.length:Int).tdiv 2)).toNat - 0) (List.drop 0 l)) o).getD []) ((D5 R l o).getD []) o
def uP{T:Type}(R:LA->LA->Option (LA))(l o:LA)(δ:T)(κ:LA->T):T:=br ((↑l.length:Int)==0) (κ ([])) (br ((↑l.length:Int)==1) (br (decide (0<(↑l.length:Int))) (br (decide (0<l.length)&&cX (Sh.list 3) ((l.getD 0 .top).cells.getD 0 .top)) (br (decide (xT l*32<=140737488355328)&&decide (xT l<=4611686018427387904)) (br (decide (0+xT l<=([]++((l.getD 0 .top).cells.getD 0 .top).toList).length)&&true&&true&&true) (κ ([AV.list 3 (List.take (xT l) (List.drop 0 ([]++((l.getD 0 .top).cells.getD 0 .top).toList)))])) δ) δ) δ) δ) (br (D4 l&&true) (br ((R (List.take ((i64.wrap ((↑l.length:Int).tdiv 2)).toNat - 0) (List.drop 0 l)) o).isSome) (br (D4 l) (br ((D5 R l o).isSome) (br ((Ej R l o).isSome) (κ ((Ej R l o).getD [])) δ) δ) δ) δ) δ))
def oD(R:LA->LA->Option (LA))(l o:LA):=uP R l o none some
def xAG(R:LA->LA->Option (LA))(l o:LA):dQ (λ(p:LA)=>((AV.list 1 p):AV)) (oD R l o) (XF P0 (BF R) Tryz.f101 (Tryz.f101.body.getD .skip) [AV.list 1 l,AV.list 2 o]):=by(have h:XF P0 (BF R) Tryz.f101 (Tryz.f101.body.getD .skip) [AV.list 1 l,AV.list 2 o]=uP R l o none (λ(p:LA)=>some ((AV.list 1 p):AV)):=by kernel_rfl);rw[h];unfold oD uP;repeat' (first|refine dQ.br ?_ ?_|exact dQ.none|exact dQ.some rfl)
def xAF(R:LA->LA->Option (LA)):LA->Option (Bool×AV):=kr (cY (mL 1 bG) (cY (mL 2 bG) jj)) λ(l,(o,_))=>((oD R l o).isSome,(AV.list 1 ((oD R l o).getD [])))
def xAE(R:LA->LA->Option (LA))(a:Hs R):iz P0 xO6 101 (xAF R):=tK λ e g f=>by obtain⟨l,⟨o,_⟩⟩:=e;obtain⟨b,c⟩:=Prod.mk.inj f;refine yr (p:=(BF R).pin) (Ce xOz (xOA P0 _) rfl (xvt R a) Tryz.func101 rfl Θ (xtK R a) ((xAG R _ _ _ (qS (d:=[]) b)).trans ?_));exact congrArg some c
def pE:Nat->LA->LA->Option (LA)|0=>λ _ _=>none|fu_+1=>λ l o=>oD (pE fu_) l o
def Yf:∀n,Hs (pE n)|0=>tK λ _ _ h=>absurd (Prod.mk.inj h).1 Bool.false_ne_true|fu_+1=>λ a r h=>xAE (pE fu_) (Yf fu_) a r h
def UJ:dp:=Ku.E.with 101 (On (pE 1000))
def xEc:dA P0 xO6 UJ:=Ku.ok.with (Yf _)
def xEb:EO:=EO.mk UJ xEc
def PV{T:Type}(l:LA)(δ:T)(κ:LA->T):T:=br ((pE 1000 l []).isSome) (κ ((pE 1000 l []).getD [])) δ
def Fa(l:LA):=PV l none some
def UK:EO:=xEb.f Tryz.func67 5 0 [] [] lk0 (u1 (uL 1)) (λ(l,_) _=>PV l) (λ _ p=>AV.list 1 p) []
def G3(a:LA)(i:Int):=Qt ((a.getD (i64.wrap (i - 1)).toNat .top).cells.getD 0 .top).toList (gC a i 0).toList
def Dm{T:Type}(c:LA)(b:Nat)(i:Int)(a:LA)(δ:T)(κl:(Nat×Int×LA)->T):T:=br (bX c i) (br (dG c i (Sh.list 3) 0) (br (iH b a 1 24) (κl (b+1,i64.wrap (i+1),a++[AV.list 3 (gC c i 0).toList])) δ) δ) δ
def Dx{T:Type}(a:LA)(c:Nat)(i:Int)(b:LA)(δ:T)(κl:(Nat×Int×LA)->T)(κr:(Nat×LA)->T):T:=br (decide (i<a.length)) (br (i==0) (Dm a c i b δ κl) (br (decide (0<=i64.wrap (i - 1))&&decide (i64.wrap (i - 1)<(↑a.length:Int))) (br (decide ((i64.wrap (i - 1)).toNat<a.length)&&cX (Sh.list 3) ((a.getD (i64.wrap (i - 1)).toNat .top).cells.getD 0 .top)) (br (bX a i) (br (dG a i (Sh.list 3) 0) (br ((G3 a i).isSome) (br (!(G3 a i).getD false) (Dm a c i b δ κl) (κl (c,i64.wrap (i+1),b))) δ) δ) δ) δ) δ)) (κr (c,b))
def xy(c:LA):cS (Nat×Int×LA) (Nat×LA):=λ(b,i,a)=>Dx c b i a none inL inR
def Xz:=UK.l 38 0 [] [] Tryz.f70 0 lk0 [3,4,5] [4] [(4,1,47)] (q3 (qL 1) (cJ 0 0 0) qI) (q1 (qB 0 1 47 bG)) (λ(c,b,i,_) (a,_)=>(xy c,(b,i,a),λ p=>(.leaf (.exit 0) [AV.osl 0 0 0 p.1] [bF 0 1 47 p.2]))) (0,[]) λ(c,_,_,_) _ (b,i,a)=>(((c,b,i,()),(a,())),Dx c b i a none)
def DA(l:LA):=(aB (xy ((Fa l).getD [])) (0,0,[])).getD (0,[])
def OG{T:Type}(l:LA)(δ:T)(κ:LA->T):T:=br ((Fa l).isSome) (br ((aB (xy ((Fa l).getD [])) (0,0,[])).isSome) (br (decide (0+((DA l).fst)<=((DA l).snd).length)&&true) (κ (List.take ((DA l).fst) (List.drop 0 ((DA l).snd)))) δ) δ) δ
def Pp(l:LA):=OG l none some
def UL:EO:=UK.f Tryz.func70 38 0 [] [(4,Xz.lp)] (fh Xz.ok) (u1 (uL 1)) (λ(l,_) _=>OG l) (λ _ p=>AV.list 1 p) []
def HZ{T:Type}(l:LA)(b:Nat)(i:Int)(a:LA)(δ:T)(κl:(Nat×Int×LA)->T)(κr:(Nat×LA)->T):T:=br (decide (i<l.length)) (br (bX l i) (br (jl l i 3 [Sh.int .i64,Sh.int .i64] 1) (br (u9 (gC l i 1).toInt (gC l i 2).toInt) (br (bX l i) (br (dG l i (Sh.list 3) 0) (br (iH b a 1 24) (κl (b+1,i64.wrap (i+1),a++[AV.list 3 (gC l i 0).toList])) δ) δ) δ) (κl (b,i64.wrap (i+1),a))) δ) δ) (κr (b,a))
def AB(l:LA):cS (Nat×Int×LA) (Nat×LA):=λ(b,i,a)=>HZ l b i a none inL inR
def Yg:=UL.l 27 0 [] [] Tryz.f48 0 lk0 [0,3,4] [3] [(3,1,47)] (q3 (qL 3) (cJ 0 0 0) qI) (q1 (qB 0 1 47 bG)) (λ(l,b,i,_) (a,_)=>(AB l,(b,i,a),λ p=>(.leaf (.exit 0) [AV.osl 0 0 0 p.1] [bF 0 1 47 p.2]))) (0,[]) λ(l,_,_,_) _ (b,i,a)=>(((l,b,i,()),(a,())),HZ l b i a none)
def Ep(l:LA):=(aB (AB l) (0,0,[])).getD (0,[])
def PP(l:LA):=Pp (List.take ((Ep l).fst) (List.drop 0 ((Ep l).snd)))
def PX{T:Type}(l:LA)(δ:T)(κ:LA->T):T:=br ((aB (AB l) (0,0,[])).isSome) (br (decide (0+((Ep l).fst)<=((Ep l).snd).length)&&true) (br ((PP l).isSome) (κ ((PP l).getD [])) δ) δ) δ
def vh(l:LA):=PX l none some
def Sb:EO:=UL.f Tryz.func48 27 0 [] [(3,Yg.lp)] (fh Yg.ok) (u1 (uL 3)) (λ(l,_) _=>PX l) (λ _ p=>AV.list 1 p) []
def By:dp:=Sb.E.fn 51 1 (eX []) (jL [])
def xwt:dA P0 (xO6.at 1) By:=Sb.ok.fn
def xuk:dw P0 (xO6.at By.pin) By (Tryz.f124.body.getD .skip):=pM Θ
def tq(k:Nat)(a:LA):=(List.take ((i64.wrap ((↑k:Int) - 1)).toNat - 0) (List.drop 0 a)).length
def I7(k:Nat)(a:LA):=decide (0+(i64.wrap ((↑k:Int) - 1)).toNat<a.length)
def El(k:Nat)(a:LA):=((a.getD (0+(i64.wrap ((↑k:Int) - 1)).toNat) .top).cells.getD 1 .top).toInt
def I8(k:Nat):=decide (0<=i64.wrap ((↑k:Int) - 1))
def Ek(k:Nat):=I8 k&&decide (i64.wrap ((↑k:Int) - 1)<(↑k:Int))
def I6(k:Nat)(a:LA):=I7 k a&&cX (Sh.int .i64) ((a.getD (0+(i64.wrap ((↑k:Int) - 1)).toNat) .top).cells.getD 1 .top)
def Ee{T:Type}(k:Nat)(a b:Int)(c:LA)(δ:T)(κ:Bool×(Nat×LA×LA)×(Nat×LA)->T):T:=br (iH k c 1 16) (κ (false,(0,[],[]),(k+1,c++[AV.agg [AV.int .i64 a,AV.int .i64 b]]))) δ
def Ex{T:Type}(k:Nat)(b c:Int)(a:LA)(δ:T)(κ:Bool×(Nat×LA×LA)×(Nat×LA)->T):T:=br (decide ((↑k:Int)>0)) (br (Ek k) (br (I6 k a) (br (decide (El k a>=b)) (br (I8 k&&decide (i64.wrap ((↑k:Int) - 1)<=(↑k:Int))&&true) (br (decide (0+((i64.wrap ((↑k:Int) - 1)).toNat - 0)<=a.length)&&(decide (tq k a*16<=140737488355328)&&decide (tq k a<=4611686018427387904))) (br (Ek k) (br (I7 k a&&cX (Sh.int .i64) ((a.getD (0+(i64.wrap ((↑k:Int) - 1)).toNat) .top).cells.getD 0 .top)) (br (Ek k) (br (I6 k a) (br (tq k a==tq k a&&(decide ((tq k a+1)*16<=140737488355328)&&decide (tq k a+1<=4611686018427387904))) (κ (true,(tq k a+1,a,List.take ((i64.wrap ((↑k:Int) - 1)).toNat - 0) (List.drop 0 a)++[AV.agg [AV.int .i64 ((a.getD (0+(i64.wrap ((↑k:Int) - 1)).toNat) .top).cells.getD 0 .top).toInt,AV.int .i64 (if c>El k a then c else El k a)]]),(0,[]))) δ) δ) δ) δ) δ) δ) δ) (Ee k b c a δ κ)) δ) δ) (Ee k b c a δ κ)
def mY(k:Nat)(a b:Int)(c:LA):=Ex k a b c none some
def xBX(k:Nat)(a b:Int)(xs:LA):dQ (λ(p:Bool×(Nat×LA×LA)×(Nat×LA))=>((br p.1 ((AV.osl 1 0 0 p.2.1.1,([⟨0,2,52,p.2.1.2.1,false,true⟩,⟨0,2,52,p.2.1.2.2,false,true⟩]:List aC))) ((AV.osl 0 1 0 p.2.2.1,([⟨1,2,52,p.2.2.2,false,true⟩]:List aC)))):(AV×List aC))) (mY k a b xs) (mQ P0 By Tryz.f124 (Tryz.f124.body.getD .skip) [AV.osl (0:Id) 0 0 k,AV.agg [AV.int .i64 a,AV.int .i64 b]] [{ver:=0,sz:=2,ty:=(52:TypeId),xs:=xs,frz:=false,pm:=true}]):=by(have h:mQ P0 By Tryz.f124 (Tryz.f124.body.getD .skip) [AV.osl (0:Id) 0 0 k,AV.agg [AV.int .i64 a,AV.int .i64 b]] [{ver:=0,sz:=2,ty:=(52:TypeId),xs:=xs,frz:=false,pm:=true}]=Ex k a b xs none (λ(p:Bool×(Nat×LA×LA)×(Nat×LA))=>some ((br p.1 ((AV.osl 1 0 0 p.2.1.1,([⟨0,2,52,p.2.1.2.1,false,true⟩,⟨0,2,52,p.2.1.2.2,false,true⟩]:List aC))) ((AV.osl 0 1 0 p.2.2.1,([⟨1,2,52,p.2.2.2,false,true⟩]:List aC)))):(AV×List aC))):=by kernel_rfl);rw[h];unfold mY Ex Ee;repeat' (first|refine dQ.br ?_ ?_|exact dQ.none|exact dQ.some rfl)
def xBW:LA->List aC->Option (Bool×AV×List aC):=ju (cY (sEq (cJ 0 0 0)) (cY (fO (cY (sEq (pInt .i64)) (cY (sEq (pInt .i64)) jj))) jj)) (bL (fY 0 2 (52:TypeId) false true bG) bT) λ(k,((a,(b,_)),_)) (c,_)=>((mY k a b c).isSome,(AV.osl 1 0 0 (br ((mY k a b c).getD (false,(0,[],[]),(0,[]))).1 ((mY k a b c).getD (false,(0,[],[]),(0,[]))).2.1.1 ((mY k a b c).getD (false,(0,[],[]),(0,[]))).2.2.1),([⟨2,2,52,[],false,true⟩,⟨0,2,52,br ((mY k a b c).getD (false,(0,[],[]),(0,[]))).1 ((mY k a b c).getD (false,(0,[],[]),(0,[]))).2.1.2.2 ((mY k a b c).getD (false,(0,[],[]),(0,[]))).2.2.2,false,true⟩]:List aC)))
def xBV:fP P0 xO6 124 (xBW):=rt λ e f j h g=>by obtain⟨k,⟨⟨c,⟨i,_⟩⟩,_⟩⟩:=e;obtain⟨l,_⟩:=f;obtain⟨b,a⟩:=Prod.mk.inj g;have hx:=xBX _ _ _ _ _ (qS (d:=(false,(0,[],[]),(0,[]))) b);revert hx a;generalize ((mY _ _ _ _).getD (false,(0,[],[]),(0,[])))=p;intro a hx;obtain⟨rfl,rfl⟩:=Prod.mk.inj a;obtain⟨t,⟨m,n,o⟩,q,r⟩:=p;have hg:bH P0 xO6 124 _ _ _ _:=yn (p:=By.pin) (ym xOz (xOA P0 _) rfl xwt rfl Tryz.func124 rfl Θ xuk hx);cases t;exact bH.move0 rfl (by decide) hg;exact bH.drop0 rfl (by decide) hg
def MD:EO:=Sb.wM xBV
def Dz{T:Type}(l:LA)(n:Int)(b:Nat)(i:Int)(a:LA)(δ:T)(κl:(Nat×Int×LA)->T)(κr:(Nat×Int×LA)->T):T:=br (decide (i<l.length)) (br (bX l i) (br (dG l i (Sh.int .i64) 0) (br (decide ((gC l i 0).toInt<n)) (br (bX l i) (br (dG l i (Sh.int .i64) 0) (br (iH b a 1 8) (κl (b+1,i64.wrap (i+1),a++[AV.int .i64 (gC l i 0).toInt])) δ) δ) δ) (κr (b,i,a))) δ) δ) (κr (b,i,a))
def xj(l:LA)(n:Int):cS (Nat×Int×LA) (Nat×Int×LA):=λ(b,i,a)=>Dz l n b i a none inL inR
def NT:=MD.l 58 0 [] [] Tryz.f120 0 lk0 [0,1,5,6] [0,1,5,6] [(5,1,3)] (q4 (qL 1) qI (cJ 0 0 0) qI) (q1 (qB 0 1 3 bG)) (λ(l,n,b,i,_) (a,_)=>(xj l n,(b,i,a),λ p=>(.leaf (.exit 0) [AV.list 1 l,AV.int .i64 n,AV.osl 0 0 0 p.1,AV.int .i64 p.2.1] [bF 0 1 3 p.2.2]))) (0,0,[]) λ(l,n,_,_,_) _ (b,i,a)=>(((l,n,b,i,()),(a,())),Dz l n b i a none)
def Hn{T:Type}(l:LA)(b:Nat)(i:Int)(a:LA)(δ:T)(κl:(Nat×Int×LA)->T)(κr:(Nat×LA)->T):T:=br (decide (i<l.length)) (br (bX l i) (br (dG l i (Sh.int .i64) 0) (br (iH b a 1 8) (κl (b+1,i64.wrap (i+1),a++[AV.int .i64 (gC l i 0).toInt])) δ) δ) δ) (κr (b,a))
def xl(l:LA):cS (Nat×Int×LA) (Nat×LA):=λ(b,i,a)=>Hn l b i a none inL inR
def XT:=MD.l 58 0 [] [(3,NT.lp)] Tryz.f120 1 lk0 [0,5,6] [5] [(5,1,3)] (q3 (qL 1) (cJ 0 0 0) qI) (q1 (qB 0 1 3 bG)) (λ(l,b,i,_) (a,_)=>(xl l,(b,i,a),λ p=>(.leaf (.exit 2) [AV.osl 0 0 0 p.1] [bF 0 1 3 p.2]))) (0,[]) λ(l,_,_,_) _ (b,i,a)=>(((l,b,i,()),(a,())),Hn l b i a none)
def rT(l:LA)(n:Int):=(aB (xj l n) (0,0,[])).getD (0,0,[])
def qW(l:LA)(n:Int):=((rT l n).snd).fst
def AX(l:LA)(n:Int):=((rT l n).fst)+1
def DN(l:LA)(n:Int):=aB (xl l) (AX l n,qW l n,(((rT l n).snd).snd)++[AV.int .i64 n])
def DO(l:LA)(n:Int):=aB (xl l) (((rT l n).fst),qW l n,(((rT l n).snd).snd))
def HI(l:LA)(n:Int):=((rT l n).fst)==(((rT l n).snd).snd).length
def xN(l:LA)(n:Int):=(DN l n).getD (0,[])
def xU(l:LA)(n:Int):=(DO l n).getD (0,[])
def OE{T:Type}(l:LA)(n:Int)(δ:T)(κ:LA->T):T:=br (HI l n&&(decide (AX l n*8<=140737488355328)&&decide (AX l n<=4611686018427387904))) (br ((DN l n).isSome) (br (decide (0+((xN l n).fst)<=((xN l n).snd).length)&&true) (κ (List.take ((xN l n).fst) (List.drop 0 ((xN l n).snd)))) δ) δ) δ
def Pk{T:Type}(l:LA)(n:Int)(δ:T)(κ:LA->T):T:=br ((aB (xj l n) (0,0,[])).isSome) (br (qW l n==(↑l.length:Int)) (OE l n δ κ) (br (decide (0<=qW l n)&&decide (qW l n<l.length)) (br (decide ((qW l n).toNat<l.length)&&cX (Sh.int .i64) ((l.getD (qW l n).toNat .top).cells.getD 0 .top)) (br (decide (((l.getD (qW l n).toNat .top).cells.getD 0 .top).toInt>n)) (OE l n δ κ) (br ((DO l n).isSome) (br (decide (0+((xU l n).fst)<=((xU l n).snd).length)&&true) (κ (List.take ((xU l n).fst) (List.drop 0 ((xU l n).snd)))) δ) δ)) δ) δ)) δ
def rh(l:LA)(n:Int):=Pk l n none some
def Mi:EO:=MD.f Tryz.func120 58 0 [] [(3,NT.lp),(8,XT.lp)] (lW (fp NT.ok (fp XT.ok kU))) (u2 (uL 1) uI) (λ(l,n,_) _=>Pk l n) (λ _ p=>AV.list 1 p) []
def BO:dp:=Mi.E.fn 28 1 (eX []) (jL [])
def xyp:dA P0 (xO6.at 1) BO:=Mi.ok.fn
def xuZ:dw P0 (xO6.at BO.pin) BO (Tryz.f121.body.getD .skip):=pM Θ
def Bz{T:Type}(k:Nat)(a n:Int)(b:LA)(δ:T)(κ:Bool×(Nat×LA)×(Nat×LA)->T):T:=br (iH k b 1 16) (κ (false,(0,[]),(k+1,b++[AV.agg [AV.int .i64 a,AV.int .i64 n]]))) δ
def BR{T:Type}(k:Nat)(a n:Int)(b:LA)(δ:T)(κ:Bool×(Nat×LA)×(Nat×LA)->T):T:=br (decide ((↑k:Int)>0)) (br (decide (0<=i64.wrap ((↑k:Int) - 1))&&decide (i64.wrap ((↑k:Int) - 1)<(↑k:Int))) (br (decide (0+(i64.wrap ((↑k:Int) - 1)).toNat<b.length)&&cX (Sh.int .i64) ((b.getD (0+(i64.wrap ((↑k:Int) - 1)).toNat) .top).cells.getD 1 .top)) (br (((b.getD (0+(i64.wrap ((↑k:Int) - 1)).toNat) .top).cells.getD 1 .top).toInt==n) (κ (true,(k,b),(0,[]))) (Bz k a n b δ κ)) δ) δ) (Bz k a n b δ κ)
def mZ(k:Nat)(a n:Int)(b:LA):=BR k a n b none some
def xCS(k:Nat)(a n:Int)(xs:LA):dQ (λ(p:Bool×(Nat×LA)×(Nat×LA))=>((br p.1 ((AV.osl 0 0 0 p.2.1.1,([⟨0,2,132,p.2.1.2,false,true⟩]:List aC))) ((AV.osl 0 1 0 p.2.2.1,([⟨1,2,132,p.2.2.2,false,true⟩]:List aC)))):(AV×List aC))) (mZ k a n xs) (mQ P0 BO Tryz.f121 (Tryz.f121.body.getD .skip) [AV.osl (0:Id) 0 0 k,AV.int .i64 a,AV.int .i64 n] [{ver:=0,sz:=2,ty:=(132:TypeId),xs:=xs,frz:=false,pm:=true}]):=by(have h:mQ P0 BO Tryz.f121 (Tryz.f121.body.getD .skip) [AV.osl (0:Id) 0 0 k,AV.int .i64 a,AV.int .i64 n] [{ver:=0,sz:=2,ty:=(132:TypeId),xs:=xs,frz:=false,pm:=true}]=BR k a n xs none (λ(p:Bool×(Nat×LA)×(Nat×LA))=>some ((br p.1 ((AV.osl 0 0 0 p.2.1.1,([⟨0,2,132,p.2.1.2,false,true⟩]:List aC))) ((AV.osl 0 1 0 p.2.2.1,([⟨1,2,132,p.2.2.2,false,true⟩]:List aC)))):(AV×List aC))):=by kernel_rfl);rw[h];unfold mZ BR Bz;repeat' (first|refine dQ.br ?_ ?_|exact dQ.none|exact dQ.some rfl)
def xCR:LA->List aC->Option (Bool×AV×List aC):=ju (cY (sEq (cJ 0 0 0)) (cY (sEq (pInt .i64)) (cY (sEq (pInt .i64)) jj))) (bL (fY 0 2 (132:TypeId) false true bG) bT) λ(k,(a,(n,_))) (b,_)=>((mZ k a n b).isSome,(AV.osl 0 1 0 (br ((mZ k a n b).getD (false,(0,[]),(0,[]))).1 ((mZ k a n b).getD (false,(0,[]),(0,[]))).2.1.1 ((mZ k a n b).getD (false,(0,[]),(0,[]))).2.2.1),([⟨1,2,132,(br ((mZ k a n b).getD (false,(0,[]),(0,[]))).1 ((mZ k a n b).getD (false,(0,[]),(0,[]))).2.1.2 ((mZ k a n b).getD (false,(0,[]),(0,[]))).2.2.2),false,true⟩]:List aC)))
def xCQ:fP P0 xO6 121 (xCR):=rt λ e f j i g=>by obtain⟨k,⟨b,⟨n,_⟩⟩⟩:=e;obtain⟨h,_⟩:=f;obtain⟨c,a⟩:=Prod.mk.inj g;have hx:=xCS _ _ _ _ _ (qS (d:=(false,(0,[]),(0,[]))) c);revert hx a;generalize ((mZ k b n h).getD (false,(0,[]),(0,[])))=p;intro a hx;obtain⟨rfl,rfl⟩:=Prod.mk.inj a;obtain⟨t,⟨l,m⟩,o,q⟩:=p;have hg:bH P0 xO6 121 _ _ _ _:=yn (p:=BO.pin) (ym xOz (xOA P0 _) rfl xyp rfl Tryz.func121 rfl Θ xuZ hx);cases t;exact hg;exact bH.bump1 rfl (by decide) hg
def KI:EO:=Mi.wM xCQ
def I9{T:Type}(l a:LA)(i:Int)(δ:T)(κl:(LA×Int)->T)(κr:(LA)->T):T:=br (decide (i<l.length)) (br (bX l i) (br (jl l i 3 [Sh.int .i64,Sh.int .i64] 0) (br (u9 (gC l i 0).toInt (gC l i 1).toInt) (br (bX l i) (br (dG l i (Sh.int .i64) 0) (br ((rh a (gC l i 0).toInt).isSome) (br (bX l i) (br (dG l i (Sh.int .i64) 1) (br ((rh ((rh a (gC l i 0).toInt).getD []) (gC l i 1).toInt).isSome) (κl ((rh ((rh a (gC l i 0).toInt).getD []) (gC l i 1).toInt).getD [],i64.wrap (i+1))) δ) δ) δ) δ) δ) δ) (κl (a,i64.wrap (i+1)))) δ) δ) (κr (a))
def AZ(l:LA):cS (LA×Int) (LA):=λ(a,i)=>I9 l a i none inL inR
def I1:=KI.l 82 0 [] [] Tryz.f85 0 lk0 [0,3,4] [0,3] [(3,1,1073741824)] (q3 (qL 3) (qL 1) qI) bT (λ(l,a,i,_) _=>(AZ l,(a,i),λ p=>(.leaf (.exit 0) [AV.list 3 l,AV.list 1 p] []))) [] λ(l,_,_,_) _ (a,i)=>(((l,a,i,()),()),I9 l a i none)
def Ja{T:Type}(l b:LA)(c:Nat)(k n i:Int)(a:LA)(δ:T)(κl:(Int×Int×LA)->T)(κr:(Int×LA)->T):T:=br (decide (i<l.length)) (br (bX l i) (br (jl l i 3 [Sh.int .i64,Sh.int .i64] 0) (br (bX b k) (br (dG b k (Sh.int .i64) 0) (br (IZ (gC l i 0).toInt (gC l i 1).toInt (gC b k 0).toInt) (br (bX l i) (br (dG l i (Sh.int .i64) 2) (κl (i64.wrap (n+(gC l i 2).toInt),i64.wrap (i+1),a)) δ) δ) (κl (n,i64.wrap (i+1),a))) δ) δ) δ) δ) (κr (n,a))
def Bb(l c:LA)(b:Nat)(k:Int):cS (Int×Int×LA) (Int×LA):=λ(n,i,a)=>Ja l c b k n i a none inL inR
def I2:=KI.l 82 0 [] [(3,I1.lp)] Tryz.f85 2 lk0 [0,3,5,6,7,8] [0,3,5,6,7] [(5,2,132),(3,1,1073741824)] (q6 (qL 3) (qL 1) (cJ 0 0 0) qI qI qI) (q1 (qB 0 2 132 bG)) (λ(l,c,a,k,n,i,_) (b,_)=>(Bb l c a k,(n,i,b),λ p=>(.leaf (.exit 4) [AV.list 3 l,AV.list 1 c,AV.osl 0 0 0 a,AV.int .i64 k,AV.int .i64 p.1] [bF 0 2 132 p.2]))) (0,[]) λ(l,c,a,k,_,_,_) _ (n,i,b)=>(((l,c,a,k,n,i,()),(b,())),Ja l c a k n i b none)
def Eg(l c:LA)(b:Nat)(k:Int)(a:LA):=(aB (Bb l c b k) (0,0,a)).getD (0,[])
def Ef(l c:LA)(a:Nat)(k:Int)(b:LA):=mZ a (gC c k 0).toInt (Eg l c a k b).fst (Eg l c a k b).snd
def tg(l c:LA)(b:Nat)(k:Int)(a:LA):=(Ef l c b k a).getD (false,(0,[]),0,[])
def Eo{T:Type}(l c:LA)(b:Nat)(k:Int)(a:LA)(δ:T)(κl:(Nat×Int×LA)->T)(κr:(Nat×LA)->T):T:=br (decide (k<c.length)) (br (bX c k) (br (dG c k (Sh.int .i64) 0) (br (decide ((gC c k 0).toInt<1099511627776)) (br ((aB (Bb l c b k) (0,0,a)).isSome) (br (bX c k) (br (dG c k (Sh.int .i64) 0) (br ((Ef l c b k a).isSome) (κl (br ((tg l c b k a).fst) (((tg l c b k a).snd).fst).fst (((tg l c b k a).snd).snd).fst,i64.wrap (k+1),br ((tg l c b k a).fst) (((tg l c b k a).snd).fst).snd (((tg l c b k a).snd).snd).snd)) δ) δ) δ) δ) (κr (b,a))) δ) δ) (κr (b,a))
def Ba(l c:LA):cS (Nat×Int×LA) (Nat×LA):=λ(b,k,a)=>Eo l c b k a none inL inR
def Yz:=KI.l 82 0 [] [(3,I1.lp),(14,I2.lp)] Tryz.f85 1 (fh I2.ok) [0,3,5,6] [5] [(5,2,132),(3,1,1073741824)] (q4 (qL 3) (qL 1) (cJ 0 0 0) qI) (q1 (qB 0 2 132 bG)) (λ(l,c,b,k,_) (a,_)=>(Ba l c,(b,k,a),λ p=>(.leaf (.exit 2) [AV.osl 0 0 0 p.1] [bF 0 2 132 p.2]))) (0,[]) λ(l,c,_,_,_) _ (b,k,a)=>(((l,c,b,k,()),(a,())),Eo l c b k a none)
def Qq(l:LA):=aB (Ba l ((aB (AZ l) ([AV.int .i64 0],0)).getD [])) (0,0,[])
def EL(l:LA):=(Qq l).getD (0,[])
def QS{T:Type}(l:LA)(δ:T)(κ:LA->T):T:=br ((aB (AZ l) ([AV.int .i64 0],0)).isSome) (br ((Qq l).isSome) (br (decide (0+((EL l).fst)<=((EL l).snd).length)&&true) (κ (List.take ((EL l).fst) (List.drop 0 ((EL l).snd)))) δ) δ) δ
def R5(l:LA):=QS l none some
def Vz:EO:=KI.f Tryz.func85 82 0 [] [(3,I1.lp),(14,I2.lp),(10,Yz.lp)] (lW (fp I1.ok (fp Yz.ok (fp I2.ok kU)))) (u1 (uL 3)) (λ(l,_) _=>QS l) (λ _ p=>AV.list 2 p) []
def Ht{T:Type}(l c:LA)(b:Nat)(i:Int)(a:LA)(δ:T)(κl:(Nat×Int×LA)->T)(κr:(Nat×LA)->T):T:=br (decide (i<l.length)) (br (bX l i) (br (dG l i (Sh.list 3) 0) (br ((oB (gC l i 0).toList c).isSome) (br ((oB (gC l i 0).toList c).getD 0==0) (br (bX l i) (br (jl l i 3 [Sh.int .i64,Sh.int .i64] 1) (br (iH b a 1 24) (κl (b+1,i64.wrap (i+1),a++[AV.agg [AV.int .i64 (gC l i 1).toInt,AV.int .i64 (gC l i 2).toInt,AV.int .i64 1]])) δ) δ) δ) (κl (b,i64.wrap (i+1),a))) δ) δ) δ) (κr (b,a))
def Aq(l b:LA):cS (Nat×Int×LA) (Nat×LA):=λ(c,i,a)=>Ht l b c i a none inL inR
def XH:=Vz.l 32 0 [] [] Tryz.f50 0 lk0 [0,1,5,6] [5] [(5,3,100)] (q4 (qL 3) (qL 3) (cJ 0 0 0) qI) (q1 (qB 0 3 100 bG)) (λ(l,b,c,i,_) (a,_)=>(Aq l b,(c,i,a),λ p=>(.leaf (.exit 0) [AV.osl 0 0 0 p.1] [bF 0 3 100 p.2]))) (0,[]) λ(l,b,_,_,_) _ (c,i,a)=>(((l,b,c,i,()),(a,())),Ht l b c i a none)
def DX(l a:LA):=(aB (Aq l a) (0,0,[])).getD (0,[])
def OM(l a:LA):=R5 (List.take ((DX l a).fst) (List.drop 0 ((DX l a).snd)))
def Ps{T:Type}(l a:LA)(δ:T)(κ:LA->T):T:=br ((aB (Aq l a) (0,0,[])).isSome) (br (decide (0+((DX l a).fst)<=((DX l a).snd).length)&&true) (br ((OM l a).isSome) (κ ((OM l a).getD [])) δ) δ) δ
def mX(l a:LA):=Ps l a none some
def KJ:EO:=Vz.f Tryz.func50 32 0 [] [(3,XH.lp)] (fh XH.ok) (u2 (uL 3) (uL 3)) (λ(l,a,_) _=>Ps l a) (λ _ p=>AV.list 2 p) []
def DC{T:Type}(a:LA)(c:Nat)(i k:Int)(b:LA)(δ:T)(κl:(Int×LA)->T)(κr:(Int×LA)->T):T:=br (decide (k<a.length)) (br (bX a k) (br (dG a k (Sh.list 3) 0) (br (bX a i) (br (dG a i (Sh.list 3) 0) (br ((oB (gC a k 0).toList (gC a i 0).toList).isSome) (br ((oB (gC a k 0).toList (gC a i 0).toList).getD 0==0) (κl (i64.wrap (k+1),b)) (κr (k,b))) δ) δ) δ) δ) δ) (κr (k,b))
def ux(c:LA)(b:Nat)(i:Int):cS (Int×LA) (Int×LA):=λ(k,a)=>DC c b i k a none inL inR
def Do:=KJ.l 66 0 [] [] Tryz.f74 1 lk0 [3,4,5,6] [3,4,5,6] [(4,2,85)] (q4 (qL 3) (cJ 0 0 0) qI qI) (q1 (qB 0 2 85 bG)) (λ(c,a,i,k,_) (b,_)=>(ux c a i,(k,b),λ p=>(.leaf (.exit 2) [AV.list 3 c,AV.osl 0 0 0 a,AV.int .i64 i,AV.int .i64 p.1] [bF 0 2 85 p.2]))) (0,[]) λ(c,a,i,_,_) _ (k,b)=>(((c,a,i,k,()),(b,())),DC c a i k b none)
def DD{T:Type}(d:LA)(i k:Int)(a:LA)(c:Nat)(n:Int)(b:LA)(δ:T)(κl:(Nat×Int×LA)->T)(κr:(Nat×LA)->T):T:=br (decide (n<a.length)) (br (bX a n) (br (dG a n (Sh.list 3) 0) (br (decide (0<=k)&&decide (k<=d.length)&&(decide (0<=i)&&decide (i<=(↑k.toNat:Int)))) (br (bX a n) (br (dG a n (Sh.list 3) 0) (br ((mX (List.take (k.toNat - i.toNat) (List.drop i.toNat d)) (gC a n 0).toList).isSome) (br (iH c b 1 48) (κl (c+1,i64.wrap (n+1),b++[AV.agg [AV.list 3 (gC a n 0).toList,AV.list 2 ((mX (List.take (k.toNat - i.toNat) (List.drop i.toNat d)) (gC a n 0).toList).getD [])]])) δ) δ) δ) δ) δ) δ) δ) (κr (c,b))
def As(d:LA)(i k:Int)(c:LA):cS (Nat×Int×LA) (Nat×LA):=λ(b,n,a)=>DD d i k c b n a none inL inR
def HB:=KJ.l 66 0 [] [(6,Do.lp)] Tryz.f74 2 lk0 [3,4,5,6,7,8] [3,4,6] [(4,2,85)] (q6 (qL 3) (cJ 0 0 0) qI qI (qL 1) qI) (q1 (qB 0 2 85 bG)) (λ(d,b,i,k,c,n,_) (a,_)=>(As d i k c,(b,n,a),λ p=>(.leaf (.exit 4) [AV.list 3 d,AV.osl 0 0 0 p.1,AV.int .i64 k] [bF 0 2 85 p.2]))) (0,[]) λ(d,_,i,k,c,_,_) _ (b,n,a)=>(((d,b,i,k,c,n,()),(a,())),DD d i k c b n a none)
def ur(c:LA)(b:Nat)(i:Int)(a:LA):=((aB (ux c b i) (i,a)).getD (0,[])).fst
def HA(c:LA)(a:Nat)(i:Int)(b:LA):=aB (As c i (ur c a i b) ((vh (List.take ((ur c a i b).toNat - i.toNat) (List.drop i.toNat c))).getD [])) (a,0,((aB (ux c a i) (i,b)).getD (0,[])).snd)
def HK{T:Type}(c:LA)(b:Nat)(i:Int)(a:LA)(δ:T)(κl:(Nat×Int×LA)->T)(κr:(Nat×LA)->T):T:=br (decide (i<c.length)) (br ((aB (ux c b i) (i,a)).isSome) (br (decide (0<=ur c b i a)&&decide (ur c b i a<=c.length)&&(decide (0<=i)&&decide (i<=(↑(ur c b i a).toNat:Int)))) (br ((vh (List.take ((ur c b i a).toNat - i.toNat) (List.drop i.toNat c))).isSome) (br ((HA c b i a).isSome) (κl (((HA c b i a).getD (0,[])).fst,ur c b i a,((HA c b i a).getD (0,[])).snd)) δ) δ) δ) δ) (κr (b,a))
def Ar(c:LA):cS (Nat×Int×LA) (Nat×LA):=λ(b,i,a)=>HK c b i a none inL inR
def XJ:=KJ.l 66 0 [] [(6,Do.lp),(10,HB.lp)] Tryz.f74 0 (lW (fp Do.ok (fp HB.ok kU))) [3,4,5] [4] [(4,2,85)] (q3 (qL 3) (cJ 0 0 0) qI) (q1 (qB 0 2 85 bG)) (λ(c,b,i,_) (a,_)=>(Ar c,(b,i,a),λ p=>(.leaf (.exit 0) [AV.osl 0 0 0 p.1] [bF 0 2 85 p.2]))) (0,[]) λ(c,_,_,_) _ (b,i,a)=>(((c,b,i,()),(a,())),HK c b i a none)
def OO(l:LA):=aB (Ar ((rd 100 l).getD [])) (0,0,[])
def DZ(l:LA):=(OO l).getD (0,[])
def Pu{T:Type}(l:LA)(δ:T)(κ:LA->T):T:=br ((rd 100 l).isSome) (br ((OO l).isSome) (br (decide (0+((DZ l).fst)<=((DZ l).snd).length)&&true) (κ (List.take ((DZ l).fst) (List.drop 0 ((DZ l).snd)))) δ) δ) δ
def uK(l:LA):=Pu l none some
def VA:EO:=KJ.f Tryz.func74 66 0 [] [(6,Do.lp),(10,HB.lp),(4,XJ.lp)] (lW (fp XJ.ok (fp Do.ok (fp HB.ok kU)))) (u1 (uL 3)) (λ(l,_) _=>Pu l) (λ _ p=>AV.list 2 p) []
def rQ(l:LA)(n i:Int):=decide ((gC l i 1).toInt>=n)
def oy(l:LA)(b:Nat)(i:Int)(a:LA):=(mY b (gC l i 0).toInt 1099511627776 a).getD (false,(0,[],[]),0,[])
def rN(l:LA)(b:Nat)(i:Int)(a:LA):=mY b (gC l i 0).toInt ((l.getD (i64.wrap (i+1)).toNat .top).cells.getD 0 .top).toInt a
def rO(l:LA)(i:Int):=decide (i64.wrap (i+1)<(↑l.length:Int))
def oz(l:LA)(b:Nat)(i:Int)(a:LA):=(rN l b i a).getD (false,(0,[],[]),0,[])
def pz{T:Type}(l:LA)(n:Int)(b:Nat)(i:Int)(a:LA)(δ:T)(κl:(Nat×Int×LA)->T)(κr:(Nat×LA)->T):T:=br (decide (i<l.length)) (br (rO l i) (br (decide (0<=i64.wrap (i+1))&&rO l i) (br (decide ((i64.wrap (i+1)).toNat<l.length)&&cX (Sh.int .i64) ((l.getD (i64.wrap (i+1)).toNat .top).cells.getD 0 .top)) (br (bX l i) (br (dG l i (Sh.int .i64) 1) (br (rQ l n i) (br (bX l i) (br (dG l i (Sh.int .i64) 0) (br ((rN l b i a).isSome) (κl (br ((oz l b i a).fst) (((oz l b i a).snd).fst).fst (((oz l b i a).snd).snd).fst,i64.wrap (i+1),br ((oz l b i a).fst) (((oz l b i a).snd).fst).snd.snd (((oz l b i a).snd).snd).snd)) δ) δ) δ) (κl (b,i64.wrap (i+1),a))) δ) δ) δ) δ) (br (bX l i) (br (dG l i (Sh.int .i64) 1) (br (rQ l n i) (br (bX l i) (br (dG l i (Sh.int .i64) 0) (br ((mY b (gC l i 0).toInt 1099511627776 a).isSome) (κl (br ((oy l b i a).fst) (((oy l b i a).snd).fst).fst (((oy l b i a).snd).snd).fst,i64.wrap (i+1),br ((oy l b i a).fst) (((oy l b i a).snd).fst).snd.snd (((oy l b i a).snd).snd).snd)) δ) δ) δ) (κl (b,i64.wrap (i+1),a))) δ) δ)) (κr (b,a))
def mN(l:LA)(n:Int):cS (Nat×Int×LA) (Nat×LA):=λ(b,i,a)=>pz l n b i a none inL inR
def XQ:=VA.l 42 0 [] [] Tryz.f86 0 lk0 [0,1,5,6] [5] [(5,2,52)] (q4 (qL 2) qI (cJ 0 0 0) qI) (q1 (qB 0 2 52 bG)) (λ(l,n,b,i,_) (a,_)=>(mN l n,(b,i,a),λ p=>(.leaf (.exit 0) [AV.osl 0 0 0 p.1] [bF 0 2 52 p.2]))) (0,[]) λ(l,n,_,_,_) _ (b,i,a)=>(((l,n,b,i,()),(a,())),pz l n b i a none)
def AY(l:LA)(n:Int):=(aB (mN l n) (0,0,[])).getD (0,[])
def HW{T:Type}(l:LA)(n:Int)(δ:T)(κ:LA->T):T:=br ((aB (mN l n) (0,0,[])).isSome) (br (decide (0+((AY l n).fst)<=((AY l n).snd).length)&&true) (κ (List.take ((AY l n).fst) (List.drop 0 ((AY l n).snd)))) δ) δ
def mM(l:LA)(n:Int):=HW l n none some
def VB:EO:=VA.f Tryz.func86 42 0 [] [(3,XQ.lp)] (fh XQ.ok) (u2 (uL 2) uI) (λ(l,n,_) _=>HW l n) (λ _ p=>AV.list 2 p) []
def Hr(l:LA)(i:Int):=decide (i.toNat<l.length)&&((l.getD i.toNat .top).cells.length==2&&ef [Sh.int .i64,Sh.int .i64] (l.getD i.toNat .top).cells 0)
def DQ{T:Type}(l:LA)(b:Nat)(i c d:Int)(a:LA)(δ:T)(κl:(Nat×Int×Int×Int×LA)->T)(κr:(Nat×Int×Int×Int×LA)->T):T:=br (decide (i<l.length)) (br (bX l i) (br (Hr l i) (br (decide (I5 (gC l i 0).toInt (gC l i 1).toInt c d<=0)) (br (bX l i) (br (Hr l i) (br (iH b a 1 16) (κl (b+1,i64.wrap (i+1),c,d,a++[AV.agg [AV.int .i64 (gC l i 0).toInt,AV.int .i64 (gC l i 1).toInt]])) δ) δ) δ) (κr (b,i,c,d,a))) δ) δ) (κr (b,i,c,d,a))
def xE(l:LA):cS (Nat×Int×Int×Int×LA) (Nat×Int×Int×Int×LA):=λ(b,i,c,d,a)=>DQ l b i c d a none inL inR
def XU:=VB.l 38 0 [] [] Tryz.f87 0 lk0 [0,3,5,6] [0,3,5,6] [(5,2,52)] (q4 (qL 2) (dz 0 0 0 0) (cJ 1 0 0) qI) (q2 (qB 0 2 52 (q1 (gA (q2 qI qI)))) (qB 0 2 52 bG)) (λ(l,_,b,i,_) (((c,d,_),_),a,_)=>(xE l,(b,i,c,d,a),λ p=>(.leaf (.exit 0) [AV.list 2 l,AV.own 0 0 0 0,AV.osl 1 0 0 p.1,AV.int .i64 p.2.1] [bF 0 2 52 [AV.agg [AV.int .i64 p.2.2.1,AV.int .i64 p.2.2.2.1]],bF 0 2 52 p.2.2.2.2]))) (0,0,0,0,[]) λ(l,_,_,_,_) _ (b,i,c,d,a)=>(((l,(),b,i,()),(((c,d,()),()),a,())),DQ l b i c d a none)
def OK(l:LA)(a b:Int):=aB (xE l) (0,0,a,b,[])
def qX(l:LA)(a b:Int):=(OK l a b).getD (0,0,0,0,[])
def Ei(l:LA)(a b:Int):=((qX l a b).fst)+1
def Po(l:LA)(a b:Int):=List.take (l.length - (((qX l a b).snd).fst).toNat) (List.drop (((qX l a b).snd).fst).toNat l)
def Eh(l:LA)(a b:Int):=Ei l a b+(Po l a b).length
def Pn(l:LA)(a b:Int):=(((((qX l a b).snd).snd).snd).snd)++[AV.agg [AV.int .i64 (((qX l a b).snd).snd).fst,AV.int .i64 ((((qX l a b).snd).snd).snd).fst]]
def Pm(l:LA)(a b:Int):=Pn l a b++Po l a b
def PK{T:Type}(l:LA)(a b:Int)(δ:T)(κ:LA->T):T:=br ((OK l a b).isSome) (br (((qX l a b).fst)==(((((qX l a b).snd).snd).snd).snd).length&&(decide (Ei l a b*16<=140737488355328)&&decide (Ei l a b<=4611686018427387904))) (br (decide (0<=(((qX l a b).snd).fst))&&decide ((((qX l a b).snd).fst)<=(↑l.length:Int))) (br (Ei l a b==(Pn l a b).length&&(decide (Eh l a b*16<=140737488355328)&&decide (Eh l a b<=4611686018427387904))) (br (decide (0+Eh l a b<=(Pm l a b).length)&&true) (κ (List.take (Eh l a b) (List.drop 0 (Pm l a b)))) δ) δ) δ) δ) δ
def Jv(l:LA)(a b:Int):=PK l a b none some
def Mj:EO:=VB.f Tryz.func87 38 0 [] [(3,XU.lp)] (fh XU.ok) (u2 (uL 2) (fO (u2 uI uI))) (λ(l,(a,b,_),_) _=>PK l a b) (λ _ p=>AV.list 2 p) []
def Hq{T:Type}(l:LA)(n:Int)(a b:LA)(i:Int)(δ:T)(κl:(LA×Int)->T)(κr:(LA)->T):T:=br (decide (i<a.length)) (br (bX a i) (br (jl a i 2 [Sh.int .i64,Sh.int .i64] 0) (br ((Jv b (gC a i 0).toInt (gC a i 1).toInt).isSome) (κl ((Jv b (gC a i 0).toInt (gC a i 1).toInt).getD [],i64.wrap (i+1))) δ) δ) δ) (κr (b))
def xn(l:LA)(n:Int)(b:LA):cS (LA×Int) (LA):=λ(a,i)=>Hq l n b a i none inL inR
def G5:=Mj.l 31 0 [] [] Tryz.f52 1 lk0 [0,3,4,5,6] [0,3,4] [(3,2,1073741824)] (q5 (qL 2) (qL 2) qI (qL 2) qI) bT (λ(l,a,n,b,i,_) _=>(xn l n b,(a,i),λ p=>(.leaf (.exit 2) [AV.list 2 l,AV.list 2 p,AV.int .i64 n] []))) [] λ(l,_,n,b,_,_) _ (a,i)=>(((l,a,n,b,i,()),()),Hq l n b a i none)
def Hp{T:Type}(l a:LA)(n:Int)(δ:T)(κl:(LA×Int)->T)(κr:(Bool×(LA×LA)×(LA))->T):T:=br (decide (n<=1048576)) (br ((mM l n).isSome) (br ((↑((mM l n).getD []).length:Int)==0) (κr (true,(a,a),[])) (br ((aB (xn l n ((mM l n).getD [])) (a,0)).isSome) (κl ((aB (xn l n ((mM l n).getD [])) (a,0)).getD [],i64.wrap (n+1))) δ)) δ) (κr (false,([],[]),(a)))
def uw(l:LA):cS (LA×Int) (Bool×(LA×LA)×(LA)):=λ(a,n)=>Hp l a n none inL inR
def XB:=Mj.l 31 0 [] [(9,G5.lp)] Tryz.f52 0 (fh G5.ok) [0,3,4] [2,3] [(3,2,1073741824)] (q3 (qL 2) (qL 2) qI) bT (λ(l,a,n,_) _=>(uw l,(a,n),λ p=>(.node p.1 (.leaf .ret [AV.list 2 p.2.1.1,AV.list 2 p.2.1.2] []) (.leaf (.exit 0) [.top,AV.list 2 p.2.2] [])))) (false,([],[]),[]) λ(l,_,_,_) _ (a,n)=>(((l,a,n,()),()),Hp l a n none)
def DP(l:LA):=(aB (uw l) ([],1)).getD (false,([],[]),[])
def I0{T:Type}(l:LA)(δ:T)(κ:LA->T):T:=br ((aB (uw l) ([],1)).isSome) (br ((DP l).fst) (κ (((DP l).snd).fst.fst)) (κ (((DP l).snd).snd))) δ
def mW(l:LA):=I0 l none some
def VC:EO:=Mj.f Tryz.func52 31 0 [] [(9,G5.lp),(3,XB.lp)] (lW (fp XB.ok (fp G5.ok kU))) (u1 (uL 2)) (λ(l,_) _=>I0 l) (λ _ p=>AV.list 2 p) []
def HJ{T:Type}(d c:LA)(b:Nat)(i:Int)(a:LA)(δ:T)(κl:(Nat×Int×LA)->T)(κr:(Nat×LA)->T):T:=br (decide (i<c.length)) (br (bX c i) (br (jl c i 2 [Sh.int .i64,Sh.int .i64] 0) (br (iH b a 1 40) (κl (b+1,i64.wrap (i+1),a++[AV.agg [AV.list 3 d,AV.int .i64 (gC c i 0).toInt,AV.int .i64 (gC c i 1).toInt]])) δ) δ) δ) (κr (b,a))
def xp(c d:LA):cS (Nat×Int×LA) (Nat×LA):=λ(b,i,a)=>HJ c d b i a none inL inR
def XI:=VC.l 23 0 [] [] Tryz.f51 0 lk0 [0,1,5,6] [5] [(5,3,54)] (q4 (qL 3) (qL 2) (cJ 0 0 0) qI) (q1 (qB 0 3 54 bG)) (λ(c,d,b,i,_) (a,_)=>(xp c d,(b,i,a),λ p=>(.leaf (.exit 0) [AV.osl 0 0 0 p.1] [bF 0 3 54 p.2]))) (0,[]) λ(c,d,_,_,_) _ (b,i,a)=>(((c,d,b,i,()),(a,())),HJ c d b i a none)
def DY(a b:LA):=(aB (xp a b) (0,0,[])).getD (0,[])
def Pt{T:Type}(a b:LA)(δ:T)(κ:LA->T):T:=br ((aB (xp a b) (0,0,[])).isSome) (br (decide (0+((DY a b).fst)<=((DY a b).snd).length)&&true) (κ (List.take ((DY a b).fst) (List.drop 0 ((DY a b).snd)))) δ) δ
def tv(a b:LA):=Pt a b none some
def VD:EO:=VC.f Tryz.func51 23 0 [] [(3,XI.lp)] (fh XI.ok) (u2 (uL 3) (uL 2)) (λ(a,b,_) _=>Pt a b) (λ _ p=>AV.list 3 p) []
def HY(g:LA)(a:Nat)(i:Int):=a+((tv (gC g i 0).toList ((mW (gC g i 1).toList).getD [])).getD []).length
def I3{T:Type}(g:LA)(a:Nat)(i:Int)(b:LA)(δ:T)(κl:(Nat×Int×LA)->T)(κr:(Nat×LA)->T):T:=br (decide (i<g.length)) (br (bX g i) (br (dG g i (Sh.list 3) 0) (br (bX g i) (br (dG g i (Sh.list 2) 1) (br ((mW (gC g i 1).toList).isSome) (br ((tv (gC g i 0).toList ((mW (gC g i 1).toList).getD [])).isSome) (br (a==b.length&&(decide (HY g a i*40<=140737488355328)&&decide (HY g a i<=4611686018427387904))) (κl (HY g a i,i64.wrap (i+1),b++(tv (gC g i 0).toList ((mW (gC g i 1).toList).getD [])).getD [])) δ) δ) δ) δ) δ) δ) δ) (κr (a,b))
def Bj(g:LA):cS (Nat×Int×LA) (Nat×LA):=λ(b,i,a)=>I3 g b i a none inL inR
def Ym:=VD.l 29 0 [] [] Tryz.f36 0 lk0 [3,4,5] [4] [(4,3,54)] (q3 (qL 2) (cJ 0 0 0) qI) (q1 (qB 0 3 54 bG)) (λ(g,b,i,_) (a,_)=>(Bj g,(b,i,a),λ p=>(.leaf (.exit 0) [AV.osl 0 0 0 p.1] [bF 0 3 54 p.2]))) (0,[]) λ(g,_,_,_) _ (b,i,a)=>(((g,b,i,()),(a,())),I3 g b i a none)
def Ey(l:LA):=(aB (Bj ((uK l).getD [])) (0,0,[])).getD (0,[])
def Qu{T:Type}(l:LA)(δ:T)(κ:LA->T):T:=br ((uK l).isSome) (br ((aB (Bj ((uK l).getD [])) (0,0,[])).isSome) (br (decide (0+((Ey l).fst)<=((Ey l).snd).length)&&true) (κ (List.take ((Ey l).fst) (List.drop 0 ((Ey l).snd)))) δ) δ) δ
def J2(l:LA):=Qu l none some
def VE:EO:=VD.f Tryz.func36 29 0 [] [(4,Ym.lp)] (fh Ym.ok) (u1 (uL 3)) (λ(l,_) _=>Qu l) (λ _ p=>AV.list 3 p) []
def ON(g:LA)(i:Int):=(tv (gC g i 0).toList ((mM (gC g i 1).toList 1).getD [])).getD []
def H3(g:LA)(a:Nat)(i:Int):=a+(ON g i).length
def I4{T:Type}(g:LA)(a:Nat)(i:Int)(b:LA)(δ:T)(κl:(Nat×Int×LA)->T)(κr:(Nat×LA)->T):T:=br (decide (i<g.length)) (br (bX g i) (br (dG g i (Sh.list 3) 0) (br (bX g i) (br (dG g i (Sh.list 2) 1) (br ((mM (gC g i 1).toList 1).isSome) (br ((tv (gC g i 0).toList ((mM (gC g i 1).toList 1).getD [])).isSome) (br (a==b.length&&(decide (H3 g a i*40<=140737488355328)&&decide (H3 g a i<=4611686018427387904))) (κl (H3 g a i,i64.wrap (i+1),b++ON g i)) δ) δ) δ) δ) δ) δ) δ) (κr (a,b))
def Bk(g:LA):cS (Nat×Int×LA) (Nat×LA):=λ(b,i,a)=>I4 g b i a none inL inR
def Yn:=VE.l 29 0 [] [] Tryz.f56 0 lk0 [3,4,5] [4] [(4,3,54)] (q3 (qL 2) (cJ 0 0 0) qI) (q1 (qB 0 3 54 bG)) (λ(g,b,i,_) (a,_)=>(Bk g,(b,i,a),λ p=>(.leaf (.exit 0) [AV.osl 0 0 0 p.1] [bF 0 3 54 p.2]))) (0,[]) λ(g,_,_,_) _ (b,i,a)=>(((g,b,i,()),(a,())),I4 g b i a none)
def Ez(l:LA):=(aB (Bk ((uK l).getD [])) (0,0,[])).getD (0,[])
def Qv{T:Type}(l:LA)(δ:T)(κ:LA->T):T:=br ((uK l).isSome) (br ((aB (Bk ((uK l).getD [])) (0,0,[])).isSome) (br (decide (0+((Ez l).fst)<=((Ez l).snd).length)&&true) (κ (List.take ((Ez l).fst) (List.drop 0 ((Ez l).snd)))) δ) δ) δ
def J3(l:LA):=Qv l none some
def VF:EO:=VE.f Tryz.func56 29 0 [] [(4,Yn.lp)] (fh Yn.ok) (u1 (uL 3)) (λ(l,_) _=>Qv l) (λ _ p=>AV.list 3 p) []
def Ao{T:Type}(a:List UInt8)(i:Int)(δ:T)(κl:(Int)->T)(κr:(Bool×(Bool)×(Unit))->T):T:=br (decide (i<a.length)) (br (decide (0<=i)&&decide (i<a.length)) (br (decide ((↑(a.getD i.toNat (0:UInt8)).toNat:Int)<32)) (κr (true,(false),())) (br (decide (0<=i)&&decide (i<a.length)) (br (decide ((↑(a.getD i.toNat (0:UInt8)).toNat:Int)>126)) (κr (true,(false),())) (κl (i64.wrap (i+1)))) δ)) δ) (κr (false,false,()))
def rK(a:List UInt8):cS (Int) (Bool×(Bool)×(Unit)):=λ(i)=>Ao a i none inL inR
def Xs:=VF.l 20 0 [] [] Tryz.f145 0 lk0 [0,3] [2] [] (q2 pStr qI) bT (λ(a,i,_) _=>(rK a,(i),λ p=>(.node p.1 (.leaf .ret [AV.bool p.2.1] []) (.leaf (.exit 0) [.top] [])))) (false,false,()) λ(a,_,_) _ (i)=>(((a,i,()),()),Ao a i none)
def Oa{T:Type}(a:List UInt8)(δ:T)(κ:Bool->T):T:=br ((aB (rK a) 0).isSome) (br (((aB (rK a) 0).getD (false,false,())).fst) (κ (((aB (rK a) 0).getD (false,false,())).snd.fst)) (κ (true))) δ
def HX(a:List UInt8):=Oa a none some
def xKD:EO:=VF.f Tryz.func145 20 0 [] [(2,Xs.lp)] (fh Xs.ok) (u1 (sEq pStr)) (λ(a,_) _=>Oa a) (λ _ p=>AV.bool p) false
def PL{T:Type}(c a:Int)(b:List UInt8)(δ:T)(κ:Bool->T):T:=br (c==0) (br (a==0) (κ (b==[])) (κ (false))) (br (c==1) (br (b==[]) (br (decide (a>=(-1125899906842624))) (κ (decide (a<=1125899906842624))) (κ (false))) (κ (false))) (br (c==2) (br (a==0) (br (decide ((↑b.length:Int)<=200)) (br ((HX b).isSome) (κ ((HX b).getD false)) δ) (κ (false))) (κ (false))) (br (c==3) (br (b==[]) (br (a==0) (κ (true)) (κ (a==1))) (κ (false))) (κ (false)))))
def Qs(a b:Int)(c:List UInt8):=PL a b c none some
def Vb:EO:=xKD.f Tryz.func127 61 0 [] [] lk0 (u1 (fO (u3 uI uI (sEq pStr)))) (λ((a,b,c,_),_) _=>PL a b c) (λ _ p=>AV.bool p) false
def Bc(a:LA)(i:Int):=Qs (gC a i 0).toInt (gC a i 1).toInt (gC a i 2).toStr
def xV{T:Type}(a b:LA)(i:Int)(δ:T)(κl:(Int)->T)(κr:(Bool×(Bool)×(Unit))->T):T:=br (decide (i<a.length)) (br (bX a i) (br (jl a i 3 [Sh.int .i64,Sh.int .i64,Sh.str] 0) (br ((Bc a i).isSome) (br (!(Bc a i).getD false) (κr (true,(false),())) (br (bX a i) (br (dG a i (Sh.int .i64) 0) (br ((gC a i 0).toInt !=0) (br (bX a i) (br (dG a i (Sh.int .i64) 0) (br (bX b i) (br (dG b i (Sh.int .i64) 0) (br ((gC a i 0).toInt !=(gC b i 0).toInt) (κr (true,(false),())) (κl (i64.wrap (i+1)))) δ) δ) δ) δ) (κl (i64.wrap (i+1)))) δ) δ)) δ) δ) δ) (κr (false,false,()))
def qQ(b a:LA):cS (Int) (Bool×(Bool)×(Unit)):=λ(i)=>xV b a i none inL inR
def Ye:=Vb.l 43 0 [] [] Tryz.f90 0 lk0 [0,1,5] [4] [] (q3 (qL 3) (qL 1) qI) bT (λ(b,a,i,_) _=>(qQ b a,(i),λ p=>(.node p.1 (.leaf .ret [AV.bool p.2.1] []) (.leaf (.exit 0) [.top] [])))) (false,false,()) λ(b,a,_,_) _ (i)=>(((b,a,i,()),()),xV b a i none)
def PU{T:Type}(b a:LA)(δ:T)(κ:Bool->T):T:=br ((↑b.length:Int) !=(↑a.length:Int)) (κ (false)) (br ((aB (qQ b a) 0).isSome) (br (((aB (qQ b a) 0).getD (false,false,())).fst) (κ (((aB (qQ b a) 0).getD (false,false,())).snd.fst)) (κ (true))) δ)
def JF(b a:LA):=PU b a none some
def xKE:EO:=Vb.f Tryz.func90 43 0 [] [(4,Ye.lp)] (fh Ye.ok) (u2 (uL 3) (uL 1)) (λ(b,a,_) _=>PU b a) (λ _ p=>AV.bool p) false
def QT(k:Int):Bool:=(br (k==1) ((true)) (br (k==2) ((true)) ((k==3))))
def xBx{T:Type}(k:Int)(δ:T)(κ:Bool->T):T:=br (k==1) (κ (true)) (br (k==2) (κ (true)) (κ (k==3)))
def Vc:EO:=xKE.fT Tryz.func128 13 0 [] [] lk0 (λ(k,_)=>xBx k none) (u1 uI) (λ(k,_)=>QT k) (λ _ p=>(AV.bool p))
def DR{T:Type}(l:LA)(i:Int)(δ:T)(κl:(Int)->T)(κr:(Bool×(Bool)×(Unit))->T):T:=br (decide (i<l.length)) (br (bX l i) (br (dG l i (Sh.int .i64) 0) (br (!QT (gC l i 0).toInt) (κr (true,(false),())) (κl (i64.wrap (i+1)))) δ) δ) (κr (false,false,()))
def sT(l:LA):cS (Int) (Bool×(Bool)×(Unit)):=λ(i)=>DR l i none inL inR
def XV:=Vc.l 16 0 [] [] Tryz.f91 0 lk0 [0,3] [2] [] (q2 (qL 1) qI) bT (λ(l,i,_) _=>(sT l,(i),λ p=>(.node p.1 (.leaf .ret [AV.bool p.2.1] []) (.leaf (.exit 0) [.top] [])))) (false,false,()) λ(l,_,_) _ (i)=>(((l,i,()),()),DR l i none)
def PN{T:Type}(l:LA)(δ:T)(κ:Bool->T):T:=br ((aB (sT l) 0).isSome) (br (((aB (sT l) 0).getD (false,false,())).fst) (κ (((aB (sT l) 0).getD (false,false,())).snd.fst)) (κ (true))) δ
def Jw(l:LA):=PN l none some
def Vd:EO:=Vc.f Tryz.func91 16 0 [] [(2,XV.lp)] (fh XV.ok) (u1 (uL 1)) (λ(l,_) _=>PN l) (λ _ p=>AV.bool p) false
def Bd{T:Type}(i:Int)(b a:LA)(δ:T)(κl:(Int×LA×LA)->T)(κr:(Bool×(Bool×LA×LA)×(LA×LA))->T):T:=br (decide (i<a.length)) (br (bX a i) (br (jl a i 3 [Sh.int .i64,Sh.int .i64] 1) (br (!u9 (gC a i 1).toInt (gC a i 2).toInt) (κr (true,(false,b,a),([],[]))) (br (bX a i) (br (dG a i (Sh.list 3) 0) (br ((JF (gC a i 0).toList b).isSome) (br (!(JF (gC a i 0).toList b).getD false) (κr (true,(false,b,a),([],[]))) (κl (i64.wrap (i+1),b,a))) δ) δ) δ)) δ) δ) (κr (false,(false,[],[]),(b,a)))
def sU:cS (Int×LA×LA) (Bool×(Bool×LA×LA)×(LA×LA)):=λ(i,a,b)=>Bd i a b none inL inR
def XW:=Vd.l 46 0 [] [] Tryz.f57 0 lk0 [1,3] [1,2] [] (q2 (dz 0 0 0 0) qI) (q1 (qB 0 2 25 (q1 (gA (q2 (qL 1) (qL 3)))))) (λ(_,i,_) (((a,b,_),_),_)=>(sU,(i,a,b),λ p=>(.node p.1 (.leaf .ret [AV.own 0 0 0 0,AV.bool p.2.1.1] [bF 0 2 25 [AV.agg [AV.list 1 p.2.1.2.1,AV.list 3 p.2.1.2.2]]]) (.leaf (.exit 0) [AV.own 0 0 0 0,.top] [bF 0 2 25 [AV.agg [AV.list 1 p.2.2.1,AV.list 3 p.2.2.2]]])))) (false,(false,[],[]),([],[])) λ _ _ (i,a,b)=>((((),i,()),(((a,b,()),()),())),Bd i a b none)
def uH(a b:LA):=(aB sU (0,a,b)).getD (false,(false,[],[]),[],[])
def D6(a b:LA):=(↑(((uH a b).snd).snd.fst).length:Int)
def PQ{T:Type}(a b:LA)(δ:T)(κ:Bool->T):T:=br ((aB sU (0,a,b)).isSome) (br ((uH a b).fst) (κ (((uH a b).snd).fst.fst)) (br (decide (D6 a b>0)) (br (decide (D6 a b<=48)) (br ((Jw (((uH a b).snd).snd.fst)).isSome) (κ ((Jw (((uH a b).snd).snd.fst)).getD false)) δ) (κ (false))) (κ (false)))) δ
def Jx(a b:LA):=PQ a b none some
def Ve:EO:=Vd.f Tryz.func57 46 0 [] [(2,XW.lp)] (fh XW.ok) (u1 (fO (u2 (uL 1) (uL 3)))) (λ((a,b,_),_) _=>PQ a b) (λ _ p=>AV.bool p) false
def GP{T:Type}(a b:LA)(i:Int)(δ:T)(κl:(Int)->T)(κr:(Bool×(Bool)×(Unit))->T):T:=br (decide (i<a.length)) (br (bX a i) (br (dG a i (Sh.int .i64) 0) (br (bX b i) (br (dG b i (Sh.int .i64) 0) (br ((gC a i 0).toInt !=(gC b i 0).toInt) (κr (true,(false),())) (κl (i64.wrap (i+1)))) δ) δ) δ) δ) (κr (false,false,()))
def wW(a b:LA):cS (Int) (Bool×(Bool)×(Unit)):=λ(i)=>GP a b i none inL inR
def Xt:=Ve.l 26 0 [] [] Tryz.f39 0 lk0 [0,1,5] [4] [] (q3 (qL 1) (qL 1) qI) bT (λ(a,b,i,_) _=>(wW a b,(i),λ p=>(.node p.1 (.leaf .ret [AV.bool p.2.1] []) (.leaf (.exit 0) [.top] [])))) (false,false,()) λ(a,b,_,_) _ (i)=>(((a,b,i,()),()),GP a b i none)
def Oc{T:Type}(a b:LA)(δ:T)(κ:Bool->T):T:=br ((↑a.length:Int) !=(↑b.length:Int)) (κ (false)) (br ((aB (wW a b) 0).isSome) (br (((aB (wW a b) 0).getD (false,false,())).fst) (κ (((aB (wW a b) 0).getD (false,false,())).snd.fst)) (κ (true))) δ)
def Bu(a b:LA):=Oc a b none some
def xKF:EO:=Ve.f Tryz.func39 26 0 [] [(4,Xt.lp)] (fh Xt.ok) (u2 (uL 1) (uL 1)) (λ(a,b,_) _=>Oc a b) (λ _ p=>AV.bool p) false
def PO{T:Type}(a b c d:LA)(δ:T)(κ:Bool->T):T:=br ((Bu a c).isSome) (br ((Bu a c).getD false) (br ((qZ b d).isSome) (κ ((qZ b d).getD false)) δ) (κ (false))) δ
def vc(a b c d:LA):=PO a b c d none some
def xKG:EO:=xKF.f Tryz.func12 17 0 [] [] lk0 (u2 (fO (u2 (uL 1) (uL 3))) (fO (u2 (uL 1) (uL 3)))) (λ((a,b,_),(c,d,_),_) _=>PO a b c d) (λ _ p=>AV.bool p) false
def BS(c a b:Int):Int:=(br (c==1) ((i64.wrap (a+b))) (br (c==2) ((i64.wrap (a - b))) (br (c==3) ((if b<a then b else a)) ((if b>a then b else a)))))
def xAD{T:Type}(c a b:Int)(δ:T)(κ:Int->T):T:=br (c==1) (κ (i64.wrap (a+b))) (br (c==2) (κ (i64.wrap (a - b))) (br (c==3) (κ (if b<a then b else a)) (κ (if b>a then b else a))))
def Vf:EO:=xKG.fT Tryz.func122 25 0 [] [] lk0 (λ(c,a,b,_)=>xAD c a b none) (u3 uI uI uI) (λ(c,a,b,_)=>BS c a b) (λ _ p=>(AV.int .i64 p))
def Em{T:Type}(l:LA)(t n i:Int)(δ:T)(κl:(Int×Int)->T)(κr:(Int)->T):T:=br (decide (i<l.length)) (br (decide (t>=0)) (br (decide (t<1099511627776)) (br (bX l i) (br (dG l i (Sh.int .i64) 0) (br (decide ((gC l i 0).toInt<=t)) (br (bX l i) (br (dG l i (Sh.int .i64) 1) (κl ((gC l i 1).toInt,i64.wrap (i+1))) δ) δ) (κl (n,i64.wrap (i+1)))) δ) δ) (κr (n))) (κr (n))) (κr (n))
def uA(l:LA)(t:Int):cS (Int×Int) (Int):=λ(n,i)=>Em l t n i none inL inR
def Yk:=Vf.l 34 0 [] [] Tryz.f123 0 lk0 [0,1,5,6] [5] [] (q4 (qL 2) qI qI qI) bT (λ(l,t,n,i,_) _=>(uA l t,(n,i),λ p=>(.leaf (.exit 0) [AV.int .i64 p] []))) 0 λ(l,t,_,_,_) _ (n,i)=>(((l,t,n,i,()),()),Em l t n i none)
def QR{T:Type}(l:LA)(t:Int)(δ:T)(κ:Int->T):T:=br ((aB (uA l t) (0,0)).isSome) (κ ((aB (uA l t) (0,0)).getD 0)) δ
def Cd(l:LA)(t:Int):=QR l t none some
def KM:EO:=Vf.f Tryz.func123 34 0 [] [(3,Yk.lp)] (fh Yk.ok) (u2 (uL 2) uI) (λ(l,t,_) _=>QR l t) (λ _ p=>AV.int .i64 p) 0
def G9{T:Type}(d:Int)(a b c:LA)(i:Int)(δ:T)(κl:(LA×Int)->T)(κr:(LA)->T):T:=br (decide (i<a.length)) (br (bX a i) (br (dG a i (Sh.int .i64) 0) (br ((rh c (gC a i 0).toInt).isSome) (κl ((rh c (gC a i 0).toInt).getD [],i64.wrap (i+1))) δ) δ) δ) (κr (c))
def uo(c:Int)(a b:LA):cS (LA×Int) (LA):=λ(d,i)=>G9 c a b d i none inL inR
def GX:=KM.l 65 0 [] [] Tryz.f84 0 lk0 [0,1,2,7,8] [0,1,2,7] [(7,1,1073741824)] (q5 qI (qL 2) (qL 2) (qL 1) qI) bT (λ(c,a,b,d,i,_) _=>(uo c a b,(d,i),λ p=>(.leaf (.exit 0) [AV.int .i64 c,AV.list 2 a,AV.list 2 b,AV.list 1 p] []))) [] λ(c,a,b,_,_,_) _ (d,i)=>(((c,a,b,d,i,()),()),G9 c a b d i none)
def Ha{T:Type}(d:Int)(a b c:LA)(i:Int)(δ:T)(κl:(LA×Int)->T)(κr:(LA)->T):T:=br (decide (i<b.length)) (br (bX b i) (br (dG b i (Sh.int .i64) 0) (br ((rh c (gC b i 0).toInt).isSome) (κl ((rh c (gC b i 0).toInt).getD [],i64.wrap (i+1))) δ) δ) δ) (κr (c))
def Av(c:Int)(a b:LA):cS (LA×Int) (LA):=λ(d,i)=>Ha c a b d i none inL inR
def Nx:=KM.l 65 0 [] [(3,GX.lp)] Tryz.f84 1 lk0 [0,1,2,7,9] [0,1,2,7] [(7,1,1073741824)] (q5 qI (qL 2) (qL 2) (qL 1) qI) bT (λ(c,a,b,d,i,_) _=>(Av c a b,(d,i),λ p=>(.leaf (.exit 2) [AV.int .i64 c,AV.list 2 a,AV.list 2 b,AV.list 1 p] []))) [] λ(c,a,b,_,_,_) _ (d,i)=>(((c,a,b,d,i,()),()),Ha c a b d i none)
def Ny(e:Int)(a b f:LA)(d:Nat)(i:Int)(c:LA):=mZ d (gC f i 0).toInt (BS e ((Cd a (gC f i 0).toInt).getD 0) ((Cd b (gC f i 0).toInt).getD 0)) c
def xo(e:Int)(a b f:LA)(d:Nat)(i:Int)(c:LA):=(Ny e a b f d i c).getD (false,(0,[]),0,[])
def Hb{T:Type}(f:Int)(a b e:LA)(d:Nat)(i:Int)(c:LA)(δ:T)(κl:(Nat×Int×LA)->T)(κr:(Nat×LA)->T):T:=br (decide (i<e.length)) (br (bX e i) (br (dG e i (Sh.int .i64) 0) (br (bX e i) (br (dG e i (Sh.int .i64) 0) (br ((Cd a (gC e i 0).toInt).isSome) (br (bX e i) (br (dG e i (Sh.int .i64) 0) (br ((Cd b (gC e i 0).toInt).isSome) (br ((Ny f a b e d i c).isSome) (κl (br ((xo f a b e d i c).fst) (((xo f a b e d i c).snd).fst).fst (((xo f a b e d i c).snd).snd).fst,i64.wrap (i+1),br ((xo f a b e d i c).fst) (((xo f a b e d i c).snd).fst).snd (((xo f a b e d i c).snd).snd).snd)) δ) δ) δ) δ) δ) δ) δ) δ) δ) (κr (d,c))
def Aw(e:Int)(a b f:LA):cS (Nat×Int×LA) (Nat×LA):=λ(d,i,c)=>Hb e a b f d i c none inL inR
def Xy:=KM.l 65 0 [] [(3,GX.lp),(7,Nx.lp)] Tryz.f84 2 lk0 [0,1,2,7,10,11] [10] [(7,1,1073741824),(10,2,132)] (q6 qI (qL 2) (qL 2) (qL 1) (cJ 0 0 0) qI) (q1 (qB 0 2 132 bG)) (λ(e,a,b,f,d,i,_) (c,_)=>(Aw e a b f,(d,i,c),λ p=>(.leaf (.exit 4) [AV.osl 0 0 0 p.1] [bF 0 2 132 p.2]))) (0,[]) λ(e,a,b,f,_,_,_) _ (d,i,c)=>(((e,a,b,f,d,i,()),(c,())),Hb e a b f d i c none)
def N9(c:Int)(a b:LA):=aB (Av c a b) ((aB (uo c a b) ([],0)).getD [],0)
def Bi(c:Int)(a b:LA):=aB (Aw c a b ((N9 c a b).getD [])) (0,0,[])
def OF{T:Type}(c:Int)(a b:LA)(δ:T)(κ:LA->T):T:=br ((aB (uo c a b) ([],0)).isSome) (br ((N9 c a b).isSome) (br ((Bi c a b).isSome) (br (decide (0+(((Bi c a b).getD (0,[])).fst)<=(((Bi c a b).getD (0,[])).snd).length)&&true) (κ (List.take (((Bi c a b).getD (0,[])).fst) (List.drop 0 (((Bi c a b).getD (0,[])).snd)))) δ) δ) δ) δ
def BE(c:Int)(a b:LA):=OF c a b none some
def xKH:EO:=KM.f Tryz.func84 65 0 [] [(3,GX.lp),(7,Nx.lp),(12,Xy.lp)] (lW (fp GX.ok (fp Nx.ok (fp Xy.ok kU)))) (u3 uI (uL 2) (uL 2)) (λ(c,a,b,_) _=>OF c a b) (λ _ p=>AV.list 2 p) []
def Qr{T:Type}(a b:LA)(δ:T)(κ:LA->T):T:=br ((BE 2 a b).isSome) (κ ((BE 2 a b).getD [])) δ
def J1(a b:LA):=Qr a b none some
def xKI:EO:=xKH.f Tryz.func49 8 0 [] [] lk0 (u2 (uL 2) (uL 2)) (λ(a,b,_) _=>Qr a b) (λ _ p=>AV.list 2 p) []
def Qp{T:Type}(a b:LA)(δ:T)(κ:LA->T):T:=br ((BE 3 a b).isSome) (κ ((BE 3 a b).getD [])) δ
def J0(a b:LA):=Qp a b none some
def xKJ:EO:=xKI.f Tryz.func54 8 0 [] [] lk0 (u2 (uL 2) (uL 2)) (λ(a,b,_) _=>Qp a b) (λ _ p=>AV.list 2 p) []
def Pa{T:Type}(a b:LA)(δ:T)(κ:LA->T):T:=br (decide (a.length*40<=140737488355328)&&decide (a.length<=4611686018427387904)) (br (a.length==a.length&&(decide ((a.length+b.length)*40<=140737488355328)&&decide (a.length+b.length<=4611686018427387904))) (br (decide (0+(a.length+b.length)<=(a++b).length)&&true) (κ (List.take (a.length+b.length) (List.drop 0 (a++b)))) δ) δ) δ
def EB(a b:LA):=Pa a b none some
def xKK:EO:=xKJ.f Tryz.func44 12 0 [] [] lk0 (u2 (uL 3) (uL 3)) (λ(a,b,_) _=>Pa a b) (λ _ p=>AV.list 3 p) []
def Pv{T:Type}(c a d b:LA)(δ:T)(κ:LA×LA->T):T:=br ((EB a b).isSome) (br ((J2 ((EB a b).getD [])).isSome) (κ (c,(J2 ((EB a b).getD [])).getD [])) δ) δ
def EM(a b c d:LA):=Pv a b c d none some
def Vg:EO:=xKK.f Tryz.func14 14 0 [] [] lk0 (u2 (fO (u2 (uL 1) (uL 3))) (fO (u2 (uL 1) (uL 3)))) (λ((a,b,_),(c,d,_),_) _=>Pv a b c d) (λ _ p=>AV.agg [AV.list 1 p.1,AV.list 3 p.2]) ([],[])
def HE(a:LA)(i:Int)(b c:LA):=J1 ((mX b (gC a i 0).toList).getD []) ((mX c (gC a i 0).toList).getD [])
def HD(a:LA)(i:Int)(b c:LA):=tv (gC a i 0).toList ((mW ((HE a i b c).getD [])).getD [])
def HC(b:LA)(i:Int)(c d:LA)(a:Nat):=a+((HD b i c d).getD []).length
def HM{T:Type}(a:LA)(i:Int)(g b h c f:LA)(d:Nat)(e:LA)(δ:T)(κl:(Int×LA×LA×LA×LA×LA×Nat×LA)->T)(κr:(LA×Nat×LA)->T):T:=br (decide (i<a.length)) (br (bX a i) (br (dG a i (Sh.list 3) 0) (br ((mX b (gC a i 0).toList).isSome) (br (bX a i) (br (dG a i (Sh.list 3) 0) (br ((mX c (gC a i 0).toList).isSome) (br ((HE a i b c).isSome) (br (bX a i) (br (dG a i (Sh.list 3) 0) (br ((mW ((HE a i b c).getD [])).isSome) (br ((HD a i b c).isSome) (br (d==e.length&&(decide (HC a i b c d*40<=140737488355328)&&decide (HC a i b c d<=4611686018427387904))) (κl (i64.wrap (i+1),g,b,h,c,f,HC a i b c d,e++((HD a i b c).getD []))) δ) δ) δ) δ) δ) δ) δ) δ) δ) δ) δ) δ) (κr (f,d,e))
def At(d:LA):cS (Int×LA×LA×LA×LA×LA×Nat×LA) (LA×Nat×LA):=λ(i,e,f,g,h,b,c,a)=>HM d i e f g h b c a none inL inR
def XN:=Vg.l 48 0 [] [] Tryz.f16 0 lk0 [2,3,4,5,6,7] [4,5] [(5,3,54)] (q6 (dz 0 0 0 0) (dz 1 0 0 0) (dz 2 0 0 0) (dz 3 0 0 0) (qL 1) qI) (q5 (qB 0 2 25 (q1 (gA (q2 (qL 1) (qL 3))))) (qB 0 2 25 (q1 (gA (q2 (qL 1) (qL 3))))) (qB 0 2 25 (q1 (gA (q2 eD eD)))) (fY 0 2 25 false false (q1 (gA (q2 (qL 1) (cJ 4 0 0))))) (qB 0 3 54 bG)) (λ(_,_,_,_,d,i,_) (((e,f,_),_),((g,h,_),_),((_,_,_),_),((b,c,_),_),a,_)=>(At d,(i,e,f,g,h,b,c,a),λ p=>(.leaf (.exit 0) [AV.own 0 0 0 0,AV.own 1 0 0 0] [bF 0 2 25 [AV.agg [AV.nils,AV.nils]],⟨0,2,25,[AV.agg [AV.list 1 p.1,AV.osl 2 0 0 p.2.1]],false,false⟩,bF 0 3 54 p.2.2]))) ([],0,[]) λ(_,_,_,_,d,_,_) _ (i,e,f,g,h,b,c,a)=>((((),(),(),(),d,i,()),(((e,f,()),()),((g,h,()),()),(((),(),()),()),((b,c,()),()),a,())),HM d i e f g h b c a none)
def OQ(a b c d:LA):=aB (At ((vh b).getD [])) (0,a,b,c,d,a,0,[])
def Bw(a b c d:LA):=(OQ a b c d).getD ([],0,[])
def O9{T:Type}(b a c d:LA)(δ:T)(κ:LA×LA->T):T:=br ((vh a).isSome) (br ((OQ b a c d).isSome) (br (decide (0+(((Bw b a c d).snd).fst)<=(((Bw b a c d).snd).snd).length)&&true&&true) (κ ((Bw b a c d).fst,List.take (((Bw b a c d).snd).fst) (List.drop 0 (((Bw b a c d).snd).snd)))) δ) δ) δ
def EA(a b c d:LA):=O9 a b c d none some
def Vh:EO:=Vg.f Tryz.func16 48 0 [] [(4,XN.lp)] (fh XN.ok) (u2 (fO (u2 (uL 1) (uL 3))) (fO (u2 (uL 1) (uL 3)))) (λ((a,b,_),(c,d,_),_) _=>O9 a b c d) (λ _ p=>AV.agg [AV.list 1 p.1,AV.list 3 p.2]) ([],[])
def NA(a:LA)(i:Int)(b c:LA):=J0 ((mX b (gC a i 0).toList).getD []) ((mX c (gC a i 0).toList).getD [])
def Nz(a:LA)(i:Int)(b c:LA):=mW ((NA a i b c).getD [])
def G4(a:LA)(i:Int)(b c:LA):=tv (gC a i 0).toList ((Nz a i b c).getD [])
def G2(b:LA)(i:Int)(c d:LA)(a:Nat):=a+((G4 b i c d).getD []).length
def GR{T:Type}(a:LA)(i:Int)(g b h c f:LA)(d:Nat)(e:LA)(δ:T)(κl:(Int×LA×LA×LA×LA×LA×Nat×LA)->T)(κr:(LA×Nat×LA)->T):T:=br (decide (i<a.length)) (br (bX a i) (br (dG a i (Sh.list 3) 0) (br ((mX b (gC a i 0).toList).isSome) (br (bX a i) (br (dG a i (Sh.list 3) 0) (br ((mX c (gC a i 0).toList).isSome) (br ((NA a i b c).isSome) (br (bX a i) (br (dG a i (Sh.list 3) 0) (br ((Nz a i b c).isSome) (br ((G4 a i b c).isSome) (br (d==e.length&&(decide (G2 a i b c d*40<=140737488355328)&&decide (G2 a i b c d<=4611686018427387904))) (κl (i64.wrap (i+1),g,b,h,c,f,G2 a i b c d,e++((G4 a i b c).getD []))) δ) δ) δ) δ) δ) δ) δ) δ) δ) δ) δ) δ) (κr (f,d,e))
def Af(d:LA):cS (Int×LA×LA×LA×LA×LA×Nat×LA) (LA×Nat×LA):=λ(i,e,f,g,h,b,c,a)=>GR d i e f g h b c a none inL inR
def Xv:=Vh.l 48 0 [] [] Tryz.f18 0 lk0 [2,3,4,5,6,7] [4,5] [(5,3,54)] (q6 (dz 0 0 0 0) (dz 1 0 0 0) (dz 2 0 0 0) (dz 3 0 0 0) (qL 1) qI) (q5 (qB 0 2 25 (q1 (gA (q2 (qL 1) (qL 3))))) (qB 0 2 25 (q1 (gA (q2 (qL 1) (qL 3))))) (qB 0 2 25 (q1 (gA (q2 eD eD)))) (fY 0 2 25 false false (q1 (gA (q2 (qL 1) (cJ 4 0 0))))) (qB 0 3 54 bG)) (λ(_,_,_,_,d,i,_) (((e,f,_),_),((g,h,_),_),((_,_,_),_),((b,c,_),_),a,_)=>(Af d,(i,e,f,g,h,b,c,a),λ p=>(.leaf (.exit 0) [AV.own 0 0 0 0,AV.own 1 0 0 0] [bF 0 2 25 [AV.agg [AV.nils,AV.nils]],⟨0,2,25,[AV.agg [AV.list 1 p.1,AV.osl 2 0 0 p.2.1]],false,false⟩,bF 0 3 54 p.2.2]))) ([],0,[]) λ(_,_,_,_,d,_,_) _ (i,e,f,g,h,b,c,a)=>((((),(),(),(),d,i,()),(((e,f,()),()),((g,h,()),()),(((),(),()),()),((b,c,()),()),a,())),GR d i e f g h b c a none)
def NX(a b c d:LA):=aB (Af ((vh b).getD [])) (0,a,b,c,d,a,0,[])
def AF(a b c d:LA):=(NX a b c d).getD ([],0,[])
def Oe{T:Type}(b a c d:LA)(δ:T)(κ:LA×LA->T):T:=br ((vh a).isSome) (br ((NX b a c d).isSome) (br (decide (0+(((AF b a c d).snd).fst)<=(((AF b a c d).snd).snd).length)&&true&&true) (κ ((AF b a c d).fst,List.take (((AF b a c d).snd).fst) (List.drop 0 (((AF b a c d).snd).snd)))) δ) δ) δ
def D1(a b c d:LA):=Oe a b c d none some
def xKL:EO:=Vh.f Tryz.func18 48 0 [] [(4,Xv.lp)] (fh Xv.ok) (u2 (fO (u2 (uL 1) (uL 3))) (fO (u2 (uL 1) (uL 3)))) (λ((a,b,_),(c,d,_),_) _=>Oe a b c d) (λ _ p=>AV.agg [AV.list 1 p.1,AV.list 3 p.2]) ([],[])
def Ou{T:Type}(b a:LA)(δ:T)(κ:LA×LA->T):T:=br ((J3 a).isSome) (κ (b,(J3 a).getD [])) δ
def D7(a b:LA):=Ou a b none some
def xKM:EO:=xKL.f Tryz.func20 9 0 [] [] lk0 (u1 (fO (u2 (uL 1) (uL 3)))) (λ((a,b,_),_) _=>Ou a b) (λ _ p=>AV.agg [AV.list 1 p.1,AV.list 3 p.2]) ([],[])
def QJ{T:Type}(a b:LA)(δ:T)(κ:Bool->T):T:=br (decide ((↑b.length:Int)<=16)) (br (decide ((↑a.length:Int)<=48)) (br ((Jx a b).isSome) (κ ((Jx a b).getD false)) δ) (κ (false))) (κ (false))
def B4(a b:LA):=QJ a b none some
def xKh:EO:=xKM.f Tryz.func21 17 0 [] [] lk0 (u1 (fO (u2 (uL 1) (uL 3)))) (λ((a,b,_),_) _=>QJ a b) (λ _ p=>AV.bool p) false
def Qj{T:Type}(a c b d:LA)(δ:T)(κ:Bool->T):T:=br ((B4 a c).isSome) (br ((B4 a c).getD false) (br ((B4 b d).isSome) (br ((B4 b d).getD false) (br ((Bu a b).isSome) (κ ((Bu a b).getD false)) δ) (κ (false))) δ) (κ (false))) δ
def JC(a b c d:LA):=Qj a b c d none some
def Vs:EO:=xKh.f Tryz.func10 18 0 [] [] lk0 (u2 (fO (u2 (uL 1) (uL 3))) (fO (u2 (uL 1) (uL 3)))) (λ((a,b,_),(c,d,_),_) _=>Qj a b c d) (λ _ p=>AV.bool p) false
end Go.Sim.M
